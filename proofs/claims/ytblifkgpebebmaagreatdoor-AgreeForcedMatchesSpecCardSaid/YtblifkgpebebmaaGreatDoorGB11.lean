/-
  Laws of walks through programs, and facts on grammars, trees and queries.
  Conditions: none.
-/
import Derived.Test.YtblifkgpebebmaaGreatDoorGB10
set_option maxHeartbeats 4000000
set_option maxRecDepth 20000
set_option linter.unusedVariables false
set_option linter.unusedSimpArgs false
namespace Go.Proofs.YtblifkgpebebmaaGreatDoor
open Go Go.J Tryz
theorem Il {n:Nat}{F:Fr}{c:Ctx}{H:List ak}{T:Act→World→Prop}{α:Type}(f:α→du)(xs:List α)(ds:List du)(a:ds=xs.map f)[hd:kY ds H](k:St n F (Mm c (aB (aF f xs)::H)) T):St n F (Mm c H) T:=
 St.ea (aF f xs) ds (λρ h x hx=>h _ (by rw[a];exact eQ hx)) k
theorem all_cons {α:Type}{p:α→Prop}{x:α}{l:List α}(h:p x)(k:∀y∈l,p y):∀y∈x::l,p y:=λy hy=>by
 rcases cK.1 hy with rfl|hy
 ·exact h
 ·exact k y hy
theorem all_nil {α:Type}{p:α→Prop}:∀y∈([]:List α),p y:=λy hy=>by cases hy
def sW:List jL:=[(bB (an (an (.mk [101] []) (.mk [116] [])) (.mk [116] [])) (bB (an (.mk [101] []) (.mk [116] [])) (aK (aY 1) (aY 0)))),(bB (an (an (.mk [101] []) (.mk [116] [])) (an (an (.mk [101] []) (.mk [116] [])) (.mk [116] []))) (bB (an (.mk [101] []) (.mk [116] [])) (aK (aY 1) (aY 0)))),(bB (an (.mk [101] []) (.mk [116] [])) (aY 0)),(bB (an (.mk [101] []) (an (.mk [101] []) (.mk [116] []))) (bB (an (an (.mk [101] []) (.mk [116] [])) (.mk [116] [])) (bB (.mk [101] []) (aK (aY 1) (bB (.mk [101] []) (aK (aK (aY 3) (aY 1)) (aY 0))))))),(bB (an (.mk [116] []) (.mk [116] [])) (bB (an (.mk [101] []) (.mk [116] [])) (bB (.mk [101] []) (aK (aY 2) (aK (aY 1) (aY 0)))))),(bB (an (an (.mk [101] []) (.mk [116] [])) (.mk [116] [])) (bB (an (.mk [116] []) (an (.mk [116] []) (.mk [116] []))) (bB (an (an (.mk [101] []) (.mk [116] [])) (.mk [116] [])) (bB (an (.mk [101] []) (.mk [116] [])) (aK (aK (aY 2) (aK (aY 3) (aY 0))) (aK (aY 1) (aY 0)))))))]
theorem Ag:dz prog 57 #[.bool false] ([].map aB) (λv H'=>H'=[aB (ly sW v)]):=by
 refine dz.body (args:=[.bool false]) 128 func57 rfl ntmps57 rfl (λc=> ?_);refine St.cast (H':=[]) rfl ?_;refine g7 ?_;refine St.ae (mD [101] (by decide)) KX (.ar rfl) rfl ?_;rintro v10 _ rfl;refine St.ao ?_;refine St.db (.mk [101] []) v10 (λg X=> ?_);obtain⟨Y,Z,ak2⟩:=X;subst Y;refine St.ae (mD [116] (by decide)) KX (.ar rfl) rfl ?_;rintro v11 _ rfl;refine St.ao ?_;refine St.db (.mk [116] []) v11 (λd SU=> ?_);obtain⟨Wm,ak7,ak8⟩:=SU;subst Wm;refine St.al (λb3=> ?_);refine St.al (λb4=> ?_);refine g8 ?_;refine St.ae (fF (aU g) (aU d) (.mk [101] []) (.mk [116] [])) qH (.aX rfl rfl) rfl ?_;rintro r _ rfl;refine St.ao ?_;refine St.db (an (.mk [101] []) (.mk [116] [])) r (λb s=> ?_);obtain⟨Wk,ak3,ak4⟩:=s;subst Wk;refine St.al (λb5=> ?_);refine g7 ?_;refine St.ae (fF (aU b) (aU d) (an (.mk [101] []) (.mk [116] [])) (.mk [116] [])) qH (.aX rfl rfl) rfl ?_;rintro v17 _ rfl;refine St.ao ?_;refine St.db (an (an (.mk [101] []) (.mk [116] [])) (.mk [116] [])) v17 (λf t=> ?_);obtain⟨w,an2,an3⟩:=t;subst w;refine St.al (λb6=> ?_);refine g7 ?_;refine St.ae (fF (aU g) (aU b) (.mk [101] []) (an (.mk [101] []) (.mk [116] []))) qH (.aX rfl rfl) rfl ?_;rintro v20 _ rfl;refine St.ao ?_;refine St.db (an (.mk [101] []) (an (.mk [101] []) (.mk [116] []))) v20 (λp hxr=> ?_);obtain⟨Wl,ak5,ak6⟩:=hxr;subst Wl;refine St.al (λb7=> ?_);refine g7 ?_;refine St.ae (fF (aU b) (aU f) (an (.mk [101] []) (.mk [116] [])) (an (an (.mk [101] []) (.mk [116] [])) (.mk [116] []))) qH (.aX rfl rfl) rfl ?_;rintro v23 _ rfl;refine St.ao ?_;refine St.db (an (an (.mk [101] []) (.mk [116] [])) (an (an (.mk [101] []) (.mk [116] [])) (.mk [116] []))) v23 (λq SR=> ?_);obtain⟨x,anZ,an0⟩:=SR;subst x;refine St.al (λb8=> ?_);refine g4 ?_;refine St.U1 67 24 [] (⟨24,[],λu=>cU u ((aU f))⟩::⟨25,[],λu=>cU u ((aU b))⟩::⟨26,[],λu=>isTerm (aY 1) u⟩::⟨27,[],λu=>isTerm (aY 0) u⟩::⟨28,[2,3],λu=>isTerm (aK (aY 1) (aY 0)) u⟩::⟨29,[1,4],λu=>isTerm (bB (an (.mk [101] []) (.mk [116] [])) (aK (aY 1) (aY 0))) u⟩::⟨30,[0,5],λu=>isTerm (bB (an (an (.mk [101] []) (.mk [116] [])) (.mk [116] [])) (bB (an (.mk [101] []) (.mk [116] [])) (aK (aY 1) (aY 0)))) u⟩::⟨31,[],λu=>cU u ((aU q))⟩::⟨32,[],λu=>cU u ((aU b))⟩::⟨33,[],λu=>isTerm (aY 1) u⟩::⟨34,[],λu=>isTerm (aY 0) u⟩::⟨35,[9,10],λu=>isTerm (aK (aY 1) (aY 0)) u⟩::⟨36,[8,11],λu=>isTerm (bB (an (.mk [101] []) (.mk [116] [])) (aK (aY 1) (aY 0))) u⟩::⟨37,[7,12],λu=>isTerm (bB (an (an (.mk [101] []) (.mk [116] [])) (an (an (.mk [101] []) (.mk [116] [])) (.mk [116] []))) (bB (an (.mk [101] []) (.mk [116] [])) (aK (aY 1) (aY 0)))) u⟩::⟨38,[],λu=>cU u ((aU b))⟩::⟨39,[],λu=>isTerm (aY 0) u⟩::⟨40,[14,15],λu=>isTerm (bB (an (.mk [101] []) (.mk [116] [])) (aY 0)) u⟩::⟨41,[],λu=>cU u ((aU p))⟩::⟨42,[],λu=>cU u ((aU f))⟩::⟨43,[],λu=>cU u ((aU g))⟩::⟨44,[],λu=>isTerm (aY 1) u⟩::⟨45,[],λu=>cU u ((aU g))⟩::⟨46,[],λu=>isTerm (aY 3) u⟩::⟨47,[],λu=>isTerm (aY 1) u⟩::⟨48,[22,23],λu=>isTerm (aK (aY 3) (aY 1)) u⟩::⟨49,[],λu=>isTerm (aY 0) u⟩::⟨50,[24,25],λu=>isTerm (aK (aK (aY 3) (aY 1)) (aY 0)) u⟩::⟨51,[21,26],λu=>isTerm (bB (.mk [101] []) (aK (aK (aY 3) (aY 1)) (aY 0))) u⟩::⟨52,[20,27],λu=>isTerm (aK (aY 1) (bB (.mk [101] []) (aK (aK (aY 3) (aY 1)) (aY 0)))) u⟩::⟨53,[19,28],λu=>isTerm (bB (.mk [101] []) (aK (aY 1) (bB (.mk [101] []) (aK (aK (aY 3) (aY 1)) (aY 0))))) u⟩::⟨54,[18,29],λu=>isTerm (bB (an (an (.mk [101] []) (.mk [116] [])) (.mk [116] [])) (bB (.mk [101] []) (aK (aY 1) (bB (.mk [101] []) (aK (aK (aY 3) (aY 1)) (aY 0)))))) u⟩::⟨55,[17,30],λu=>isTerm (bB (an (.mk [101] []) (an (.mk [101] []) (.mk [116] []))) (bB (an (an (.mk [101] []) (.mk [116] [])) (.mk [116] [])) (bB (.mk [101] []) (aK (aY 1) (bB (.mk [101] []) (aK (aK (aY 3) (aY 1)) (aY 0))))))) u⟩::⟨56,[],λu=>cU u ((aU d))⟩::⟨57,[],λu=>cU u ((aU d))⟩::⟨58,[32,33],λu=>db (an (.mk [116] []) (.mk [116] [])) u⟩::⟨59,[],λu=>cU u ((aU b))⟩::⟨60,[],λu=>cU u ((aU g))⟩::⟨61,[],λu=>isTerm (aY 2) u⟩::⟨62,[],λu=>isTerm (aY 1) u⟩::⟨63,[],λu=>isTerm (aY 0) u⟩::⟨64,[38,39],λu=>isTerm (aK (aY 1) (aY 0)) u⟩::⟨65,[37,40],λu=>isTerm (aK (aY 2) (aK (aY 1) (aY 0))) u⟩::⟨66,[36,41],λu=>isTerm (bB (.mk [101] []) (aK (aY 2) (aK (aY 1) (aY 0)))) u⟩::⟨67,[35,42],λu=>isTerm (bB (an (.mk [101] []) (.mk [116] [])) (bB (.mk [101] []) (aK (aY 2) (aK (aY 1) (aY 0))))) u⟩::⟨68,[34,43],λu=>isTerm (bB (an (.mk [116] []) (.mk [116] [])) (bB (an (.mk [101] []) (.mk [116] [])) (bB (.mk [101] []) (aK (aY 2) (aK (aY 1) (aY 0)))))) u⟩::⟨69,[],λu=>cU u ((aU f))⟩::⟨70,[],λu=>cU u ((aU d))⟩::⟨71,[],λu=>cU u ((aU d))⟩::⟨72,[],λu=>cU u ((aU d))⟩::⟨73,[47,48],λu=>db (an (.mk [116] []) (.mk [116] [])) u⟩::⟨74,[46,49],λu=>db (an (.mk [116] []) (an (.mk [116] []) (.mk [116] []))) u⟩::⟨75,[],λu=>cU u ((aU f))⟩::⟨76,[],λu=>cU u ((aU b))⟩::⟨77,[],λu=>isTerm (aY 2) u⟩::⟨78,[],λu=>isTerm (aY 3) u⟩::⟨79,[],λu=>isTerm (aY 0) u⟩::⟨80,[54,55],λu=>isTerm (aK (aY 3) (aY 0)) u⟩::⟨81,[53,56],λu=>isTerm (aK (aY 2) (aK (aY 3) (aY 0))) u⟩::⟨82,[],λu=>isTerm (aY 1) u⟩::⟨83,[],λu=>isTerm (aY 0) u⟩::⟨84,[58,59],λu=>isTerm (aK (aY 1) (aY 0)) u⟩::⟨85,[57,60],λu=>isTerm (aK (aK (aY 2) (aK (aY 3) (aY 0))) (aK (aY 1) (aY 0))) u⟩::⟨86,[52,61],λu=>isTerm (bB (an (.mk [101] []) (.mk [116] [])) (aK (aK (aY 2) (aK (aY 3) (aY 0))) (aK (aY 1) (aY 0)))) u⟩::⟨87,[51,62],λu=>isTerm (bB (an (an (.mk [101] []) (.mk [116] [])) (.mk [116] [])) (bB (an (.mk [101] []) (.mk [116] [])) (aK (aK (aY 2) (aK (aY 3) (aY 0))) (aK (aY 1) (aY 0))))) u⟩::⟨88,[50,63],λu=>isTerm (bB (an (.mk [116] []) (an (.mk [116] []) (.mk [116] []))) (bB (an (an (.mk [101] []) (.mk [116] [])) (.mk [116] [])) (bB (an (.mk [101] []) (.mk [116] [])) (aK (aK (aY 2) (aK (aY 3) (aY 0))) (aK (aY 1) (aY 0)))))) u⟩::⟨89,[45,64],λu=>isTerm (bB (an (an (.mk [101] []) (.mk [116] [])) (.mk [116] [])) (bB (an (.mk [116] []) (an (.mk [116] []) (.mk [116] []))) (bB (an (an (.mk [101] []) (.mk [116] [])) (.mk [116] [])) (bB (an (.mk [101] []) (.mk [116] [])) (aK (aK (aY 2) (aK (aY 3) (aY 0))) (aK (aY 1) (aY 0))))))) u⟩::⟨90,[6,13,16,31,44,65],λu=>ly sW u⟩::[]) ((24,[])::(25,[])::(26,[])::(27,[])::(28,[2,3])::(29,[1,4])::(30,[0,5])::(31,[])::(32,[])::(33,[])::(34,[])::(35,[9,10])::(36,[8,11])::(37,[7,12])::(38,[])::(39,[])::(40,[14,15])::(41,[])::(42,[])::(43,[])::(44,[])::(45,[])::(46,[])::(47,[])::(48,[22,23])::(49,[])::(50,[24,25])::(51,[21,26])::(52,[20,27])::(53,[19,28])::(54,[18,29])::(55,[17,30])::(56,[])::(57,[])::(58,[32,33])::(59,[])::(60,[])::(61,[])::(62,[])::(63,[])::(64,[38,39])::(65,[37,40])::(66,[36,41])::(67,[35,42])::(68,[34,43])::(69,[])::(70,[])::(71,[])::(72,[])::(73,[47,48])::(74,[46,49])::(75,[])::(76,[])::(77,[])::(78,[])::(79,[])::(80,[54,55])::(81,[53,56])::(82,[])::(83,[])::(84,[58,59])::(85,[57,60])::(86,[52,61])::(87,[51,62])::(88,[50,63])::(89,[45,64])::(90,[6,13,16,31,44,65])::[]) [66] rfl rfl mixed (by kernel_rfl) (by kernel_rfl) (by rfl) (λe=>[(90,e 66)]) (λe=>[aB (ly sW (e 66))]) (λ_=>rfl) (λ_=>rfl) ?_ (λe=> ?_)
 ·refine ab.c0 (λc e a=> ?_) ?_
  ·refine St.aK ?_
   refine go ?_;refine St.fact (cU ((aU f)) ((aU f))) (λ_ _ _=>rfl) ?_;exact St.bg _
  refine ab.c0 (λc e a=> ?_) ?_
  ·refine St.aK ?_
   refine go ?_;refine St.fact (cU ((aU b)) ((aU b))) (λ_ _ _=>rfl) ?_;exact St.bg _
  refine ab.c0 (λc e a=> ?_) ?_
  ·refine St.aK ?_
   refine St.ae (cg 1 (by unfold aa;decide)) mR (.ar rfl) rfl ?_;rintro v26 _ rfl;refine St.ao ?_;exact St.bg _
  refine ab.c0 (λc e a=> ?_) ?_
  ·refine St.aK ?_
   refine St.ae (cg 0 (by unfold aa;decide)) mR (.ar rfl) rfl ?_;rintro v27 _ rfl;refine St.ao ?_;exact St.bg _
  refine ab.cc (λe=>[(26,e 2),(27,e 3)]) (λe=>[aB (isTerm (aY 1) (e 2)),aB (isTerm (aY 0) (e 3))]) (λc e a=> ?_) ?_
  ·refine St.dQ ?_
   refine St.ae (eh (e 2) (e 3) (aY 1) (aY 0)) ow (.aX rfl rfl) rfl ?_;rintro v28 _ rfl;refine St.ao ?_;exact St.bg _
  refine ab.cc (λe=>[(25,e 1),(28,e 4)]) (λe=>[aB (cU (e 1) ((aU b))),aB (isTerm (aK (aY 1) (aY 0)) (e 4))]) (λc e a=> ?_) ?_
  ·refine St.dQ ?_
   refine St.bX (P:=prog) 25 (e 1) ((aU b)) rfl ?_;refine St.ae (eA (aU b) (e 4) (an (.mk [101] []) (.mk [116] [])) (aK (aY 1) (aY 0))) mQ (.aX rfl rfl) rfl ?_;rintro v29 _ rfl;refine St.ao ?_;exact St.bg _
  refine ab.cc (λe=>[(24,e 0),(29,e 5)]) (λe=>[aB (cU (e 0) ((aU f))),aB (isTerm (bB (an (.mk [101] []) (.mk [116] [])) (aK (aY 1) (aY 0))) (e 5))]) (λc e a=> ?_) ?_
  ·refine St.dQ ?_
   refine St.bX (P:=prog) 24 (e 0) ((aU f)) rfl ?_;refine St.ae (eA (aU f) (e 5) (an (an (.mk [101] []) (.mk [116] [])) (.mk [116] [])) (bB (an (.mk [101] []) (.mk [116] [])) (aK (aY 1) (aY 0)))) mQ (.aX rfl rfl) rfl ?_;rintro v30 _ rfl;refine St.ao ?_;exact St.bg _
  refine ab.c0 (λc e a=> ?_) ?_
  ·refine St.aK ?_
   refine go ?_;refine St.fact (cU ((aU q)) ((aU q))) (λ_ _ _=>rfl) ?_;exact St.bg _
  refine ab.c0 (λc e a=> ?_) ?_
  ·refine St.aK ?_
   refine go ?_;refine St.fact (cU ((aU b)) ((aU b))) (λ_ _ _=>rfl) ?_;exact St.bg _
  refine ab.c0 (λc e a=> ?_) ?_
  ·refine St.aK ?_
   refine St.ae (cg 1 (by unfold aa;decide)) mR (.ar rfl) rfl ?_;rintro v33 _ rfl;refine St.ao ?_;exact St.bg _
  refine ab.c0 (λc e a=> ?_) ?_
  ·refine St.aK ?_
   refine St.ae (cg 0 (by unfold aa;decide)) mR (.ar rfl) rfl ?_;rintro v34 _ rfl;refine St.ao ?_;exact St.bg _
  refine ab.cc (λe=>[(33,e 9),(34,e 10)]) (λe=>[aB (isTerm (aY 1) (e 9)),aB (isTerm (aY 0) (e 10))]) (λc e a=> ?_) ?_
  ·refine St.dQ ?_
   refine St.ae (eh (e 9) (e 10) (aY 1) (aY 0)) ow (.aX rfl rfl) rfl ?_;rintro v35 _ rfl;refine St.ao ?_;exact St.bg _
  refine ab.cc (λe=>[(32,e 8),(35,e 11)]) (λe=>[aB (cU (e 8) ((aU b))),aB (isTerm (aK (aY 1) (aY 0)) (e 11))]) (λc e a=> ?_) ?_
  ·refine St.dQ ?_
   refine St.bX (P:=prog) 32 (e 8) ((aU b)) rfl ?_;refine St.ae (eA (aU b) (e 11) (an (.mk [101] []) (.mk [116] [])) (aK (aY 1) (aY 0))) mQ (.aX rfl rfl) rfl ?_;rintro v36 _ rfl;refine St.ao ?_;exact St.bg _
  refine ab.cc (λe=>[(31,e 7),(36,e 12)]) (λe=>[aB (cU (e 7) ((aU q))),aB (isTerm (bB (an (.mk [101] []) (.mk [116] [])) (aK (aY 1) (aY 0))) (e 12))]) (λc e a=> ?_) ?_
  ·refine St.dQ ?_
   refine St.bX (P:=prog) 31 (e 7) ((aU q)) rfl ?_;refine St.ae (eA (aU q) (e 12) (an (an (.mk [101] []) (.mk [116] [])) (an (an (.mk [101] []) (.mk [116] [])) (.mk [116] []))) (bB (an (.mk [101] []) (.mk [116] [])) (aK (aY 1) (aY 0)))) mQ (.aX rfl rfl) rfl ?_;rintro v37 _ rfl;refine St.ao ?_;exact St.bg _
  refine ab.c0 (λc e a=> ?_) ?_
  ·refine St.aK ?_
   refine go ?_;refine St.fact (cU ((aU b)) ((aU b))) (λ_ _ _=>rfl) ?_;exact St.bg _
  refine ab.c0 (λc e a=> ?_) ?_
  ·refine St.aK ?_
   refine St.ae (cg 0 (by unfold aa;decide)) mR (.ar rfl) rfl ?_;rintro v39 _ rfl;refine St.ao ?_;exact St.bg _
  refine ab.cc (λe=>[(38,e 14),(39,e 15)]) (λe=>[aB (cU (e 14) ((aU b))),aB (isTerm (aY 0) (e 15))]) (λc e a=> ?_) ?_
  ·refine St.dQ ?_
   refine St.bX (P:=prog) 38 (e 14) ((aU b)) rfl ?_;refine St.ae (eA (aU b) (e 15) (an (.mk [101] []) (.mk [116] [])) (aY 0)) mQ (.aX rfl rfl) rfl ?_;rintro v40 _ rfl;refine St.ao ?_;exact St.bg _
  refine ab.c0 (λc e a=> ?_) ?_
  ·refine St.aK ?_
   refine go ?_;refine St.fact (cU ((aU p)) ((aU p))) (λ_ _ _=>rfl) ?_;exact St.bg _
  refine ab.c0 (λc e a=> ?_) ?_
  ·refine St.aK ?_
   refine go ?_;refine St.fact (cU ((aU f)) ((aU f))) (λ_ _ _=>rfl) ?_;exact St.bg _
  refine ab.c0 (λc e a=> ?_) ?_
  ·refine St.aK ?_
   refine go ?_;refine St.fact (cU ((aU g)) ((aU g))) (λ_ _ _=>rfl) ?_;exact St.bg _
  refine ab.c0 (λc e a=> ?_) ?_
  ·refine St.aK ?_
   refine St.ae (cg 1 (by unfold aa;decide)) mR (.ar rfl) rfl ?_;rintro v44 _ rfl;refine St.ao ?_;exact St.bg _
  refine ab.c0 (λc e a=> ?_) ?_
  ·refine St.aK ?_
   refine go ?_;refine St.fact (cU ((aU g)) ((aU g))) (λ_ _ _=>rfl) ?_;exact St.bg _
  refine ab.c0 (λc e a=> ?_) ?_
  ·refine St.aK ?_
   refine St.ae (cg 3 (by unfold aa;decide)) mR (.ar rfl) rfl ?_;rintro v46 _ rfl;refine St.ao ?_;exact St.bg _
  refine ab.c0 (λc e a=> ?_) ?_
  ·refine St.aK ?_
   refine St.ae (cg 1 (by unfold aa;decide)) mR (.ar rfl) rfl ?_;rintro v47 _ rfl;refine St.ao ?_;exact St.bg _
  refine ab.cc (λe=>[(46,e 22),(47,e 23)]) (λe=>[aB (isTerm (aY 3) (e 22)),aB (isTerm (aY 1) (e 23))]) (λc e a=> ?_) ?_
  ·refine St.dQ ?_
   refine St.ae (eh (e 22) (e 23) (aY 3) (aY 1)) ow (.aX rfl rfl) rfl ?_;rintro v48 _ rfl;refine St.ao ?_;exact St.bg _
  refine ab.c0 (λc e a=> ?_) ?_
  ·refine St.aK ?_
   refine St.ae (cg 0 (by unfold aa;decide)) mR (.ar rfl) rfl ?_;rintro v49 _ rfl;refine St.ao ?_;exact St.bg _
  refine ab.cc (λe=>[(48,e 24),(49,e 25)]) (λe=>[aB (isTerm (aK (aY 3) (aY 1)) (e 24)),aB (isTerm (aY 0) (e 25))]) (λc e a=> ?_) ?_
  ·refine St.dQ ?_
   refine St.ae (eh (e 24) (e 25) (aK (aY 3) (aY 1)) (aY 0)) ow (.aX rfl rfl) rfl ?_;rintro v50 _ rfl;refine St.ao ?_;exact St.bg _
  refine ab.cc (λe=>[(45,e 21),(50,e 26)]) (λe=>[aB (cU (e 21) ((aU g))),aB (isTerm (aK (aK (aY 3) (aY 1)) (aY 0)) (e 26))]) (λc e a=> ?_) ?_
  ·refine St.dQ ?_
   refine St.bX (P:=prog) 45 (e 21) ((aU g)) rfl ?_;refine St.ae (eA (aU g) (e 26) (.mk [101] []) (aK (aK (aY 3) (aY 1)) (aY 0))) mQ (.aX rfl rfl) rfl ?_;rintro v51 _ rfl;refine St.ao ?_;exact St.bg _
  refine ab.cc (λe=>[(44,e 20),(51,e 27)]) (λe=>[aB (isTerm (aY 1) (e 20)),aB (isTerm (bB (.mk [101] []) (aK (aK (aY 3) (aY 1)) (aY 0))) (e 27))]) (λc e a=> ?_) ?_
  ·refine St.dQ ?_
   refine St.ae (eh (e 20) (e 27) (aY 1) (bB (.mk [101] []) (aK (aK (aY 3) (aY 1)) (aY 0)))) ow (.aX rfl rfl) rfl ?_;rintro v52 _ rfl;refine St.ao ?_;exact St.bg _
  refine ab.cc (λe=>[(43,e 19),(52,e 28)]) (λe=>[aB (cU (e 19) ((aU g))),aB (isTerm (aK (aY 1) (bB (.mk [101] []) (aK (aK (aY 3) (aY 1)) (aY 0)))) (e 28))]) (λc e a=> ?_) ?_
  ·refine St.dQ ?_
   refine St.bX (P:=prog) 43 (e 19) ((aU g)) rfl ?_;refine St.ae (eA (aU g) (e 28) (.mk [101] []) (aK (aY 1) (bB (.mk [101] []) (aK (aK (aY 3) (aY 1)) (aY 0))))) mQ (.aX rfl rfl) rfl ?_;rintro v53 _ rfl;refine St.ao ?_;exact St.bg _
  refine ab.cc (λe=>[(42,e 18),(53,e 29)]) (λe=>[aB (cU (e 18) ((aU f))),aB (isTerm (bB (.mk [101] []) (aK (aY 1) (bB (.mk [101] []) (aK (aK (aY 3) (aY 1)) (aY 0))))) (e 29))]) (λc e a=> ?_) ?_
  ·refine St.dQ ?_
   refine St.bX (P:=prog) 42 (e 18) ((aU f)) rfl ?_;refine St.ae (eA (aU f) (e 29) (an (an (.mk [101] []) (.mk [116] [])) (.mk [116] [])) (bB (.mk [101] []) (aK (aY 1) (bB (.mk [101] []) (aK (aK (aY 3) (aY 1)) (aY 0)))))) mQ (.aX rfl rfl) rfl ?_;rintro v54 _ rfl;refine St.ao ?_;exact St.bg _
  refine ab.cc (λe=>[(41,e 17),(54,e 30)]) (λe=>[aB (cU (e 17) ((aU p))),aB (isTerm (bB (an (an (.mk [101] []) (.mk [116] [])) (.mk [116] [])) (bB (.mk [101] []) (aK (aY 1) (bB (.mk [101] []) (aK (aK (aY 3) (aY 1)) (aY 0)))))) (e 30))]) (λc e a=> ?_) ?_
  ·refine St.dQ ?_
   refine St.bX (P:=prog) 41 (e 17) ((aU p)) rfl ?_;refine St.ae (eA (aU p) (e 30) (an (.mk [101] []) (an (.mk [101] []) (.mk [116] []))) (bB (an (an (.mk [101] []) (.mk [116] [])) (.mk [116] [])) (bB (.mk [101] []) (aK (aY 1) (bB (.mk [101] []) (aK (aK (aY 3) (aY 1)) (aY 0))))))) mQ (.aX rfl rfl) rfl ?_;rintro v55 _ rfl;refine St.ao ?_;exact St.bg _
  refine ab.c0 (λc e a=> ?_) ?_
  ·refine St.aK ?_
   refine go ?_;refine St.fact (cU ((aU d)) ((aU d))) (λ_ _ _=>rfl) ?_;exact St.bg _
  refine ab.c0 (λc e a=> ?_) ?_
  ·refine St.aK ?_
   refine go ?_;refine St.fact (cU ((aU d)) ((aU d))) (λ_ _ _=>rfl) ?_;exact St.bg _
  refine ab.cc (λe=>[(56,e 32),(57,e 33)]) (λe=>[aB (cU (e 32) ((aU d))),aB (cU (e 33) ((aU d)))]) (λc e a=> ?_) ?_
  ·refine St.dQ ?_
   refine St.bX (P:=prog) 56 (e 32) ((aU d)) rfl ?_;refine St.bX (P:=prog) 57 (e 33) ((aU d)) rfl ?_;refine St.ae (fF (aU d) (aU d) (.mk [116] []) (.mk [116] [])) qH (.aX rfl rfl) rfl ?_;rintro v58 _ rfl;refine St.ao ?_;exact St.bg _
  refine ab.c0 (λc e a=> ?_) ?_
  ·refine St.aK ?_
   refine go ?_;refine St.fact (cU ((aU b)) ((aU b))) (λ_ _ _=>rfl) ?_;exact St.bg _
  refine ab.c0 (λc e a=> ?_) ?_
  ·refine St.aK ?_
   refine go ?_;refine St.fact (cU ((aU g)) ((aU g))) (λ_ _ _=>rfl) ?_;exact St.bg _
  refine ab.c0 (λc e a=> ?_) ?_
  ·refine St.aK ?_
   refine St.ae (cg 2 (by unfold aa;decide)) mR (.ar rfl) rfl ?_;rintro v61 _ rfl;refine St.ao ?_;exact St.bg _
  refine ab.c0 (λc e a=> ?_) ?_
  ·refine St.aK ?_
   refine St.ae (cg 1 (by unfold aa;decide)) mR (.ar rfl) rfl ?_;rintro v62 _ rfl;refine St.ao ?_;exact St.bg _
  refine ab.c0 (λc e a=> ?_) ?_
  ·refine St.aK ?_
   refine St.ae (cg 0 (by unfold aa;decide)) mR (.ar rfl) rfl ?_;rintro v63 _ rfl;refine St.ao ?_;exact St.bg _
  refine ab.cc (λe=>[(62,e 38),(63,e 39)]) (λe=>[aB (isTerm (aY 1) (e 38)),aB (isTerm (aY 0) (e 39))]) (λc e a=> ?_) ?_
  ·refine St.dQ ?_
   refine St.ae (eh (e 38) (e 39) (aY 1) (aY 0)) ow (.aX rfl rfl) rfl ?_;rintro v64 _ rfl;refine St.ao ?_;exact St.bg _
  refine ab.cc (λe=>[(61,e 37),(64,e 40)]) (λe=>[aB (isTerm (aY 2) (e 37)),aB (isTerm (aK (aY 1) (aY 0)) (e 40))]) (λc e a=> ?_) ?_
  ·refine St.dQ ?_
   refine St.ae (eh (e 37) (e 40) (aY 2) (aK (aY 1) (aY 0))) ow (.aX rfl rfl) rfl ?_;rintro v65 _ rfl;refine St.ao ?_;exact St.bg _
  refine ab.cc (λe=>[(60,e 36),(65,e 41)]) (λe=>[aB (cU (e 36) ((aU g))),aB (isTerm (aK (aY 2) (aK (aY 1) (aY 0))) (e 41))]) (λc e a=> ?_) ?_
  ·refine St.dQ ?_
   refine St.bX (P:=prog) 60 (e 36) ((aU g)) rfl ?_;refine St.ae (eA (aU g) (e 41) (.mk [101] []) (aK (aY 2) (aK (aY 1) (aY 0)))) mQ (.aX rfl rfl) rfl ?_;rintro v66 _ rfl;refine St.ao ?_;exact St.bg _
  refine ab.cc (λe=>[(59,e 35),(66,e 42)]) (λe=>[aB (cU (e 35) ((aU b))),aB (isTerm (bB (.mk [101] []) (aK (aY 2) (aK (aY 1) (aY 0)))) (e 42))]) (λc e a=> ?_) ?_
  ·refine St.dQ ?_
   refine St.bX (P:=prog) 59 (e 35) ((aU b)) rfl ?_;refine St.ae (eA (aU b) (e 42) (an (.mk [101] []) (.mk [116] [])) (bB (.mk [101] []) (aK (aY 2) (aK (aY 1) (aY 0))))) mQ (.aX rfl rfl) rfl ?_;rintro v67 _ rfl;refine St.ao ?_;exact St.bg _
  refine ab.cc (λe=>[(58,e 34),(67,e 43)]) (λe=>[aB (db (an (.mk [116] []) (.mk [116] [])) (e 34)),aB (isTerm (bB (an (.mk [101] []) (.mk [116] [])) (bB (.mk [101] []) (aK (aY 2) (aK (aY 1) (aY 0))))) (e 43))]) (λc e a=> ?_) ?_
  ·refine St.dQ ?_
   refine St.ae (eA (e 34) (e 43) (an (.mk [116] []) (.mk [116] [])) (bB (an (.mk [101] []) (.mk [116] [])) (bB (.mk [101] []) (aK (aY 2) (aK (aY 1) (aY 0)))))) mQ (.aX rfl rfl) rfl ?_;rintro v68 _ rfl;refine St.ao ?_;exact St.bg _
  refine ab.c0 (λc e a=> ?_) ?_
  ·refine St.aK ?_
   refine go ?_;refine St.fact (cU ((aU f)) ((aU f))) (λ_ _ _=>rfl) ?_;exact St.bg _
  refine ab.c0 (λc e a=> ?_) ?_
  ·refine St.aK ?_
   refine go ?_;refine St.fact (cU ((aU d)) ((aU d))) (λ_ _ _=>rfl) ?_;exact St.bg _
  refine ab.c0 (λc e a=> ?_) ?_
  ·refine St.aK ?_
   refine go ?_;refine St.fact (cU ((aU d)) ((aU d))) (λ_ _ _=>rfl) ?_;exact St.bg _
  refine ab.c0 (λc e a=> ?_) ?_
  ·refine St.aK ?_
   refine go ?_;refine St.fact (cU ((aU d)) ((aU d))) (λ_ _ _=>rfl) ?_;exact St.bg _
  refine ab.cc (λe=>[(71,e 47),(72,e 48)]) (λe=>[aB (cU (e 47) ((aU d))),aB (cU (e 48) ((aU d)))]) (λc e a=> ?_) ?_
  ·refine St.dQ ?_
   refine St.bX (P:=prog) 71 (e 47) ((aU d)) rfl ?_;refine St.bX (P:=prog) 72 (e 48) ((aU d)) rfl ?_;refine St.ae (fF (aU d) (aU d) (.mk [116] []) (.mk [116] [])) qH (.aX rfl rfl) rfl ?_;rintro v73 _ rfl;refine St.ao ?_;exact St.bg _
  refine ab.cc (λe=>[(70,e 46),(73,e 49)]) (λe=>[aB (cU (e 46) ((aU d))),aB (db (an (.mk [116] []) (.mk [116] [])) (e 49))]) (λc e a=> ?_) ?_
  ·refine St.dQ ?_
   refine St.bX (P:=prog) 70 (e 46) ((aU d)) rfl ?_;refine St.ae (fF (aU d) (e 49) (.mk [116] []) (an (.mk [116] []) (.mk [116] []))) qH (.aX rfl rfl) rfl ?_;rintro v74 _ rfl;refine St.ao ?_;exact St.bg _
  refine ab.c0 (λc e a=> ?_) ?_
  ·refine St.aK ?_
   refine go ?_;refine St.fact (cU ((aU f)) ((aU f))) (λ_ _ _=>rfl) ?_;exact St.bg _
  refine ab.c0 (λc e a=> ?_) ?_
  ·refine St.aK ?_
   refine go ?_;refine St.fact (cU ((aU b)) ((aU b))) (λ_ _ _=>rfl) ?_;exact St.bg _
  refine ab.c0 (λc e a=> ?_) ?_
  ·refine St.aK ?_
   refine St.ae (cg 2 (by unfold aa;decide)) mR (.ar rfl) rfl ?_;rintro v77 _ rfl;refine St.ao ?_;exact St.bg _
  refine ab.c0 (λc e a=> ?_) ?_
  ·refine St.aK ?_
   refine St.ae (cg 3 (by unfold aa;decide)) mR (.ar rfl) rfl ?_;rintro v78 _ rfl;refine St.ao ?_;exact St.bg _
  refine ab.c0 (λc e a=> ?_) ?_
  ·refine St.aK ?_
   refine St.ae (cg 0 (by unfold aa;decide)) mR (.ar rfl) rfl ?_;rintro v79 _ rfl;refine St.ao ?_;exact St.bg _
  refine ab.cc (λe=>[(78,e 54),(79,e 55)]) (λe=>[aB (isTerm (aY 3) (e 54)),aB (isTerm (aY 0) (e 55))]) (λc e a=> ?_) ?_
  ·refine St.dQ ?_
   refine St.ae (eh (e 54) (e 55) (aY 3) (aY 0)) ow (.aX rfl rfl) rfl ?_;rintro v80 _ rfl;refine St.ao ?_;exact St.bg _
  refine ab.cc (λe=>[(77,e 53),(80,e 56)]) (λe=>[aB (isTerm (aY 2) (e 53)),aB (isTerm (aK (aY 3) (aY 0)) (e 56))]) (λc e a=> ?_) ?_
  ·refine St.dQ ?_
   refine St.ae (eh (e 53) (e 56) (aY 2) (aK (aY 3) (aY 0))) ow (.aX rfl rfl) rfl ?_;rintro v81 _ rfl;refine St.ao ?_;exact St.bg _
  refine ab.c0 (λc e a=> ?_) ?_
  ·refine St.aK ?_
   refine St.ae (cg 1 (by unfold aa;decide)) mR (.ar rfl) rfl ?_;rintro v82 _ rfl;refine St.ao ?_;exact St.bg _
  refine ab.c0 (λc e a=> ?_) ?_
  ·refine St.aK ?_
   refine St.ae (cg 0 (by unfold aa;decide)) mR (.ar rfl) rfl ?_;rintro v83 _ rfl;refine St.ao ?_;exact St.bg _
  refine ab.cc (λe=>[(82,e 58),(83,e 59)]) (λe=>[aB (isTerm (aY 1) (e 58)),aB (isTerm (aY 0) (e 59))]) (λc e a=> ?_) ?_
  ·refine St.dQ ?_
   refine St.ae (eh (e 58) (e 59) (aY 1) (aY 0)) ow (.aX rfl rfl) rfl ?_;rintro v84 _ rfl;refine St.ao ?_;exact St.bg _
  refine ab.cc (λe=>[(81,e 57),(84,e 60)]) (λe=>[aB (isTerm (aK (aY 2) (aK (aY 3) (aY 0))) (e 57)),aB (isTerm (aK (aY 1) (aY 0)) (e 60))]) (λc e a=> ?_) ?_
  ·refine St.dQ ?_
   refine St.ae (eh (e 57) (e 60) (aK (aY 2) (aK (aY 3) (aY 0))) (aK (aY 1) (aY 0))) ow (.aX rfl rfl) rfl ?_;rintro v85 _ rfl;refine St.ao ?_;exact St.bg _
  refine ab.cc (λe=>[(76,e 52),(85,e 61)]) (λe=>[aB (cU (e 52) ((aU b))),aB (isTerm (aK (aK (aY 2) (aK (aY 3) (aY 0))) (aK (aY 1) (aY 0))) (e 61))]) (λc e a=> ?_) ?_
  ·refine St.dQ ?_
   refine St.bX (P:=prog) 76 (e 52) ((aU b)) rfl ?_;refine St.ae (eA (aU b) (e 61) (an (.mk [101] []) (.mk [116] [])) (aK (aK (aY 2) (aK (aY 3) (aY 0))) (aK (aY 1) (aY 0)))) mQ (.aX rfl rfl) rfl ?_;rintro v86 _ rfl;refine St.ao ?_;exact St.bg _
  refine ab.cc (λe=>[(75,e 51),(86,e 62)]) (λe=>[aB (cU (e 51) ((aU f))),aB (isTerm (bB (an (.mk [101] []) (.mk [116] [])) (aK (aK (aY 2) (aK (aY 3) (aY 0))) (aK (aY 1) (aY 0)))) (e 62))]) (λc e a=> ?_) ?_
  ·refine St.dQ ?_
   refine St.bX (P:=prog) 75 (e 51) ((aU f)) rfl ?_;refine St.ae (eA (aU f) (e 62) (an (an (.mk [101] []) (.mk [116] [])) (.mk [116] [])) (bB (an (.mk [101] []) (.mk [116] [])) (aK (aK (aY 2) (aK (aY 3) (aY 0))) (aK (aY 1) (aY 0))))) mQ (.aX rfl rfl) rfl ?_;rintro v87 _ rfl;refine St.ao ?_;exact St.bg _
  refine ab.cc (λe=>[(74,e 50),(87,e 63)]) (λe=>[aB (db (an (.mk [116] []) (an (.mk [116] []) (.mk [116] []))) (e 50)),aB (isTerm (bB (an (an (.mk [101] []) (.mk [116] [])) (.mk [116] [])) (bB (an (.mk [101] []) (.mk [116] [])) (aK (aK (aY 2) (aK (aY 3) (aY 0))) (aK (aY 1) (aY 0))))) (e 63))]) (λc e a=> ?_) ?_
  ·refine St.dQ ?_
   refine St.ae (eA (e 50) (e 63) (an (.mk [116] []) (an (.mk [116] []) (.mk [116] []))) (bB (an (an (.mk [101] []) (.mk [116] [])) (.mk [116] [])) (bB (an (.mk [101] []) (.mk [116] [])) (aK (aK (aY 2) (aK (aY 3) (aY 0))) (aK (aY 1) (aY 0)))))) mQ (.aX rfl rfl) rfl ?_;rintro v88 _ rfl;refine St.ao ?_;exact St.bg _
  refine ab.cc (λe=>[(69,e 45),(88,e 64)]) (λe=>[aB (cU (e 45) ((aU f))),aB (isTerm (bB (an (.mk [116] []) (an (.mk [116] []) (.mk [116] []))) (bB (an (an (.mk [101] []) (.mk [116] [])) (.mk [116] [])) (bB (an (.mk [101] []) (.mk [116] [])) (aK (aK (aY 2) (aK (aY 3) (aY 0))) (aK (aY 1) (aY 0)))))) (e 64))]) (λc e a=> ?_) ?_
  ·refine St.dQ ?_
   refine St.bX (P:=prog) 69 (e 45) ((aU f)) rfl ?_;refine St.ae (eA (aU f) (e 64) (an (an (.mk [101] []) (.mk [116] [])) (.mk [116] [])) (bB (an (.mk [116] []) (an (.mk [116] []) (.mk [116] []))) (bB (an (an (.mk [101] []) (.mk [116] [])) (.mk [116] [])) (bB (an (.mk [101] []) (.mk [116] [])) (aK (aK (aY 2) (aK (aY 3) (aY 0))) (aK (aY 1) (aY 0))))))) mQ (.aX rfl rfl) rfl ?_;rintro v89 _ rfl;refine St.ao ?_;exact St.bg _
  refine ab.cc (λe=>[(30,e 6),(37,e 13),(40,e 16),(55,e 31),(68,e 44),(89,e 65)]) (λe=>[aB (isTerm (bB (an (an (.mk [101] []) (.mk [116] [])) (.mk [116] [])) (bB (an (.mk [101] []) (.mk [116] [])) (aK (aY 1) (aY 0)))) (e 6)),aB (isTerm (bB (an (an (.mk [101] []) (.mk [116] [])) (an (an (.mk [101] []) (.mk [116] [])) (.mk [116] []))) (bB (an (.mk [101] []) (.mk [116] [])) (aK (aY 1) (aY 0)))) (e 13)),aB (isTerm (bB (an (.mk [101] []) (.mk [116] [])) (aY 0)) (e 16)),aB (isTerm (bB (an (.mk [101] []) (an (.mk [101] []) (.mk [116] []))) (bB (an (an (.mk [101] []) (.mk [116] [])) (.mk [116] [])) (bB (.mk [101] []) (aK (aY 1) (bB (.mk [101] []) (aK (aK (aY 3) (aY 1)) (aY 0))))))) (e 31)),aB (isTerm (bB (an (.mk [116] []) (.mk [116] [])) (bB (an (.mk [101] []) (.mk [116] [])) (bB (.mk [101] []) (aK (aY 2) (aK (aY 1) (aY 0)))))) (e 44)),aB (isTerm (bB (an (an (.mk [101] []) (.mk [116] [])) (.mk [116] [])) (bB (an (.mk [116] []) (an (.mk [116] []) (.mk [116] []))) (bB (an (an (.mk [101] []) (.mk [116] [])) (.mk [116] [])) (bB (an (.mk [101] []) (.mk [116] [])) (aK (aK (aY 2) (aK (aY 3) (aY 0))) (aK (aY 1) (aY 0))))))) (e 65))]) (λc e a=> ?_) ?_
  ·refine St.Qs ?_
   refine St.isTerm (bB (an (an (.mk [101] []) (.mk [116] [])) (.mk [116] [])) (bB (an (.mk [101] []) (.mk [116] [])) (aK (aY 1) (aY 0)))) (e 6) (λi y=> ?_);obtain⟨z,A,B⟩:=y;rw[z];refine St.isTerm (bB (an (an (.mk [101] []) (.mk [116] [])) (an (an (.mk [101] []) (.mk [116] [])) (.mk [116] []))) (bB (an (.mk [101] []) (.mk [116] [])) (aK (aY 1) (aY 0)))) (e 13) (λj C=> ?_);obtain⟨D,E,F⟩:=C;rw[D];refine St.isTerm (bB (an (.mk [101] []) (.mk [116] [])) (aY 0)) (e 16) (λk G=> ?_);obtain⟨H,I,J⟩:=G;rw[H];refine St.isTerm (bB (an (.mk [101] []) (an (.mk [101] []) (.mk [116] []))) (bB (an (an (.mk [101] []) (.mk [116] [])) (.mk [116] [])) (bB (.mk [101] []) (aK (aY 1) (bB (.mk [101] []) (aK (aK (aY 3) (aY 1)) (aY 0))))))) (e 31) (λl K=> ?_);obtain⟨L,M,N⟩:=K;rw[L];refine St.isTerm (bB (an (.mk [116] []) (.mk [116] [])) (bB (an (.mk [101] []) (.mk [116] [])) (bB (.mk [101] []) (aK (aY 2) (aK (aY 1) (aY 0)))))) (e 44) (λm O=> ?_);obtain⟨Q,R,S⟩:=O;rw[Q];refine St.isTerm (bB (an (an (.mk [101] []) (.mk [116] [])) (.mk [116] [])) (bB (an (.mk [116] []) (an (.mk [116] []) (.mk [116] []))) (bB (an (an (.mk [101] []) (.mk [116] [])) (.mk [116] [])) (bB (an (.mk [101] []) (.mk [116] [])) (aK (aK (aY 2) (aK (aY 3) (aY 0))) (aK (aY 1) (aY 0))))))) (e 65) (λn T=> ?_);obtain⟨U,V,W⟩:=T;rw[U];refine St.gV rfl (.XN rfl rfl rfl rfl rfl rfl) iE fg QK rfl rfl (by simp[Value.cells]) rfl rfl (λo=> ?_);refine St.bS (.slice (some ⟨o,0,none⟩) 6 6) dI [i,j,k,l,m,n] rfl rfl (all_cons B (all_cons F (all_cons J (all_cons N (all_cons S (all_cons W (all_nil))))))) ?_;refine Il cm [i,j,k,l,m,n] [cm i,cm j,cm k,cm l,cm m,cm n] rfl ?_;refine St.ea (ly sW (.slice (some ⟨o,0,none⟩) 6 6)) [sl dI (.slice (some ⟨o,0,none⟩) 6 6) [i,j,k,l,m,n],aF cm [i,j,k,l,m,n]] (λρ h=>⟨rfl,[i,j,k,l,m,n],by simp only[List.map_cons,List.map_nil,A,E,I,M,R,V];rfl,h (sl dI (.slice (some ⟨o,0,none⟩) 6 6) [i,j,k,l,m,n]) (by simp),h (aF cm [i,j,k,l,m,n]) (by simp)⟩) ?_;exact St.bg _
  exact ab.nil
 refine St.ao ?_;refine g9 ?_;refine St.rm _ rfl rfl ?_;refine g9 ?_;refine St.rV [_] [aB (ly sW (e 66))] ?_;rfl
end Go.Proofs.YtblifkgpebebmaaGreatDoor
namespace Go.J
open Go
section
variable {p:List Int}
theorem Mz {a b:Nat}(c:a≤p.length)(d:b≤p.length)(h:p.drop a=p.drop b):a=b:=by
 have:=congrArg List.length h
 simp only[List.length_drop]at this
 omega
abbrev Sx (p:List Int)(l:List Nat):Prop:=l.Pairwise (λa b=>pR (p.drop a) (p.drop b)=true)
structure M3 (p:List Int)(i:Nat)(A B:List Nat):Prop where
 perm:(A++B).Perm (List.range i)
 srt:Sx p (A++B)
 less:∀b∈B,pR (p.drop i) (p.drop b)=true
theorem M3.step {i a:Nat}{A B:List Nat}(h:M3 p i (A++ [a]) B)(d:pR (p.drop i) (p.drop a)=true):M3 p i A (a::B):=
 ⟨by simpa using h.perm,by simpa using h.srt,λb c=>by rcases cK.1 c with rfl|c;exact d;exact h.less b c⟩
theorem M3.done {i:Nat}{A B:List Nat}(h:M3 p i A B)(j:i<p.length)(c:A=[]∨∃A' a,A=A'++ [a]∧pR (p.drop i) (p.drop a)=false):(A++i::B).Perm (List.range (i+1))∧Sx p (A++i::B):=by
 have d:∀x∈A++B,x<i:=λx hx=>dt.1 (h.perm.mem_iff.1 hx)
 constructor
 ·rw[ua]
  exact qi.trans ((h.perm.cons i).trans (List.perm_append_singleton i _).symm)
 ·have b:=sD.1 h.srt
  have e:∀x∈A,pR (p.drop x) (p.drop i)=true:=by
   rcases c with rfl|⟨A',a,rfl,f⟩
   ·intro x hx;cases hx
   ·have last:pR (p.drop a) (p.drop i)=true:=by
     have g:=d a (by simp)
     rcases xk (p.drop a) (p.drop i)with q|q|q
     ·exact q
     ·have:=Mz (by omega) (by omega) q;omega
     ·rw[f]at q;cases q
    intro x hx
    rcases cG.1 hx with hx|hx
    ·exact qy ((sD.1 b.1).2.2 x hx a (C6 _)) last
    ·rw[bP.1 hx];exact last
  refine sD.2 ⟨b.1,jW.2 ⟨h.less,b.2.1⟩,?_⟩;intro x hx y hy
  rcases cK.1 hy with rfl|hy
  ·exact e x hx
  ·exact b.2.2 x hx y hy
end
section
variable {n:Nat}{cf:Nat→Nat→Int}{l:List Nat}
end
structure Yb (l:List (List bC)):Prop where
 len:l.length≤100
 each:∀s∈l,0<s.length∧s.length≤12∧s.all isWord=true
theorem Yb.nil:Yb []:=⟨by simp,λs h=>by cases h⟩
def hz {β:Type}(q:List Nat):List Nat→List β→List β
 |x::a,z::b=>if(x::a).take q.length=q then z::hz q a b else hz q a b
 |_,_=>[]
end Go.J
namespace Go.Proofs.YtblifkgpebebmaaGreatDoor
open Go Go.J Tryz
def dU:List Int→List dx
 |a::b::r=>⟨a,b⟩::dU r
 |_=>[]
theorem wR:∀xs:List Int,(dU xs).length=xs.length/2
 | []=>rfl
 | [_]=>by simp[dU]
 |a::b::r=>by rw[dU,fU,wR r];simp only[List.length_cons];omega
theorem wQ:∀{xs:List Int} {j:Nat} {a b:Int},xs[2*j]?=some a→xs[2*j+1]?=some b→(dU xs)[j]?=some ⟨a,b⟩
 | [],_,_,_,h,_=>by simp at h
 | [_],0,_,_,_,h=>by simp at h
 | [_],j+1,_,_,h,_=>by simp at h
 |x::y::r,0,a,b,h,k=>by
  simp at h k;subst h k;rfl
 |x::y::r,j+1,a,b,h,k=>by
  rw[show 2*(j+1)=(2*j)+1+1 by omega,s8,s8]at h;rw[show 2*(j+1)+1=(2*j+1)+1+1 by omega,s8,s8]at k;rw[dU,s8];exact wQ h k
theorem qN:∀{xs:List Int} {x:dx},x∈dU xs→x.dF∈xs∧x.tqo∈xs
 | [],_,h=>by cases h
 | [_],_,h=>by cases h
 |a::b::r,x,h=>by
  rw[dU]at h
  rcases cK.1 h with rfl|h
  ·exact⟨by simp,by simp⟩
  ·have:=qN h
   exact⟨by simp[this.1],by simp[this.2]⟩
def XX (xs:List Int):KE:=(xs.headD 0,(dU xs.tail).map fP)
def cQ (gb:List (List Int)):e8:=gb.map XX
theorem zQ {X Y:List dx}{x:dx}(h:Y=X++ [x]):rows au X++ [iv x.dF,iv x.tqo]=rows au Y:=by rw[h,ay];rfl
theorem Hk {X:List dh}{x:dh}:rows bq X++ [iv x.type,x.lv.1]=rows bq (X++ [x]):=by rw[ay];rfl
theorem LL {xs:List Int}{x:Int}(h:xs[0]?=some x):XX xs=(x,(dU (xs.drop 1)).map fP):=by
 cases xs with
 |nil=>simp at h
 |cons y r=>simp at h;subst h;rfl
theorem drop_at {xs:List Int}{j:Nat}:(xs.drop 1)[j]?=xs[1+j]?:=by rw[A6]
theorem gP (u:Value)(gb:List (List Int))(K:gb.all (λxs=>decide (0<xs.length)&&decide (xs.length≤60))=true)(V:gb.length≤60):dz prog 58 #[u] ([fQ aJ gb u].map aB) (λv H'=>H'=[aB (bL (cQ gb) v)]):=by
 refine dz.body (args:=[u]) 48 func58 rfl ntmps58 rfl (λc=> ?_);refine St.cast (H':=[aB (fQ aJ gb u)]) rfl ?_;refine go ?_;refine St.fQ aJ gb u (λL=> ?_);refine St.nu u (λvs l=> ?_);refine St.FJ vs l (λM=> ?_);refine go ?_;refine St.al (λD=> ?_);refine g4 ?_;refine St.al (λE=> ?_);refine g11 ?_;refine St.dw 163 2 ?_;refine St.aM (.slice none 0 0) (show _=([]:List dh).length from rfl) (show _=rows bq []from rfl) ?_;refine St.dN cB ?_;refine St.tm (ι:=Nat) (κ:=Value×List dh) (λk z T=>(10,iv k)::T) (λk z=>[aW E (.cells [z.1].toArray 30 (0,0)),row z.1 163 2 (z.2).length (rows bq (z.2)),aB (aF cB z.2),aW D (.cells [(.slice none 0 0)].toArray 30 (0,0)),aB (sl bN u vs),aB (j8 aJ vs gb)]) (λk z=>k≤gb.length∧z.1.oneCell'=true∧z.2.map mB=cQ (gb.take k)∧∀x∈z.2,bq.wf x) (λk z=>gb.length-k) 0 ((.slice none 0 0),[]) (aD.cons 2 rfl (aD.cons 3 rfl (aD.cons 8 rfl (aD.cons 9 rfl aD.nil)))) ⟨aP _,rfl,rfl,λx hx=>by cases hx⟩ ?_;rintro k ⟨a,X⟩ ⟨hk,hz,d,b⟩
 dsimp only at hz d b⊢
 have m:=congrArg List.length d
 rw[aO,cQ,aO,eU]at m;refine g6 ?_;refine St.cq (λN=> ?_) (λN=> ?_)
 ·obtain⟨s,e⟩:=aE (show k<gb.length by omega)
  obtain⟨w,hw⟩:=aE (show k<vs.length by omega);refine St.j8 (vs:=vs) k hw e ?_
  have n:=M s (aZ e)
  have o:=eY.1 K s (aZ e)
  simp only[Bool.and_eq_true,decide_eq_true_eq]at o
  obtain⟨x0,F⟩:=aE (show 0<s.length by omega)
  have O:=wR (s.drop 1)
  rw[A7]at O;refine g14 ?_;refine St.ee (Ev.cE (k:=0) (.mk rfl) (.mk rfl) bJ dK rfl (by omega)) ?_;refine go ?_;refine St.ee (Ev.build (bH.ar rfl) (λw=>E5 rfl w)) ?_;refine St.al (λG=> ?_);refine g10 ?_;refine St.dw 165 2 ?_;refine St.aM (.slice none 0 0) (show _=((dU (s.drop 1)).take 0).length from rfl) (show _=rows au ((dU (s.drop 1)).take 0)from rfl) ?_;refine St.tm (ι:=Nat) (κ:=Value) (λj y T=>(7,iv (1+2*(j:Nat)))::T) (λj y=>[aW G (.cells [iv x0,y].toArray 163 (0,0)),row y 165 2 ((dU (s.drop 1)).take j).length (rows au ((dU (s.drop 1)).take j)),aB (sl aJ w.1 s),aW E (.cells [a].toArray 30 (0,0)),row a 163 2 (X).length (rows bq (X)),aB (aF cB X),aW D (.cells [(.slice none 0 0)].toArray 30 (0,0)),aB (sl bN u vs),aB (j8 aJ vs gb)]) (λj y=>j≤(s.length-1)/2∧y.oneCell'=true) (λj y=>(s.length-1)/2-j) 0 (.slice none 0 0) (aD.cons 2 rfl (aD.cons 3 rfl (aD.cons 5 rfl (aD.cons 6 rfl (aD.cons 8 rfl (aD.cons 9 rfl (aD.cons 10 rfl aD.nil))))))) ⟨aP _,rfl⟩ ?_;rintro j y ⟨W,hy⟩
  have Y:((dU (s.drop 1)).take j).length≤60:=by rw[eU];omega
  refine g10 ?_;refine St.cq (λP=> ?_) (λP=> ?_)
  ·have Q:1+2*j+1<s.length:=by omega
   obtain⟨p,r⟩:=aE (show 1+2*j<s.length by omega);obtain⟨t,A⟩:=aE (show 1+2*j+1<s.length by omega)
   have f:(dU (s.drop 1))[j]?=some ⟨p,t⟩:=wQ (by rw[drop_at];exact r) (by rw[drop_at,←qh];exact A)
   refine g4 ?_;refine St.dc [aW G (.cells [iv x0,y].toArray 163 (0,0)),row y 165 2 ((dU (s.drop 1)).take j).length (rows au ((dU (s.drop 1)).take j))] mixed (λZ ns=> ?_);refine SW.gd 0 ?_;refine SW.gd 2 ?_;refine SW.gd 3 ?_;refine SW.dd 4 rfl (λ_=>Ev.cE (k:=(1+2*j)) (.mk rfl) (.mk rfl) bJ dK (by omega) (by omega)) ?_;refine SW.gd 5 ?_;refine SW.gd 6 ?_;refine SW.gd 7 ?_;refine SW.gd 8 ?_;refine SW.dd 9 rfl (λ_=>Ev.cE (k:=(1+2*j+1)) (.mk rfl) (.mk rfl) bJ dK (by omega) (by omega)) ?_;refine SW.gd 10 ?_;refine SW.dd 11 rfl (λ_=>Ev.build (ps:=[(0,(.tmp 30)),(1,(.tmp 35))]) (bH.aX rfl rfl) (λw=>ou rfl rfl w)) ?_;refine SW.t2 1 12 ?_ ?_
   focus
    refine g3 ?_;refine SW.go ?_;refine SW.t1 12 ?_;refine St.gV rfl (.ar rfl) eX dm kI rfl rfl (by simp[Value.cells]) rfl rfl (λB=> ?_);refine g2 ?_;refine SW.go ?_;refine SW.t1 13 ?_;refine St.aj (.mk rfl) (.mk rfl) eX dm kI qE (by simp[Value.oneCell',Value.cells]) (by omega) (by omega) rfl rfl rfl rfl (λv38 C=> ?_);refine St.aM v38 (show _=((dU (s.drop 1)).take (j+1)).length by rw[ag f];exact cS) (show _=rows au ((dU (s.drop 1)).take (j+1))from zQ (x:=⟨p,t⟩) (ag f)) ?_;refine St.ba v38 (λi _=> ?_);refine g2 ?_;refine SW.go ?_;refine SW.gd 14 ?_;refine SW.t1 15 ?_;refine St.cI (.mk rfl) (.mk rfl) pW i (by rfl) ?_;refine g2 ?_;refine SW.go ?_;refine SW.dn ?_
   rotate_left
   focus
    refine St.gV rfl (.ar rfl) eX dm kI rfl rfl (by simp[Value.cells]) rfl rfl (λB=> ?_);refine g2 ?_;refine SW.go ?_;refine SW.t1 1 ?_;refine g3 ?_;refine SW.go ?_;refine SW.t1 13 ?_;refine St.aj (.mk rfl) (.mk rfl) eX dm kI qE (by simp[Value.oneCell',Value.cells]) (by omega) (by omega) rfl rfl rfl rfl (λv38 C=> ?_);refine St.aM v38 (show _=((dU (s.drop 1)).take (j+1)).length by rw[ag f];exact cS) (show _=rows au ((dU (s.drop 1)).take (j+1))from zQ (x:=⟨p,t⟩) (ag f)) ?_;refine St.ba v38 (λi _=> ?_);refine g2 ?_;refine SW.go ?_;refine SW.gd 14 ?_;refine SW.t1 15 ?_;refine St.cI (.mk rfl) (.mk rfl) pW i (by rfl) ?_;refine g2 ?_;refine SW.go ?_;refine SW.dn ?_
   all_goals
    refine g8 ?_;refine St.ui (j+1) v38 ⟨by omega,i⟩
  ·obtain rfl:j=(s.length-1)/2:=by omega
   have R:(dU (s.drop 1)).take ((s.length-1)/2)=(dU (s.drop 1)):=fZ (by omega)
   rw[R];refine St.bS y au (dU (s.drop 1)) rfl rfl (λx hx=>⟨n _ (GB (qN hx).1),n _ (GB (qN hx).2)⟩) ?_;refine St.ea (cB ⟨x0,⟨y,hy⟩,(dU (s.drop 1))⟩) [sl au y (dU (s.drop 1))] (λρ h=>h _ (aQ ..)) ?_;refine g9 ?_;refine St.gV rfl (.ar rfl) oY jT GD rfl rfl (by simp[J.cells_one hy,Value.cells]) rfl rfl (λS=> ?_);refine St.aj (.mk rfl) (.mk rfl) oY jT GD MZ (by intro q H;simp[Value.cells]at H;rcases H with rfl|rfl;rfl;exact hy) (by omega) (by omega) rfl rfl rfl rfl (λv44 U=> ?_);refine St.aM v44 (show _=(X++ [(⟨x0,⟨y,hy⟩,(dU (s.drop 1))⟩:dh)]).length from cS) (show _=rows bq (X++ [(⟨x0,⟨y,hy⟩,(dU (s.drop 1))⟩:dh)])from Hk (x:=⟨x0,⟨y,hy⟩,(dU (s.drop 1))⟩)) ?_;refine St.ba v44 (λI _=> ?_);refine St.tM cB (xs:=X) (x:=⟨x0,⟨y,hy⟩,(dU (s.drop 1))⟩) ?_;refine go ?_;refine St.cI (.mk rfl) (.mk rfl) ae8 I (by rfl) ?_;refine g8 ?_;refine St.ui (k+1) (v44,X++ [(⟨x0,⟨y,hy⟩,(dU (s.drop 1))⟩:dh)]) ⟨by omega,I,by rw[ag e,cP,d,cQ,cQ,cP];exact congrArg (λq=>List.map XX (List.take k gb)++ [q]) (LL F).symm,λx hx=>(cG.1 hx).elim (b x) λq=>by rw[bP.1 q];exact n x0 (aZ F)⟩
 ·obtain rfl:k=gb.length:=by omega
  rw[jY]at d;refine g8 ?_;refine St.sA (.mk rfl) (.mk rfl) jU ?_ (h1:=(by simp[hz]));refine g3 ?_;refine St.bS a bq X rfl rfl b ?_;refine St.ea (aG ⟨⟨a,hz⟩,X⟩) [sl bq a X,aF cB X] (λρ h=>h) ?_;refine St.Tc ⟨⟨a,hz⟩,X⟩ (g:=cQ gb) (bA ⟨⟨a,hz⟩,X⟩) rfl d ?_;refine St.rV [_] [aB (bL (cQ gb) (bA ⟨⟨a,hz⟩,X⟩))] ?_;rfl
def yp (names:List bC)(ps:List Int)(k:Nat):List eo:=(List.range k).map λi=>(names.getD i [],if i=0 then []else [ps.getD i 0])
theorem H7 (names:List bC)(ps:List Int)(k:Nat):yp names ps (k+1)=yp names ps k++ [(names.getD k [],if k=0 then []else [ps.getD k 0])]:=by
 unfold yp;rw[ua,cP];rfl
theorem Hl {X:List rh}{x:rh}:rows mw X++ [sv x.name,x.pv.1]=rows mw (X++ [x]):=by rw[ay];rfl
theorem Hj {X:List eZ}{x:eZ}:rows e7 X++Si x=rows e7 (X++ [x]):=by rw[ay];rfl
theorem vF (a b l:Value)(names:List bC)(ps:List Int)(e:l.oneCell'=true)(hlen:ps.length=names.length)(M:names.length≤60):dz prog 56 #[a,b,l] ([fW bE names a,fW aJ ps b].map aB) (λv H'=>∃(tv:aV) (ts:List rh),v= .agg #[tv.1,l]∧ts.map dG=yp names ps names.length∧H'=[aB (sl mw tv.1 ts),aB (aF s6 ts)]):=by
 refine dz.body (args:=[a,b,l]) 38 func56 rfl ntmps56 rfl (λc=> ?_);refine St.cast (H':=[aB (fW bE names a),aB (fW aJ ps b)]) rfl ?_;refine go ?_;refine St.fW bE names a (λD=> ?_);refine St.fW aJ ps b (λN=> ?_);refine St.wf a (λE _=> ?_);refine St.wf b (λn _=> ?_);refine go ?_;refine St.al (λA=> ?_);refine g4 ?_;refine St.al (λB=> ?_);refine g11 ?_;refine St.dw 156 2 ?_;refine St.aM (.slice none 0 0) (show _=([]:List rh).length from rfl) (show _=rows mw []from rfl) ?_;refine St.dN s6 ?_;refine St.tm (ι:=Nat) (κ:=Value×List rh) (λk z T=>(13,iv k)::T) (λk z=>[aW B (.cells [z.1,(.slice none 0 0)].toArray 25 (0,0)),row z.1 156 2 (z.2).length (rows mw (z.2)),aB (aF s6 z.2),aW A (.cells [(.slice none 0 0),(.slice none 0 0)].toArray 25 (0,0)),aB (sl bE a names),aB (sl aJ b ps)]) (λk z=>k≤names.length∧z.1.oneCell'=true∧z.2.map dG=yp names ps k∧∀x∈z.2,mw.wf x) (λk z=>names.length-k) 0 ((.slice none 0 0),[]) (aD.cons 1 rfl (aD.cons 2 rfl (aD.cons 6 rfl (aD.cons 7 rfl (aD.cons 11 rfl (aD.cons 12 rfl aD.nil)))))) ⟨aP _,rfl,rfl,λx hx=>by cases hx⟩ ?_;rintro k ⟨f,X⟩ ⟨hk,hz,m,d⟩
 dsimp only at hz m d⊢
 have o:=congrArg List.length m
 rw[aO,yp,aO,jV]at o;refine g6 ?_;refine St.cq (λF=> ?_) (λF=> ?_)
 ·obtain⟨nm,g⟩:=aE (show k<names.length by omega)
  obtain⟨p,hp⟩:=aE (show k<ps.length by omega)
  have r:names.getD k []=nm:=by rw[aw,g];rfl
  have s:ps.getD k 0=p:=by rw[aw,hp];rfl
  have t:=E nm (aZ g)
  have u:=n p (aZ hp)
  have G:=H7 names ps k
  refine g16 ?_;refine St.ee (Ev.build (bH.ar rfl) (λw=>MS rfl w)) ?_;refine St.al (λH=> ?_);refine g3 ?_;refine St.join (ι:=Value) (λy T=>T) (λy=>[aW H (.cells [sv nm,y].toArray 156 (0,0)),aB (sl aJ y (if k=0 then []else [p])),aW B (.cells [f,(.slice none 0 0)].toArray 25 (0,0)),row f 156 2 (X).length (rows mw (X)),aB (aF s6 X),aW A (.cells [(.slice none 0 0),(.slice none 0 0)].toArray 25 (0,0)),aB (sl bE a names),aB (sl aJ b ps)]) (λy=>y.oneCell'=true) (aD.cons 1 rfl (aD.cons 2 rfl (aD.cons 6 rfl (aD.cons 7 rfl (aD.cons 10 rfl (aD.cons 11 rfl (aD.cons 12 rfl (aD.cons 13 rfl aD.nil)))))))) ?_ ?_
  ·refine g6 ?_
   refine St.cq (λI=> ?_) (λI=> ?_)
   ·rw[aA (show ¬k=0 by omega)]
    refine g5 ?_;refine St.gV rfl (.ar rfl) bJ dK eT rfl rfl (by simp[Value.cells]) rfl rfl (λi=> ?_);refine St.bS (.slice (some ⟨i,0,none⟩) 1 1) aJ [p] rfl rfl (OS u) ?_;refine go ?_;refine St.cI (.mk rfl) (.mk rfl) fD rfl (by rfl) ?_;refine g2 ?_;refine St.mE (.slice (some ⟨i,0,none⟩) 1 1) rfl
   ·rw[aC (show k=0 by omega)]
    refine St.fp aJ ?_;refine g2 ?_;refine St.mE (.slice none 0 0) rfl
  ·intro y hy
   have O:(⟨nm,⟨y,hy⟩,if k=0 then []else [p]⟩:rh)=⟨nm,⟨y,hy⟩,if k=0 then []else [p]⟩:=rfl
   refine g4 ?_;refine St.gV rfl (.ar rfl) vr Bh VC rfl rfl (by simp[J.cells_one hy,Value.cells]) rfl rfl (λK=> ?_);refine St.aj (.mk rfl) (.mk rfl) vr Bh VC Z4 (by intro q C;simp[Value.cells]at C;rcases C with rfl|rfl;rfl;exact hy) (by omega) (by omega) rfl rfl rfl rfl (λv32 L=> ?_);refine St.ea (s6 ⟨nm,⟨y,hy⟩,if k=0 then []else [p]⟩) [sl aJ y (if k=0 then []else [p])] (λρ h=>h _ (aQ ..)) ?_;refine St.aM v32 (show _=(X++ [(⟨nm,⟨y,hy⟩,if k=0 then []else [p]⟩:rh)]).length from cS) (show _=rows mw (X++ [(⟨nm,⟨y,hy⟩,if k=0 then []else [p]⟩:rh)])from Hl (x:=⟨nm,⟨y,hy⟩,if k=0 then []else [p]⟩)) ?_;refine St.ba v32 (λj _=> ?_);refine St.tM s6 (xs:=X) (x:=⟨nm,⟨y,hy⟩,if k=0 then []else [p]⟩) ?_;refine go ?_;refine St.cI (.mk rfl) (.mk rfl) alR j (by rfl) ?_;refine g8 ?_;refine St.ui (k+1) (v32,X++ [(⟨nm,⟨y,hy⟩,if k=0 then []else [p]⟩:rh)]) ⟨by omega,j,by rw[cP,m,G,r,s];rfl,λx hx=>(cG.1 hx).elim (d x) λq=>by rw[bP.1 q];exact t⟩
 ·obtain rfl:k=names.length:=by omega
  refine g9 ?_;refine St.cI (.mk rfl) (.mk rfl) alS e (by rfl) ?_;refine g5 ?_;refine St.sA (.mk rfl) (.mk rfl) PV ?_ (h1:=(by simp[hz,e]));refine g3 ?_;refine St.bS f mw X rfl rfl d ?_;refine St.rV [_] [aB (sl mw f X),aB (aF s6 X)] ?_;exact⟨⟨f,hz⟩,X,rfl,m,rfl⟩
theorem eJ (b:Nat)(e f g i xv:Value)(X:List eZ)(word:bC)(wt:Int)(u w:Value)(t:jL)(gb:List (List Int))(hw:nB word)(n:aa wt)(o:xv.oneCell'=true)(p:X.length≤100)(F:∀x∈X,e7.wf x)
 (r:gb.all (λxs=>decide (0<xs.length)&&decide (xs.length≤60))=true) (s:gb.length≤60):dz prog 59 ([sv word,iv wt,u,w]++ [Value.pointer (some ⟨b,0,none⟩)]).toArray [aB (isTerm t u),aB (fQ aJ gb w),aB (aF eR X),aW b (.cells [e,f,g,xv,i].toArray 32 (0,0)),row xv 115 9 (X).length (rows e7 (X))]
 (λv H'=>∃(d:Value) (x:eZ),v= .tuple #[]∧d.oneCell'=true∧oe x=⟨word,cQ gb,wt,t⟩∧e7.wf x∧H'=[aW b (.cells [e,f,g,d,i].toArray 32 (0,0)),row d 115 9 (X++ [x]).length (rows e7 (X++ [x])),aB (aF eR (X++ [x]))]):=by
 refine dz.body (args:=[sv word,iv wt,u,w]++ [Value.pointer (some ⟨b,0,none⟩)]) 20 func59 rfl ntmps59 rfl (λc=> ?_);refine go ?_;refine St.cast (H':=[aB (isTerm t u),aB (fQ aJ gb w),aB (aF eR X),aW b (.cells [e,f,g,xv,i].toArray 32 (0,0)),row xv 115 9 (X).length (rows e7 (X))]) rfl ?_;refine St.isTerm t u (λx hx=> ?_);obtain⟨rfl,rfl,z⟩:=hx;obtain⟨A,B,k,l⟩:=z;refine go ?_;refine St.dJ (.mk rfl) rfl (λG=> ?_);refine g2 ?_;refine St.dc [aW b (.cells [e,f,g,xv,i].toArray 32 (0,0)),row xv 115 9 (X).length (rows e7 (X))] mixed (λH I=> ?_)
 repeat' first
  |with_reducible refine SW.me ?_
   first
    |refine SW.gd 0 ?_
    |refine SW.gd 2 ?_
    |refine SW.gd 3 ?_
    |refine SW.gd 4 ?_
    |refine SW.gd 5 ?_
    |refine SW.dd 7 rfl (λ_=>Ev.build (ps:=[(0,(.tmp 11)),(2,(.tmp 12)),(3,(.tmp 13)),(1,(.tmp 15))]) (bH.gY rfl rfl rfl rfl) (λw=>yR rfl rfl w)) ?_
    |refine SW.gd 10 ?_
    |refine SW.t2 1 6 ?_ ?_
    |refine SW.t1 6 ?_
    |refine SW.t1 8 ?_
    |refine SW.t1 9 ?_
    |refine SW.t1 11 ?_
    |refine SW.t2 1 8 ?_ ?_
    |refine SW.t1 1 ?_
  |with_reducible refine SW.tg 1 ?_
   refine g3 ?_;refine SW.go ?_
  |with_reducible refine SW.tg 6 ?_
   refine St.ae (gP w gb r s) E7 (.ar rfl) rfl ?_;rintro m _ rfl;refine St.ao ?_;refine St.bL (cQ gb) m (λy hy=> ?_);obtain⟨rfl,C⟩:=hy;refine g2 ?_;refine SW.go ?_
  |with_reducible refine SW.tg 8 ?_
   refine St.gV rfl (.ar rfl) IC nT VB rfl rfl (by simp[J.cells_one y.nv.2,J.cells_one x.type.av.2,J.cells_one x.av.2,Value.cells]) rfl rfl (λK=> ?_);refine g2 ?_;refine SW.go ?_
  |with_reducible refine SW.tg 9 ?_
   refine St.aj (.mk rfl) (.mk rfl) IC nT VB Z3 (by intro q D;exact e7.one (⟨word,y,wt,x⟩:eZ) q (by show q∈Si (⟨word,y,wt,x⟩:eZ);simpa[Value.cells]using D)) (by omega) (by omega) rfl rfl rfl rfl (λa E=> ?_);refine St.ea (eR (⟨word,y,wt,x⟩:eZ)) [aG y,cm x] (λρ h=>h) ?_;refine St.aM a (show _=(X++ [(⟨word,y,wt,x⟩:eZ)]).length from cS) (show _=rows e7 (X++ [(⟨word,y,wt,x⟩:eZ)])from Hj (x:=(⟨word,y,wt,x⟩:eZ))) ?_;refine St.ba a (λj _=> ?_);refine St.tM eR (xs:=X) (x:=(⟨word,y,wt,x⟩:eZ)) ?_;refine g2 ?_;refine SW.go ?_
  |with_reducible refine SW.tg 11 ?_
   refine St.cI (.mk rfl) (.mk rfl) alU j (by rfl) ?_;refine g2 ?_;refine SW.go ?_
 all_goals refine SW.dn ?_
 all_goals
  refine St.eH ?_;refine St.rV [] [aW b (.cells [e,f,g,a,i].toArray 32 (0,0)),row a 115 9 (X++ [(⟨word,y,wt,x⟩:eZ)]).length (rows e7 (X++ [(⟨word,y,wt,x⟩:eZ)])),aB (aF eR (X++ [(⟨word,y,wt,x⟩:eZ)]))] ?_;exact⟨a,(⟨word,y,wt,x⟩:eZ),rfl,j,by rw[←C];rfl,⟨hw,n,A,B,k,l⟩,rfl⟩
def rC:List bC:=[[116,111,112],[114,117,108,101],[115,105,103,110],[110,117,109],[115,105,110,103],[112,108,117,114],[115],[110,112],[118,112],[110],[100,101,116],[105,118],[116,118],[97,100,118],[99,111,110,106]]
def za:List Int:=[0,0,0,0,3,3,2,2,2,2,2,2,2,2,2]
def kA:List jJ:=[⟨[109,111,116,104,101,114],1,2⟩,⟨[111,110,101],1,2⟩,⟨[116,119,111],1,2⟩,⟨[116,104,114,101,101],1,2⟩,⟨[110,117,109],2,3⟩]
abbrev Xa:sm:=⟨[115],(cQ [[1,0,1,1,2,2,4],[6],[7,4,3],[3],[8,4,3]]),2,0,(bB (an (an (.mk [101] []) (.mk [116] [])) (.mk [116] [])) (bB (an (.mk [101] []) (.mk [116] [])) (aK (aY 1) (aY 0))))⟩
abbrev Xb:sm:=⟨[110,112],(cQ [[1,0,1,1,3,2,4],[7,4,2],[3],[10,4,2],[9,4,2]]),2,1,(bB (an (an (.mk [101] []) (.mk [116] [])) (an (an (.mk [101] []) (.mk [116] [])) (.mk [116] []))) (bB (an (.mk [101] []) (.mk [116] [])) (aK (aY 1) (aY 0))))⟩
abbrev Xc:sm:=⟨[118,112,45,105,118],(cQ [[1,0,1,1,3],[8,4,2],[3],[11,4,2]]),1,0,(bB (an (.mk [101] []) (.mk [116] [])) (aY 0))⟩
abbrev Xd:sm:=⟨[118,112,45,116,118],(cQ [[1,0,1,1,3,2,4],[8,4,2],[3],[12,4,2],[7]]),2,2,(bB (an (.mk [101] []) (an (.mk [101] []) (.mk [116] []))) (bB (an (an (.mk [101] []) (.mk [116] [])) (.mk [116] [])) (bB (.mk [101] []) (aK (aY 1) (bB (.mk [101] []) (aK (aK (aY 3) (aY 1)) (aY 0)))))))⟩
abbrev Xe:sm:=⟨[118,112,45,110,111,116],(cQ [[1,0,1,1,3,2,4],[8,4,2],[3],[13],[8,4,2]]),2,3,(bB (an (.mk [116] []) (.mk [116] [])) (bB (an (.mk [101] []) (.mk [116] [])) (bB (.mk [101] []) (aK (aY 2) (aK (aY 1) (aY 0))))))⟩
abbrev Xf:sm:=⟨[110,112,45,97,110,100],(cQ [[1,0,1,1,3,2,4,3,5],[7,4,2],[5],[7],[14],[7]]),3,4,(bB (an (an (.mk [101] []) (.mk [116] [])) (.mk [116] [])) (bB (an (.mk [116] []) (an (.mk [116] []) (.mk [116] []))) (bB (an (an (.mk [101] []) (.mk [116] [])) (.mk [116] [])) (bB (an (.mk [101] []) (.mk [116] [])) (aK (aK (aY 2) (aK (aY 3) (aY 0))) (aK (aY 1) (aY 0)))))))⟩
def uM:List sm:=[Xa,Xb,Xc,Xd,Xe,Xf]
def rB:List Dp:=[⟨[101,118,101,114,121],cQ [[10,4,1],[4]],1,(mZ [97,108,108] [105,102] false)⟩,⟨[97],cQ [[10,4,1],[4]],0,(mZ [115,111,109,101] [97,110,100] false)⟩,⟨[110,111],cQ [[10]],2,(mZ [115,111,109,101] [97,110,100] true)⟩,⟨[100,111,103],cQ [[9,4,1],[4]],0,(bV [100,111,103] (an (.mk [101] []) (.mk [116] [])))⟩,⟨[100,111,103,115],cQ [[9,4,1],[5]],0,(bV [100,111,103] (an (.mk [101] []) (.mk [116] [])))⟩,⟨[99,97,116],cQ [[9,4,1],[4]],0,(bV [99,97,116] (an (.mk [101] []) (.mk [116] [])))⟩,⟨[99,97,116,115],cQ [[9,4,1],[5]],0,(bV [99,97,116] (an (.mk [101] []) (.mk [116] [])))⟩,⟨[102,105,115,104],cQ [[9,4,1],[4]],1,(bV [102,105,115,104] (an (.mk [101] []) (.mk [116] [])))⟩,⟨[102,105,115,104],cQ [[9,4,1],[5]],2,(bV [102,105,115,104] (an (.mk [101] []) (.mk [116] [])))⟩,⟨[98,97,114,107,115],cQ [[11,4,1],[4]],0,(bV [98,97,114,107] (an (.mk [101] []) (.mk [116] [])))⟩,⟨[98,97,114,107],cQ [[11,4,1],[5]],0,(bV [98,97,114,107] (an (.mk [101] []) (.mk [116] [])))⟩,⟨[115,108,101,101,112,115],cQ [[11,4,1],[4]],0,(bV [115,108,101,101,112] (an (.mk [101] []) (.mk [116] [])))⟩,⟨[115,108,101,101,112],cQ [[11,4,1],[5]],0,(bV [115,108,101,101,112] (an (.mk [101] []) (.mk [116] [])))⟩,⟨[99,104,97,115,101,115],cQ [[12,4,1],[4]],0,(bV [99,104,97,115,101] (an (.mk [101] []) (an (.mk [101] []) (.mk [116] []))))⟩,⟨[99,104,97,115,101],cQ [[12,4,1],[5]],0,(bV [99,104,97,115,101] (an (.mk [101] []) (an (.mk [101] []) (.mk [116] []))))⟩,⟨[115,101,101,115],cQ [[12,4,1],[4]],1,(bV [115,101,101] (an (.mk [101] []) (an (.mk [101] []) (.mk [116] []))))⟩,⟨[115,101,101],cQ [[12,4,1],[5]],1,(bV [115,101,101] (an (.mk [101] []) (an (.mk [101] []) (.mk [116] []))))⟩,⟨[110,111,116],cQ [[13]],0,(bV [110,111,116] (an (.mk [116] []) (.mk [116] [])))⟩,⟨[97,110,100],cQ [[14]],0,(bV [97,110,100] (an (.mk [116] []) (an (.mk [116] []) (.mk [116] []))))⟩,⟨[114,101,120],cQ [[7,4,1],[4]],0,(bB (an (.mk [101] []) (.mk [116] [])) (aK (aY 0) (bV [114,101,120] (.mk [101] []))))⟩,⟨[109,105,97],cQ [[7,4,1],[4]],0,(bB (an (.mk [101] []) (.mk [116] [])) (aK (aY 0) (bV [109,105,97] (.mk [101] []))))⟩]
def lP:fj:=⟨yp rC za 15,kA.map gz,uM,rB,cQ [[6]]⟩
abbrev smK (g h i j k l e:Nat)(tv:aV)(ts:List rh)(rv:Value)(f:List ca)(a b c d:fb)(w:Value)(X:List eZ):List ak:=[aW l (.cells [tv.1,(.slice (some ⟨e,0,none⟩) 5 5),rv,w,(.slice none 0 0)].toArray 32 (0,0)),row w 115 9 (X).length (rows e7 (X)),aB (aF eR X),aB (sl cT rv f),aB (aF bz f),aB (sl mw tv.1 ts),aB (aF s6 ts),aB (sl ga (.slice (some ⟨e,0,none⟩) 5 5) kA),aW k (.cells [sv d.base,d.av.1].toArray 105 (0,0)),aB (db (an (.mk [101] []) (an (.mk [101] []) (.mk [116] []))) (aU d)),aW j (.cells [sv c.base,c.av.1].toArray 105 (0,0)),aB (db (an (.mk [101] []) (.mk [116] [])) (aU c)),aW i (.cells [sv b.base,b.av.1].toArray 105 (0,0)),aW h (.cells [sv a.base,a.av.1].toArray 105 (0,0)),aB (db (.mk [116] []) (aU b)),aB (db (.mk [101] []) (aU a)),aW g (.cells [(.slice none 0 0),(.slice none 0 0),(.slice none 0 0),(.slice none 0 0),(.slice none 0 0)].toArray 32 (0,0))]
theorem St.skk {n:Nat}{F:Fr}{c:Ctx}{H:List ak}{T:Act→World→Prop}(L:List ak)(k:St n F (Mm c L) T)(a:L.Sublist H:=by repeat(first|exact List.Sublist.slnil|with_reducible refine List.Sublist.cons_cons _ ?_|refine List.Sublist.cons _ ?_)):St n F (Mm c H) T:=St.o4 L a k
theorem fE {X:List eZ}{x:eZ}{k:Nat}{r:Dp}(h1:∀y∈X,e7.wf y)(a:X.map oe=rB.take k)(b:X.length=k)(c:oe x=r)(d:e7.wf x)(e:rB.take (k+1)=rB.take k++ [r]:=by exact rfl):
 ∃Y,Y=X++ [x]∧(∀y∈Y,e7.wf y)∧Y.map oe=rB.take (k+1)∧Y.length=k+1:=
 ⟨_,rfl,λy hy=>(cG.1 hy).elim (h1 y) λq=>by rw[bP.1 q];exact d,by rw[cP,a,e,fK,lh,c],by rw[bR,b];rfl⟩
theorem wfI {l:List Int}(h:l.all (λx=>decide (-9223372036854775808≤x)&&decide (x≤9223372036854775807))=true):∀x∈l,aJ.wf x:=λx hx=>by
 have:=eY.1 h x hx
 simp only[Bool.and_eq_true,decide_eq_true_eq]at this
 exact this
theorem Hv:∀x∈rC,bE.wf x:=λx hx=>by
 have h:rC.all (λx=>decide (x.length≤140737488351232))=true:=by decide
 show x.length≤140737488351232
 exact fJ (eY.1 h x hx)
theorem YU:∀x∈za,aJ.wf x:=wfI (by decide)
theorem Hu:∀x∈kA,ga.wf x:=λx hx=>by
 have h:kA.all (λx=>decide (x.name.length≤140737488351232)&&(decide (-9223372036854775808≤x.BS)&&decide (x.BS≤9223372036854775807))&&(decide (-9223372036854775808≤x.value)&&decide (x.value≤9223372036854775807)))=true:=by decide
 have:=eY.1 h x hx
 simp only[Bool.and_eq_true,decide_eq_true_eq]at this
 exact⟨this.1.1,this.1.2,this.2⟩
theorem XZ {α:Type}{l:List α}(h:l.length=6):∃a b c d e f,l=[a,b,c,d,e,f]:=by
 match l,h with
 | [a,b,c,d,e,f],_=>exact⟨a,b,c,d,e,f,rfl⟩
theorem alF {n:Nat}{F:Fr}{c:Ctx}{H:List ak}{T:Act→World→Prop}{α:Type}(Rr:Rp α)(v:Value)(vs:List aV)(gb:List (List α))(ds:List du)(a:ds=(vs.zip gb).map (λp=>sl Rr p.1.1 p.2))(b:vs.length=gb.length)[h1:lT (sl bN v vs) H][d:kY ds H]
 (k:St n F (Mm c (aB (oI Rr v gb)::H)) T):St n F (Mm c H) T:=
 St.fact (oI Rr v gb) (λρ w hm=>⟨vs,b,dA.1 (hm.dM _ h1.mem),λi u x hu hx=>by
  have e:(u,x)∈vs.zip gb:=aZ (i:=i) (by rw[List.getElem?_zip_eq_some];exact⟨hu,hx⟩)
  exact dA.1 (hm.dM _ (d.mem _ (by rw[a];exact dC.2 ⟨(u,x),e,rfl⟩)))⟩) k
theorem yG:dz prog 30 #[] ([].map aB) (λv H'=>H'=[aB (wO lP v)]):=by
 refine dz.body (args:=[]) 256 func30 rfl ntmps30 rfl (λc=> ?_);refine St.cast (H':=[]) rfl ?_;refine g2 ?_;refine St.al (λm=> ?_);refine g4 ?_;refine St.ae (mD [101] (by decide)) KX (.ar rfl) rfl ?_;rintro v8 _ rfl;refine St.ao ?_;refine St.db (.mk [101] []) v8 (λi SS=> ?_);obtain⟨ak1,an1,ak2⟩:=SS;subst ak1;refine St.ae (mD [116] (by decide)) KX (.ar rfl) rfl ?_;rintro v9 _ rfl;refine St.ao ?_;refine St.db (.mk [116] []) v9 (λg SU=> ?_);obtain⟨Wm,ak7,ak8⟩:=SU;subst Wm;refine St.al (λn=> ?_);refine St.al (λo=> ?_);refine g8 ?_;refine St.ae (fF (aU i) (aU g) (.mk [101] []) (.mk [116] [])) qH (.aX rfl rfl) rfl ?_;rintro v12 _ rfl;refine St.ao ?_;refine St.db (an (.mk [101] []) (.mk [116] [])) v12 (λf hxp=> ?_);obtain⟨Wk,ak3,ak4⟩:=hxp;subst Wk;refine St.al (λp=> ?_);refine g7 ?_;refine St.ae (fF (aU i) (aU f) (.mk [101] []) (an (.mk [101] []) (.mk [116] []))) qH (.aX rfl rfl) rfl ?_;rintro v15 _ rfl;refine St.ao ?_;refine St.db (an (.mk [101] []) (an (.mk [101] []) (.mk [116] []))) v15 (λl hxr=> ?_);obtain⟨Wl,ak5,ak6⟩:=hxr;subst Wl;refine St.al (λq=> ?_);refine g5 ?_;refine St.al (λa=> ?_);refine g4 ?_;refine St.gV rfl (.cons (.mk rfl) (.cons (.mk rfl) (.cons (.mk rfl) (.cons (.mk rfl) (.cons (.mk rfl) (.cons (.mk rfl) (.cons (.mk rfl) (.alI rfl rfl rfl rfl rfl rfl rfl rfl)))))))) lE Fj QO rfl rfl (by simp[Value.cells]) rfl rfl (λM=> ?_);refine St.bS (.slice (some ⟨M,0,none⟩) 15 15) bE rC rfl rfl Hv ?_;refine St.Xq (Rr:=bE) (xs:=rC) (.slice (some ⟨M,0,none⟩) 15 15) rfl ?_;refine St.bi za (λb17=> ?_) bJ dK eT;refine St.Xq (Rr:=aJ) (xs:=za) (.slice (some ⟨b17,0,none⟩) 15 15) rfl ?_;refine St.ee (Ev.build (bH.ek rfl rfl rfl) (λw=>ju rfl rfl rfl w)) ?_;refine St.ee (Ev.build (bH.ek rfl rfl rfl) (λw=>ju rfl rfl rfl w)) ?_;refine St.ee (Ev.build (bH.ek rfl rfl rfl) (λw=>ju rfl rfl rfl w)) ?_;refine St.ee (Ev.build (bH.ek rfl rfl rfl) (λw=>ju rfl rfl rfl w)) ?_;refine St.ee (Ev.build (bH.ek rfl rfl rfl) (λw=>ju rfl rfl rfl w)) ?_;refine St.gV rfl (.Al rfl rfl rfl rfl rfl) Fy Bg afL rfl rfl (by simp[Value.cells]) rfl rfl (λb=> ?_);refine St.bS (.slice (some ⟨b,0,none⟩) 5 5) ga kA rfl rfl Hu ?_;refine St.ae (vF (.slice (some ⟨M,0,none⟩) 15 15) (.slice (some ⟨b17,0,none⟩) 15 15) (.slice (some ⟨b,0,none⟩) 5 5) rC za rfl rfl (by decide)) ahG (.ek rfl rfl rfl) rfl ?_;rintro v24 _ ⟨tv,ts,rfl,hts,rfl⟩;refine St.dQ ?_;refine go ?_;refine St.PN (L':=[tv.1,(.slice (some ⟨b,0,none⟩) 5 5),(.slice none 0 0),(.slice none 0 0),(.slice none 0 0)]) (ah.mk rfl) (ah.mk rfl) PV tv.2 rfl rfl rfl ?_;refine g4 ?_;refine St.ae Ag ahH (.ar rfl) rfl ?_;rintro v26 _ rfl;refine St.ao ?_;refine St.ly sW v26 (λms hms=> ?_);obtain⟨h26,N⟩:=hms;obtain⟨m0,m1,m2,m3,m4,m5,rfl⟩:=XZ (show ms.length=6 by have:=congrArg List.length N;rw[aO]at this;exact this);refine St.wf v26 (λr _=> ?_)
 simp only[sW,List.map_cons,List.map_nil,List.cons.injEq,and_true]at N
 obtain⟨NZ,hm1,hm2,hm3,hm4,hm5⟩:=N;refine St.cL cm [m0,m1,m2,m3,m4,m5] (x:=m0) (by simp) ?_;refine St.cL cm [m0,m1,m2,m3,m4,m5] (x:=m1) (by simp) ?_;refine St.cL cm [m0,m1,m2,m3,m4,m5] (x:=m2) (by simp) ?_;refine St.cL cm [m0,m1,m2,m3,m4,m5] (x:=m3) (by simp) ?_;refine St.cL cm [m0,m1,m2,m3,m4,m5] (x:=m4) (by simp) ?_;refine St.cL cm [m0,m1,m2,m3,m4,m5] (x:=m5) (by simp) ?_
 have ajU:=r m0 (by simp)
 have ajV:=r m1 (by simp)
 have ajW:=r m2 (by simp)
 have ajX:=r m3 (by simp)
 have ajY:=r m4 (by simp)
 have ajZ:=r m5 (by simp)
 refine g4 ?_;refine St.U1 67 27 [] (⟨27,[],λu=>cU u v26⟩::⟨28,[0],λu=>cU u (cZ v26 dI.size 0 0)⟩::⟨29,[1],λu=>cU u (cN m0)⟩::⟨30,[],λu=>fW aJ [1,0,1,1,2,2,4] u⟩::⟨31,[],λu=>fW aJ [6] u⟩::⟨32,[],λu=>fW aJ [7,4,3] u⟩::⟨33,[],λu=>fW aJ [3] u⟩::⟨34,[],λu=>fW aJ [8,4,3] u⟩::⟨35,[3,4,5,6,7],λu=>fQ aJ [[1,0,1,1,2,2,4],[6],[7,4,3],[3],[8,4,3]] u⟩::⟨36,[8],λu=>bL (cQ [[1,0,1,1,2,2,4],[6],[7,4,3],[3],[8,4,3]]) u⟩::⟨37,[2,9],λu=>fB Xa u⟩::⟨38,[],λu=>cU u v26⟩::⟨39,[11],λu=>cU u (cZ v26 dI.size 1 0)⟩::⟨40,[12],λu=>cU u (cN m1)⟩::⟨41,[],λu=>fW aJ [1,0,1,1,3,2,4] u⟩::⟨42,[],λu=>fW aJ [7,4,2] u⟩::⟨43,[],λu=>fW aJ [3] u⟩::⟨44,[],λu=>fW aJ [10,4,2] u⟩::⟨45,[],λu=>fW aJ [9,4,2] u⟩::⟨46,[14,15,16,17,18],λu=>fQ aJ [[1,0,1,1,3,2,4],[7,4,2],[3],[10,4,2],[9,4,2]] u⟩::⟨47,[19],λu=>bL (cQ [[1,0,1,1,3,2,4],[7,4,2],[3],[10,4,2],[9,4,2]]) u⟩::⟨48,[13,20],λu=>fB Xb u⟩::⟨49,[],λu=>cU u v26⟩::⟨50,[22],λu=>cU u (cZ v26 dI.size 2 0)⟩::⟨51,[23],λu=>cU u (cN m2)⟩::⟨52,[],λu=>fW aJ [1,0,1,1,3] u⟩::⟨53,[],λu=>fW aJ [8,4,2] u⟩::⟨54,[],λu=>fW aJ [3] u⟩::⟨55,[],λu=>fW aJ [11,4,2] u⟩::⟨56,[25,26,27,28],λu=>fQ aJ [[1,0,1,1,3],[8,4,2],[3],[11,4,2]] u⟩::⟨57,[29],λu=>bL (cQ [[1,0,1,1,3],[8,4,2],[3],[11,4,2]]) u⟩::⟨58,[24,30],λu=>fB Xc u⟩::⟨59,[],λu=>cU u v26⟩::⟨60,[32],λu=>cU u (cZ v26 dI.size 3 0)⟩::⟨61,[33],λu=>cU u (cN m3)⟩::⟨62,[],λu=>fW aJ [1,0,1,1,3,2,4] u⟩::⟨63,[],λu=>fW aJ [8,4,2] u⟩::⟨64,[],λu=>fW aJ [3] u⟩::⟨65,[],λu=>fW aJ [12,4,2] u⟩::⟨66,[],λu=>fW aJ [7] u⟩::⟨67,[35,36,37,38,39],λu=>fQ aJ [[1,0,1,1,3,2,4],[8,4,2],[3],[12,4,2],[7]] u⟩::⟨68,[40],λu=>bL (cQ [[1,0,1,1,3,2,4],[8,4,2],[3],[12,4,2],[7]]) u⟩::⟨69,[34,41],λu=>fB Xd u⟩::⟨70,[],λu=>cU u v26⟩::⟨71,[43],λu=>cU u (cZ v26 dI.size 4 0)⟩::⟨72,[44],λu=>cU u (cN m4)⟩::⟨73,[],λu=>fW aJ [1,0,1,1,3,2,4] u⟩::⟨74,[],λu=>fW aJ [8,4,2] u⟩::⟨75,[],λu=>fW aJ [3] u⟩::⟨76,[],λu=>fW aJ [13] u⟩::⟨77,[],λu=>fW aJ [8,4,2] u⟩::⟨78,[46,47,48,49,50],λu=>fQ aJ [[1,0,1,1,3,2,4],[8,4,2],[3],[13],[8,4,2]] u⟩::⟨79,[51],λu=>bL (cQ [[1,0,1,1,3,2,4],[8,4,2],[3],[13],[8,4,2]]) u⟩::⟨80,[45,52],λu=>fB Xe u⟩::⟨81,[],λu=>cU u v26⟩::⟨82,[54],λu=>cU u (cZ v26 dI.size 5 0)⟩::⟨83,[55],λu=>cU u (cN m5)⟩::⟨84,[],λu=>fW aJ [1,0,1,1,3,2,4,3,5] u⟩::⟨85,[],λu=>fW aJ [7,4,2] u⟩::⟨86,[],λu=>fW aJ [5] u⟩::⟨87,[],λu=>fW aJ [7] u⟩::⟨88,[],λu=>fW aJ [14] u⟩::⟨89,[],λu=>fW aJ [7] u⟩::⟨90,[57,58,59,60,61,62],λu=>fQ aJ [[1,0,1,1,3,2,4,3,5],[7,4,2],[5],[7],[14],[7]] u⟩::⟨91,[63],λu=>bL (cQ [[1,0,1,1,3,2,4,3,5],[7,4,2],[5],[7],[14],[7]]) u⟩::⟨92,[56,64],λu=>fB Xf u⟩::⟨93,[10,21,31,42,53,65],λu=>oz uM u⟩::[]) ((27,[])::(28,[0])::(29,[1])::(30,[])::(31,[])::(32,[])::(33,[])::(34,[])::(35,[3,4,5,6,7])::(36,[8])::(37,[2,9])::(38,[])::(39,[11])::(40,[12])::(41,[])::(42,[])::(43,[])::(44,[])::(45,[])::(46,[14,15,16,17,18])::(47,[19])::(48,[13,20])::(49,[])::(50,[22])::(51,[23])::(52,[])::(53,[])::(54,[])::(55,[])::(56,[25,26,27,28])::(57,[29])::(58,[24,30])::(59,[])::(60,[32])::(61,[33])::(62,[])::(63,[])::(64,[])::(65,[])::(66,[])::(67,[35,36,37,38,39])::(68,[40])::(69,[34,41])::(70,[])::(71,[43])::(72,[44])::(73,[])::(74,[])::(75,[])::(76,[])::(77,[])::(78,[46,47,48,49,50])::(79,[51])::(80,[45,52])::(81,[])::(82,[54])::(83,[55])::(84,[])::(85,[])::(86,[])::(87,[])::(88,[])::(89,[])::(90,[57,58,59,60,61,62])::(91,[63])::(92,[56,64])::(93,[10,21,31,42,53,65])::[]) [66] rfl rfl mixed (by kernel_rfl) (by kernel_rfl) (by rfl) (λe=>[(93,e 66)]) (λe=>[aB (oz uM (e 66))]) (λ_=>rfl) (λ_=>rfl) ?_ (λe=> ?_)
 ·refine ab.c0 (λc e d=> ?_) ?_
  ·refine St.aK ?_
   refine go ?_;refine St.fact (cU v26 v26) (λ_ _ _=>rfl) ?_;exact St.bg _
  refine ab.cc (λe=>[(27,e 0)]) (λe=>[aB (cU (e 0) v26)]) (λc e d=> ?_) ?_
  ·refine St.ao ?_
   refine St.bX (P:=prog) 27 (e 0) v26 rfl ?_;refine St.ee (Ev.cE (k:=0) (.mk rfl) (.mk rfl) iE fg (by omega) (by simp)) ?_;refine St.fact (cU (cZ v26 dI.size 0 0) (cZ v26 dI.size 0 0)) (λ_ _ _=>rfl) ?_;exact St.bg _
  refine ab.cc (λe=>[(28,e 1)]) (λe=>[aB (cU (e 1) (cZ v26 dI.size 0 0))]) (λc e d=> ?_) ?_
  ·refine St.ao ?_
   refine St.bX (P:=prog) 28 (e 1) (cZ v26 dI.size 0 0) rfl ?_;refine St.ee (Ev.js (.mk rfl) (show [m0,m1,m2,m3,m4,m5][0]?=some m0 from rfl) lZ trivial fg j7.eq) ?_;refine St.fact (cU (cN m0) (cN m0)) (λ_ _ _=>rfl) ?_;exact St.bg _
  refine ab.bi ?_ bJ dK eT;refine ab.bi ?_ bJ dK eT;refine ab.bi ?_ bJ dK eT;refine ab.bi ?_ bJ dK eT;refine ab.bi ?_ bJ dK eT;refine ab.bw ?_ fH fD kJ (λ_=>(.Al rfl rfl rfl rfl rfl));refine ab.cc (λe=>[(35,e 8)]) (λe=>[aB (fQ aJ [[1,0,1,1,2,2,4],[6],[7,4,3],[3],[8,4,3]] (e 8))]) (λc e d=> ?_) ?_
  ·refine St.ao ?_
   refine St.ae (gP (e 8) [[1,0,1,1,2,2,4],[6],[7,4,3],[3],[8,4,3]] (by decide) (by decide)) E7 (.ar rfl) rfl ?_;rintro v36 _ rfl;refine St.ao ?_;exact St.bg _
  refine ab.cc (λe=>[(29,e 2),(36,e 9)]) (λe=>[aB (cU (e 2) (cN m0)),aB (bL (cQ [[1,0,1,1,2,2,4],[6],[7,4,3],[3],[8,4,3]]) (e 9))]) (λc e d=> ?_) ?_
  ·refine St.dQ ?_
   refine St.bX (P:=prog) 29 (e 2) (cN m0) rfl ?_;refine St.bL (cQ [[1,0,1,1,2,2,4],[6],[7,4,3],[3],[8,4,3]]) (e 9) (λy hy=> ?_);obtain⟨s,t⟩:=hy;rw[s];refine St.ee (Ev.build (bH.gY rfl rfl rfl rfl) (λw=>qC rfl rfl w)) ?_;refine St.ea (fB Xa (ru (⟨[115],y,2,0,m0⟩:ca))) [aG y,cm m0] (λρ h=>⟨(⟨[115],y,2,0,m0⟩:ca),rfl,by show(⟨_,ax y,_,_,dH m0⟩:sm)=_;rw[t,NZ],⟨(show nB [115] by decide),(show aa 2 by unfold aa;decide),(show aa 0 by unfold aa;decide),ajU⟩,h⟩) ?_;exact St.bg _
  refine ab.c0 (λc e d=> ?_) ?_
  ·refine St.aK ?_
   refine go ?_;refine St.fact (cU v26 v26) (λ_ _ _=>rfl) ?_;exact St.bg _
  refine ab.cc (λe=>[(38,e 11)]) (λe=>[aB (cU (e 11) v26)]) (λc e d=> ?_) ?_
  ·refine St.ao ?_
   refine St.bX (P:=prog) 38 (e 11) v26 rfl ?_;refine St.ee (Ev.cE (k:=1) (.mk rfl) (.mk rfl) iE fg (by omega) (by simp)) ?_;refine St.fact (cU (cZ v26 dI.size 1 0) (cZ v26 dI.size 1 0)) (λ_ _ _=>rfl) ?_;exact St.bg _
  refine ab.cc (λe=>[(39,e 12)]) (λe=>[aB (cU (e 12) (cZ v26 dI.size 1 0))]) (λc e d=> ?_) ?_
  ·refine St.ao ?_
   refine St.bX (P:=prog) 39 (e 12) (cZ v26 dI.size 1 0) rfl ?_;refine St.ee (Ev.js (.mk rfl) (show [m0,m1,m2,m3,m4,m5][1]?=some m1 from rfl) lZ trivial fg j7.eq) ?_;refine St.fact (cU (cN m1) (cN m1)) (λ_ _ _=>rfl) ?_;exact St.bg _
  refine ab.bi ?_ bJ dK eT;refine ab.bi ?_ bJ dK eT;refine ab.bi ?_ bJ dK eT;refine ab.bi ?_ bJ dK eT;refine ab.bi ?_ bJ dK eT;refine ab.bw ?_ fH fD kJ (λ_=>(.Al rfl rfl rfl rfl rfl));refine ab.cc (λe=>[(46,e 19)]) (λe=>[aB (fQ aJ [[1,0,1,1,3,2,4],[7,4,2],[3],[10,4,2],[9,4,2]] (e 19))]) (λc e d=> ?_) ?_
  ·refine St.ao ?_
   refine St.ae (gP (e 19) [[1,0,1,1,3,2,4],[7,4,2],[3],[10,4,2],[9,4,2]] (by decide) (by decide)) E7 (.ar rfl) rfl ?_;rintro v47 _ rfl;refine St.ao ?_;exact St.bg _
  refine ab.cc (λe=>[(40,e 13),(47,e 20)]) (λe=>[aB (cU (e 13) (cN m1)),aB (bL (cQ [[1,0,1,1,3,2,4],[7,4,2],[3],[10,4,2],[9,4,2]]) (e 20))]) (λc e d=> ?_) ?_
  ·refine St.dQ ?_
   refine St.bX (P:=prog) 40 (e 13) (cN m1) rfl ?_;refine St.bL (cQ [[1,0,1,1,3,2,4],[7,4,2],[3],[10,4,2],[9,4,2]]) (e 20) (λy hy=> ?_);obtain⟨s,t⟩:=hy;rw[s];refine St.ee (Ev.build (bH.Al rfl rfl rfl rfl rfl) (λw=>j9 rfl rfl rfl w)) ?_;refine St.ea (fB Xb (ru (⟨[110,112],y,2,1,m1⟩:ca))) [aG y,cm m1] (λρ h=>⟨(⟨[110,112],y,2,1,m1⟩:ca),rfl,by show(⟨_,ax y,_,_,dH m1⟩:sm)=_;rw[t,hm1],⟨(show nB [110,112] by decide),(show aa 2 by unfold aa;decide),(show aa 1 by unfold aa;decide),ajV⟩,h⟩) ?_;exact St.bg _
  refine ab.c0 (λc e d=> ?_) ?_
  ·refine St.aK ?_
   refine go ?_;refine St.fact (cU v26 v26) (λ_ _ _=>rfl) ?_;exact St.bg _
  refine ab.cc (λe=>[(49,e 22)]) (λe=>[aB (cU (e 22) v26)]) (λc e d=> ?_) ?_
  ·refine St.ao ?_
   refine St.bX (P:=prog) 49 (e 22) v26 rfl ?_;refine St.ee (Ev.cE (k:=2) (.mk rfl) (.mk rfl) iE fg (by omega) (by simp)) ?_;refine St.fact (cU (cZ v26 dI.size 2 0) (cZ v26 dI.size 2 0)) (λ_ _ _=>rfl) ?_;exact St.bg _
  refine ab.cc (λe=>[(50,e 23)]) (λe=>[aB (cU (e 23) (cZ v26 dI.size 2 0))]) (λc e d=> ?_) ?_
  ·refine St.ao ?_
   refine St.bX (P:=prog) 50 (e 23) (cZ v26 dI.size 2 0) rfl ?_;refine St.ee (Ev.js (.mk rfl) (show [m0,m1,m2,m3,m4,m5][2]?=some m2 from rfl) lZ trivial fg j7.eq) ?_;refine St.fact (cU (cN m2) (cN m2)) (λ_ _ _=>rfl) ?_;exact St.bg _
  refine ab.bi ?_ bJ dK eT;refine ab.bi ?_ bJ dK eT;refine ab.bi ?_ bJ dK eT;refine ab.bi ?_ bJ dK eT;refine ab.bw ?_ fH fD kJ (λ_=>(.gY rfl rfl rfl rfl));refine ab.cc (λe=>[(56,e 29)]) (λe=>[aB (fQ aJ [[1,0,1,1,3],[8,4,2],[3],[11,4,2]] (e 29))]) (λc e d=> ?_) ?_
  ·refine St.ao ?_
   refine St.ae (gP (e 29) [[1,0,1,1,3],[8,4,2],[3],[11,4,2]] (by decide) (by decide)) E7 (.ar rfl) rfl ?_;rintro v57 _ rfl;refine St.ao ?_;exact St.bg _
  refine ab.cc (λe=>[(51,e 24),(57,e 30)]) (λe=>[aB (cU (e 24) (cN m2)),aB (bL (cQ [[1,0,1,1,3],[8,4,2],[3],[11,4,2]]) (e 30))]) (λc e d=> ?_) ?_
  ·refine St.dQ ?_
   refine St.bX (P:=prog) 51 (e 24) (cN m2) rfl ?_;refine St.bL (cQ [[1,0,1,1,3],[8,4,2],[3],[11,4,2]]) (e 30) (λy hy=> ?_);obtain⟨s,t⟩:=hy;rw[s];refine St.ee (Ev.build (bH.gY rfl rfl rfl rfl) (λw=>qC rfl rfl w)) ?_;refine St.ea (fB Xc (ru (⟨[118,112,45,105,118],y,1,0,m2⟩:ca))) [aG y,cm m2] (λρ h=>⟨(⟨[118,112,45,105,118],y,1,0,m2⟩:ca),rfl,by show(⟨_,ax y,_,_,dH m2⟩:sm)=_;rw[t,hm2],⟨(show nB [118,112,45,105,118] by decide),(show aa 1 by unfold aa;decide),(show aa 0 by unfold aa;decide),ajW⟩,h⟩) ?_;exact St.bg _
  refine ab.c0 (λc e d=> ?_) ?_
  ·refine St.aK ?_
   refine go ?_;refine St.fact (cU v26 v26) (λ_ _ _=>rfl) ?_;exact St.bg _
  refine ab.cc (λe=>[(59,e 32)]) (λe=>[aB (cU (e 32) v26)]) (λc e d=> ?_) ?_
  ·refine St.ao ?_
   refine St.bX (P:=prog) 59 (e 32) v26 rfl ?_;refine St.ee (Ev.cE (k:=3) (.mk rfl) (.mk rfl) iE fg (by omega) (by simp)) ?_;refine St.fact (cU (cZ v26 dI.size 3 0) (cZ v26 dI.size 3 0)) (λ_ _ _=>rfl) ?_;exact St.bg _
  refine ab.cc (λe=>[(60,e 33)]) (λe=>[aB (cU (e 33) (cZ v26 dI.size 3 0))]) (λc e d=> ?_) ?_
  ·refine St.ao ?_
   refine St.bX (P:=prog) 60 (e 33) (cZ v26 dI.size 3 0) rfl ?_;refine St.ee (Ev.js (.mk rfl) (show [m0,m1,m2,m3,m4,m5][3]?=some m3 from rfl) lZ trivial fg j7.eq) ?_;refine St.fact (cU (cN m3) (cN m3)) (λ_ _ _=>rfl) ?_;exact St.bg _
  refine ab.bi ?_ bJ dK eT;refine ab.bi ?_ bJ dK eT;refine ab.bi ?_ bJ dK eT;refine ab.bi ?_ bJ dK eT;refine ab.bi ?_ bJ dK eT;refine ab.bw ?_ fH fD kJ (λ_=>(.Al rfl rfl rfl rfl rfl));refine ab.cc (λe=>[(67,e 40)]) (λe=>[aB (fQ aJ [[1,0,1,1,3,2,4],[8,4,2],[3],[12,4,2],[7]] (e 40))]) (λc e d=> ?_) ?_
  ·refine St.ao ?_
   refine St.ae (gP (e 40) [[1,0,1,1,3,2,4],[8,4,2],[3],[12,4,2],[7]] (by decide) (by decide)) E7 (.ar rfl) rfl ?_;rintro v68 _ rfl;refine St.ao ?_;exact St.bg _
  refine ab.cc (λe=>[(61,e 34),(68,e 41)]) (λe=>[aB (cU (e 34) (cN m3)),aB (bL (cQ [[1,0,1,1,3,2,4],[8,4,2],[3],[12,4,2],[7]]) (e 41))]) (λc e d=> ?_) ?_
  ·refine St.dQ ?_
   refine St.bX (P:=prog) 61 (e 34) (cN m3) rfl ?_;refine St.bL (cQ [[1,0,1,1,3,2,4],[8,4,2],[3],[12,4,2],[7]]) (e 41) (λy hy=> ?_);obtain⟨s,t⟩:=hy;rw[s];refine St.ee (Ev.build (bH.Al rfl rfl rfl rfl rfl) (λw=>j9 rfl rfl rfl w)) ?_;refine St.ea (fB Xd (ru (⟨[118,112,45,116,118],y,2,2,m3⟩:ca))) [aG y,cm m3] (λρ h=>⟨(⟨[118,112,45,116,118],y,2,2,m3⟩:ca),rfl,by show(⟨_,ax y,_,_,dH m3⟩:sm)=_;rw[t,hm3],⟨(show nB [118,112,45,116,118] by decide),(show aa 2 by unfold aa;decide),(show aa 2 by unfold aa;decide),ajX⟩,h⟩) ?_;exact St.bg _
  refine ab.c0 (λc e d=> ?_) ?_
  ·refine St.aK ?_
   refine go ?_;refine St.fact (cU v26 v26) (λ_ _ _=>rfl) ?_;exact St.bg _
  refine ab.cc (λe=>[(70,e 43)]) (λe=>[aB (cU (e 43) v26)]) (λc e d=> ?_) ?_
  ·refine St.ao ?_
   refine St.bX (P:=prog) 70 (e 43) v26 rfl ?_;refine St.ee (Ev.cE (k:=4) (.mk rfl) (.mk rfl) iE fg (by omega) (by simp)) ?_;refine St.fact (cU (cZ v26 dI.size 4 0) (cZ v26 dI.size 4 0)) (λ_ _ _=>rfl) ?_;exact St.bg _
  refine ab.cc (λe=>[(71,e 44)]) (λe=>[aB (cU (e 44) (cZ v26 dI.size 4 0))]) (λc e d=> ?_) ?_
  ·refine St.ao ?_
   refine St.bX (P:=prog) 71 (e 44) (cZ v26 dI.size 4 0) rfl ?_;refine St.ee (Ev.js (.mk rfl) (show [m0,m1,m2,m3,m4,m5][4]?=some m4 from rfl) lZ trivial fg j7.eq) ?_;refine St.fact (cU (cN m4) (cN m4)) (λ_ _ _=>rfl) ?_;exact St.bg _
  refine ab.bi ?_ bJ dK eT;refine ab.bi ?_ bJ dK eT;refine ab.bi ?_ bJ dK eT;refine ab.bi ?_ bJ dK eT;refine ab.bi ?_ bJ dK eT;refine ab.bw ?_ fH fD kJ (λ_=>(.Al rfl rfl rfl rfl rfl));refine ab.cc (λe=>[(78,e 51)]) (λe=>[aB (fQ aJ [[1,0,1,1,3,2,4],[8,4,2],[3],[13],[8,4,2]] (e 51))]) (λc e d=> ?_) ?_
  ·refine St.ao ?_
   refine St.ae (gP (e 51) [[1,0,1,1,3,2,4],[8,4,2],[3],[13],[8,4,2]] (by decide) (by decide)) E7 (.ar rfl) rfl ?_;rintro v79 _ rfl;refine St.ao ?_;exact St.bg _
  refine ab.cc (λe=>[(72,e 45),(79,e 52)]) (λe=>[aB (cU (e 45) (cN m4)),aB (bL (cQ [[1,0,1,1,3,2,4],[8,4,2],[3],[13],[8,4,2]]) (e 52))]) (λc e d=> ?_) ?_
  ·refine St.dQ ?_
   refine St.bX (P:=prog) 72 (e 45) (cN m4) rfl ?_;refine St.bL (cQ [[1,0,1,1,3,2,4],[8,4,2],[3],[13],[8,4,2]]) (e 52) (λy hy=> ?_);obtain⟨s,t⟩:=hy;rw[s];refine St.ee (Ev.build (bH.Al rfl rfl rfl rfl rfl) (λw=>j9 rfl rfl rfl w)) ?_;refine St.ea (fB Xe (ru (⟨[118,112,45,110,111,116],y,2,3,m4⟩:ca))) [aG y,cm m4] (λρ h=>⟨(⟨[118,112,45,110,111,116],y,2,3,m4⟩:ca),rfl,by show(⟨_,ax y,_,_,dH m4⟩:sm)=_;rw[t,hm4],⟨(show nB [118,112,45,110,111,116] by decide),(show aa 2 by unfold aa;decide),(show aa 3 by unfold aa;decide),ajY⟩,h⟩) ?_;exact St.bg _
  refine ab.c0 (λc e d=> ?_) ?_
  ·refine St.aK ?_
   refine go ?_;refine St.fact (cU v26 v26) (λ_ _ _=>rfl) ?_;exact St.bg _
  refine ab.cc (λe=>[(81,e 54)]) (λe=>[aB (cU (e 54) v26)]) (λc e d=> ?_) ?_
  ·refine St.ao ?_
   refine St.bX (P:=prog) 81 (e 54) v26 rfl ?_;refine St.ee (Ev.cE (k:=5) (.mk rfl) (.mk rfl) iE fg (by omega) (by simp)) ?_;refine St.fact (cU (cZ v26 dI.size 5 0) (cZ v26 dI.size 5 0)) (λ_ _ _=>rfl) ?_;exact St.bg _
  refine ab.cc (λe=>[(82,e 55)]) (λe=>[aB (cU (e 55) (cZ v26 dI.size 5 0))]) (λc e d=> ?_) ?_
  ·refine St.ao ?_
   refine St.bX (P:=prog) 82 (e 55) (cZ v26 dI.size 5 0) rfl ?_;refine St.ee (Ev.js (.mk rfl) (show [m0,m1,m2,m3,m4,m5][5]?=some m5 from rfl) lZ trivial fg j7.eq) ?_;refine St.fact (cU (cN m5) (cN m5)) (λ_ _ _=>rfl) ?_;exact St.bg _
  refine ab.bi ?_ bJ dK eT;refine ab.bi ?_ bJ dK eT;refine ab.bi ?_ bJ dK eT;refine ab.bi ?_ bJ dK eT;refine ab.bi ?_ bJ dK eT;refine ab.bi ?_ bJ dK eT;refine ab.bw ?_ fH fD kJ (λ_=>(.XN rfl rfl rfl rfl rfl rfl));refine ab.cc (λe=>[(90,e 63)]) (λe=>[aB (fQ aJ [[1,0,1,1,3,2,4,3,5],[7,4,2],[5],[7],[14],[7]] (e 63))]) (λc e d=> ?_) ?_
  ·refine St.ao ?_
   refine St.ae (gP (e 63) [[1,0,1,1,3,2,4,3,5],[7,4,2],[5],[7],[14],[7]] (by decide) (by decide)) E7 (.ar rfl) rfl ?_;rintro v91 _ rfl;refine St.ao ?_;exact St.bg _
  refine ab.cc (λe=>[(83,e 56),(91,e 64)]) (λe=>[aB (cU (e 56) (cN m5)),aB (bL (cQ [[1,0,1,1,3,2,4,3,5],[7,4,2],[5],[7],[14],[7]]) (e 64))]) (λc e d=> ?_) ?_
  ·refine St.dQ ?_
   refine St.bX (P:=prog) 83 (e 56) (cN m5) rfl ?_;refine St.bL (cQ [[1,0,1,1,3,2,4,3,5],[7,4,2],[5],[7],[14],[7]]) (e 64) (λy hy=> ?_);obtain⟨s,t⟩:=hy;rw[s];refine St.ee (Ev.build (bH.Al rfl rfl rfl rfl rfl) (λw=>j9 rfl rfl rfl w)) ?_;refine St.ea (fB Xf (ru (⟨[110,112,45,97,110,100],y,3,4,m5⟩:ca))) [aG y,cm m5] (λρ h=>⟨(⟨[110,112,45,97,110,100],y,3,4,m5⟩:ca),rfl,by show(⟨_,ax y,_,_,dH m5⟩:sm)=_;rw[t,hm5],⟨(show nB [110,112,45,97,110,100] by decide),(show aa 3 by unfold aa;decide),(show aa 4 by unfold aa;decide),ajZ⟩,h⟩) ?_;exact St.bg _
  refine ab.cc (λe=>[(37,e 10),(48,e 21),(58,e 31),(69,e 42),(80,e 53),(92,e 65)]) (λe=>[aB (fB Xa (e 10)),aB (fB Xb (e 21)),aB (fB Xc (e 31)),aB (fB Xd (e 42)),aB (fB Xe (e 53)),aB (fB Xf (e 65))]) (λc e d=> ?_) ?_
  ·refine St.Qs ?_
   refine St.fB Xa (e 10) (λz aj5=> ?_);obtain⟨acA,ab9,acB⟩:=aj5;rw[acA];refine St.fB Xb (e 21) (λA aj6=> ?_);obtain⟨acD,acC,acF⟩:=aj6;rw[acD];refine St.fB Xc (e 31) (λB aj7=> ?_);obtain⟨acH,acG,acI⟩:=aj7;rw[acH];refine St.fB Xd (e 42) (λC aj8=> ?_);obtain⟨acK,acJ,acL⟩:=aj8;rw[acK];refine St.fB Xe (e 53) (λD aj9=> ?_);obtain⟨acN,acM,acO⟩:=aj9;rw[acN];refine St.fB Xf (e 65) (λE akA=> ?_);obtain⟨acQ,acP,acR⟩:=akA;rw[acQ];refine St.gV rfl (.XN rfl rfl rfl rfl rfl rfl) Pk kV afK rfl rfl (by simp[Value.cells,J.cells_one z.graph.nv.2,J.cells_one z.ew.type.av.2,J.cells_one z.ew.av.2,J.cells_one A.graph.nv.2,J.cells_one A.ew.type.av.2,J.cells_one A.ew.av.2,J.cells_one B.graph.nv.2,J.cells_one B.ew.type.av.2,J.cells_one B.ew.av.2,J.cells_one C.graph.nv.2,J.cells_one C.ew.type.av.2,J.cells_one C.ew.av.2,J.cells_one D.graph.nv.2,J.cells_one D.ew.type.av.2,J.cells_one D.ew.av.2,J.cells_one E.graph.nv.2,J.cells_one E.ew.type.av.2,J.cells_one E.ew.av.2]) rfl rfl (λH=> ?_);refine St.bS (.slice (some ⟨H,0,none⟩) 6 6) cT [z,A,B,C,D,E] rfl rfl (all_cons acB (all_cons acF (all_cons acI (all_cons acL (all_cons acO (all_cons acR (all_nil))))))) ?_;refine Il bz [z,A,B,C,D,E] [bz z,bz A,bz B,bz C,bz D,bz E] rfl ?_;refine St.ea (oz uM (.slice (some ⟨H,0,none⟩) 6 6)) [sl cT (.slice (some ⟨H,0,none⟩) 6 6) [z,A,B,C,D,E],aF bz [z,A,B,C,D,E]] (λρ h=>⟨rfl,[z,A,B,C,D,E],by simp only[List.map_cons,List.map_nil,ab9,acC,acG,acJ,acM,acP];rfl,h (sl cT (.slice (some ⟨H,0,none⟩) 6 6) [z,A,B,C,D,E]) (by simp),h (aF bz [z,A,B,C,D,E]) (by simp)⟩) ?_;exact St.bg _
  exact ab.nil
 refine St.ao ?_;refine St.oz uM (e 66) (λj akB=> ?_);obtain⟨L,acT⟩:=akB
 generalize e 66=rv at L⊢
 refine St.dw 115 9 ?_;refine St.aM (.slice none 0 0) (show _=([]:List eZ).length from rfl) (show _=rows e7 []from rfl) ?_;refine St.dN eR ?_
 obtain⟨X0,I⟩:∃X:List eZ,X=[]:=⟨_,rfl⟩
 rw[←I]
 have Q:∀x∈X0,e7.wf x:=by rw[I];exact λx hx=>by cases hx
 have aiD:X0.map oe=rB.take 0:=by rw[I];rfl
 have aiF:Value.oneCell' (.slice none 0 0)=true:=rfl
 have aiE:X0.length=0:=by rw[I];rfl
 refine go ?_;refine St.cI (.mk rfl) (.mk rfl) alT L (by rfl) ?_;refine g4 ?_;refine St.ee (Ev.func (.ar rfl)) ?_;refine g6 ?_;refine St.ae (lO [97,108,108] [105,102] false (by decide) (by decide)) Vt (.ek rfl rfl rfl) rfl ?_;rintro v97 _ rfl;refine St.ao ?_;refine St.bi [10,4,1] (λb98=> ?_) bJ dK eT;refine St.bi [4] (λb99=> ?_) bJ dK eT;refine St.bw [.slice (some ⟨b98,0,none⟩) 3 3,.slice (some ⟨b99,0,none⟩) 1 1] [[10,4,1],[4]] (λafO=> ?_) fH fD kJ (.aX rfl rfl);refine St.ei (eJ a tv.1 (.slice (some ⟨b,0,none⟩) 5 5) rv (.slice none 0 0) (.slice none 0 0) X0 [101,118,101,114,121] 1 v97 (.slice (some ⟨afO,0,none⟩) 2 2) (mZ [97,108,108] [105,102] false) [[10,4,1],[4]] (by decide) (by unfold aa;decide) aiF (by omega) Q (by decide) (by decide)) ng (.mk rfl) (.gY rfl rfl rfl rfl) rfl ?_;rintro alZ _ ⟨w1,x1,rfl,aiS,akJ,akK,rfl⟩;refine St.iQ ?_;obtain⟨X1,hX1,R,aiQ,aiR⟩:=fE Q aiD aiE akJ akK;rw[←hX1];refine St.skk (smK m n o p q a b tv ts rv j i g f l w1 X1) ?_;refine g5 ?_;refine St.ae (lO [115,111,109,101] [97,110,100] false (by decide) (by decide)) Vt (.ek rfl rfl rfl) rfl ?_;rintro al0 _ rfl;refine St.ao ?_;refine St.bi [10,4,1] (λYq=> ?_) bJ dK eT;refine St.bi [4] (λafP=> ?_) bJ dK eT;refine St.bw [.slice (some ⟨Yq,0,none⟩) 3 3,.slice (some ⟨afP,0,none⟩) 1 1] [[10,4,1],[4]] (λafQ=> ?_) fH fD kJ (.aX rfl rfl);refine St.ei (eJ a tv.1 (.slice (some ⟨b,0,none⟩) 5 5) rv (.slice none 0 0) w1 X1 [97] 0 al0 (.slice (some ⟨afQ,0,none⟩) 2 2) (mZ [115,111,109,101] [97,110,100] false) [[10,4,1],[4]] (by decide) (by unfold aa;decide) aiS (by omega) R (by decide) (by decide)) ng (.mk rfl) (.gY rfl rfl rfl rfl) rfl ?_;rintro v107 _ ⟨w2,x2,rfl,aiX,akL,akM,rfl⟩;refine St.iQ ?_;obtain⟨X2,hX2,S,aiV,aiW⟩:=fE R aiQ aiR akL akM;rw[←hX2];refine St.skk (smK m n o p q a b tv ts rv j i g f l w2 X2) ?_;refine g5 ?_;refine St.ae (lO [115,111,109,101] [97,110,100] true (by decide) (by decide)) Vt (.ek rfl rfl rfl) rfl ?_;rintro v109 _ rfl;refine St.ao ?_;refine St.bi [10] (λYr=> ?_) bJ dK eT;refine St.bw [.slice (some ⟨Yr,0,none⟩) 1 1] [[10]] (λafS=> ?_) fH fD kJ (.ar rfl);refine St.ei (eJ a tv.1 (.slice (some ⟨b,0,none⟩) 5 5) rv (.slice none 0 0) w2 X2 [110,111] 2 v109 (.slice (some ⟨afS,0,none⟩) 1 1) (mZ [115,111,109,101] [97,110,100] true) [[10]] (by decide) (by unfold aa;decide) aiX (by omega) S (by decide) (by decide)) ng (.mk rfl) (.gY rfl rfl rfl rfl) rfl ?_;rintro an6 _ ⟨w3,x3,rfl,ai0,akN,akO,rfl⟩;refine St.iQ ?_;obtain⟨X3,hX3,T,aiY,aiZ⟩:=fE S aiV aiW akN akO;rw[←hX3];refine St.skk (smK m n o p q a b tv ts rv j i g f l w3 X3) ?_;refine g6 ?_;refine St.ae (eL [100,111,103] (by decide) (aU f) (an (.mk [101] []) (.mk [116] []))) nh (.aX rfl rfl) rfl ?_;rintro al1 _ rfl;refine St.ao ?_;refine St.bi [9,4,1] (λafT=> ?_) bJ dK eT;refine St.bi [4] (λafU=> ?_) bJ dK eT;refine St.bw [.slice (some ⟨afT,0,none⟩) 3 3,.slice (some ⟨afU,0,none⟩) 1 1] [[9,4,1],[4]] (λYs=> ?_) fH fD kJ (.aX rfl rfl);refine St.ei (eJ a tv.1 (.slice (some ⟨b,0,none⟩) 5 5) rv (.slice none 0 0) w3 X3 [100,111,103] 0 al1 (.slice (some ⟨Ys,0,none⟩) 2 2) (bV [100,111,103] (an (.mk [101] []) (.mk [116] []))) [[9,4,1],[4]] (by decide) (by unfold aa;decide) ai0 (by omega) T (by decide) (by decide)) ng (.mk rfl) (.gY rfl rfl rfl rfl) rfl ?_;rintro Tj _ ⟨w4,x4,rfl,ai3,akP,akQ,rfl⟩;refine St.iQ ?_;obtain⟨X4,hX4,U,ai1,ai2⟩:=fE T aiY aiZ akP akQ;rw[←hX4];refine St.skk (smK m n o p q a b tv ts rv j i g f l w4 X4) ?_;refine g6 ?_;refine St.ae (eL [100,111,103] (by decide) (aU f) (an (.mk [101] []) (.mk [116] []))) nh (.aX rfl rfl) rfl ?_;rintro al3 _ rfl;refine St.ao ?_;refine St.bi [9,4,1] (λafV=> ?_) bJ dK eT;refine St.bi [5] (λYt=> ?_) bJ dK eT;refine St.bw [.slice (some ⟨afV,0,none⟩) 3 3,.slice (some ⟨Yt,0,none⟩) 1 1] [[9,4,1],[5]] (λafW=> ?_) fH fD kJ (.aX rfl rfl);refine St.ei (eJ a tv.1 (.slice (some ⟨b,0,none⟩) 5 5) rv (.slice none 0 0) w4 X4 [100,111,103,115] 0 al3 (.slice (some ⟨afW,0,none⟩) 2 2) (bV [100,111,103] (an (.mk [101] []) (.mk [116] []))) [[9,4,1],[5]] (by decide) (by unfold aa;decide) ai3 (by omega) U (by decide) (by decide)) ng (.mk rfl) (.gY rfl rfl rfl rfl) rfl ?_;rintro aoA _ ⟨w5,x5,rfl,ai6,akR,akS,rfl⟩;refine St.iQ ?_;obtain⟨X5,hX5,V,ai4,ai5⟩:=fE U ai1 ai2 akR akS;rw[←hX5];refine St.skk (smK m n o p q a b tv ts rv j i g f l w5 X5) ?_;refine g6 ?_;refine St.ae (eL [99,97,116] (by decide) (aU f) (an (.mk [101] []) (.mk [116] []))) nh (.aX rfl rfl) rfl ?_;rintro al4 _ rfl;refine St.ao ?_;refine St.bi [9,4,1] (λafY=> ?_) bJ dK eT;refine St.bi [4] (λafZ=> ?_) bJ dK eT;refine St.bw [.slice (some ⟨afY,0,none⟩) 3 3,.slice (some ⟨afZ,0,none⟩) 1 1] [[9,4,1],[4]] (λaf1=> ?_) fH fD kJ (.aX rfl rfl);refine St.ei (eJ a tv.1 (.slice (some ⟨b,0,none⟩) 5 5) rv (.slice none 0 0) w5 X5 [99,97,116] 0 al4 (.slice (some ⟨af1,0,none⟩) 2 2) (bV [99,97,116] (an (.mk [101] []) (.mk [116] []))) [[9,4,1],[4]] (by decide) (by unfold aa;decide) ai6 (by omega) V (by decide) (by decide)) ng (.mk rfl) (.gY rfl rfl rfl rfl) rfl ?_;rintro aoB _ ⟨w6,x6,rfl,ai9,akT,akU,rfl⟩;refine St.iQ ?_;obtain⟨X6,hX6,W,ai7,ai8⟩:=fE V ai4 ai5 akT akU;rw[←hX6];refine St.skk (smK m n o p q a b tv ts rv j i g f l w6 X6) ?_;refine g6 ?_;refine St.ae (eL [99,97,116] (by decide) (aU f) (an (.mk [101] []) (.mk [116] []))) nh (.aX rfl rfl) rfl ?_;rintro al6 _ rfl;refine St.ao ?_;refine St.bi [9,4,1] (λaf2=> ?_) bJ dK eT;refine St.bi [5] (λaf3=> ?_) bJ dK eT;refine St.bw [.slice (some ⟨af2,0,none⟩) 3 3,.slice (some ⟨af3,0,none⟩) 1 1] [[9,4,1],[5]] (λCS=> ?_) fH fD kJ (.aX rfl rfl);refine St.ei (eJ a tv.1 (.slice (some ⟨b,0,none⟩) 5 5) rv (.slice none 0 0) w6 X6 [99,97,116,115] 0 al6 (.slice (some ⟨CS,0,none⟩) 2 2) (bV [99,97,116] (an (.mk [101] []) (.mk [116] []))) [[9,4,1],[5]] (by decide) (by unfold aa;decide) ai9 (by omega) W (by decide) (by decide)) ng (.mk rfl) (.gY rfl rfl rfl rfl) rfl ?_;rintro aoC _ ⟨w7,x7,rfl,ajC,akV,akW,rfl⟩;refine St.iQ ?_;obtain⟨X7,hX7,Y,ajA,ajB⟩:=fE W ai7 ai8 akV akW;rw[←hX7];refine St.skk (smK m n o p q a b tv ts rv j i g f l w7 X7) ?_;refine g6 ?_;refine St.ae (eL [102,105,115,104] (by decide) (aU f) (an (.mk [101] []) (.mk [116] []))) nh (.aX rfl rfl) rfl ?_;rintro v143 _ rfl;refine St.ao ?_;refine St.bi [9,4,1] (λaf4=> ?_) bJ dK eT;refine St.bi [4] (λaf5=> ?_) bJ dK eT;refine St.bw [.slice (some ⟨af4,0,none⟩) 3 3,.slice (some ⟨af5,0,none⟩) 1 1] [[9,4,1],[4]] (λaf6=> ?_) fH fD kJ (.aX rfl rfl);refine St.ei (eJ a tv.1 (.slice (some ⟨b,0,none⟩) 5 5) rv (.slice none 0 0) w7 X7 [102,105,115,104] 1 v143 (.slice (some ⟨af6,0,none⟩) 2 2) (bV [102,105,115,104] (an (.mk [101] []) (.mk [116] []))) [[9,4,1],[4]] (by decide) (by unfold aa;decide) ajC (by omega) Y (by decide) (by decide)) ng (.mk rfl) (.gY rfl rfl rfl rfl) rfl ?_;rintro aoE _ ⟨w8,x8,rfl,ajF,akX,akY,rfl⟩;refine St.iQ ?_;obtain⟨X8,hX8,Z,ajD,ajE⟩:=fE Y ajA ajB akX akY;rw[←hX8];refine St.skk (smK m n o p q a b tv ts rv j i g f l w8 X8) ?_;refine g6 ?_;refine St.ae (eL [102,105,115,104] (by decide) (aU f) (an (.mk [101] []) (.mk [116] []))) nh (.aX rfl rfl) rfl ?_;rintro Q1 _ rfl;refine St.ao ?_;refine St.bi [9,4,1] (λaf7=> ?_) bJ dK eT;refine St.bi [5] (λaf8=> ?_) bJ dK eT;refine St.bw [.slice (some ⟨af7,0,none⟩) 3 3,.slice (some ⟨af8,0,none⟩) 1 1] [[9,4,1],[5]] (λaf9=> ?_) fH fD kJ (.aX rfl rfl);refine St.ei (eJ a tv.1 (.slice (some ⟨b,0,none⟩) 5 5) rv (.slice none 0 0) w8 X8 [102,105,115,104] 2 Q1 (.slice (some ⟨af9,0,none⟩) 2 2) (bV [102,105,115,104] (an (.mk [101] []) (.mk [116] []))) [[9,4,1],[5]] (by decide) (by unfold aa;decide) ajF (by omega) Z (by decide) (by decide)) ng (.mk rfl) (.gY rfl rfl rfl rfl) rfl ?_;rintro v154 _ ⟨w9,x9,rfl,ajI,akZ,ak0,rfl⟩;refine St.iQ ?_;obtain⟨X9,hX9,abL,ajG,ajH⟩:=fE Z ajD ajE akZ ak0;rw[←hX9];refine St.skk (smK m n o p q a b tv ts rv j i g f l w9 X9) ?_;refine g6 ?_;refine St.ae (eL [98,97,114,107] (by decide) (aU f) (an (.mk [101] []) (.mk [116] []))) nh (.aX rfl rfl) rfl ?_;rintro v157 _ rfl;refine St.ao ?_;refine St.bi [11,4,1] (λagA=> ?_) bJ dK eT;refine St.bi [4] (λagB=> ?_) bJ dK eT;refine St.bw [.slice (some ⟨agA,0,none⟩) 3 3,.slice (some ⟨agB,0,none⟩) 1 1] [[11,4,1],[4]] (λYv=> ?_) fH fD kJ (.aX rfl rfl);refine St.ei (eJ a tv.1 (.slice (some ⟨b,0,none⟩) 5 5) rv (.slice none 0 0) w9 X9 [98,97,114,107,115] 0 v157 (.slice (some ⟨Yv,0,none⟩) 2 2) (bV [98,97,114,107] (an (.mk [101] []) (.mk [116] []))) [[11,4,1],[4]] (by decide) (by unfold aa;decide) ajI (by omega) abL (by decide) (by decide)) ng (.mk rfl) (.gY rfl rfl rfl rfl) rfl ?_;rintro Tk _ ⟨w10,x10,rfl,aaN,ac7,ac8,rfl⟩;refine St.iQ ?_;obtain⟨X10,aiG,UP,aaL,aaM⟩:=fE abL ajG ajH ac7 ac8;rw[←aiG];refine St.skk (smK m n o p q a b tv ts rv j i g f l w10 X10) ?_;refine g6 ?_;refine St.ae (eL [98,97,114,107] (by decide) (aU f) (an (.mk [101] []) (.mk [116] []))) nh (.aX rfl rfl) rfl ?_;rintro v164 _ rfl;refine St.ao ?_;refine St.bi [11,4,1] (λagC=> ?_) bJ dK eT;refine St.bi [5] (λagD=> ?_) bJ dK eT;refine St.bw [.slice (some ⟨agC,0,none⟩) 3 3,.slice (some ⟨agD,0,none⟩) 1 1] [[11,4,1],[5]] (λKM=> ?_) fH fD kJ (.aX rfl rfl);refine St.ei (eJ a tv.1 (.slice (some ⟨b,0,none⟩) 5 5) rv (.slice none 0 0) w10 X10 [98,97,114,107] 0 v164 (.slice (some ⟨KM,0,none⟩) 2 2) (bV [98,97,114,107] (an (.mk [101] []) (.mk [116] []))) [[11,4,1],[5]] (by decide) (by unfold aa;decide) aaN (by omega) UP (by decide) (by decide)) ng (.mk rfl) (.gY rfl rfl rfl rfl) rfl ?_;rintro v168 _ ⟨w11,x11,rfl,aaQ,ac9,adA,rfl⟩;refine St.iQ ?_;obtain⟨X11,aiH,UQ,aaO,aaP⟩:=fE UP aaL aaM ac9 adA;rw[←aiH];refine St.skk (smK m n o p q a b tv ts rv j i g f l w11 X11) ?_;refine g6 ?_;refine St.ae (eL [115,108,101,101,112] (by decide) (aU f) (an (.mk [101] []) (.mk [116] []))) nh (.aX rfl rfl) rfl ?_;rintro v171 _ rfl;refine St.ao ?_;refine St.bi [11,4,1] (λMI=> ?_) bJ dK eT;refine St.bi [4] (λagE=> ?_) bJ dK eT;refine St.bw [.slice (some ⟨MI,0,none⟩) 3 3,.slice (some ⟨agE,0,none⟩) 1 1] [[11,4,1],[4]] (λagF=> ?_) fH fD kJ (.aX rfl rfl);refine St.ei (eJ a tv.1 (.slice (some ⟨b,0,none⟩) 5 5) rv (.slice none 0 0) w11 X11 [115,108,101,101,112,115] 0 v171 (.slice (some ⟨agF,0,none⟩) 2 2) (bV [115,108,101,101,112] (an (.mk [101] []) (.mk [116] []))) [[11,4,1],[4]] (by decide) (by unfold aa;decide) aaQ (by omega) UQ (by decide) (by decide)) ng (.mk rfl) (.gY rfl rfl rfl rfl) rfl ?_;rintro v175 _ ⟨w12,x12,rfl,aaT,adB,adC,rfl⟩;refine St.iQ ?_;obtain⟨X12,aiI,UR,aaR,aaS⟩:=fE UQ aaO aaP adB adC;rw[←aiI];refine St.skk (smK m n o p q a b tv ts rv j i g f l w12 X12) ?_;refine g6 ?_;refine St.ae (eL [115,108,101,101,112] (by decide) (aU f) (an (.mk [101] []) (.mk [116] []))) nh (.aX rfl rfl) rfl ?_;rintro al9 _ rfl;refine St.ao ?_;refine St.bi [11,4,1] (λagG=> ?_) bJ dK eT;refine St.bi [5] (λagH=> ?_) bJ dK eT;refine St.bw [.slice (some ⟨agG,0,none⟩) 3 3,.slice (some ⟨agH,0,none⟩) 1 1] [[11,4,1],[5]] (λagI=> ?_) fH fD kJ (.aX rfl rfl);refine St.ei (eJ a tv.1 (.slice (some ⟨b,0,none⟩) 5 5) rv (.slice none 0 0) w12 X12 [115,108,101,101,112] 0 al9 (.slice (some ⟨agI,0,none⟩) 2 2) (bV [115,108,101,101,112] (an (.mk [101] []) (.mk [116] []))) [[11,4,1],[5]] (by decide) (by unfold aa;decide) aaT (by omega) UR (by decide) (by decide)) ng (.mk rfl) (.gY rfl rfl rfl rfl) rfl ?_;rintro v182 _ ⟨w13,x13,rfl,aaW,adD,adE,rfl⟩;refine St.iQ ?_;obtain⟨X13,aiJ,US,aaU,aaV⟩:=fE UR aaR aaS adD adE;rw[←aiJ];refine St.skk (smK m n o p q a b tv ts rv j i g f l w13 X13) ?_;refine g6 ?_;refine St.ae (eL [99,104,97,115,101] (by decide) (aU l) (an (.mk [101] []) (an (.mk [101] []) (.mk [116] [])))) nh (.aX rfl rfl) rfl ?_;rintro amA _ rfl;refine St.ao ?_;refine St.bi [12,4,1] (λagJ=> ?_) bJ dK eT;refine St.bi [4] (λagK=> ?_) bJ dK eT;refine St.bw [.slice (some ⟨agJ,0,none⟩) 3 3,.slice (some ⟨agK,0,none⟩) 1 1] [[12,4,1],[4]] (λagL=> ?_) fH fD kJ (.aX rfl rfl);refine St.ei (eJ a tv.1 (.slice (some ⟨b,0,none⟩) 5 5) rv (.slice none 0 0) w13 X13 [99,104,97,115,101,115] 0 amA (.slice (some ⟨agL,0,none⟩) 2 2) (bV [99,104,97,115,101] (an (.mk [101] []) (an (.mk [101] []) (.mk [116] [])))) [[12,4,1],[4]] (by decide) (by unfold aa;decide) aaW (by omega) US (by decide) (by decide)) ng (.mk rfl) (.gY rfl rfl rfl rfl) rfl ?_;rintro aoG _ ⟨w14,x14,rfl,aaZ,adF,adG,rfl⟩;refine St.iQ ?_;obtain⟨X14,aiK,UU,aaX,aaY⟩:=fE US aaU aaV adF adG;rw[←aiK];refine St.skk (smK m n o p q a b tv ts rv j i g f l w14 X14) ?_;refine g6 ?_;refine St.ae (eL [99,104,97,115,101] (by decide) (aU l) (an (.mk [101] []) (an (.mk [101] []) (.mk [116] [])))) nh (.aX rfl rfl) rfl ?_;rintro Q3 _ rfl;refine St.ao ?_;refine St.bi [12,4,1] (λagM=> ?_) bJ dK eT;refine St.bi [5] (λagN=> ?_) bJ dK eT;refine St.bw [.slice (some ⟨agM,0,none⟩) 3 3,.slice (some ⟨agN,0,none⟩) 1 1] [[12,4,1],[5]] (λagO=> ?_) fH fD kJ (.aX rfl rfl);refine St.ei (eJ a tv.1 (.slice (some ⟨b,0,none⟩) 5 5) rv (.slice none 0 0) w14 X14 [99,104,97,115,101] 0 Q3 (.slice (some ⟨agO,0,none⟩) 2 2) (bV [99,104,97,115,101] (an (.mk [101] []) (an (.mk [101] []) (.mk [116] [])))) [[12,4,1],[5]] (by decide) (by unfold aa;decide) aaZ (by omega) UU (by decide) (by decide)) ng (.mk rfl) (.gY rfl rfl rfl rfl) rfl ?_;rintro v196 _ ⟨w15,x15,rfl,aa2,adH,adI,rfl⟩;refine St.iQ ?_;obtain⟨X15,aiL,UW,aa0,aa1⟩:=fE UU aaX aaY adH adI;rw[←aiL];refine St.skk (smK m n o p q a b tv ts rv j i g f l w15 X15) ?_;refine g6 ?_;refine St.ae (eL [115,101,101] (by decide) (aU l) (an (.mk [101] []) (an (.mk [101] []) (.mk [116] [])))) nh (.aX rfl rfl) rfl ?_;rintro amB _ rfl;refine St.ao ?_;refine St.bi [12,4,1] (λagP=> ?_) bJ dK eT;refine St.bi [4] (λagQ=> ?_) bJ dK eT;refine St.bw [.slice (some ⟨agP,0,none⟩) 3 3,.slice (some ⟨agQ,0,none⟩) 1 1] [[12,4,1],[4]] (λagR=> ?_) fH fD kJ (.aX rfl rfl);refine St.ei (eJ a tv.1 (.slice (some ⟨b,0,none⟩) 5 5) rv (.slice none 0 0) w15 X15 [115,101,101,115] 1 amB (.slice (some ⟨agR,0,none⟩) 2 2) (bV [115,101,101] (an (.mk [101] []) (an (.mk [101] []) (.mk [116] [])))) [[12,4,1],[4]] (by decide) (by unfold aa;decide) aa2 (by omega) UW (by decide) (by decide)) ng (.mk rfl) (.gY rfl rfl rfl rfl) rfl ?_;rintro v203 _ ⟨w16,x16,rfl,aa5,adJ,adK,rfl⟩;refine St.iQ ?_;obtain⟨X16,aiM,UX,aa3,aa4⟩:=fE UW aa0 aa1 adJ adK;rw[←aiM];refine St.skk (smK m n o p q a b tv ts rv j i g f l w16 X16) ?_;refine g6 ?_;refine St.ae (eL [115,101,101] (by decide) (aU l) (an (.mk [101] []) (an (.mk [101] []) (.mk [116] [])))) nh (.aX rfl rfl) rfl ?_;rintro v206 _ rfl;refine St.ao ?_;refine St.bi [12,4,1] (λagS=> ?_) bJ dK eT;refine St.bi [5] (λagT=> ?_) bJ dK eT;refine St.bw [.slice (some ⟨agS,0,none⟩) 3 3,.slice (some ⟨agT,0,none⟩) 1 1] [[12,4,1],[5]] (λagU=> ?_) fH fD kJ (.aX rfl rfl);refine St.ei (eJ a tv.1 (.slice (some ⟨b,0,none⟩) 5 5) rv (.slice none 0 0) w16 X16 [115,101,101] 1 v206 (.slice (some ⟨agU,0,none⟩) 2 2) (bV [115,101,101] (an (.mk [101] []) (an (.mk [101] []) (.mk [116] [])))) [[12,4,1],[5]] (by decide) (by unfold aa;decide) aa5 (by omega) UX (by decide) (by decide)) ng (.mk rfl) (.gY rfl rfl rfl rfl) rfl ?_;rintro v210 _ ⟨w17,x17,rfl,aa8,adL,adM,rfl⟩;refine St.iQ ?_;obtain⟨X17,aiN,UY,aa6,aa7⟩:=fE UX aa3 aa4 adL adM;rw[←aiN];refine St.skk (smK m n o p q a b tv ts rv j i g f l w17 X17) ?_;refine g7 ?_;refine St.ae (fF (aU g) (aU g) (.mk [116] []) (.mk [116] [])) qH (.aX rfl rfl) rfl ?_;rintro amC _ rfl;refine St.ao ?_;refine St.ae (eL [110,111,116] (by decide) amC (an (.mk [116] []) (.mk [116] []))) nh (.aX rfl rfl) rfl ?_;rintro amD _ rfl;refine St.ao ?_;refine St.bi [13] (λagV=> ?_) bJ dK eT;refine St.bw [.slice (some ⟨agV,0,none⟩) 1 1] [[13]] (λagW=> ?_) fH fD kJ (.ar rfl);refine St.ei (eJ a tv.1 (.slice (some ⟨b,0,none⟩) 5 5) rv (.slice none 0 0) w17 X17 [110,111,116] 0 amD (.slice (some ⟨agW,0,none⟩) 1 1) (bV [110,111,116] (an (.mk [116] []) (.mk [116] []))) [[13]] (by decide) (by unfold aa;decide) aa8 (by omega) UY (by decide) (by decide)) ng (.mk rfl) (.gY rfl rfl rfl rfl) rfl ?_;rintro v218 _ ⟨w18,x18,rfl,abB,adN,adO,rfl⟩;refine St.iQ ?_;obtain⟨X18,aiO,UZ,aa9,abA⟩:=fE UY aa6 aa7 adN adO;rw[←aiO];refine St.skk (smK m n o p q a b tv ts rv j i g f l w18 X18) ?_;refine g3 ?_;refine St.U1 9 219 [] (⟨219,[],λu=>cU u (.func (.func 59) #[] #[.pointer (some ⟨a,0,none⟩)])⟩::⟨220,[],λu=>cU u ((aU g))⟩::⟨221,[],λu=>cU u ((aU g))⟩::⟨222,[],λu=>cU u ((aU g))⟩::⟨223,[2,3],λu=>db (an (.mk [116] []) (.mk [116] [])) u⟩::⟨224,[1,4],λu=>db (an (.mk [116] []) (an (.mk [116] []) (.mk [116] []))) u⟩::⟨225,[5],λu=>isTerm (bV [97,110,100] (an (.mk [116] []) (an (.mk [116] []) (.mk [116] [])))) u⟩::⟨226,[],λu=>fW aJ [14] u⟩::⟨227,[7],λu=>fQ aJ [[14]] u⟩::[]) ((219,[])::(220,[])::(221,[])::(222,[])::(223,[2,3])::(224,[1,4])::(225,[5])::(226,[])::(227,[7])::[]) [0,6,8] rfl rfl mixed (by kernel_rfl) (by kernel_rfl) (by rfl) (λe=>[(219,e 0),(225,e 6),(227,e 8)]) (λe=>[aB (cU (e 0) (.func (.func 59) #[] #[.pointer (some ⟨a,0,none⟩)])),aB (isTerm (bV [97,110,100] (an (.mk [116] []) (an (.mk [116] []) (.mk [116] [])))) (e 6)),aB (fQ aJ [[14]] (e 8))]) (λ_=>rfl) (λ_=>rfl) ?_ (λe=> ?_)
 ·refine ab.c0 (λc e d=> ?_) ?_
  ·refine St.aK ?_
   refine go ?_;refine St.fact (cU (.func (.func 59) #[] #[.pointer (some ⟨a,0,none⟩)]) (.func (.func 59) #[] #[.pointer (some ⟨a,0,none⟩)])) (λ_ _ _=>rfl) ?_;exact St.bg _
  refine ab.c0 (λc e d=> ?_) ?_
  ·refine St.aK ?_
   refine go ?_;refine St.fact (cU ((aU g)) ((aU g))) (λ_ _ _=>rfl) ?_;exact St.bg _
  refine ab.c0 (λc e d=> ?_) ?_
  ·refine St.aK ?_
   refine go ?_;refine St.fact (cU ((aU g)) ((aU g))) (λ_ _ _=>rfl) ?_;exact St.bg _
  refine ab.c0 (λc e d=> ?_) ?_
  ·refine St.aK ?_
   refine go ?_;refine St.fact (cU ((aU g)) ((aU g))) (λ_ _ _=>rfl) ?_;exact St.bg _
  refine ab.cc (λe=>[(221,e 2),(222,e 3)]) (λe=>[aB (cU (e 2) ((aU g))),aB (cU (e 3) ((aU g)))]) (λc e d=> ?_) ?_
  ·refine St.dQ ?_
   refine St.bX (P:=prog) 221 (e 2) ((aU g)) rfl ?_;refine St.bX (P:=prog) 222 (e 3) ((aU g)) rfl ?_;refine St.ae (fF (aU g) (aU g) (.mk [116] []) (.mk [116] [])) qH (.aX rfl rfl) rfl ?_;rintro aoH _ rfl;refine St.ao ?_;exact St.bg _
  refine ab.cc (λe=>[(220,e 1),(223,e 4)]) (λe=>[aB (cU (e 1) ((aU g))),aB (db (an (.mk [116] []) (.mk [116] [])) (e 4))]) (λc e d=> ?_) ?_
  ·refine St.dQ ?_
   refine St.bX (P:=prog) 220 (e 1) ((aU g)) rfl ?_;refine St.ae (fF (aU g) (e 4) (.mk [116] []) (an (.mk [116] []) (.mk [116] []))) qH (.aX rfl rfl) rfl ?_;rintro aoI _ rfl;refine St.ao ?_;exact St.bg _
  refine ab.cc (λe=>[(224,e 5)]) (λe=>[aB (db (an (.mk [116] []) (an (.mk [116] []) (.mk [116] []))) (e 5))]) (λc e d=> ?_) ?_
  ·refine St.ao ?_
   refine St.ae (eL [97,110,100] (by decide) (e 5) (an (.mk [116] []) (an (.mk [116] []) (.mk [116] [])))) nh (.aX rfl rfl) rfl ?_;rintro aoJ _ rfl;refine St.ao ?_;exact St.bg _
  refine ab.bi ?_ bJ dK eT;refine ab.bw ?_ fH fD kJ (λ_=>(.ar rfl));exact ab.nil
 refine St.iQ ?_;refine St.bX (P:=prog) 219 (e 0) (.func (.func 59) #[] #[.pointer (some ⟨a,0,none⟩)]) rfl ?_;refine St.ei (eJ a tv.1 (.slice (some ⟨b,0,none⟩) 5 5) rv (.slice none 0 0) w18 X18 [97,110,100] 0 (e 6) (e 8) (bV [97,110,100] (an (.mk [116] []) (an (.mk [116] []) (.mk [116] [])))) [[14]] (by decide) (by unfold aa;decide) abB (by omega) UZ (by decide) (by decide)) ng (.mk rfl) (.gY rfl rfl rfl rfl) rfl ?_;rintro v228 _ ⟨w19,x19,rfl,abE,adP,adQ,rfl⟩;refine St.iQ ?_;obtain⟨X19,aiP,Ua,abC,abD⟩:=fE UZ aa9 abA adP adQ;rw[←aiP];refine St.skk (smK m n o p q a b tv ts rv j i g f l w19 X19) ?_;refine g3 ?_;refine St.U1 10 229 [] (⟨229,[],λu=>cU u (.func (.func 59) #[] #[.pointer (some ⟨a,0,none⟩)])⟩::⟨230,[],λu=>cU u ((aU f))⟩::⟨231,[],λu=>isTerm (aY 0) u⟩::⟨232,[],λu=>cU u ((aU i))⟩::⟨233,[3],λu=>isTerm (bV [114,101,120] (.mk [101] [])) u⟩::⟨234,[2,4],λu=>isTerm (aK (aY 0) (bV [114,101,120] (.mk [101] []))) u⟩::⟨235,[1,5],λu=>isTerm (bB (an (.mk [101] []) (.mk [116] [])) (aK (aY 0) (bV [114,101,120] (.mk [101] [])))) u⟩::⟨236,[],λu=>fW aJ [7,4,1] u⟩::⟨237,[],λu=>fW aJ [4] u⟩::⟨238,[7,8],λu=>fQ aJ [[7,4,1],[4]] u⟩::[]) ((229,[])::(230,[])::(231,[])::(232,[])::(233,[3])::(234,[2,4])::(235,[1,5])::(236,[])::(237,[])::(238,[7,8])::[]) [0,6,9] rfl rfl mixed (by kernel_rfl) (by kernel_rfl) (by rfl) (λe=>[(229,e 0),(235,e 6),(238,e 9)]) (λe=>[aB (cU (e 0) (.func (.func 59) #[] #[.pointer (some ⟨a,0,none⟩)])),aB (isTerm (bB (an (.mk [101] []) (.mk [116] [])) (aK (aY 0) (bV [114,101,120] (.mk [101] [])))) (e 6)),aB (fQ aJ [[7,4,1],[4]] (e 9))]) (λ_=>rfl) (λ_=>rfl) ?_ (λe=> ?_)
 ·refine ab.c0 (λc e d=> ?_) ?_
  ·refine St.aK ?_
   refine go ?_;refine St.fact (cU (.func (.func 59) #[] #[.pointer (some ⟨a,0,none⟩)]) (.func (.func 59) #[] #[.pointer (some ⟨a,0,none⟩)])) (λ_ _ _=>rfl) ?_;exact St.bg _
  refine ab.c0 (λc e d=> ?_) ?_
  ·refine St.aK ?_
   refine go ?_;refine St.fact (cU ((aU f)) ((aU f))) (λ_ _ _=>rfl) ?_;exact St.bg _
  refine ab.c0 (λc e d=> ?_) ?_
  ·refine St.aK ?_
   refine St.ae (cg 0 (by unfold aa;decide)) mR (.ar rfl) rfl ?_;rintro aoK _ rfl;refine St.ao ?_;exact St.bg _
  refine ab.c0 (λc e d=> ?_) ?_
  ·refine St.aK ?_
   refine go ?_;refine St.fact (cU ((aU i)) ((aU i))) (λ_ _ _=>rfl) ?_;exact St.bg _
  refine ab.cc (λe=>[(232,e 3)]) (λe=>[aB (cU (e 3) ((aU i)))]) (λc e d=> ?_) ?_
  ·refine St.ao ?_
   refine St.bX (P:=prog) 232 (e 3) ((aU i)) rfl ?_;refine St.ae (eL [114,101,120] (by decide) (aU i) (.mk [101] [])) nh (.aX rfl rfl) rfl ?_;rintro v233 _ rfl;refine St.ao ?_;exact St.bg _
  refine ab.cc (λe=>[(231,e 2),(233,e 4)]) (λe=>[aB (isTerm (aY 0) (e 2)),aB (isTerm (bV [114,101,120] (.mk [101] [])) (e 4))]) (λc e d=> ?_) ?_
  ·refine St.dQ ?_
   refine St.ae (eh (e 2) (e 4) (aY 0) (bV [114,101,120] (.mk [101] []))) ow (.aX rfl rfl) rfl ?_;rintro v234 _ rfl;refine St.ao ?_;exact St.bg _
  refine ab.cc (λe=>[(230,e 1),(234,e 5)]) (λe=>[aB (cU (e 1) ((aU f))),aB (isTerm (aK (aY 0) (bV [114,101,120] (.mk [101] []))) (e 5))]) (λc e d=> ?_) ?_
  ·refine St.dQ ?_
   refine St.bX (P:=prog) 230 (e 1) ((aU f)) rfl ?_;refine St.ae (eA (aU f) (e 5) (an (.mk [101] []) (.mk [116] [])) (aK (aY 0) (bV [114,101,120] (.mk [101] [])))) mQ (.aX rfl rfl) rfl ?_;rintro aoL _ rfl;refine St.ao ?_;exact St.bg _
  refine ab.bi ?_ bJ dK eT;refine ab.bi ?_ bJ dK eT;refine ab.bw ?_ fH fD kJ (λ_=>(.aX rfl rfl));exact ab.nil
 refine St.iQ ?_;refine St.bX (P:=prog) 229 (e 0) (.func (.func 59) #[] #[.pointer (some ⟨a,0,none⟩)]) rfl ?_;refine St.ei (eJ a tv.1 (.slice (some ⟨b,0,none⟩) 5 5) rv (.slice none 0 0) w19 X19 [114,101,120] 0 (e 6) (e 9) (bB (an (.mk [101] []) (.mk [116] [])) (aK (aY 0) (bV [114,101,120] (.mk [101] [])))) [[7,4,1],[4]] (by decide) (by unfold aa;decide) abE (by omega) Ua (by decide) (by decide)) ng (.mk rfl) (.gY rfl rfl rfl rfl) rfl ?_;rintro aoM _ ⟨w20,x20,rfl,abH,adR,adS,rfl⟩;refine St.iQ ?_;obtain⟨X20,aiT,Ub,abF,abG⟩:=fE Ua abC abD adR adS;rw[←aiT];refine St.skk (smK m n o p q a b tv ts rv j i g f l w20 X20) ?_;refine g3 ?_;refine St.U1 10 240 [] (⟨240,[],λu=>cU u (.func (.func 59) #[] #[.pointer (some ⟨a,0,none⟩)])⟩::⟨241,[],λu=>cU u ((aU f))⟩::⟨242,[],λu=>isTerm (aY 0) u⟩::⟨243,[],λu=>cU u ((aU i))⟩::⟨244,[3],λu=>isTerm (bV [109,105,97] (.mk [101] [])) u⟩::⟨245,[2,4],λu=>isTerm (aK (aY 0) (bV [109,105,97] (.mk [101] []))) u⟩::⟨246,[1,5],λu=>isTerm (bB (an (.mk [101] []) (.mk [116] [])) (aK (aY 0) (bV [109,105,97] (.mk [101] [])))) u⟩::⟨247,[],λu=>fW aJ [7,4,1] u⟩::⟨248,[],λu=>fW aJ [4] u⟩::⟨249,[7,8],λu=>fQ aJ [[7,4,1],[4]] u⟩::[]) ((240,[])::(241,[])::(242,[])::(243,[])::(244,[3])::(245,[2,4])::(246,[1,5])::(247,[])::(248,[])::(249,[7,8])::[]) [0,6,9] rfl rfl mixed (by kernel_rfl) (by kernel_rfl) (by rfl) (λe=>[(240,e 0),(246,e 6),(249,e 9)]) (λe=>[aB (cU (e 0) (.func (.func 59) #[] #[.pointer (some ⟨a,0,none⟩)])),aB (isTerm (bB (an (.mk [101] []) (.mk [116] [])) (aK (aY 0) (bV [109,105,97] (.mk [101] [])))) (e 6)),aB (fQ aJ [[7,4,1],[4]] (e 9))]) (λ_=>rfl) (λ_=>rfl) ?_ (λe=> ?_)
 ·refine ab.c0 (λc e d=> ?_) ?_
  ·refine St.aK ?_
   refine go ?_;refine St.fact (cU (.func (.func 59) #[] #[.pointer (some ⟨a,0,none⟩)]) (.func (.func 59) #[] #[.pointer (some ⟨a,0,none⟩)])) (λ_ _ _=>rfl) ?_;exact St.bg _
  refine ab.c0 (λc e d=> ?_) ?_
  ·refine St.aK ?_
   refine go ?_;refine St.fact (cU ((aU f)) ((aU f))) (λ_ _ _=>rfl) ?_;exact St.bg _
  refine ab.c0 (λc e d=> ?_) ?_
  ·refine St.aK ?_
   refine St.ae (cg 0 (by unfold aa;decide)) mR (.ar rfl) rfl ?_;rintro aoN _ rfl;refine St.ao ?_;exact St.bg _
  refine ab.c0 (λc e d=> ?_) ?_
  ·refine St.aK ?_
   refine go ?_;refine St.fact (cU ((aU i)) ((aU i))) (λ_ _ _=>rfl) ?_;exact St.bg _
  refine ab.cc (λe=>[(243,e 3)]) (λe=>[aB (cU (e 3) ((aU i)))]) (λc e d=> ?_) ?_
  ·refine St.ao ?_
   refine St.bX (P:=prog) 243 (e 3) ((aU i)) rfl ?_;refine St.ae (eL [109,105,97] (by decide) (aU i) (.mk [101] [])) nh (.aX rfl rfl) rfl ?_;rintro aoO _ rfl;refine St.ao ?_;exact St.bg _
  refine ab.cc (λe=>[(242,e 2),(244,e 4)]) (λe=>[aB (isTerm (aY 0) (e 2)),aB (isTerm (bV [109,105,97] (.mk [101] [])) (e 4))]) (λc e d=> ?_) ?_
  ·refine St.dQ ?_
   refine St.ae (eh (e 2) (e 4) (aY 0) (bV [109,105,97] (.mk [101] []))) ow (.aX rfl rfl) rfl ?_;rintro aoP _ rfl;refine St.ao ?_;exact St.bg _
  refine ab.cc (λe=>[(241,e 1),(245,e 5)]) (λe=>[aB (cU (e 1) ((aU f))),aB (isTerm (aK (aY 0) (bV [109,105,97] (.mk [101] []))) (e 5))]) (λc e d=> ?_) ?_
  ·refine St.dQ ?_
   refine St.bX (P:=prog) 241 (e 1) ((aU f)) rfl ?_;refine St.ae (eA (aU f) (e 5) (an (.mk [101] []) (.mk [116] [])) (aK (aY 0) (bV [109,105,97] (.mk [101] [])))) mQ (.aX rfl rfl) rfl ?_;rintro aoQ _ rfl;refine St.ao ?_;exact St.bg _
  refine ab.bi ?_ bJ dK eT;refine ab.bi ?_ bJ dK eT;refine ab.bw ?_ fH fD kJ (λ_=>(.aX rfl rfl));exact ab.nil
 refine St.iQ ?_;refine St.bX (P:=prog) 240 (e 0) (.func (.func 59) #[] #[.pointer (some ⟨a,0,none⟩)]) rfl ?_;refine St.ei (eJ a tv.1 (.slice (some ⟨b,0,none⟩) 5 5) rv (.slice none 0 0) w20 X20 [109,105,97] 0 (e 6) (e 9) (bB (an (.mk [101] []) (.mk [116] [])) (aK (aY 0) (bV [109,105,97] (.mk [101] [])))) [[7,4,1],[4]] (by decide) (by unfold aa;decide) abH (by omega) Ub (by decide) (by decide)) ng (.mk rfl) (.gY rfl rfl rfl rfl) rfl ?_;rintro aoR _ ⟨K,x21,rfl,O,adT,adU,rfl⟩;refine St.iQ ?_;obtain⟨F,aiU,abJ,abI,amF⟩:=fE Ub abF abG adT adU;rw[←aiU];refine St.skk (smK m n o p q a b tv ts rv j i g f l K F) ?_;refine g4 ?_;refine St.bi [6] (λagX=> ?_) bJ dK eT;refine St.bw [.slice (some ⟨agX,0,none⟩) 1 1] [[6]] (λagY=> ?_) fH fD kJ (.ar rfl);refine St.ae (gP (.slice (some ⟨agY,0,none⟩) 1 1) [[6]] (by decide) (by decide)) E7 (.ar rfl) rfl ?_;rintro amE _ rfl;refine St.ao ?_;refine St.bL (cQ [[6]]) amE (λG hyz=> ?_);obtain⟨rfl,ak9⟩:=hyz;refine go ?_;refine St.Fe (L':=[tv.1,(.slice (some ⟨b,0,none⟩) 5 5),rv,K,G.nv.1]) (ah.mk rfl) (ah.mk rfl) jU G.nv.2 rfl rfl ?_;refine g5 ?_;refine St.sA (.mk rfl) (.mk rfl) TY ?_ (h1:=(by simp only[List.all_cons,List.all_nil,Bool.and_true,Bool.and_eq_true];exact⟨tv.2,rfl,L,O,G.nv.2⟩));refine g3 ?_;refine St.bS K e7 F rfl rfl abJ ?_;refine St.ea (eu (⟨tv,ts,⟨(.slice (some ⟨b,0,none⟩) 5 5),rfl⟩,kA,⟨rv,L⟩,j,⟨K,O⟩,F,G⟩:gW)) [sl mw tv.1 ts,aF s6 ts,sl ga (.slice (some ⟨b,0,none⟩) 5 5) kA,sl cT rv j,aF bz j,sl e7 K F,aF eR F,aG G] (λρ h=>h) ?_;refine St.ea (wO lP (fG (⟨tv,ts,⟨(.slice (some ⟨b,0,none⟩) 5 5),rfl⟩,kA,⟨rv,L⟩,j,⟨K,O⟩,F,G⟩:gW))) [eu (⟨tv,ts,⟨(.slice (some ⟨b,0,none⟩) 5 5),rfl⟩,kA,⟨rv,L⟩,j,⟨K,O⟩,F,G⟩:gW)] (λρ h=>⟨(⟨tv,ts,⟨(.slice (some ⟨b,0,none⟩) 5 5),rfl⟩,kA,⟨rv,L⟩,j,⟨K,O⟩,F,G⟩:gW),rfl,by show(⟨ts.map dG,kA.map gz,j.map lK,F.map oe,ax G⟩:fj)=lP;rw[hts,acT,abI,ak9];rfl,h _ (aQ ..)⟩) ?_;refine St.rV [_] [aB (wO lP (fG (⟨tv,ts,⟨(.slice (some ⟨b,0,none⟩) 5 5),rfl⟩,kA,⟨rv,L⟩,j,⟨K,O⟩,F,G⟩:gW)))] ?_;rfl
theorem mg (v0 v1:Value)(a b:List bC):eE prog 16 #[v0,v1] [sl bE v0 a,sl bE v1 b] (.bool (decide (a=b))):=by
 refine eE.pO (args:=[v0,v1]) 26 func16 rfl ntmps16 rfl (λc=> ?_);refine go ?_;refine St.wf v0 (λf j=> ?_);refine St.wf v1 (λl m=> ?_);refine g14 ?_;refine St.cq (λg=> ?_) (λg=> ?_)
 ·refine g7 ?_
  refine St.rV [_] [] ?_;exact be (by rw[eq_comm,decide_eq_false_iff_not];rintro rfl;omega)
 ·refine g9 ?_
  refine St.lS (ι:=Nat) (λk T=>(5,iv k)::T) (λk=>k≤a.length∧a.take k=b.take k) (λk=>a.length-k) 0 (aD.cons 0 rfl (aD.cons 1 rfl aD.nil)) ⟨aP _,rfl⟩ ?_;intro k h;obtain⟨hk,d⟩:=h;refine g9 ?_;refine St.cq (λi=> ?_) (λi=> ?_)
  ·obtain⟨x,hx⟩:=aE (show k<a.length by omega)
   obtain⟨y,hy⟩:=aE (show k<b.length by omega);refine g5 ?_;refine St.rq mixed (by kernel_rfl) (Mm.drawn _ _) ?_;refine g11 ?_;refine St.cond _ rfl (λe=> ?_) (λe=> ?_)
   ·skip
    refine g11 ?_;refine St.rV [_] [] ?_;exact be (by rw[eq_comm,decide_eq_false_iff_not];rintro rfl;rw[hx]at hy;simp only[Option.some.injEq]at hy;simp[hy]at e)
   ·skip
    refine g9 ?_;refine St.aS (k+1) ⟨by omega,by rw[ag hx,ag hy,d,show x=y by simpa using e]⟩
  ·refine g11 ?_
   refine St.rV [_] [] ?_;exact be (by rw[eq_comm,gq];rw[fZ (by omega),fZ (by omega)]at d;exact d)
def tE:bC:=[114,101,120]
def IQ:bC:=[98,97,114,107]
def jt:bC:=[98,97,114,107,115]
def sL:List (List bC):=[[tE],[IQ,jt]]
theorem He:dX lP sL=([[tE,jt]],(0,0)):=by kernel_rfl
theorem zN:qB lP sL=(some ([tE,jt],0),(0,0)):=by kernel_rfl
theorem Ol:((dy lP sL).1.all λw=>(lN lP w 1).1.all λt=>Xr lP t&&decide (Qa t≤1000))=true:=by kernel_rfl
theorem vy {l:List bC}(h:l.all (λw=>decide (w.length≤1000))=true):∀x∈l,bE.wf x:=λx hx=>by
 have h1:=fJ (eY.1 h x hx)
 show x.length≤140737488351232
 omega
theorem T6 {α:Type}{R:Rp α}{ρ:Ro}{v:Value}{d e:aV}{a b:List α}(h:(sl bN v [d,e]).f ρ)(h1:(sl R d.1 a).f ρ)(g:(sl R e.1 b).f ρ):(oI R v [a,b]).f ρ:=⟨[d,e],rfl,h,λi u l c e2=>by
 match i,c,e2 with
 |0,c,e2=>obtain rfl:=Option.some.inj c;obtain rfl:=Option.some.inj e2;exact h1
 |1,c,e2=>obtain rfl:=Option.some.inj c;obtain rfl:=Option.some.inj e2;exact g
 |i+2,c,_=>simp at c⟩
theorem Rs {g:fj}{s:List (List bC)}(h:(dX g s).2.1≠0):rM g s=([],(dX g s).2):=by
 unfold dX rM at*
 by_cases c:(kL g s).1≠0
 ·rw[aC c,aC c]
 ·rw[aA c]at h
  rw[aA c,aC h,aA c]
theorem WB {g:fj}{s:List (List bC)}(h:(dX g s).2.1=0):rM g s=(rL (fR (dX g s).1) 0 s,(0,0)):=by
 unfold dX rM at*
 by_cases c:(kL g s).1≠0
 ·rw[aC c]at h;exact absurd h c
 ·rw[aA c]at h
  rw[aA c,aA (λx=>x h),aA c]
theorem N6 {g:fj}{s:List (List bC)}(h:(dX g s).2.1=0):Di g s∧∀c∈(dX g s).1,c.length=s.length:=by
 obtain⟨a,_,e⟩:=Rj h;exact⟨a,λc b=>by rw[e]at b;exact sP (wj.1 b).1⟩
theorem Hg:kX prog 12 #[] [tz,u8] (.bool true):=by
 refine kX.body (args:=[]) (ds:=[tz,u8]) 59 func12 rfl ntmps12 rfl (λc o=> ?_);refine St.cast (H':=[aB (tz),aB (u8)]) rfl ?_;refine g7 ?_;refine St.gV rfl (.ar rfl) lE Fj QO rfl rfl (by simp[Value.cells]) rfl rfl (λd=> ?_);refine St.bS (.slice (some ⟨d,0,none⟩) 1 1) bE [tE] rfl rfl (vy (by decide)) ?_;refine St.gV rfl (.aX rfl rfl) lE Fj QO rfl rfl (by simp[Value.cells]) rfl rfl (λe=> ?_);refine St.bS (.slice (some ⟨e,0,none⟩) 2 2) bE [IQ,jt] rfl rfl (vy (by decide)) ?_;refine St.gV rfl (.aX rfl rfl) px xM QN rfl rfl (by simp[Value.cells]) rfl rfl (λf=> ?_);refine St.bS (.slice (some ⟨f,0,none⟩) 2 2) bN [⟨(.slice (some ⟨d,0,none⟩) 1 1),rfl⟩,⟨(.slice (some ⟨e,0,none⟩) 2 2),rfl⟩] rfl rfl (λ_ _=>trivial) ?_;refine St.ea (oI bE (.slice (some ⟨f,0,none⟩) 2 2) sL) [sl bN (.slice (some ⟨f,0,none⟩) 2 2) [⟨(.slice (some ⟨d,0,none⟩) 1 1),rfl⟩,⟨(.slice (some ⟨e,0,none⟩) 2 2),rfl⟩],sl bE (.slice (some ⟨d,0,none⟩) 1 1) [tE],sl bE (.slice (some ⟨e,0,none⟩) 2 2) [IQ,jt]] (λρ h=>T6 (h _ (aQ ..)) (h (sl bE (.slice (some ⟨d,0,none⟩) 1 1) [tE]) (cO _ (aQ ..))) (h (sl bE (.slice (some ⟨e,0,none⟩) 2 2) [IQ,jt]) (cO _ (cO _ (aQ ..))))) ?_;refine g5 ?_;refine St.ae yG Zm (.nil) rfl ?_;rintro v11 _ rfl;refine St.ao ?_;refine St.wO lP v11 (λg j=> ?_);obtain⟨rfl,QV⟩:=j;refine go ?_;refine St.mP o (Ax g (.slice (some ⟨f,0,none⟩) 2 2) sL) ZP (.aX rfl rfl) rfl ?_;rintro q _ ⟨lv,rfl,rfl⟩;refine St.ao ?_;rw[QV,He];refine g3 ?_;refine St.slot 15 (fv (0,0)) rfl rfl ?_;refine St.al (λv=> ?_);refine g6 ?_;refine St.ae yG Zm (.nil) rfl ?_;rintro v17 _ rfl;refine St.ao ?_;refine St.wO lP v17 (λl m=> ?_);obtain⟨rfl,i⟩:=m;refine go ?_;refine St.mP o (K9 l (.slice (some ⟨f,0,none⟩) 2 2) sL (by rw[i];intro w hw t ht;have h:=eY.1 (eY.1 Ol w hw) t ht;rw[rY,gq]at h;exact h)) ag9 (.aX rfl rfl) rfl ?_;rintro r _ ⟨wv,rfl,rfl⟩;refine St.ao ?_;rw[i];rw[show oW (qB lP sL).1=[tE,jt] by rw[zN];rfl,zN];refine g2 ?_;refine St.slot 20 (.agg #[wv.1,iv 0]) rfl rfl ?_;refine go ?_;refine St.slot 21 (.bool true) rfl rfl ?_;refine go ?_;refine St.slot 22 (fv (0,0)) rfl rfl ?_;refine St.al (λx=> ?_);refine St.al (λy=> ?_);refine g6 ?_;refine St.nu lv.1 (λus s=> ?_)
 have n:us.length=1:=s
 obtain⟨u,hu⟩:=aE (show 0<us.length by omega);refine St.j8 (vs:=us) 0 hu (show([[tE,jt]]:List (List bC))[0]?=some [tE,jt]from rfl) ?_;refine St.dc [] mixed (λa b=> ?_);refine SW.gd 0 ?_;refine SW.gd 1 ?_;refine SW.gd 2 ?_;refine SW.gd 3 ?_;refine SW.slot 26 (.bool true) rfl (congrArg Value.bool rfl) ?_;refine SW.gt 4 _ a b rfl rfl rfl (λR _=>Ev.move (.mk rfl)) (by kernel_rfl) rfl ?_;refine SW.slot 27 _ rfl (cz rfl _) ?_;refine SW.gt 5 _ a b rfl rfl rfl (λR _=>Ev.fc (.mk rfl) px) (by kernel_rfl) rfl ?_;refine SW.slot 28 _ rfl (cz rfl _) ?_;refine SW.gt 6 _ a b rfl rfl rfl (λR _=>Ev.eq0) (by kernel_rfl) rfl ?_;refine SW.slot 29 _ rfl (cz rfl _) ?_;refine SW.dd 7 rfl (λ_=>Ev.gT (.mk rfl) rfl (.mk rfl)) ?_;refine SW.slot 30 (.bool true) rfl (congrArg Value.bool (by rw[n];rfl)) ?_;refine SW.gd 8 ?_;refine SW.slot 31 (.bool true) rfl (congrArg Value.bool rfl) ?_;refine SW.gt 9 _ a b rfl rfl rfl (λR _=>Ev.move (.mk rfl)) (by kernel_rfl) rfl ?_;refine SW.slot 32 _ rfl (cz rfl _) ?_;refine SW.gt 10 _ a b rfl rfl rfl (λR _=>Ev.cE (k:=0) (.mk rfl) (.mk rfl) px xM rfl (by omega)) (by kernel_rfl) rfl ?_;refine SW.slot 33 _ rfl (cz rfl _) ?_;refine SW.gt 11 _ a b rfl rfl rfl (λR _=>Ev.ld1 (.mk rfl) hu lE trivial rfl) (by kernel_rfl) rfl ?_;refine SW.slot 34 _ rfl (cz rfl _) ?_;refine SW.t1 12 ?_;refine St.cD rfl rfl ?_;refine St.gV rfl (.aX rfl rfl) lE Fj QO rfl rfl (by simp[Value.cells]) rfl rfl (λp=> ?_);refine St.bS (.slice (some ⟨p,0,none⟩) 2 2) bE [tE,jt] rfl rfl (vy (by decide)) ?_;refine g2 ?_;refine SW.go ?_;refine SW.t1 13 ?_;refine St.cD rfl rfl ?_;refine St.ee (Ev.call (mg u.1 (.slice (some ⟨p,0,none⟩) 2 2) [tE,jt] [tE,jt]) Vn (.aX rfl rfl)) ?_;refine g2 ?_;refine SW.go ?_;refine SW.dd 14 rfl (λ_=>Ev.gT (.mk rfl) rfl (.mk rfl)) ?_;refine SW.gd 15 ?_;refine SW.slot 38 (.bool true) rfl (congrArg Value.bool rfl) ?_;refine SW.gt 16 _ a b rfl rfl rfl (λR _=>Ev.da (.mk rfl) Gu) (by kernel_rfl) rfl ?_;refine SW.slot 39 _ rfl (cz rfl _) ?_;refine SW.gt 17 _ a b rfl rfl rfl (λR _=>Ev.ke (.mk rfl) gD trivial (by rfl)) (by kernel_rfl) rfl ?_;refine SW.slot 40 _ rfl (cz rfl _) ?_;refine SW.gt 18 _ a b rfl rfl rfl (λR _=>Ev.eq0) (by kernel_rfl) rfl ?_;refine SW.slot 41 _ rfl (cz rfl _) ?_;refine SW.dd 19 rfl (λ_=>Ev.gT (.mk rfl) rfl (.mk rfl)) ?_;refine SW.gd 20 ?_;refine SW.slot 43 (.bool true) rfl (congrArg Value.bool rfl) ?_;refine SW.gt 21 _ a b rfl rfl rfl (λR _=>Ev.move (.mk rfl)) (by kernel_rfl) rfl ?_;refine SW.slot 44 _ rfl (cz rfl _) ?_;refine SW.dd 22 rfl (λ_=>Ev.gT (.mk rfl) rfl (.mk rfl)) ?_;refine SW.gd 23 ?_;refine SW.slot 46 (.bool true) rfl (congrArg Value.bool rfl) ?_;refine SW.gt 24 _ a b rfl rfl rfl (λR _=>Ev.da (.mk rfl) WA) (by kernel_rfl) rfl ?_;refine SW.slot 47 _ rfl (cz rfl _) ?_;refine SW.gt 25 _ a b rfl rfl rfl (λR _=>Ev.ke (.mk rfl) lE trivial (by rfl)) (by kernel_rfl) rfl ?_;refine SW.slot 48 _ rfl (cz rfl _) ?_;refine SW.gt 26 _ a b rfl rfl rfl (λR _=>Ev.move (.mk rfl)) (by kernel_rfl) rfl ?_;refine SW.slot 49 _ rfl (cz rfl _) ?_;refine SW.gt 27 _ a b rfl rfl rfl (λR _=>Ev.cE (k:=0) (.mk rfl) (.mk rfl) px xM rfl (by omega)) (by kernel_rfl) rfl ?_;refine SW.slot 50 _ rfl (cz rfl _) ?_;refine SW.gt 28 _ a b rfl rfl rfl (λR _=>Ev.ld1 (.mk rfl) hu lE trivial rfl) (by kernel_rfl) rfl ?_;refine SW.slot 51 _ rfl (cz rfl _) ?_;refine SW.gt 29 _ a b rfl rfl rfl (λR _=>Ev.call (mg wv.1 u.1 [tE,jt] [tE,jt]) Vn (.aX rfl rfl)) (by kernel_rfl) rfl ?_;refine SW.slot 52 _ rfl (cz rfl _) ?_;refine SW.dd 30 rfl (λ_=>Ev.gT (.mk rfl) rfl (.mk rfl)) ?_;refine SW.gd 31 ?_;refine SW.slot 54 (.bool true) rfl (congrArg Value.bool rfl) ?_;refine SW.gt 32 _ a b rfl rfl rfl (λR _=>Ev.da (.mk rfl) NB) (by kernel_rfl) rfl ?_;refine SW.slot 55 _ rfl (cz rfl _) ?_;refine SW.gt 33 _ a b rfl rfl rfl (λR _=>Ev.ke (.mk rfl) gD trivial (by rfl)) (by kernel_rfl) rfl ?_;refine SW.slot 56 _ rfl (cz rfl _) ?_;refine SW.gt 34 _ a b rfl rfl rfl (λR _=>Ev.eq0) (by kernel_rfl) rfl ?_;refine SW.slot 57 _ rfl (cz rfl _) ?_;refine SW.dd 35 rfl (λ_=>Ev.gT (.mk rfl) rfl (.mk rfl)) ?_;refine SW.gd 36 ?_;refine SW.dn ?_;refine g2 ?_;refine St.rV [_] [] ?_;exact be (by decide)
theorem yx (g:gW)(v1:Value)(aL:List (List bC)):kX prog 5 #[fG g,v1] [eu g,oI bE v1 aL,tz,u8] (.bool true):=by
 refine kX.body (args:=[fG g,v1]) (ds:=[eu g,oI bE v1 aL,tz,u8]) 115 func5 rfl ntmps5 rfl (λc o=> ?_);refine St.cast (H':=[aB (eu g),aB (oI bE v1 aL),aB (tz),aB (u8)]) rfl ?_;refine go ?_;refine St.nu v1 (λvs J=> ?_);refine St.FJ vs J (λK=> ?_);refine go ?_;refine St.dJ (.mk rfl) rfl (λY=> ?_);refine g6 ?_;refine St.ee (Ev.mO o Hg ag4 (.nil)) ?_;refine g3 ?_;refine St.rm _ rfl rfl ?_;refine g5 ?_;refine St.slot 17 (fG g) rfl rfl ?_;refine go ?_;refine St.mP o (Ax g v1 aL) ZP (.aX rfl rfl) rfl ?_;rintro L _ ⟨lv,rfl,rfl⟩;refine St.ao ?_;refine St.nu lv.1 (λus q=> ?_);refine g3 ?_;refine St.slot 21 (fv (dX (bZ g) aL).2) rfl rfl ?_;refine St.al (λZ=> ?_);refine g7 ?_;refine St.slot 23 (fG g) rfl rfl ?_;refine go ?_;refine St.mP o (Dl g v1 aL) ag5 (.aX rfl rfl) rfl ?_;rintro v25 _ ⟨l,rfl,rfl⟩;refine St.ao ?_;refine St.nu l.1 (λws r=> ?_);refine g3 ?_;refine St.slot 27 (fv (rM (bZ g) aL).2) rfl rfl ?_;refine St.al (λb8=> ?_);refine g12 ?_;refine St.cq (λE=> ?_) (λE=> ?_)
 ·have F:=Rs E
  rw[F]at r
  have t:ws.length=0:=r
  refine g3 ?_;refine St.slot 31 (fv (dX (bZ g) aL).2) rfl (by rw[F];rfl) ?_;refine go ?_;refine St.slot 32 (fv (dX (bZ g) aL).2) rfl rfl ?_;refine St.ee (Ev.Lc (.mk rfl) (.mk rfl) Tryz.eqGuardType35 (λw=>Zw _ _ _ _ w)) ?_;refine go ?_;refine St.known 34 _ true rfl (by simp) ?_;refine St.cD rfl rfl ?_;refine go ?_;refine St.cD rfl rfl ?_;refine go ?_;refine St.cD rfl rfl ?_;refine go ?_;refine St.ee (Ev.gT (.mk rfl) rfl (.mk rfl)) ?_;refine g5 ?_;refine St.rV [_] [] ?_;exact be (by simp[t])
 ·have G:(dX (bZ g) aL).2.1=0:=by omega
  have b:=WB G
  obtain⟨H,M⟩:=N6 G
  have Lu:ws.length=aL.length:=by rw[r,b];exact qK _ _ _
  have N:=H.xV
  refine St.wf lv.1 (λ_ hll=> ?_);refine g9 ?_;refine St.gf _ rfl rfl (λa=>Ev.move (.mk rfl)) rfl ?_;refine St.gf _ rfl rfl (λa=>Ev.fc (ah.gv rfl a) px) rfl ?_;refine St.gf _ rfl rfl (λa=>Ev.move (.mk rfl)) rfl ?_;refine St.gf _ rfl rfl (λa=>Ev.fc (ah.gv rfl a) px) rfl ?_;refine St.gf _ rfl rfl (λa=>Ev.neq (ah.gv rfl a) (ah.gv rfl a)) rfl ?_;refine g3 ?_;refine St.cq (λv=> ?_) (λv=> ?_)
  ·exfalso
   have hz:(rM (bZ g) aL).2.1=0:=by rw[b]
   omega
  ·refine g9 ?_
   refine St.lH (ι:=Nat) (λi T=>(9,iv i)::T) (λi=>[aB (sl bN v1 vs),aB (j8 bE vs aL),aB (sl bN lv.1 us),aB (j8 bE us (dX (bZ g) aL).1),aB (sl bN l.1 ws),aB (j8 bE ws (rM (bZ g) aL).1)]) (λi=>i≤aL.length) (λi=>aL.length-i) 0 (aD.cons 1 rfl (aD.cons 5 rfl (aD.cons 7 rfl aD.nil))) (aP _) ?_;intro i hi;refine g9 ?_;refine St.cq (λO=> ?_) (λO=> ?_)
   ·obtain⟨s,n⟩:=aE (show i<aL.length by omega)
    obtain⟨u,hu⟩:=aE (show i<vs.length by omega);obtain⟨y,z⟩:=aE (show i<ws.length by omega)
    have f:=Cn (p:=fR (dX (bZ g) aL).1) (i:=0) n
    rw[iW,show rL (fR (dX (bZ g) aL).1) 0 aL=(rM (bZ g) aL).1 by rw[b]]at f;refine St.j8 (vs:=vs) i hu n ?_;refine St.j8 (vs:=ws) i z f ?_
    have P:=(H.aL s (aZ n)).xV
    refine g6 ?_;refine St.gV rfl (.nil) lE Fj QO rfl rfl (by simp[Value.cells]) rfl rfl (λh=> ?_);refine St.aM (.slice (some ⟨h,0,none⟩) 0 0) (show _=((s.take (0)).filter (fR (dX (bZ g) aL).1 i)).length from rfl) (show _=rows bE ((s.take (0)).filter (fR (dX (bZ g) aL).1 i))from rfl) ?_;refine g10 ?_;refine St.lH (ι:=Nat×aV) (λ⟨k,wv⟩ T=>(11,iv k)::(10,wv.1)::T) (λ⟨k,wv⟩=>[row wv.1 9 1 ((s.take (k)).filter (fR (dX (bZ g) aL).1 i)).length (rows bE ((s.take (k)).filter (fR (dX (bZ g) aL).1 i))),aB (sl bE u.1 s),aB (sl bE y.1 (s.filter (fR (dX (bZ g) aL).1 i))),aB (sl bN v1 vs),aB (j8 bE vs aL),aB (sl bN lv.1 us),aB (j8 bE us (dX (bZ g) aL).1),aB (sl bN l.1 ws),aB (j8 bE ws (rM (bZ g) aL).1)]) (λ⟨k,wv⟩=>k≤s.length) (λ⟨k,wv⟩=>s.length-k) ⟨0,⟨(.slice (some ⟨h,0,none⟩) 0 0),rfl⟩⟩ (aD.cons 1 rfl (aD.cons 5 rfl (aD.cons 7 rfl (aD.cons 9 rfl aD.nil)))) (aP _) ?_;rintro ⟨k,wv⟩ hk
    dsimp only at hk⊢
    have Q:((s.take (k)).filter (fR (dX (bZ g) aL).1 i)).length≤5:=dW (G9 _ _) (by rw[eU];omega)
    refine g12 ?_;refine St.cq (λR=> ?_) (λR=> ?_)
    ·obtain⟨w,hw⟩:=aE (show k<s.length by omega)
     have e:((s.take (k+1)).filter (fR (dX (bZ g) aL).1 i))=((s.take (k)).filter (fR (dX (bZ g) aL).1 i))++if fR (dX (bZ g) aL).1 i w=true then [w]else []:=by rw[ag hw,List.filter_append,List.filter_cons,List.filter_nil]
     refine g16 ?_;refine St.lH (ι:=Nat) (λm T=>(13,iv m)::(12,.bool (((dX (bZ g) aL).1.take (m)).any λc=>decide (c.getD i []=w)))::T) (λm=>[row wv.1 9 1 ((s.take (k)).filter (fR (dX (bZ g) aL).1 i)).length (rows bE ((s.take (k)).filter (fR (dX (bZ g) aL).1 i))),aB (sl bE u.1 s),aB (sl bE y.1 (s.filter (fR (dX (bZ g) aL).1 i))),aB (sl bN v1 vs),aB (j8 bE vs aL),aB (sl bN lv.1 us),aB (j8 bE us (dX (bZ g) aL).1),aB (sl bN l.1 ws),aB (j8 bE ws (rM (bZ g) aL).1)]) (λm=>m≤us.length) (λm=>us.length-m) 0 (aD.cons 1 rfl (aD.cons 5 rfl (aD.cons 7 rfl (aD.cons 9 rfl (aD.cons 10 rfl (aD.cons 11 rfl aD.nil)))))) (aP _) ?_;intro m hm;refine g9 ?_;refine St.cq (λA=> ?_) (λA=> ?_)
     ·obtain⟨c2,B⟩:=aE (show m<(dX (bZ g) aL).1.length by omega)
      obtain⟨u2,I⟩:=aE (show m<us.length by omega);refine St.j8 (vs:=us) m I B ?_
      have S:=M c2 (aZ B)
      obtain⟨x,hx⟩:=aE (show i<c2.length by omega)
      have U:c2.getD i []=x:=by rw[aw,hx];rfl
      have C:(((dX (bZ g) aL).1.take (m+1)).any λc=>decide (c.getD i []=w))=((((dX (bZ g) aL).1.take (m)).any λc=>decide (c.getD i []=w))||decide (x=w)):=by rw[ag B,List.any_append,List.any_cons,List.any_nil,Bool.or_false,U]
      refine g17 ?_;refine St.cq (λD=> ?_) (λD=> ?_)
      ·exfalso
       omega
      ·refine g2 ?_
       refine St.rq mixed (by kernel_rfl) (Mm.drawn _ _) ?_;refine g2 ?_;refine Sq.gf _ rfl rfl (λa=>Ev.move (.mk rfl)) rfl ?_;refine Sq.gf _ rfl rfl (λa=>Ev.move (.mk rfl)) rfl ?_;refine Sq.gf _ rfl rfl (λa=>Ev.cE (k:=m) (ah.gv rfl a) (ah.gv rfl a) px xM (by first|omega|(simp only[eM]at a;omega)) (by first|omega|(simp only[eM]at a;omega))) rfl ?_;refine Sq.gf _ rfl rfl (λa=>Ev.ld1 (ah.gv rfl a) I lE trivial rfl) rfl ?_;refine Sq.gf _ rfl rfl (λa=>Ev.move (.mk rfl)) rfl ?_;refine Sq.gf _ rfl rfl (λa=>Ev.cE (k:=i) (ah.gv rfl a) (ah.gv rfl a) lE Fj (by first|omega|(simp only[eM]at a;omega)) (by first|omega|(simp only[eM]at a;omega))) rfl ?_;refine Sq.gf _ rfl rfl (λa=>Ev.ld1 (ah.gv rfl a) hx vt trivial rfl) rfl ?_;refine Sq.gf _ rfl rfl (λa=>Ev.move (.mk rfl)) rfl ?_;refine Sq.gf _ rfl rfl (λa=>Ev.move (.mk rfl)) rfl ?_;refine Sq.gf _ rfl rfl (λa=>Ev.cE (k:=i) (ah.gv rfl a) (ah.gv rfl a) px xM (by first|omega|(simp only[eM]at a;omega)) (by first|omega|(simp only[eM]at a;omega))) rfl ?_;refine Sq.gf _ rfl rfl (λa=>Ev.ld1 (ah.gv rfl a) hu lE trivial rfl) rfl ?_;refine Sq.gf _ rfl rfl (λa=>Ev.move (.mk rfl)) rfl ?_;refine Sq.gf _ rfl rfl (λa=>Ev.cE (k:=k) (ah.gv rfl a) (ah.gv rfl a) lE Fj (by first|omega|(simp only[eM]at a;omega)) (by first|omega|(simp only[eM]at a;omega))) rfl ?_;refine Sq.gf _ rfl rfl (λa=>Ev.ld1 (ah.gv rfl a) hw vt trivial rfl) rfl ?_;refine Sq.gf _ rfl rfl (λa=>Ev.Jd (ah.gv rfl a) (ah.gv rfl a)) rfl ?_;refine go ?_;refine Sq.slot 96 (.bool (((dX (bZ g) aL).1.take (m+1)).any λc=>decide (c.getD i []=w))) rfl (congrArg Value.bool (by rw[C];congr 1;rw[A8];simp)) ?_;refine g10 ?_;refine St.aH (m+1) (by omega)
     ·obtain rfl:m=us.length:=by omega
      have j:(((dX (bZ g) aL).1.take (us.length)).any λc=>decide (c.getD i []=w))=fR (dX (bZ g) aL).1 i w:=by rw[q,jY];exact JF _ _ _
      refine g10 ?_;refine St.cond _ rfl (λd=> ?_) (λd=> ?_)
      ·skip
       rw[aC (j.symm.trans d)]at e;refine g9 ?_;refine St.gV rfl (.ar rfl) lE Fj QO rfl rfl (by simp[Value.cells]) rfl rfl (λV=> ?_);refine St.aj (.mk rfl) (.mk rfl) lE Fj QO by9 (by simp[Value.oneCell',Value.cells]) (by omega) (by omega) rfl rfl rfl rfl (λv107 W=> ?_);refine St.aM v107 (show _=((s.take (k+1)).filter (fR (dX (bZ g) aL).1 i)).length by rw[e,bR];rfl) (show _=rows bE ((s.take (k+1)).filter (fR (dX (bZ g) aL).1 i)) by rw[e,ay];rfl) ?_;refine St.ba v107 (λX _=> ?_);refine g10 ?_;refine St.aH ⟨k+1,⟨v107,X⟩⟩ (by dsimp only;omega)
      ·skip
       rw[aA (by rw[←j,d];decide),gu]at e;refine St.aM wv.1 (show _=((s.take (k+1)).filter (fR (dX (bZ g) aL).1 i)).length by rw[e]) (show _=rows bE ((s.take (k+1)).filter (fR (dX (bZ g) aL).1 i)) by rw[e]) ?_;refine g9 ?_;refine St.aH ⟨k+1,wv⟩ (by dsimp only;omega)
    ·obtain rfl:k=s.length:=by omega
     rw[jY];refine St.bS wv.1 bE (s.filter (fR (dX (bZ g) aL).1 i)) rfl rfl (λw hw=>K s (aZ n) w (wj.1 hw).1) ?_;refine g12 ?_;refine St.ee (Ev.call (mg y.1 wv.1 (s.filter (fR (dX (bZ g) aL).1 i)) (s.filter (fR (dX (bZ g) aL).1 i))) Vn (.aX rfl rfl)) ?_;refine g3 ?_;refine St.rm _ rfl (by simp) ?_;refine g9 ?_;refine St.aH (i+1) (by omega)
   ·refine g11 ?_
    refine St.rV [_] [] ?_;rfl
end Go.Proofs.YtblifkgpebebmaaGreatDoor
