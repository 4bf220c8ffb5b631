/-
  The law TopTokens: for every input it returns true, and the input reads as it did; its card: the listed variables are tied tqo the program's text.
  Conditions: none.
-/
import Derived.Test.YtblifkgpebebmaaGreatDoorRows
import Derived.Test.YtblifkgpebebmaaGreatDoorTie
import Derived.Test.YtblifkgpebebmaaGreatDoorCards
import Derived.Test.YtblifkgpebebmaaGreatDoorGT10
import Derived.SevenTiedAt
set_option linter.unusedVariables false
set_option linter.unusedSimpArgs false
namespace Go.Proofs.YtblifkgpebebmaaGreatDoor.topTok
open Go Go.J Go.ChangeShapes Go.WideShapes Go.ChangeAt Go.RowKit
open Go.ChangeMaps (open_string)
set_option maxRecDepth 100000
theorem own:ownKnob Tryz.prog.godebug=none:=by kernel_rfl
theorem laidOut:laidOutB Tryz.prog=true:=by kernel_rfl
theorem pn:Tryz.prog.cellsOf 9=1:=by kernel_rfl
theorem abG:Tryz.prog.bytesOf 9=16:=by kernel_rfl
theorem zt (W:World):laidMetH Tryz.prog Rows.topTokensRow.laid W=laidMet Tryz.prog Rows.topTokensRow.laid W:=MakeChecks.laidMetH_plain _ _ _ (by kernel_rfl)
theorem ag5:Rows.laid_unicode_utf8_acceptRanges=Lib.acceptData:=by kernel_rfl
theorem W3:Rows.laid_unicode_utf8_first=Lib.firstData:=by kernel_rfl
theorem akX:(Rows.laid_math_bits_deBruijn64tab:DataW Unit)=Lib.tabData .u8 (Lib.deBruijn64tab.map λx:Nat=>(x:Int)):=by kernel_rfl
theorem akY {W:World}(h:laidMetH Tryz.prog Rows.topTokensRow.laid W):YO W:=
 EJ (by kernel_rfl) (by kernel_rfl) (by kernel_rfl) (by kernel_rfl) Tryz.underlying217 Dn Tryz.underlying221 Tryz.underlying220 (λi fd hi=>by
  match i,hi with
  |0,hi=>simp at hi;subst hi;exact⟨Dn,rfl,by kernel_rfl⟩
  |1,hi=>simp at hi;subst hi;exact⟨Dn,rfl,by kernel_rfl⟩
  |i+2,hi=>simp at hi) rfl (by kernel_rfl) (by kernel_rfl) (by kernel_rfl) h (zt W) (by rw[←W3];exact .tail _ (.tail _ (.head _))) (by rw[←ag5];exact .tail _ (.head _))
theorem ag6 {W:World}(h:YO W):u8.f (J.all W):=λw hw=>CU h hw
theorem ag7 {W:World}(h:laidMetH Tryz.prog Rows.topTokensRow.laid W):∀d∈[tz,u8],d.f (J.all W):=by
 have h':laidMet Tryz.prog Rows.topTokensRow.laid W:=by rw[←zt];exact h
 intro d hd
 simp only[List.mem_cons,List.not_mem_nil,or_false]at hd
 rcases hd with rfl|rfl
 ·exact λw hw=>Nh (by kernel_rfl) (by kernel_rfl) Tryz.underlying257 Dn (by kernel_rfl) (by kernel_rfl) (Lib.laidMet.reads h' (by rw[←akX];exact .head _)) w hw
 ·exact ag6 (akY h)
theorem S7 (H:Type)(enc:TypeId×Value→H)(W:World)(base:Nat)(args:Array Value)(ds gs:List (DataW H))(before:List MemPlace)
 (S8:∀(j:Nat) t v,Tryz.f3.params[j]?=some t→args[j]?=some v→Value.okWide Tryz.prog W .any base t v)
 (hW:DataW.Whole enc Tryz.prog Tryz.f3.params.toList Rows.topTokensSpec.vars false W args.toList ds gs before)
 (Lp:(DataW.weightsEach Tryz.prog (Tryz.f3.params.toList++(OpenSpec.ofChange Rows.topTokensSpec).bare.plain.varTypes Tryz.prog) (ds++gs)).all (· ≤reachBytes)=true) (XZ:∀d∈[tz,u8],d.f (J.all W)):
 Calls Tryz.prog 3 args W λe W'=>∃v,e= .returned v∧Rows.topTokensSpec.post enc Tryz.prog Tryz.f3 false true false false W args v W':=by
 have hW':=hW
 obtain⟨p,q,hA0,hV,rfl,hfz,rO⟩:=hW
 have hA:DataW.TrodAll enc Tryz.prog W 0 (λ_=>true) true Tryz.f3.params.toList args.toList ds p:=hA0
 have gQ:(DataW.weightsEach Tryz.prog (Tryz.f3.params.toList++(OpenSpec.ofChange Rows.topTokensSpec).bare.plain.varTypes Tryz.prog) (ds++gs)).all (· ≤reachBytes)=true:=Lp
 rw[Tryz.params3]at hA S8 gQ;obtain⟨v0,v1,d0,d1,p0,p1,rfl,rfl,rfl,h0,h1⟩:=trodAll_two hA;obtain⟨rfl,rfl⟩:=trodVars_none hV
 clear hA0 Lp
 simp only[List.append_nil]at hW'
 have iX:∀x∈p0++p1,x.block<W.heap.size:=λx hx=>by simpa using hW'.lt x hx
 obtain⟨a0,rfl,f0⟩:=O3 (S8 0 32 v0 rfl rfl) (sW (j:=0) gQ rfl rfl) h0;obtain⟨a1,f1,g1⟩:=Ss dY uX pn (Xv sK) (S8 1 33 v1 rfl rfl) (sW (j:=1) gQ rfl rfl) h1
 have z1:=NU gQ 1 (xs:=a1) rfl rfl uX g1 16 abG
 refine((zr a0 v1 a1).below (W:=W) (λd hd=> ?_)).mono ?_
 ·simp only[List.mem_cons,List.not_mem_nil,or_false]at hd
  rcases hd with rfl|rfl|rfl|rfl
  ·exact f0
  ·exact f1
  ·exact XZ _ (by simp only[List.mem_cons,true_or,or_true])
  ·exact XZ _ (by simp only[List.mem_cons,true_or,or_true])
 ·rintro e W' ⟨rfl,hb⟩
  have ha:∀{t v d p},Tryz.prog.readableRec t=true→t<Tryz.prog.types.size→DataW.Trod enc Tryz.prog W 0 (λ_=>true) true t v d p→(∀x∈p,x.block<W.heap.size)→DataW.Trod enc Tryz.prog W' 0 (λb=>decide (b<W.heap.size)) true t v d p:=
   λhr ht h hl=>Below.trod laidOut hr ht h hb hl
  refine⟨_,rfl,_,_,_,[],_,[],hW',trodAll_mk1 (shut_bool Eb _),trodAll_mk2 (ha (by kernel_rfl) (eS (by kernel_rfl)) h0 λx hx=>iX x (by simp[hx])) (ha (by kernel_rfl) (eS (by kernel_rfl)) h1 λx hx=>iX x (by simp[hx])),rfl,hb.frame _,λh=>by cases h⟩
theorem S9 (os:Os):laidMetH Tryz.prog Rows.topTokensRow.laid ((World.laidAll Tryz.prog os Rows.topTokensRow.laid).forCall (λ_ _=>0) ⟨#[],#[.agg #[.slice none 0 0,.slice none 0 0,.slice none 0 0,.slice none 0 0,.slice none 0 0],.slice none 0 0],[]⟩).memory:=by
 rw[zt];exact laidMet_laidAll _ (by kernel_rfl) (by kernel_rfl)
theorem reads (os:Os){H:Type}(enc:TypeId×Value→H):DataW.whole enc Tryz.prog ((World.laidAll Tryz.prog os Rows.topTokensRow.laid).forCall (λ_ _=>0) ⟨#[],#[.agg #[.slice none 0 0,.slice none 0 0,.slice none 0 0,.slice none 0 0,.slice none 0 0],.slice none 0 0],[]⟩).memory Tryz.f3.params.toList Rows.topTokensSpec.vars false #[.agg #[.slice none 0 0,.slice none 0 0,.slice none 0 0,.slice none 0 0,.slice none 0 0],.slice none 0 0].toList 8=some ([.agg [.agg [.nil,.nil],.nil,.nil,.agg [.nil]],.nil],[],[]):=by kernel_rfl
theorem lifted (os:Os)(started:os.Started)(H:Type)(enc:TypeId×Value→H)(F:Stop.Interp):
 ReturnsInHanded {} Tryz.checked os 3 .any ((OpenSpec.ofChange Rows.topTokensSpec).preRow enc Tryz.prog Tryz.f3 Rows.topTokensRow.domain false Rows.topTokensRow.laid) (((OpenSpec.ofChange Rows.topTokensSpec).at F).post enc Tryz.prog Tryz.f3 false true false false):=by
 refine returnsInHanded_of_row (C:=Tryz.checked) (s:=(OpenSpec.ofChange Rows.topTokensSpec)) own started (by kernel_rfl) Tryz.func3
  ⟨World.laidAll Tryz.prog os Rows.topTokensRow.laid,λ_ _=>0,⟨#[],#[.agg #[.slice none 0 0,.slice none 0 0,.slice none 0 0,.slice none 0 0,.slice none 0 0],.slice none 0 0],[]⟩,World.laidAll_os _ _ _,World.shaped_of_ZipB (by kernel_rfl) (by kernel_rfl),rfl,
   (Input.okWide_of_okWideB (P:=Tryz.prog) (f:=3) (w:=(World.laidAll Tryz.prog os Rows.topTokensRow.laid).forCall (λ_ _=>0) ⟨#[],#[.agg #[.slice none 0 0,.slice none 0 0,.slice none 0 0,.slice none 0 0,.slice none 0 0],.slice none 0 0],[]⟩) (i:=⟨#[],#[.agg #[.slice none 0 0,.slice none 0 0,.slice none 0 0,.slice none 0 0,.slice none 0 0],.slice none 0 0],[]⟩) (by kernel_rfl)).2,
   OpenSpec.preRow_of_cond 8 (reads os enc) (by kernel_rfl) (λk hk=>by cases hk) (by kernel_rfl) (S9 os),by
    simp only[Assume.holds]
    exact⟨by simp,by simp,λ_=>Modest.zero,by simp,by simp⟩⟩ ?_
 intro W base args ds gs before S8 hW _ alJ gQ hL _ _;exact S7 H enc W base args ds gs before S8 hW gQ (ag7 hL)
theorem said:Rows.TopTokensSaid:=
 OpenClaim.holds_of_cond 3 Tryz.f3 rfl rfl rfl rfl rfl rfl rfl ⟨rfl,rfl,rfl,rfl,rfl⟩ rfl rfl rfl rfl rfl (by kernel_rfl) Tryz.func3 (by kernel_rfl)
  (eS (by kernel_rfl)) (by unfold Func.isWrapper;first|(rw[aB (by decide+kernel)];kernel_rfl)|(rw[aA (by decide+kernel)];exact⟨rfl,rfl⟩))
  (λos started H enc _ F=>by rw[OpenClaim.pre_eq_preRow];exact lifted os started H enc F)
theorem holds:Rows.TopTokensCardSaid:=
 Claim7.holds_tied_plain_at .later [] [.data, .data, .pinned] true (true, "0e83c27d7ce0a1db18017fb35400dfa89671e62fdafe4b6c7938be19390e2dc3") true
  said (λ_ h=>by cases h) (by kernel_rfl) (λ_ h=>by cases h) topTokens_row_tie rfl ⟨rfl,rfl⟩ (by kernel_rfl) rfl
  (λf fn hf MA=>by
   obtain rfl : f = 3 := Option.some.inj ((show Tryz.prog.funcNamed "glosswright/glosswrighttop.TopTokens" = some 3 by kernel_rfl).symm.trans hf) |>.symm;obtain rfl:fn=Tryz.f3:=(Option.some.inj (Tryz.func3.symm.trans MA)).symm
   exact⟨by kernel_rfl,λj t ht=>by
    rw[Tryz.params3]at ht
    have hm:t∈[32,33]:=by simpa using Array.mem_of_getElem? ht
    have ig:([32,33].all λu=> !Tryz.prog.wantsStandIn u)=true:=by kernel_rfl
    exact(show Tryz.prog.wantsStandIn t=false by simpa using eO.1 ig t hm)⟩)
  (by kernel_rfl)
#print axioms holds
end Go.Proofs.YtblifkgpebebmaaGreatDoor.topTok
