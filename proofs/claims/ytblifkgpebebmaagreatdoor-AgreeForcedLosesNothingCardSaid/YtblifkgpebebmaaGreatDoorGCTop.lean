/-
  The law AgreeForcedLosesNothing: for every input it returns true, and the input reads as it did; its card: the listed variables are tied tqo the program's text.
  Conditions: none.
-/
import Derived.Test.YtblifkgpebebmaaGreatDoorRows
import Derived.Test.YtblifkgpebebmaaGreatDoorTie
import Derived.Test.YtblifkgpebebmaaGreatDoorCards
import Derived.Test.YtblifkgpebebmaaGreatDoorGC11
import Derived.SevenTiedAt
set_option linter.unusedVariables false
set_option linter.unusedSimpArgs false
namespace Go.Proofs.YtblifkgpebebmaaGreatDoor.agrLoses
open Go Go.J Go.ChangeShapes Go.WideShapes Go.ChangeAt Go.RowKit
open Go.ChangeMaps (open_string)
set_option maxRecDepth 100000
theorem own:ownKnob Tryz.prog.godebug=none:=by kernel_rfl
theorem laidOut:laidOutB Tryz.prog=true:=by kernel_rfl
theorem qH:Tryz.prog.cellsOf 9=1:=by kernel_rfl
theorem RS:Tryz.prog.cellsOf 33=1:=by kernel_rfl
theorem ag9:Tryz.prog.bytesOf 9=16:=by kernel_rfl
theorem RD:Tryz.prog.bytesOf 33=24:=by kernel_rfl
theorem zO (W:World):laidMetH Tryz.prog Rows.agreeForcedLosesNothingRow.laid W=laidMet Tryz.prog Rows.agreeForcedLosesNothingRow.laid W:=MakeChecks.laidMetH_plain _ _ _ (by kernel_rfl)
theorem Yt:Rows.laid_unicode_utf8_acceptRanges=Lib.acceptData:=by kernel_rfl
theorem Ru:Rows.laid_unicode_utf8_first=Lib.firstData:=by kernel_rfl
theorem al7:(Rows.laid_math_bits_deBruijn64tab:DataW Unit)=Lib.tabData .u8 (Lib.deBruijn64tab.map λx:Nat=>(x:Int)):=by kernel_rfl
theorem al6 {W:World}(h:laidMetH Tryz.prog Rows.agreeForcedLosesNothingRow.laid W):Vc W:=
 GB (by kernel_rfl) (by kernel_rfl) (by kernel_rfl) (by kernel_rfl) Tryz.underlying217 GP Tryz.underlying221 Tryz.underlying220 (λi fd a=>by
  match i,a with
  |0,a=>simp at a;subst a;exact⟨GP,rfl,by kernel_rfl⟩
  |1,a=>simp at a;subst a;exact⟨GP,rfl,by kernel_rfl⟩
  |i+2,a=>simp at a) rfl (by kernel_rfl) (by kernel_rfl) (by kernel_rfl) h (zO W) (by rw[←Ru];exact .tail _ (.tail _ (.head _))) (by rw[←Yt];exact .tail _ (.head _))
theorem afJ {W:World}(h:Vc W):u8.f (J.all W):=λw hw=>Dj h hw
theorem aaE {W:World}(h:laidMetH Tryz.prog Rows.agreeForcedLosesNothingRow.laid W):∀d∈[tz,u8],d.f (J.all W):=by
 have a:laidMet Tryz.prog Rows.agreeForcedLosesNothingRow.laid W:=by rw[←zO];exact h
 intro d hd
 simp only[List.mem_cons,List.not_mem_nil,or_false]at hd
 rcases hd with rfl|rfl
 ·exact λw hw=>Mj (by kernel_rfl) (by kernel_rfl) Tryz.underlying257 GP (by kernel_rfl) (by kernel_rfl) (Lib.laidMet.reads a (by rw[←al7];exact .head _)) w hw
 ·exact afJ (al6 h)
theorem N4 (H:Type)(enc:TypeId×Value→H)(W:World)(base:Nat)(args:Array Value)(ds gs:List (DataW H))(before:List MemPlace)
 (k:∀(j:Nat) t v,Tryz.f6.params[j]?=some t→args[j]?=some v→Value.okWide Tryz.prog W .any base t v)
 (m:DataW.Whole enc Tryz.prog Tryz.f6.params.toList Rows.agreeForcedLosesNothingSpec.vars false W args.toList ds gs before)
 (n:(DataW.weightsEach Tryz.prog (Tryz.f6.params.toList++(OpenSpec.ofChange Rows.agreeForcedLosesNothingSpec).bare.plain.varTypes Tryz.prog) (ds++gs)).all (· ≤reachBytes)=true) (c:∀d∈[tz,u8],d.f (J.all W)):
 Calls Tryz.prog 6 args W λe l=>∃v,e= .returned v∧Rows.agreeForcedLosesNothingSpec.post enc Tryz.prog Tryz.f6 false true false false W args v l:=by
 have a:=m
 obtain⟨p,q,g,z,rfl,A,E⟩:=m
 have o:DataW.TrodAll enc Tryz.prog W 0 (λ_=>true) true Tryz.f6.params.toList args.toList ds p:=g
 have i:(DataW.weightsEach Tryz.prog (Tryz.f6.params.toList++(OpenSpec.ofChange Rows.agreeForcedLosesNothingSpec).bare.plain.varTypes Tryz.prog) (ds++gs)).all (· ≤reachBytes)=true:=n
 rw[Tryz.params6]at o k i;obtain⟨v0,v1,d0,d1,p0,B,rfl,rfl,rfl,r,h1⟩:=trodAll_two o;obtain⟨rfl,rfl⟩:=trodVars_none z
 clear g n
 simp only[List.append_nil]at a
 have s:∀x∈p0++B,x.block<W.heap.size:=λx hx=>by simpa using a.lt x hx
 obtain⟨a0,rfl,f0⟩:=Oa (k 0 32 v0 rfl rfl) (uW (j:=0) i rfl rfl) r;obtain⟨u,f1,g1⟩:=OS bI sf RS pM qH (WG xQ) (k 1 49 v1 rfl rfl) (uW (j:=1) i rfl rfl) h1
 have F:=PQ i 1 (xs:=u) rfl rfl sf g1 24 RD
 refine((Ak a0 v1 u).below (W:=W) (λd hd=> ?_)).mono ?_
 ·simp only[List.mem_cons,List.not_mem_nil,or_false]at hd
  rcases hd with rfl|rfl|rfl|rfl
  ·exact f0
  ·exact f1
  ·exact c _ (by simp only[List.mem_cons,true_or,or_true])
  ·exact c _ (by simp only[List.mem_cons,true_or,or_true])
 ·rintro e l ⟨rfl,w⟩
  have y:∀{t v d p},Tryz.prog.readableRec t=true→t<Tryz.prog.types.size→DataW.Trod enc Tryz.prog W 0 (λ_=>true) true t v d p→(∀x∈p,x.block<W.heap.size)→DataW.Trod enc Tryz.prog l 0 (λb=>decide (b<W.heap.size)) true t v d p:=
   λC ht h D=>Below.trod laidOut C ht h w D
  refine⟨_,rfl,_,_,_,[],_,[],a,trodAll_mk1 (shut_bool IL _),trodAll_mk2 (y (by kernel_rfl) (fM (by kernel_rfl)) r λx hx=>s x (by simp[hx])) (y (by kernel_rfl) (fM (by kernel_rfl)) h1 λx hx=>s x (by simp[hx])),rfl,w.frame _,λh=>by cases h⟩
theorem O4 (os:Os):laidMetH Tryz.prog Rows.agreeForcedLosesNothingRow.laid ((World.laidAll Tryz.prog os Rows.agreeForcedLosesNothingRow.laid).forCall (λ_ _=>0) ⟨#[],#[.agg #[.slice none 0 0,.slice none 0 0,.slice none 0 0,.slice none 0 0,.slice none 0 0],.slice none 0 0],[]⟩).memory:=by
 rw[zO];exact laidMet_laidAll _ (by kernel_rfl) (by kernel_rfl)
theorem reads (os:Os){H:Type}(enc:TypeId×Value→H):DataW.whole enc Tryz.prog ((World.laidAll Tryz.prog os Rows.agreeForcedLosesNothingRow.laid).forCall (λ_ _=>0) ⟨#[],#[.agg #[.slice none 0 0,.slice none 0 0,.slice none 0 0,.slice none 0 0,.slice none 0 0],.slice none 0 0],[]⟩).memory Tryz.f6.params.toList Rows.agreeForcedLosesNothingSpec.vars false #[.agg #[.slice none 0 0,.slice none 0 0,.slice none 0 0,.slice none 0 0,.slice none 0 0],.slice none 0 0].toList 8=some ([.agg [.agg [.nil,.nil],.nil,.nil,.agg [.nil]],.nil],[],[]):=by kernel_rfl
theorem lifted (os:Os)(started:os.Started)(H:Type)(enc:TypeId×Value→H)(F:Stop.Interp):
 ReturnsInHanded {} Tryz.checked os 6 .any ((OpenSpec.ofChange Rows.agreeForcedLosesNothingSpec).preRow enc Tryz.prog Tryz.f6 Rows.agreeForcedLosesNothingRow.domain false Rows.agreeForcedLosesNothingRow.laid) (((OpenSpec.ofChange Rows.agreeForcedLosesNothingSpec).at F).post enc Tryz.prog Tryz.f6 false true false false):=by
 refine returnsInHanded_of_row (C:=Tryz.checked) (s:=(OpenSpec.ofChange Rows.agreeForcedLosesNothingSpec)) own started (by kernel_rfl) Tryz.func6
  ⟨World.laidAll Tryz.prog os Rows.agreeForcedLosesNothingRow.laid,λ_ _=>0,⟨#[],#[.agg #[.slice none 0 0,.slice none 0 0,.slice none 0 0,.slice none 0 0,.slice none 0 0],.slice none 0 0],[]⟩,World.laidAll_os _ _ _,World.shaped_of_ZipB (by kernel_rfl) (by kernel_rfl),rfl,
   (Input.okWide_of_okWideB (P:=Tryz.prog) (f:=6) (w:=(World.laidAll Tryz.prog os Rows.agreeForcedLosesNothingRow.laid).forCall (λ_ _=>0) ⟨#[],#[.agg #[.slice none 0 0,.slice none 0 0,.slice none 0 0,.slice none 0 0,.slice none 0 0],.slice none 0 0],[]⟩) (i:=⟨#[],#[.agg #[.slice none 0 0,.slice none 0 0,.slice none 0 0,.slice none 0 0,.slice none 0 0],.slice none 0 0],[]⟩) (by kernel_rfl)).2,
   OpenSpec.preRow_of_cond 8 (reads os enc) (by kernel_rfl) (λk hk=>by cases hk) (by kernel_rfl) (O4 os),by
    simp only[Assume.holds]
    exact⟨by simp,by simp,λ_=>Modest.zero,by simp,by simp⟩⟩ ?_
 intro W base args ds gs before a b _ c d e _ _;exact N4 H enc W base args ds gs before a b d (aaE e)
theorem said:Rows.AgreeForcedLosesNothingSaid:=
 OpenClaim.holds_of_cond 6 Tryz.f6 rfl rfl rfl rfl rfl rfl rfl ⟨rfl,rfl,rfl,rfl,rfl⟩ rfl rfl rfl rfl rfl (by kernel_rfl) Tryz.func6 (by kernel_rfl)
  (fM (by kernel_rfl)) (by unfold Func.isWrapper;first|(rw[aC (by decide+kernel)];kernel_rfl)|(rw[aA (by decide+kernel)];exact⟨rfl,rfl⟩))
  (λos started H enc _ F=>by rw[OpenClaim.pre_eq_preRow];exact lifted os started H enc F)
theorem holds:Rows.AgreeForcedLosesNothingCardSaid:=
 Claim7.holds_tied_plain_at .later [] [.data, .data, .pinned] true (true, "0e83c27d7ce0a1db18017fb35400dfa89671e62fdafe4b6c7938be19390e2dc3") true
  said (λ_ h=>by cases h) (by kernel_rfl) (λ_ h=>by cases h) agreeForcedLosesNothing_row_tie rfl ⟨rfl,rfl⟩ (by kernel_rfl) rfl
  (λf fn a b=>by
   obtain rfl : f = 6 := Option.some.inj ((show Tryz.prog.funcNamed "glosswright/glosswrightlaw7.AgreeForcedLosesNothing" = some 6 by kernel_rfl).symm.trans a) |>.symm;obtain rfl:fn=Tryz.f6:=(Option.some.inj (Tryz.func6.symm.trans b)).symm
   exact⟨by kernel_rfl,λj t ht=>by
    rw[Tryz.params6]at ht
    have hm:t∈[32,49]:=by simpa using Array.mem_of_getElem? ht
    have c:([32,49].all λu=> !Tryz.prog.wantsStandIn u)=true:=by kernel_rfl
    exact(show Tryz.prog.wantsStandIn t=false by simpa using eW.1 c t hm)⟩)
  (by kernel_rfl)
#print axioms holds
end Go.Proofs.YtblifkgpebebmaaGreatDoor.agrLoses
