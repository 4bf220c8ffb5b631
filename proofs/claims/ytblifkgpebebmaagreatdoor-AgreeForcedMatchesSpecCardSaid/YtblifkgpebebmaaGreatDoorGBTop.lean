/-
  The law AgreeForcedMatchesSpec: for every input it returns true, and the input reads as it did; its card: the listed variables are tied tqo the program's text.
  Conditions: none.
-/
import Derived.Test.YtblifkgpebebmaaGreatDoorRows
import Derived.Test.YtblifkgpebebmaaGreatDoorTie
import Derived.Test.YtblifkgpebebmaaGreatDoorCards
import Derived.Test.YtblifkgpebebmaaGreatDoorGB11
import Derived.SevenTiedAt
set_option linter.unusedVariables false
set_option linter.unusedSimpArgs false
namespace Go.Proofs.YtblifkgpebebmaaGreatDoor.agrForced
open Go Go.J Go.ChangeShapes Go.WideShapes Go.ChangeAt Go.RowKit
open Go.ChangeMaps (open_string)
set_option maxRecDepth 100000
theorem own:ownKnob Tryz.prog.godebug=none:=by kernel_rfl
theorem laidOut:laidOutB Tryz.prog=true:=by kernel_rfl
theorem qI:Tryz.prog.cellsOf 9=1:=by kernel_rfl
theorem RJ:Tryz.prog.cellsOf 33=1:=by kernel_rfl
theorem ag2:Tryz.prog.bytesOf 9=16:=by kernel_rfl
theorem R5:Tryz.prog.bytesOf 33=24:=by kernel_rfl
theorem zI (W:World):laidMetH Tryz.prog Rows.agreeForcedMatchesSpecRow.laid W=laidMet Tryz.prog Rows.agreeForcedMatchesSpecRow.laid W:=MakeChecks.laidMetH_plain _ _ _ (by kernel_rfl)
theorem Yl:Rows.laid_unicode_utf8_acceptRanges=Lib.acceptData:=by kernel_rfl
theorem Rk:Rows.laid_unicode_utf8_first=Lib.firstData:=by kernel_rfl
theorem alY:(Rows.laid_math_bits_deBruijn64tab:DataW Unit)=Lib.tabData .u8 (Lib.deBruijn64tab.map λx:Nat=>(x:Int)):=by kernel_rfl
theorem alX {W:World}(h:laidMetH Tryz.prog Rows.agreeForcedMatchesSpecRow.laid W):VT W:=
 G3 (by kernel_rfl) (by kernel_rfl) (by kernel_rfl) (by kernel_rfl) Tryz.underlying217 GI Tryz.underlying221 Tryz.underlying220 (λi fd a=>by
  match i,a with
  |0,a=>simp at a;subst a;exact⟨GI,rfl,by kernel_rfl⟩
  |1,a=>simp at a;subst a;exact⟨GI,rfl,by kernel_rfl⟩
  |i+2,a=>simp at a) rfl (by kernel_rfl) (by kernel_rfl) (by kernel_rfl) h (zI W) (by rw[←Rk];exact .tail _ (.tail _ (.head _))) (by rw[←Yl];exact .tail _ (.head _))
theorem afC {W:World}(h:VT W):u8.f (J.all W):=λw hw=>Da h hw
theorem Zx {W:World}(h:laidMetH Tryz.prog Rows.agreeForcedMatchesSpecRow.laid W):∀d∈[tz,u8],d.f (J.all W):=by
 have a:laidMet Tryz.prog Rows.agreeForcedMatchesSpecRow.laid W:=by rw[←zI];exact h
 intro d hd
 simp only[List.mem_cons,List.not_mem_nil,or_false]at hd
 rcases hd with rfl|rfl
 ·exact λw hw=>Mc (by kernel_rfl) (by kernel_rfl) Tryz.underlying257 GI (by kernel_rfl) (by kernel_rfl) (Lib.laidMet.reads a (by rw[←alY];exact .head _)) w hw
 ·exact afC (alX h)
theorem Mx (H:Type)(enc:TypeId×Value→H)(W:World)(base:Nat)(args:Array Value)(ds gs:List (DataW H))(before:List MemPlace)
 (k:∀(j:Nat) t v,Tryz.f5.params[j]?=some t→args[j]?=some v→Value.okWide Tryz.prog W .any base t v)
 (m:DataW.Whole enc Tryz.prog Tryz.f5.params.toList Rows.agreeForcedMatchesSpecSpec.vars false W args.toList ds gs before)
 (n:(DataW.weightsEach Tryz.prog (Tryz.f5.params.toList++(OpenSpec.ofChange Rows.agreeForcedMatchesSpecSpec).bare.plain.varTypes Tryz.prog) (ds++gs)).all (· ≤reachBytes)=true) (c:∀d∈[tz,u8],d.f (J.all W)):
 Calls Tryz.prog 5 args W λe l=>∃v,e= .returned v∧Rows.agreeForcedMatchesSpecSpec.post enc Tryz.prog Tryz.f5 false true false false W args v l:=by
 have a:=m
 obtain⟨p,q,g,z,rfl,A,E⟩:=m
 have o:DataW.TrodAll enc Tryz.prog W 0 (λ_=>true) true Tryz.f5.params.toList args.toList ds p:=g
 have i:(DataW.weightsEach Tryz.prog (Tryz.f5.params.toList++(OpenSpec.ofChange Rows.agreeForcedMatchesSpecSpec).bare.plain.varTypes Tryz.prog) (ds++gs)).all (· ≤reachBytes)=true:=n
 rw[Tryz.params5]at o k i;obtain⟨v0,v1,d0,d1,p0,B,rfl,rfl,rfl,r,h1⟩:=trodAll_two o;obtain⟨rfl,rfl⟩:=trodVars_none z
 clear g n
 simp only[List.append_nil]at a
 have s:∀x∈p0++B,x.block<W.heap.size:=λx hx=>by simpa using a.lt x hx
 obtain⟨a0,rfl,f0⟩:=OT (k 0 32 v0 rfl rfl) (uV (j:=0) i rfl rfl) r;obtain⟨u,f1,g1⟩:=OI bE px RJ lE qI (W6 vt) (k 1 49 v1 rfl rfl) (uV (j:=1) i rfl rfl) h1
 have F:=PH i 1 (xs:=u) rfl rfl px g1 24 R5
 refine((yx a0 v1 u).below (W:=W) (λd hd=> ?_)).mono ?_
 ·simp only[List.mem_cons,List.not_mem_nil,or_false]at hd
  rcases hd with rfl|rfl|rfl|rfl
  ·exact f0
  ·exact f1
  ·exact c _ (by simp only[List.mem_cons,true_or,or_true])
  ·exact c _ (by simp only[List.mem_cons,true_or,or_true])
 ·rintro e l ⟨rfl,w⟩
  have y:∀{t v d p},Tryz.prog.readableRec t=true→t<Tryz.prog.types.size→DataW.Trod enc Tryz.prog W 0 (λ_=>true) true t v d p→(∀x∈p,x.block<W.heap.size)→DataW.Trod enc Tryz.prog l 0 (λb=>decide (b<W.heap.size)) true t v d p:=
   λC ht h D=>Below.trod laidOut C ht h w D
  refine⟨_,rfl,_,_,_,[],_,[],a,trodAll_mk1 (shut_bool ID _),trodAll_mk2 (y (by kernel_rfl) (fJ (by kernel_rfl)) r λx hx=>s x (by simp[hx])) (y (by kernel_rfl) (fJ (by kernel_rfl)) h1 λx hx=>s x (by simp[hx])),rfl,w.frame _,λh=>by cases h⟩
theorem Nx (os:Os):laidMetH Tryz.prog Rows.agreeForcedMatchesSpecRow.laid ((World.laidAll Tryz.prog os Rows.agreeForcedMatchesSpecRow.laid).forCall (λ_ _=>0) ⟨#[],#[.agg #[.slice none 0 0,.slice none 0 0,.slice none 0 0,.slice none 0 0,.slice none 0 0],.slice none 0 0],[]⟩).memory:=by
 rw[zI];exact laidMet_laidAll _ (by kernel_rfl) (by kernel_rfl)
theorem reads (os:Os){H:Type}(enc:TypeId×Value→H):DataW.whole enc Tryz.prog ((World.laidAll Tryz.prog os Rows.agreeForcedMatchesSpecRow.laid).forCall (λ_ _=>0) ⟨#[],#[.agg #[.slice none 0 0,.slice none 0 0,.slice none 0 0,.slice none 0 0,.slice none 0 0],.slice none 0 0],[]⟩).memory Tryz.f5.params.toList Rows.agreeForcedMatchesSpecSpec.vars false #[.agg #[.slice none 0 0,.slice none 0 0,.slice none 0 0,.slice none 0 0,.slice none 0 0],.slice none 0 0].toList 8=some ([.agg [.agg [.nil,.nil],.nil,.nil,.agg [.nil]],.nil],[],[]):=by kernel_rfl
theorem lifted (os:Os)(started:os.Started)(H:Type)(enc:TypeId×Value→H)(F:Stop.Interp):
 ReturnsInHanded {} Tryz.checked os 5 .any ((OpenSpec.ofChange Rows.agreeForcedMatchesSpecSpec).preRow enc Tryz.prog Tryz.f5 Rows.agreeForcedMatchesSpecRow.domain false Rows.agreeForcedMatchesSpecRow.laid) (((OpenSpec.ofChange Rows.agreeForcedMatchesSpecSpec).at F).post enc Tryz.prog Tryz.f5 false true false false):=by
 refine returnsInHanded_of_row (C:=Tryz.checked) (s:=(OpenSpec.ofChange Rows.agreeForcedMatchesSpecSpec)) own started (by kernel_rfl) Tryz.func5
  ⟨World.laidAll Tryz.prog os Rows.agreeForcedMatchesSpecRow.laid,λ_ _=>0,⟨#[],#[.agg #[.slice none 0 0,.slice none 0 0,.slice none 0 0,.slice none 0 0,.slice none 0 0],.slice none 0 0],[]⟩,World.laidAll_os _ _ _,World.shaped_of_ZipB (by kernel_rfl) (by kernel_rfl),rfl,
   (Input.okWide_of_okWideB (P:=Tryz.prog) (f:=5) (w:=(World.laidAll Tryz.prog os Rows.agreeForcedMatchesSpecRow.laid).forCall (λ_ _=>0) ⟨#[],#[.agg #[.slice none 0 0,.slice none 0 0,.slice none 0 0,.slice none 0 0,.slice none 0 0],.slice none 0 0],[]⟩) (i:=⟨#[],#[.agg #[.slice none 0 0,.slice none 0 0,.slice none 0 0,.slice none 0 0,.slice none 0 0],.slice none 0 0],[]⟩) (by kernel_rfl)).2,
   OpenSpec.preRow_of_cond 8 (reads os enc) (by kernel_rfl) (λk hk=>by cases hk) (by kernel_rfl) (Nx os),by
    simp only[Assume.holds]
    exact⟨by simp,by simp,λ_=>Modest.zero,by simp,by simp⟩⟩ ?_
 intro W base args ds gs before a b _ c d e _ _;exact Mx H enc W base args ds gs before a b d (Zx e)
theorem said:Rows.AgreeForcedMatchesSpecSaid:=
 OpenClaim.holds_of_cond 5 Tryz.f5 rfl rfl rfl rfl rfl rfl rfl ⟨rfl,rfl,rfl,rfl,rfl⟩ rfl rfl rfl rfl rfl (by kernel_rfl) Tryz.func5 (by kernel_rfl)
  (fJ (by kernel_rfl)) (by unfold Func.isWrapper;first|(rw[aC (by decide+kernel)];kernel_rfl)|(rw[aA (by decide+kernel)];exact⟨rfl,rfl⟩))
  (λos started H enc _ F=>by rw[OpenClaim.pre_eq_preRow];exact lifted os started H enc F)
theorem holds:Rows.AgreeForcedMatchesSpecCardSaid:=
 Claim7.holds_tied_plain_at .later [] [.data, .data, .pinned] true (true, "0e83c27d7ce0a1db18017fb35400dfa89671e62fdafe4b6c7938be19390e2dc3") true
  said (λ_ h=>by cases h) (by kernel_rfl) (λ_ h=>by cases h) agreeForcedMatchesSpec_row_tie rfl ⟨rfl,rfl⟩ (by kernel_rfl) rfl
  (λf fn a b=>by
   obtain rfl : f = 5 := Option.some.inj ((show Tryz.prog.funcNamed "glosswright/glosswrightlaw7.AgreeForcedMatchesSpec" = some 5 by kernel_rfl).symm.trans a) |>.symm;obtain rfl:fn=Tryz.f5:=(Option.some.inj (Tryz.func5.symm.trans b)).symm
   exact⟨by kernel_rfl,λj t ht=>by
    rw[Tryz.params5]at ht
    have hm:t∈[32,49]:=by simpa using Array.mem_of_getElem? ht
    have c:([32,49].all λu=> !Tryz.prog.wantsStandIn u)=true:=by kernel_rfl
    exact(show Tryz.prog.wantsStandIn t=false by simpa using eY.1 c t hm)⟩)
  (by kernel_rfl)
#print axioms holds
end Go.Proofs.YtblifkgpebebmaaGreatDoor.agrForced
