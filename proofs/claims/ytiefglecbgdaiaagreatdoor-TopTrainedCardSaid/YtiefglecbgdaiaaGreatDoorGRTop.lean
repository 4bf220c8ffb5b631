/-
  The law TopTrained: for every input it returns true, and the input reads as it did; its card: the listed variables are tied tqo the program's text.
  Conditions: none.
-/
import Derived.Test.YtiefglecbgdaiaaGreatDoorRows
import Derived.Test.YtiefglecbgdaiaaGreatDoorTie
import Derived.Test.YtiefglecbgdaiaaGreatDoorCards
import Derived.Test.YtiefglecbgdaiaaGreatDoorGR12
import Derived.SevenTiedAt
set_option linter.unusedVariables false
set_option linter.unusedSimpArgs false
namespace Go.Proofs.YtiefglecbgdaiaaGreatDoor.topTrn
open Go Go.J Go.ChangeShapes Go.WideShapes Go.ChangeAt Go.RowKit
open Go.ChangeMaps (open_string)
set_option maxRecDepth 100000
theorem own:ownKnob Tryz.prog.godebug=none:=by kernel_rfl
theorem laidOut:laidOutB Tryz.prog=true:=by kernel_rfl
theorem qk:Tryz.prog.cellsOf 9=1:=by kernel_rfl
theorem Xn:Tryz.prog.bytesOf 9=16:=by kernel_rfl
theorem A1 (W:World):laidMetH Tryz.prog Rows.topTrainedRow.laid W=laidMet Tryz.prog Rows.topTrainedRow.laid W:=MakeChecks.laidMetH_plain _ _ _ (by kernel_rfl)
theorem aaK:Rows.laid_unicode_utf8_acceptRanges=Lib.acceptData:=by kernel_rfl
theorem Tl:Rows.laid_unicode_utf8_first=Lib.firstData:=by kernel_rfl
theorem aoL:(Rows.laid_math_bits_deBruijn64tab:DataW Unit)=Lib.tabData .u8 (Lib.deBruijn64tab.map λx:Nat=>(x:Int)):=by kernel_rfl
theorem aoK {W:World}(h:laidMetH Tryz.prog Rows.topTrainedRow.laid W):XV W:=
 H6 (by kernel_rfl) (by kernel_rfl) (by kernel_rfl) (by kernel_rfl) Tryz.underlying257 EZ Tryz.underlying260 Tryz.underlying259 (λi fd hi=>by
  match i,hi with
  |0,hi=>simp at hi;subst hi;exact⟨EZ,rfl,by kernel_rfl⟩
  |1,hi=>simp at hi;subst hi;exact⟨EZ,rfl,by kernel_rfl⟩
  |i+2,hi=>simp at hi) rfl (by kernel_rfl) (by kernel_rfl) (by kernel_rfl) h (A1 W) (by rw[←Tl];exact .tail _ (.tail _ (.head _))) (by rw[←aaK];exact .tail _ (.head _))
theorem ah4 {W:World}(h:XV W):u8.f (J.all W):=λw hw=>Ec h hw
theorem acY {W:World}(h:laidMetH Tryz.prog Rows.topTrainedRow.laid W):∀d∈[tz,u8],d.f (J.all W):=by
 have a:laidMet Tryz.prog Rows.topTrainedRow.laid W:=by rw[←A1];exact h
 intro d hd
 simp only[List.mem_cons,List.not_mem_nil,or_false]at hd
 rcases hd with rfl|rfl
 ·exact λw hw=>Nw (by kernel_rfl) (by kernel_rfl) Tryz.underlying309 EZ (by kernel_rfl) (by kernel_rfl) (Lib.laidMet.reads a (by rw[←aoL];exact .head _)) w hw
 ·exact ah4 (aoK h)
theorem OJ (H:Type)(enc:TypeId×Value→H)(W:World)(base:Nat)(args:Array Value)(ds gs:List (DataW H))(before:List MemPlace)
 (k:∀(j:Nat) t v,Tryz.f3.params[j]?=some t→args[j]?=some v→Value.okWide Tryz.prog W .any base t v)
 (o:DataW.Whole enc Tryz.prog Tryz.f3.params.toList Rows.topTrainedSpec.vars false W args.toList ds gs before)
 (r:(DataW.weightsEach Tryz.prog (Tryz.f3.params.toList++(OpenSpec.ofChange Rows.topTrainedSpec).bare.plain.varTypes Tryz.prog) (ds++gs)).all (· ≤reachBytes)=true) (c:∀d∈[tz,u8],d.f (J.all W)):
 Calls Tryz.prog 3 args W λe l=>∃v,e= .returned v∧Rows.topTrainedSpec.post enc Tryz.prog Tryz.f3 false true false false W args v l:=by
 have a:=o
 obtain⟨p,q,g,z,rfl,A,I⟩:=o
 have s:DataW.TrodAll enc Tryz.prog W 0 (λ_=>true) true Tryz.f3.params.toList args.toList ds p:=g
 have i:(DataW.weightsEach Tryz.prog (Tryz.f3.params.toList++(OpenSpec.ofChange Rows.topTrainedSpec).bare.plain.varTypes Tryz.prog) (ds++gs)).all (· ≤reachBytes)=true:=r
 rw[Tryz.params3]at s k i;obtain⟨v0,v1,v2,d0,d1,d2,p0,B,C,rfl,rfl,rfl,u,h1,w⟩:=trodAll_three s;obtain⟨rfl,rfl⟩:=trodVars_none z
 clear g r
 simp only[List.append_nil]at a
 have m:∀x∈p0++B++C,x.block<W.heap.size:=λx hx=>by simpa using a.lt x hx
 obtain⟨a0,rfl,f0⟩:=QG (k 0 32 v0 rfl rfl) (rG (j:=0) i rfl rfl) u;obtain⟨D,f1,E⟩:=Iw (k 1 33 v1 rfl rfl) (rG (j:=1) i rfl rfl) h1;obtain⟨a2,f2,g2⟩:=V5 fK Mz qk (Y6 wX) (k 2 34 v2 rfl rfl) (rG (j:=2) i rfl rfl) w
 have z2:=Qp i 2 (xs:=a2) rfl rfl Mz g2 16 Xn
 refine((xk a0 v1 D v2 a2).below (W:=W) (λd hd=> ?_)).mono ?_
 ·simp only[List.mem_cons,List.not_mem_nil,or_false]at hd
  rcases hd with rfl|rfl|rfl|rfl|rfl|rfl
  ·exact f0
  ·exact f1
  ·exact E
  ·exact f2
  ·exact c _ (by simp only[List.mem_cons,true_or,or_true])
  ·exact c _ (by simp only[List.mem_cons,true_or,or_true])
 ·rintro e l ⟨rfl,y⟩
  have n:∀{t v d p},Tryz.prog.readableRec t=true→t<Tryz.prog.types.size→DataW.Trod enc Tryz.prog W 0 (λ_=>true) true t v d p→(∀x∈p,x.block<W.heap.size)→DataW.Trod enc Tryz.prog l 0 (λb=>decide (b<W.heap.size)) true t v d p:=
   λF ht h G=>Below.trod laidOut F ht h y G
  refine⟨_,rfl,_,_,_,[],_,[],a,trodAll_mk1 (shut_bool EY _),trodAll_mk3 (n (by kernel_rfl) (im (by kernel_rfl)) u λx hx=>m x (by simp[hx])) (n (by kernel_rfl) (im (by kernel_rfl)) h1 λx hx=>m x (by simp[hx])) (n (by kernel_rfl) (im (by kernel_rfl)) w λx hx=>m x (by simp[hx])),rfl,y.frame _,λh=>by cases h⟩
theorem PX (os:Os):laidMetH Tryz.prog Rows.topTrainedRow.laid ((World.laidAll Tryz.prog os Rows.topTrainedRow.laid).forCall (λ_ _=>0) ⟨#[],#[.agg #[.slice none 0 0,.slice none 0 0,.slice none 0 0,.slice none 0 0,.slice none 0 0],.slice none 0 0,.slice none 0 0],[]⟩).memory:=by
 rw[A1];exact laidMet_laidAll _ (by kernel_rfl) (by kernel_rfl)
theorem reads (os:Os){H:Type}(enc:TypeId×Value→H):DataW.whole enc Tryz.prog ((World.laidAll Tryz.prog os Rows.topTrainedRow.laid).forCall (λ_ _=>0) ⟨#[],#[.agg #[.slice none 0 0,.slice none 0 0,.slice none 0 0,.slice none 0 0,.slice none 0 0],.slice none 0 0,.slice none 0 0],[]⟩).memory Tryz.f3.params.toList Rows.topTrainedSpec.vars false #[.agg #[.slice none 0 0,.slice none 0 0,.slice none 0 0,.slice none 0 0,.slice none 0 0],.slice none 0 0,.slice none 0 0].toList 8=some ([.agg [.agg [.nil,.nil],.nil,.nil,.agg [.nil]],.nil,.nil],[],[]):=by kernel_rfl
theorem lifted (os:Os)(started:os.Started)(H:Type)(enc:TypeId×Value→H)(F:Stop.Interp):
 ReturnsInHanded {} Tryz.checked os 3 .any ((OpenSpec.ofChange Rows.topTrainedSpec).preRow enc Tryz.prog Tryz.f3 Rows.topTrainedRow.domain false Rows.topTrainedRow.laid) (((OpenSpec.ofChange Rows.topTrainedSpec).at F).post enc Tryz.prog Tryz.f3 false true false false):=by
 refine returnsInHanded_of_row (C:=Tryz.checked) (s:=(OpenSpec.ofChange Rows.topTrainedSpec)) own started (by kernel_rfl) Tryz.func3
  ⟨World.laidAll Tryz.prog os Rows.topTrainedRow.laid,λ_ _=>0,⟨#[],#[.agg #[.slice none 0 0,.slice none 0 0,.slice none 0 0,.slice none 0 0,.slice none 0 0],.slice none 0 0,.slice none 0 0],[]⟩,World.laidAll_os _ _ _,World.shaped_of_ZipB (by kernel_rfl) (by kernel_rfl),rfl,
   (Input.okWide_of_okWideB (P:=Tryz.prog) (f:=3) (w:=(World.laidAll Tryz.prog os Rows.topTrainedRow.laid).forCall (λ_ _=>0) ⟨#[],#[.agg #[.slice none 0 0,.slice none 0 0,.slice none 0 0,.slice none 0 0,.slice none 0 0],.slice none 0 0,.slice none 0 0],[]⟩) (i:=⟨#[],#[.agg #[.slice none 0 0,.slice none 0 0,.slice none 0 0,.slice none 0 0,.slice none 0 0],.slice none 0 0,.slice none 0 0],[]⟩) (by kernel_rfl)).2,
   OpenSpec.preRow_of_cond 8 (reads os enc) (by kernel_rfl) (λk hk=>by cases hk) (by kernel_rfl) (PX os),by
    simp only[Assume.holds]
    exact⟨by simp,by simp,λ_=>Modest.zero,by simp,by simp⟩⟩ ?_
 intro W base args ds gs before a b _ c d e _ _;exact OJ H enc W base args ds gs before a b d (acY e)
theorem jf1:(Rows.topTrainedRow.inPlace==Tryz.pinned.checked.prog.inPlace 3)=true:=by kernel_rfl
theorem jf2:(Rows.topTrainedRow.unfollowed==Tryz.pinned.checked.prog.unfollowed 3)=true:=by kernel_rfl
theorem jf3:(Rows.topTrainedRow.recurses==Tryz.pinned.checked.prog.recurses 3)=true:=by kernel_rfl
theorem jf4:(Rows.topTrainedRow.named==Tryz.pinned.checked.prog.varsNamed 3)=true:=by kernel_rfl
theorem jf5:Tryz.pinned.checked.prog.mayEnter=true:=by kernel_rfl
theorem jf6:(Rows.topTrainedRow.lifted==Tryz.pinned.checked.prog.liftsFinal)=true:=by kernel_rfl
theorem jf7:mapsRowed Tryz.pinned.checked.prog=true:=by kernel_rfl
theorem jf8:laidOutB Tryz.pinned.checked.prog=true:=by kernel_rfl
theorem jf:joinedFacts Tryz.pinned.checked.prog 3 Tryz.f3 (OpenSpec.ofChange Rows.topTrainedSpec).bare Rows.topTrainedRow=true:=by
 unfold joinedFacts;rw[jf1,jf2,jf3,jf4,jf5,jf6,jf7,jf8]
 kernel_rfl
theorem said:Rows.TopTrainedSaid:=
 OpenClaim.holds_of_cond 3 Tryz.f3 rfl rfl rfl rfl rfl rfl rfl ⟨rfl,rfl,rfl,rfl,rfl⟩ rfl rfl rfl rfl rfl (by kernel_rfl) Tryz.func3 jf
  (im (by kernel_rfl)) (by unfold Func.isWrapper;first|(rw[aB (by decide+kernel)];kernel_rfl)|(rw[aA (by decide+kernel)];exact⟨rfl,rfl⟩))
  (λos started H enc _ F=>by rw[OpenClaim.pre_eq_preRow];exact lifted os started H enc F)
theorem holds:Rows.TopTrainedCardSaid:=
 Claim7.holds_tied_plain_at .later [] [.data, .data, .pinned] true (true, "06b894dc4c389422429633347f9c88b80507fddd32fe731e5e6f190741a89a94") false
  said (λ_ h=>by cases h) (by kernel_rfl) (λ_ h=>by cases h) topTrained_row_tie rfl ⟨rfl,rfl⟩ (by kernel_rfl) rfl
  (λf fn a b=>by
   obtain rfl : f = 3 := Option.some.inj ((show Tryz.prog.funcNamed "glosswright/glosswrighttop.TopTrained" = some 3 by kernel_rfl).symm.trans a) |>.symm;obtain rfl:fn=Tryz.f3:=(Option.some.inj (Tryz.func3.symm.trans b)).symm
   exact⟨by kernel_rfl,λj t ht=>by
    rw[Tryz.params3]at ht
    have hm:t∈[32,33,34]:=by simpa using Array.mem_of_getElem? ht
    have c:([32,33,34].all λu=> !Tryz.prog.wantsStandIn u)=true:=by kernel_rfl
    exact(show Tryz.prog.wantsStandIn t=false by simpa using fY.1 c t hm)⟩)
  (by kernel_rfl)
#print axioms holds
end Go.Proofs.YtiefglecbgdaiaaGreatDoor.topTrn
