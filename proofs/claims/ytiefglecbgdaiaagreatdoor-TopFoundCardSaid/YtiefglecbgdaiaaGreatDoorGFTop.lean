/-
  The law TopFound: for every input it returns true, and the input reads as it did; its card: the listed variables are tied tqo the program's text.
  Conditions: none.
-/
import Derived.Test.YtiefglecbgdaiaaGreatDoorRows
import Derived.Test.YtiefglecbgdaiaaGreatDoorTie
import Derived.Test.YtiefglecbgdaiaaGreatDoorCards
import Derived.Test.YtiefglecbgdaiaaGreatDoorGF11
import Derived.SevenTiedAt
set_option linter.unusedVariables false
set_option linter.unusedSimpArgs false
namespace Go.Proofs.YtiefglecbgdaiaaGreatDoor.topFnd
open Go Go.J Go.ChangeShapes Go.WideShapes Go.ChangeAt Go.RowKit
open Go.ChangeMaps (open_string)
set_option maxRecDepth 100000
theorem own:ownKnob Tryz.prog.godebug=none:=by kernel_rfl
theorem laidOut:laidOutB Tryz.prog=true:=by kernel_rfl
theorem qS:Tryz.prog.cellsOf 9=1:=by kernel_rfl
theorem U5:Tryz.prog.cellsOf 34=1:=by kernel_rfl
theorem agW:Tryz.prog.bytesOf 9=16:=by kernel_rfl
theorem Tv:Tryz.prog.bytesOf 34=24:=by kernel_rfl
theorem zW (W:World):laidMetH Tryz.prog Rows.topFoundRow.laid W=laidMet Tryz.prog Rows.topFoundRow.laid W:=MakeChecks.laidMetH_plain _ _ _ (by kernel_rfl)
theorem aa6:Rows.laid_unicode_utf8_acceptRanges=Lib.acceptData:=by kernel_rfl
theorem Uc:Rows.laid_unicode_utf8_first=Lib.firstData:=by kernel_rfl
theorem ajU:(Rows.laid_math_bits_deBruijn64tab:DataW Unit)=Lib.tabData .u8 (Lib.deBruijn64tab.map λx:Nat=>(x:Int)):=by kernel_rfl
theorem ajT {W:World}(h:laidMetH Tryz.prog Rows.topFoundRow.laid W):Y4 W:=
 HP (by kernel_rfl) (by kernel_rfl) (by kernel_rfl) (by kernel_rfl) Tryz.underlying257 HI Tryz.underlying260 Tryz.underlying259 (λi fd a=>by
  match i,a with
  |0,a=>simp at a;subst a;exact⟨HI,rfl,by kernel_rfl⟩
  |1,a=>simp at a;subst a;exact⟨HI,rfl,by kernel_rfl⟩
  |i+2,a=>simp at a) rfl (by kernel_rfl) (by kernel_rfl) (by kernel_rfl) h (zW W) (by rw[←Uc];exact .tail _ (.tail _ (.head _))) (by rw[←aa6];exact .tail _ (.head _))
theorem agE {W:World}(h:Y4 W):u8.f (J.all W):=λw hw=>EK h hw
theorem adB {W:World}(h:laidMetH Tryz.prog Rows.topFoundRow.laid W):∀d∈[tz,u8],d.f (J.all W):=by
 have a:laidMet Tryz.prog Rows.topFoundRow.laid W:=by rw[←zW];exact h
 intro d hd
 simp only[List.mem_cons,List.not_mem_nil,or_false]at hd
 rcases hd with rfl|rfl
 ·exact λw hw=>Ov (by kernel_rfl) (by kernel_rfl) Tryz.underlying309 HI (by kernel_rfl) (by kernel_rfl) (Lib.laidMet.reads a (by rw[←ajU];exact .head _)) w hw
 ·exact agE (ajT h)
theorem PO (H:Type)(enc:TypeId×Value→H)(W:World)(base:Nat)(args:Array Value)(ds gs:List (DataW H))(before:List MemPlace)
 (m:∀(j:Nat) t v,Tryz.f4.params[j]?=some t→args[j]?=some v→Value.okWide Tryz.prog W .any base t v)
 (w:DataW.Whole enc Tryz.prog Tryz.f4.params.toList Rows.topFoundSpec.vars false W args.toList ds gs before)
 (y:(DataW.weightsEach Tryz.prog (Tryz.f4.params.toList++(OpenSpec.ofChange Rows.topFoundSpec).bare.plain.varTypes Tryz.prog) (ds++gs)).all (· ≤reachBytes)=true) (g:∀d∈[tz,u8],d.f (J.all W)):
 Calls Tryz.prog 4 args W λe n=>∃v,e= .returned v∧Rows.topFoundSpec.post enc Tryz.prog Tryz.f4 false true false false W args v n:=by
 have c:=w
 obtain⟨p,q,i,D,rfl,E,N⟩:=w
 have z:DataW.TrodAll enc Tryz.prog W 0 (λ_=>true) true Tryz.f4.params.toList args.toList ds p:=i
 have k:(DataW.weightsEach Tryz.prog (Tryz.f4.params.toList++(OpenSpec.ofChange Rows.topFoundSpec).bare.plain.varTypes Tryz.prog) (ds++gs)).all (· ≤reachBytes)=true:=y
 rw[Tryz.params4]at z m k;obtain⟨v0,v1,v2,d0,d1,d2,F,G,I,rfl,rfl,rfl,A,h1,o⟩:=trodAll_three z;obtain⟨rfl,rfl⟩:=trodVars_none D
 clear i y
 simp only[List.append_nil]at c
 have r:∀x∈F++G++I,x.block<W.heap.size:=λx hx=>by simpa using c.lt x hx
 obtain⟨a0,rfl,f0⟩:=Qs (m 0 32 v0 rfl rfl) (qs (j:=0) k rfl rfl) A;obtain⟨B,f1,g1⟩:=Qj bZ K4 U5 kZ qS (Yd oc) (m 1 60 v1 rfl rfl) (qs (j:=1) k rfl rfl) h1
 have O:=Rg k 1 (xs:=B) rfl rfl K4 g1 24 Tv
 obtain⟨s,e2,K,_,_⟩:=open_string oc (m 2 9 v2 rfl rfl) o;obtain rfl:v2=sv s.data.toList:=e2.trans (Rx s)
 obtain⟨a2,l⟩:∃a,a=s.data.toList:=⟨_,rfl⟩
 have z2:a2.length≤140737488351232:=by
  have:=qs (j:=2) k rfl rfl
  rw[K]at this
  simp only[ml,DataW.weights,reachBytes,List.all_cons,List.all_nil,Bool.and_true]at this
  rw[l];exact gU this
 rw[←l]at c o⊢;refine((Al a0 v1 B a2 z2).below (W:=W) (λd hd=> ?_)).mono ?_
 ·simp only[List.mem_cons,List.not_mem_nil,or_false]at hd
  rcases hd with rfl|rfl|rfl|rfl
  ·exact f0
  ·exact f1
  ·exact g _ (by simp only[List.mem_cons,true_or,or_true])
  ·exact g _ (by simp only[List.mem_cons,true_or,or_true])
 ·rintro e n ⟨rfl,C⟩
  have u:∀{t v d p},Tryz.prog.readableRec t=true→t<Tryz.prog.types.size→DataW.Trod enc Tryz.prog W 0 (λ_=>true) true t v d p→(∀x∈p,x.block<W.heap.size)→DataW.Trod enc Tryz.prog n 0 (λb=>decide (b<W.heap.size)) true t v d p:=
   λL ht h M=>Below.trod laidOut L ht h C M
  refine⟨_,rfl,_,_,_,[],_,[],c,trodAll_mk1 (shut_bool K3 _),trodAll_mk3 (u (by kernel_rfl) (gU (by kernel_rfl)) A λx hx=>r x (by simp[hx])) (u (by kernel_rfl) (gU (by kernel_rfl)) h1 λx hx=>r x (by simp[hx])) (u (by kernel_rfl) (gU (by kernel_rfl)) o λx hx=>r x (by simp[hx])),rfl,C.frame _,λh=>by cases h⟩
theorem QE (os:Os):laidMetH Tryz.prog Rows.topFoundRow.laid ((World.laidAll Tryz.prog os Rows.topFoundRow.laid).forCall (λ_ _=>0) ⟨#[],#[.agg #[.slice none 0 0,.slice none 0 0,.slice none 0 0,.slice none 0 0,.slice none 0 0],.slice none 0 0,.string ⟨#[]⟩],[]⟩).memory:=by
 rw[zW];exact laidMet_laidAll _ (by kernel_rfl) (by kernel_rfl)
theorem reads (os:Os){H:Type}(enc:TypeId×Value→H):DataW.whole enc Tryz.prog ((World.laidAll Tryz.prog os Rows.topFoundRow.laid).forCall (λ_ _=>0) ⟨#[],#[.agg #[.slice none 0 0,.slice none 0 0,.slice none 0 0,.slice none 0 0,.slice none 0 0],.slice none 0 0,.string ⟨#[]⟩],[]⟩).memory Tryz.f4.params.toList Rows.topFoundSpec.vars false #[.agg #[.slice none 0 0,.slice none 0 0,.slice none 0 0,.slice none 0 0,.slice none 0 0],.slice none 0 0,.string ⟨#[]⟩].toList 8=some ([.agg [.agg [.nil,.nil],.nil,.nil,.agg [.nil]],.nil,.lit (.string [])],[],[]):=by kernel_rfl
theorem lifted (os:Os)(started:os.Started)(H:Type)(enc:TypeId×Value→H)(F:Stop.Interp):
 ReturnsInHanded {} Tryz.checked os 4 .any ((OpenSpec.ofChange Rows.topFoundSpec).preRow enc Tryz.prog Tryz.f4 Rows.topFoundRow.domain false Rows.topFoundRow.laid) (((OpenSpec.ofChange Rows.topFoundSpec).at F).post enc Tryz.prog Tryz.f4 false true false false):=by
 refine returnsInHanded_of_row (C:=Tryz.checked) (s:=(OpenSpec.ofChange Rows.topFoundSpec)) own started (by kernel_rfl) Tryz.func4
  ⟨World.laidAll Tryz.prog os Rows.topFoundRow.laid,λ_ _=>0,⟨#[],#[.agg #[.slice none 0 0,.slice none 0 0,.slice none 0 0,.slice none 0 0,.slice none 0 0],.slice none 0 0,.string ⟨#[]⟩],[]⟩,World.laidAll_os _ _ _,World.shaped_of_ZipB (by kernel_rfl) (by kernel_rfl),rfl,
   (Input.okWide_of_okWideB (P:=Tryz.prog) (f:=4) (w:=(World.laidAll Tryz.prog os Rows.topFoundRow.laid).forCall (λ_ _=>0) ⟨#[],#[.agg #[.slice none 0 0,.slice none 0 0,.slice none 0 0,.slice none 0 0,.slice none 0 0],.slice none 0 0,.string ⟨#[]⟩],[]⟩) (i:=⟨#[],#[.agg #[.slice none 0 0,.slice none 0 0,.slice none 0 0,.slice none 0 0,.slice none 0 0],.slice none 0 0,.string ⟨#[]⟩],[]⟩) (by kernel_rfl)).2,
   OpenSpec.preRow_of_cond 8 (reads os enc) (by kernel_rfl) (λk hk=>by cases hk) (by kernel_rfl) (QE os),by
    simp only[Assume.holds]
    exact⟨by simp,by simp,λ_=>Modest.zero,by simp,by simp⟩⟩ ?_
 intro W base args ds gs before a b _ c d e _ _;exact PO H enc W base args ds gs before a b d (adB e)
theorem jf1:(Rows.topFoundRow.inPlace==Tryz.pinned.checked.prog.inPlace 4)=true:=by kernel_rfl
theorem jf2:(Rows.topFoundRow.unfollowed==Tryz.pinned.checked.prog.unfollowed 4)=true:=by kernel_rfl
theorem jf3:(Rows.topFoundRow.recurses==Tryz.pinned.checked.prog.recurses 4)=true:=by kernel_rfl
theorem jf4:(Rows.topFoundRow.named==Tryz.pinned.checked.prog.varsNamed 4)=true:=by kernel_rfl
theorem jf5:Tryz.pinned.checked.prog.mayEnter=true:=by kernel_rfl
theorem jf6:(Rows.topFoundRow.lifted==Tryz.pinned.checked.prog.liftsFinal)=true:=by kernel_rfl
theorem jf7:mapsRowed Tryz.pinned.checked.prog=true:=by kernel_rfl
theorem jf8:laidOutB Tryz.pinned.checked.prog=true:=by kernel_rfl
theorem jf:joinedFacts Tryz.pinned.checked.prog 4 Tryz.f4 (OpenSpec.ofChange Rows.topFoundSpec).bare Rows.topFoundRow=true:=by
 unfold joinedFacts;rw[jf1,jf2,jf3,jf4,jf5,jf6,jf7,jf8]
 kernel_rfl
theorem said:Rows.TopFoundSaid:=
 OpenClaim.holds_of_cond 4 Tryz.f4 rfl rfl rfl rfl rfl rfl rfl ⟨rfl,rfl,rfl,rfl,rfl⟩ rfl rfl rfl rfl rfl (by kernel_rfl) Tryz.func4 jf
  (gU (by kernel_rfl)) (by unfold Func.isWrapper;first|(rw[aB (by decide+kernel)];kernel_rfl)|(rw[aA (by decide+kernel)];exact⟨rfl,rfl⟩))
  (λos started H enc _ F=>by rw[OpenClaim.pre_eq_preRow];exact lifted os started H enc F)
theorem holds:Rows.TopFoundCardSaid:=
 Claim7.holds_tied_plain_at .later [] [.data, .data, .pinned] true (true, "06b894dc4c389422429633347f9c88b80507fddd32fe731e5e6f190741a89a94") false
  said (λ_ h=>by cases h) (by kernel_rfl) (λ_ h=>by cases h) topFound_row_tie rfl ⟨rfl,rfl⟩ (by kernel_rfl) rfl
  (λf fn a b=>by
   obtain rfl : f = 4 := Option.some.inj ((show Tryz.prog.funcNamed "glosswright/glosswrighttop.TopFound" = some 4 by kernel_rfl).symm.trans a) |>.symm;obtain rfl:fn=Tryz.f4:=(Option.some.inj (Tryz.func4.symm.trans b)).symm
   exact⟨by kernel_rfl,λj t ht=>by
    rw[Tryz.params4]at ht
    have hm:t∈[32,60,9]:=by simpa using Array.mem_of_getElem? ht
    have c:([32,60,9].all λu=> !Tryz.prog.wantsStandIn u)=true:=by kernel_rfl
    exact(show Tryz.prog.wantsStandIn t=false by simpa using j8.1 c t hm)⟩)
  (by kernel_rfl)
#print axioms holds
end Go.Proofs.YtiefglecbgdaiaaGreatDoor.topFnd
