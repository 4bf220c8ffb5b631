/-
  The law QueryMatchesSpec: for every input it returns true, and the input reads as it did; its card: the listed variables are tied to the program's text.
  Conditions: none.
-/
import Derived.Test.YtolmidffiegkaaaGreatDoorRows
import Derived.Test.YtolmidffiegkaaaGreatDoorTie
import Derived.Test.YtolmidffiegkaaaGreatDoorCards
import Derived.Test.YtolmidffiegkaaaGreatDoorGA1
import Derived.Test.YtolmidffiegkaaaGreatDoorGA2
import Derived.Test.YtolmidffiegkaaaGreatDoorGA10
import Derived.ProofKit
import Derived.SevenTiedAt
namespace Go.Proofs.YtolmidffiegkaaaGreatDoor.qryMatches
open Go Go.J Go.ChangeShapes Go.WideShapes Go.ChangeAt Go.RowKit
open Go.ChangeMaps (open_string)
set_option linter.unusedVariables false
set_option linter.unusedSimpArgs false
set_option maxRecDepth 100000
theorem own:ownKnob Tryz.prog.godebug=none:=by kernel_rfl
theorem laidOut:laidOutB Tryz.prog=true:=by kernel_rfl
theorem uz (W:World):laidMetH Tryz.prog Rows.queryMatchesSpecRow.laid W=laidMet Tryz.prog Rows.queryMatchesSpecRow.laid W:=MakeChecks.laidMetH_plain _ _ _ (by kernel_rfl)
theorem Wh:Rows.laid_unicode_utf8_acceptRanges=Lib.acceptData:=by kernel_rfl
theorem Ml:Rows.laid_unicode_utf8_first=Lib.firstData:=by kernel_rfl
theorem adG:(Rows.laid_math_bits_deBruijn64tab:DataW Unit)=Lib.tabData .u8 (Lib.deBruijn64tab.map fun x:Nat=>(x:Int)):=by kernel_rfl
theorem adH:(Rows.laid_glosswright_query_signs:DataW Unit)= .slice (iU.map fun s=> .lit (.string s)) []:=by kernel_rfl
theorem adI {W:World}(h:laidMetH Tryz.prog Rows.queryMatchesSpecRow.laid W):Pm W:=
 zN (by kernel_rfl) (by kernel_rfl) (by kernel_rfl) (by kernel_rfl) Tryz.underlying167 DG Tryz.underlying170 Tryz.underlying169 (fun i fd hi=>by
  match i,hi with
  |0,hi=>simp at hi;subst hi;exact⟨DG,rfl,by kernel_rfl⟩
  |1,hi=>simp at hi;subst hi;exact⟨DG,rfl,by kernel_rfl⟩
  |i+2,hi=>simp at hi) rfl (by kernel_rfl) (by kernel_rfl) (by kernel_rfl) h (uz W) (by rw[←Ml];exact .tail _ (.tail _ (.tail _ (.head _)))) (by rw[←Wh];exact .tail _ (.head _))
theorem Wi {W:World}(h:Pm W):u8.f (J.all W):=fun w hw=>xg h hw
theorem Wj {W:World}(h:laidMetH Tryz.prog Rows.queryMatchesSpecRow.laid W):∀d∈[tz,u8,BI],d.f (J.all W):=by
 have h':laidMet Tryz.prog Rows.queryMatchesSpecRow.laid W:=by rw[←uz];exact h
 intro d hd
 simp only[List.mem_cons,List.not_mem_nil,or_false]at hd
 rcases hd with rfl|rfl|rfl
 ·exact fun w hw=>GI (by kernel_rfl) (by kernel_rfl) Tryz.underlying207 DG (by kernel_rfl) (by kernel_rfl) (Lib.laidMet.reads h' (by rw[←adG];exact .head _)) w hw
 ·exact Wi (adI h)
 ·exact K9 (by kernel_rfl) (by kernel_rfl) ll df (by kernel_rfl) (by decide) (by decide) (Lib.laidMet.reads h' (by rw[←adH];exact .tail _ (.tail _ (.head _))))
theorem Jh (H:Type)(enc:TypeId×Value→H)(W:World)(base:Nat)(args:Array Value)(ds gs:List (DataW H))(before:List MemPlace)
 (Fh:∀(j:Nat) t v,Tryz.f3.params[j]?=some t→args[j]?=some v→Value.okWide Tryz.prog W .any base t v)
 (hW:DataW.Whole enc Tryz.prog Tryz.f3.params.toList Rows.queryMatchesSpecSpec.vars false W args.toList ds gs before)
 (Mb:(DataW.weightsEach Tryz.prog (Tryz.f3.params.toList++(OpenSpec.ofChange Rows.queryMatchesSpecSpec).bare.plain.varTypes Tryz.prog) (ds++gs)).all (· ≤reachBytes)=true) (Ji:∀d∈[tz,u8,BI],d.f (J.all W)):
 Calls Tryz.prog 3 args W fun e W'=>∃v,e= .returned v∧Rows.queryMatchesSpecSpec.post enc Tryz.prog Tryz.f3 false true false false W args v W':=by
 have hW':=hW
 obtain⟨p,q,hA0,hV,rfl,hfz,A9⟩:=hW
 have hA:DataW.TrodAll enc Tryz.prog W 0 (fun _=>true) true Tryz.f3.params.toList args.toList ds p:=hA0
 have fR:(DataW.weightsEach Tryz.prog (Tryz.f3.params.toList++(OpenSpec.ofChange Rows.queryMatchesSpecSpec).bare.plain.varTypes Tryz.prog) (ds++gs)).all (· ≤reachBytes)=true:=Mb
 rw[Tryz.params3]at hA Fh fR;obtain⟨v0,v1,v2,d0,d1,d2,p0,p1,p2,rfl,rfl,rfl,h0,h1,h2⟩:=trodAll_three hA;obtain⟨rfl,rfl⟩:=trodVars_none hV
 clear hA0 Mb
 simp only[List.append_nil]at hW'
 have iW:∀x∈p0++p1++p2,x.block<W.heap.size:=fun x hx=>by simpa using hW'.lt x hx
 obtain⟨a0,rfl,f0⟩:=Gb (Fh 0 32 v0 rfl rfl) (n7 (j:=0) fR rfl rfl) h0;obtain⟨a1,rfl,f1,s1⟩:=Bi (Fh 1 36 v1 rfl rfl) (n7 (j:=1) fR rfl rfl) h1;obtain⟨a2,rfl,k2,f2⟩:=EV (Fh 2 39 v2 rfl rfl) (n7 (j:=2) fR rfl rfl) h2;refine((Fg a0 a1 a2 k2).below (W:=W) (fun d hd=> ?_)).mono ?_
 ·simp only[List.mem_cons,List.not_mem_nil,or_false]at hd
  rcases hd with rfl|rfl|rfl|rfl|rfl|rfl
  ·exact f0
  ·exact f1
  ·exact f2
  ·exact Ji _ (by simp only[List.mem_cons,true_or,or_true])
  ·exact Ji _ (by simp only[List.mem_cons,true_or,or_true])
  ·exact Ji _ (by simp only[List.mem_cons,true_or,or_true])
 ·rintro e W' ⟨rfl,hb⟩
  have ha:∀{t v d p},Tryz.prog.readableRec t=true→t<Tryz.prog.types.size→DataW.Trod enc Tryz.prog W 0 (fun _=>true) true t v d p→(∀x∈p,x.block<W.heap.size)→DataW.Trod enc Tryz.prog W' 0 (fun b=>decide (b<W.heap.size)) true t v d p:=
   fun hr ht h hl=>Below.trod laidOut hr ht h hb hl
  refine⟨_,rfl,_,_,_,[],_,[],hW',trodAll_mk1 (shut_bool sJ _),trodAll_mk3 (ha (by kernel_rfl) (of_decide_eq_true (by kernel_rfl)) h0 fun x hx=>iW x (by simp[hx])) (ha (by kernel_rfl) (of_decide_eq_true (by kernel_rfl)) h1 fun x hx=>iW x (by simp[hx])) (ha (by kernel_rfl) (of_decide_eq_true (by kernel_rfl)) h2 fun x hx=>iW x (by simp[hx])),rfl,hb.frame _,fun h=>by cases h⟩
theorem Jj (os:Os):laidMetH Tryz.prog Rows.queryMatchesSpecRow.laid ((World.laidAll Tryz.prog os Rows.queryMatchesSpecRow.laid).forCall (fun _ _=>0) ⟨#[],#[.agg #[.slice none 0 0,.slice none 0 0,.slice none 0 0,.slice none 0 0,.slice none 0 0],.agg #[.slice none 0 0,.slice none 0 0],.agg #[.int .i64 0,.int .i64 0,.slice none 0 0]],[]⟩).memory:=by
 rw[uz];exact laidMet_laidAll _ (by kernel_rfl) (by kernel_rfl)
theorem reads (os:Os){H:Type}(enc:TypeId×Value→H):DataW.whole enc Tryz.prog ((World.laidAll Tryz.prog os Rows.queryMatchesSpecRow.laid).forCall (fun _ _=>0) ⟨#[],#[.agg #[.slice none 0 0,.slice none 0 0,.slice none 0 0,.slice none 0 0,.slice none 0 0],.agg #[.slice none 0 0,.slice none 0 0],.agg #[.int .i64 0,.int .i64 0,.slice none 0 0]],[]⟩).memory Tryz.f3.params.toList Rows.queryMatchesSpecSpec.vars false #[.agg #[.slice none 0 0,.slice none 0 0,.slice none 0 0,.slice none 0 0,.slice none 0 0],.agg #[.slice none 0 0,.slice none 0 0],.agg #[.int .i64 0,.int .i64 0,.slice none 0 0]].toList 8=some ([.agg [.agg [.nil,.nil],.nil,.nil,.agg [.nil]],.agg [.nil,.nil],.agg [.lit (.int .i64 0),.lit (.int .i64 0),.nil]],[],[]):=by kernel_rfl
theorem lifted (os:Os)(started:os.Started)(H:Type)(enc:TypeId×Value→H)(F:Stop.Interp):
 ReturnsInHanded {} Tryz.checked os 3 .any ((OpenSpec.ofChange Rows.queryMatchesSpecSpec).preRow enc Tryz.prog Tryz.f3 Rows.queryMatchesSpecRow.domain false Rows.queryMatchesSpecRow.laid) (((OpenSpec.ofChange Rows.queryMatchesSpecSpec).at F).post enc Tryz.prog Tryz.f3 false true false false):=by
 refine returnsInHanded_of_row (C:=Tryz.checked) (s:=(OpenSpec.ofChange Rows.queryMatchesSpecSpec)) own started (by kernel_rfl) Tryz.func3
  ⟨World.laidAll Tryz.prog os Rows.queryMatchesSpecRow.laid,fun _ _=>0,⟨#[],#[.agg #[.slice none 0 0,.slice none 0 0,.slice none 0 0,.slice none 0 0,.slice none 0 0],.agg #[.slice none 0 0,.slice none 0 0],.agg #[.int .i64 0,.int .i64 0,.slice none 0 0]],[]⟩,World.laidAll_os _ _ _,World.shaped_of_ZipB (by kernel_rfl) (by kernel_rfl),rfl,
   (Input.okWide_of_okWideB (P:=Tryz.prog) (f:=3) (w:=(World.laidAll Tryz.prog os Rows.queryMatchesSpecRow.laid).forCall (fun _ _=>0) ⟨#[],#[.agg #[.slice none 0 0,.slice none 0 0,.slice none 0 0,.slice none 0 0,.slice none 0 0],.agg #[.slice none 0 0,.slice none 0 0],.agg #[.int .i64 0,.int .i64 0,.slice none 0 0]],[]⟩) (i:=⟨#[],#[.agg #[.slice none 0 0,.slice none 0 0,.slice none 0 0,.slice none 0 0,.slice none 0 0],.agg #[.slice none 0 0,.slice none 0 0],.agg #[.int .i64 0,.int .i64 0,.slice none 0 0]],[]⟩) (by kernel_rfl)).2,
   OpenSpec.preRow_of_cond 8 (reads os enc) (by kernel_rfl) (fun k hk=>by cases hk) (by kernel_rfl) (Jj os),by
    simp only[Assume.holds]
    exact⟨by simp,by simp,fun _=>Modest.zero,by simp,by simp⟩⟩ ?_
 intro W base args ds gs before Fh hW _ adR fR hL _ _;exact Jh H enc W base args ds gs before Fh hW fR (Wj hL)
theorem said:Rows.QueryMatchesSpecSaid:=
 OpenClaim.holds_of_cond 3 Tryz.f3 rfl rfl rfl rfl rfl rfl rfl ⟨rfl,rfl,rfl,rfl,rfl⟩ rfl rfl rfl rfl rfl (by kernel_rfl) Tryz.func3 (by kernel_rfl)
  (of_decide_eq_true (by kernel_rfl)) (by unfold Func.isWrapper;first|(rw[if_pos (by decide+kernel)];kernel_rfl)|(rw[if_neg (by decide+kernel)];exact⟨rfl,rfl⟩))
  (fun os started H enc _ F=>by rw[OpenClaim.pre_eq_preRow];exact lifted os started H enc F)
theorem holds:Rows.QueryMatchesSpecCardSaid:=
 Claim7.holds_tied_plain_at .later [] [.data, .data, .data, .pinned] true (true, "ad7579b7b09f8685a6a353db787568a271458273348484b9dbb4bd061f222b48") false
  said (fun _ h=>by cases h) (by kernel_rfl) (fun _ h=>by cases h) queryMatchesSpec_row_tie rfl ⟨rfl,rfl⟩ (by kernel_rfl) rfl
  (fun f fn hf PN=>by
   obtain rfl : f = 3 := Option.some.inj ((show Tryz.prog.funcNamed "glosswright/glosswrightlaw7.QueryMatchesSpec" = some 3 by kernel_rfl).symm.trans hf) |>.symm;obtain rfl:fn=Tryz.f3:=(Option.some.inj (Tryz.func3.symm.trans PN)).symm
   exact⟨by kernel_rfl,fun j t ht=>by
    rw[Tryz.params3]at ht
    have hm:t∈[32,36,39]:=by simpa using Array.mem_of_getElem? ht
    have eP:([32,36,39].all fun u=> !Tryz.prog.wantsStandIn u)=true:=by kernel_rfl
    exact(show Tryz.prog.wantsStandIn t=false by simpa using List.all_eq_true.1 eP t hm)⟩)
  (by kernel_rfl)
#print axioms holds
end Go.Proofs.YtolmidffiegkaaaGreatDoor.qryMatches
