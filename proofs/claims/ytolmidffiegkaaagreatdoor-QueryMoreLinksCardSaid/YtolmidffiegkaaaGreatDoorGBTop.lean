/-
  The law QueryMoreLinks: for every input it returns true, and the input reads as it did; its card: the listed variables are tied to the program's text.
  Conditions: none.
-/
import Derived.Test.YtolmidffiegkaaaGreatDoorRows
import Derived.Test.YtolmidffiegkaaaGreatDoorTie
import Derived.Test.YtolmidffiegkaaaGreatDoorCards
import Derived.Test.YtolmidffiegkaaaGreatDoorGB1
import Derived.Test.YtolmidffiegkaaaGreatDoorGB2
import Derived.Test.YtolmidffiegkaaaGreatDoorGB10
import Derived.ProofKit
import Derived.SevenTiedAt
namespace Go.Proofs.YtolmidffiegkaaaGreatDoor.qryMore
open Go Go.J Go.ChangeShapes Go.WideShapes Go.ChangeAt Go.RowKit
open Go.ChangeMaps (open_string)
set_option linter.unusedVariables false
set_option linter.unusedSimpArgs false
set_option maxRecDepth 100000
theorem own:ownKnob Tryz.prog.godebug=none:=by kernel_rfl
theorem laidOut:laidOutB Tryz.prog=true:=by kernel_rfl
theorem uM (W:World):laidMetH Tryz.prog Rows.queryMoreLinksRow.laid W=laidMet Tryz.prog Rows.queryMoreLinksRow.laid W:=MakeChecks.laidMetH_plain _ _ _ (by kernel_rfl)
theorem Vf:Rows.laid_unicode_utf8_acceptRanges=Lib.acceptData:=by kernel_rfl
theorem Ll:Rows.laid_unicode_utf8_first=Lib.firstData:=by kernel_rfl
theorem abZ:(Rows.laid_math_bits_deBruijn64tab:DataW Unit)=Lib.tabData .u8 (Lib.deBruijn64tab.map fun x:Nat=>(x:Int)):=by kernel_rfl
theorem ab0:(Rows.laid_glosswright_query_signs:DataW Unit)= .slice (iE.map fun s=> .lit (.string s)) []:=by kernel_rfl
theorem ab1 {W:World}(h:laidMetH Tryz.prog Rows.queryMoreLinksRow.laid W):Oo W:=
 yT (by kernel_rfl) (by kernel_rfl) (by kernel_rfl) (by kernel_rfl) Tryz.underlying167 CS Tryz.underlying170 Tryz.underlying169 (fun i fd hi=>by
  match i,hi with
  |0,hi=>simp at hi;subst hi;exact⟨CS,rfl,by kernel_rfl⟩
  |1,hi=>simp at hi;subst hi;exact⟨CS,rfl,by kernel_rfl⟩
  |i+2,hi=>simp at hi) rfl (by kernel_rfl) (by kernel_rfl) (by kernel_rfl) h (uM W) (by rw[←Ll];exact .tail _ (.tail _ (.tail _ (.head _)))) (by rw[←Vf];exact .tail _ (.head _))
theorem Vg {W:World}(h:Oo W):u8.f (J.all W):=fun w hw=>wa h hw
theorem Vh {W:World}(h:laidMetH Tryz.prog Rows.queryMoreLinksRow.laid W):∀d∈[tz,u8,AO],d.f (J.all W):=by
 have h':laidMet Tryz.prog Rows.queryMoreLinksRow.laid W:=by rw[←uM];exact h
 intro d hd
 simp only[List.mem_cons,List.not_mem_nil,or_false]at hd
 rcases hd with rfl|rfl|rfl
 ·exact fun w hw=>FJ (by kernel_rfl) (by kernel_rfl) Tryz.underlying207 CS (by kernel_rfl) (by kernel_rfl) (Lib.laidMet.reads h' (by rw[←abZ];exact .head _)) w hw
 ·exact Vg (ab1 h)
 ·exact JH (by kernel_rfl) (by kernel_rfl) lU eG (by kernel_rfl) (by decide) (by decide) (Lib.laidMet.reads h' (by rw[←ab0];exact .tail _ (.tail _ (.head _))))
theorem Iq (H:Type)(enc:TypeId×Value→H)(W:World)(base:Nat)(args:Array Value)(ds gs:List (DataW H))(before:List MemPlace)
 (C6:∀(j:Nat) t v,Tryz.f4.params[j]?=some t→args[j]?=some v→Value.okWide Tryz.prog W .any base t v)
 (hW:DataW.Whole enc Tryz.prog Tryz.f4.params.toList Rows.queryMoreLinksSpec.vars false W args.toList ds gs before)
 (Le:(DataW.weightsEach Tryz.prog (Tryz.f4.params.toList++(OpenSpec.ofChange Rows.queryMoreLinksSpec).bare.plain.varTypes Tryz.prog) (ds++gs)).all (· ≤reachBytes)=true) (Ir:∀d∈[tz,u8,AO],d.f (J.all W)):
 Calls Tryz.prog 4 args W fun e W'=>∃v,e= .returned v∧Rows.queryMoreLinksSpec.post enc Tryz.prog Tryz.f4 false true false false W args v W':=by
 have hW':=hW
 obtain⟨p,q,hA0,hV,rfl,hfz,zI⟩:=hW
 have hA:DataW.TrodAll enc Tryz.prog W 0 (fun _=>true) true Tryz.f4.params.toList args.toList ds p:=hA0
 have fD:(DataW.weightsEach Tryz.prog (Tryz.f4.params.toList++(OpenSpec.ofChange Rows.queryMoreLinksSpec).bare.plain.varTypes Tryz.prog) (ds++gs)).all (· ≤reachBytes)=true:=Le
 rw[Tryz.params4]at hA C6 fD;obtain⟨v0,v1,v2,v3,d0,d1,d2,d3,p0,p1,p2,p3,rfl,rfl,rfl,h0,h1,h2,h3⟩:=trodAll_four hA;obtain⟨rfl,rfl⟩:=trodVars_none hV
 clear hA0 Le
 simp only[List.append_nil]at hW'
 have jA:∀x∈p0++p1++p2++p3,x.block<W.heap.size:=fun x hx=>by simpa using hW'.lt x hx
 obtain⟨a0,rfl,f0⟩:=Fe (C6 0 32 v0 rfl rfl) (lM (j:=0) fD rfl rfl) h0;obtain⟨a1,rfl,f1,s1⟩:=Ap (C6 1 36 v1 rfl rfl) (lM (j:=1) fD rfl rfl) h1;obtain⟨a2,rfl,k2⟩:=Fg (C6 2 56 v2 rfl rfl) (lM (j:=2) fD rfl rfl) h2;obtain⟨a3,rfl,k3,f3⟩:=De (C6 3 39 v3 rfl rfl) (lM (j:=3) fD rfl rfl) h3;refine((Ef a0 a1 a2 a3 k3 k2 s1.2).below (W:=W) (fun d hd=> ?_)).mono ?_
 ·simp only[List.mem_cons,List.not_mem_nil,or_false]at hd
  rcases hd with rfl|rfl|rfl|rfl|rfl|rfl
  ·exact f0
  ·exact f1
  ·exact f3
  ·exact Ir _ (by simp only[List.mem_cons,true_or,or_true])
  ·exact Ir _ (by simp only[List.mem_cons,true_or,or_true])
  ·exact Ir _ (by simp only[List.mem_cons,true_or,or_true])
 ·rintro e W' ⟨rfl,hb⟩
  have ha:∀{t v d p},Tryz.prog.readableRec t=true→t<Tryz.prog.types.size→DataW.Trod enc Tryz.prog W 0 (fun _=>true) true t v d p→(∀x∈p,x.block<W.heap.size)→DataW.Trod enc Tryz.prog W' 0 (fun b=>decide (b<W.heap.size)) true t v d p:=
   fun hr ht h hl=>Below.trod laidOut hr ht h hb hl
  refine⟨_,rfl,_,_,_,[],_,[],hW',trodAll_mk1 (shut_bool uP _),trodAll_mk4 (ha (by kernel_rfl) (of_decide_eq_true (by kernel_rfl)) h0 fun x hx=>jA x (by simp[hx])) (ha (by kernel_rfl) (of_decide_eq_true (by kernel_rfl)) h1 fun x hx=>jA x (by simp[hx])) (ha (by kernel_rfl) (of_decide_eq_true (by kernel_rfl)) h2 fun x hx=>jA x (by simp[hx])) (ha (by kernel_rfl) (of_decide_eq_true (by kernel_rfl)) h3 fun x hx=>jA x (by simp[hx])),rfl,hb.frame _,fun h=>by cases h⟩
theorem It (os:Os):laidMetH Tryz.prog Rows.queryMoreLinksRow.laid ((World.laidAll Tryz.prog os Rows.queryMoreLinksRow.laid).forCall (fun _ _=>0) ⟨#[],#[.agg #[.slice none 0 0,.slice none 0 0,.slice none 0 0,.slice none 0 0,.slice none 0 0],.agg #[.slice none 0 0,.slice none 0 0],.agg #[.int .i64 0,.int .i64 0,.int .i64 0],.agg #[.int .i64 0,.int .i64 0,.slice none 0 0]],[]⟩).memory:=by
 rw[uM];exact laidMet_laidAll _ (by kernel_rfl) (by kernel_rfl)
theorem reads (os:Os){H:Type}(enc:TypeId×Value→H):DataW.whole enc Tryz.prog ((World.laidAll Tryz.prog os Rows.queryMoreLinksRow.laid).forCall (fun _ _=>0) ⟨#[],#[.agg #[.slice none 0 0,.slice none 0 0,.slice none 0 0,.slice none 0 0,.slice none 0 0],.agg #[.slice none 0 0,.slice none 0 0],.agg #[.int .i64 0,.int .i64 0,.int .i64 0],.agg #[.int .i64 0,.int .i64 0,.slice none 0 0]],[]⟩).memory Tryz.f4.params.toList Rows.queryMoreLinksSpec.vars false #[.agg #[.slice none 0 0,.slice none 0 0,.slice none 0 0,.slice none 0 0,.slice none 0 0],.agg #[.slice none 0 0,.slice none 0 0],.agg #[.int .i64 0,.int .i64 0,.int .i64 0],.agg #[.int .i64 0,.int .i64 0,.slice none 0 0]].toList 8=some ([.agg [.agg [.nil,.nil],.nil,.nil,.agg [.nil]],.agg [.nil,.nil],.agg [.lit (.int .i64 0),.lit (.int .i64 0),.lit (.int .i64 0)],.agg [.lit (.int .i64 0),.lit (.int .i64 0),.nil]],[],[]):=by kernel_rfl
theorem lifted (os:Os)(started:os.Started)(H:Type)(enc:TypeId×Value→H)(F:Stop.Interp):
 ReturnsInHanded {} Tryz.checked os 4 .any ((OpenSpec.ofChange Rows.queryMoreLinksSpec).preRow enc Tryz.prog Tryz.f4 Rows.queryMoreLinksRow.domain false Rows.queryMoreLinksRow.laid) (((OpenSpec.ofChange Rows.queryMoreLinksSpec).at F).post enc Tryz.prog Tryz.f4 false true false false):=by
 refine returnsInHanded_of_row (C:=Tryz.checked) (s:=(OpenSpec.ofChange Rows.queryMoreLinksSpec)) own started (by kernel_rfl) Tryz.func4
  ⟨World.laidAll Tryz.prog os Rows.queryMoreLinksRow.laid,fun _ _=>0,⟨#[],#[.agg #[.slice none 0 0,.slice none 0 0,.slice none 0 0,.slice none 0 0,.slice none 0 0],.agg #[.slice none 0 0,.slice none 0 0],.agg #[.int .i64 0,.int .i64 0,.int .i64 0],.agg #[.int .i64 0,.int .i64 0,.slice none 0 0]],[]⟩,World.laidAll_os _ _ _,World.shaped_of_ZipB (by kernel_rfl) (by kernel_rfl),rfl,
   (Input.okWide_of_okWideB (P:=Tryz.prog) (f:=4) (w:=(World.laidAll Tryz.prog os Rows.queryMoreLinksRow.laid).forCall (fun _ _=>0) ⟨#[],#[.agg #[.slice none 0 0,.slice none 0 0,.slice none 0 0,.slice none 0 0,.slice none 0 0],.agg #[.slice none 0 0,.slice none 0 0],.agg #[.int .i64 0,.int .i64 0,.int .i64 0],.agg #[.int .i64 0,.int .i64 0,.slice none 0 0]],[]⟩) (i:=⟨#[],#[.agg #[.slice none 0 0,.slice none 0 0,.slice none 0 0,.slice none 0 0,.slice none 0 0],.agg #[.slice none 0 0,.slice none 0 0],.agg #[.int .i64 0,.int .i64 0,.int .i64 0],.agg #[.int .i64 0,.int .i64 0,.slice none 0 0]],[]⟩) (by kernel_rfl)).2,
   OpenSpec.preRow_of_cond 8 (reads os enc) (by kernel_rfl) (fun k hk=>by cases hk) (by kernel_rfl) (It os),by
    simp only[Assume.holds]
    exact⟨by simp,by simp,fun _=>Modest.zero,by simp,by simp⟩⟩ ?_
 intro W base args ds gs before C6 hW _ acB fD hL _ _;exact Iq H enc W base args ds gs before C6 hW fD (Vh hL)
theorem said:Rows.QueryMoreLinksSaid:=
 OpenClaim.holds_of_cond 4 Tryz.f4 rfl rfl rfl rfl rfl rfl rfl ⟨rfl,rfl,rfl,rfl,rfl⟩ rfl rfl rfl rfl rfl (by kernel_rfl) Tryz.func4 (by kernel_rfl)
  (of_decide_eq_true (by kernel_rfl)) (by unfold Func.isWrapper;first|(rw[if_pos (by decide+kernel)];kernel_rfl)|(rw[if_neg (by decide+kernel)];exact⟨rfl,rfl⟩))
  (fun os started H enc _ F=>by rw[OpenClaim.pre_eq_preRow];exact lifted os started H enc F)
theorem holds:Rows.QueryMoreLinksCardSaid:=
 Claim7.holds_tied_plain_at .later [] [.data, .data, .data, .pinned] true (true, "ad7579b7b09f8685a6a353db787568a271458273348484b9dbb4bd061f222b48") false
  said (fun _ h=>by cases h) (by kernel_rfl) (fun _ h=>by cases h) queryMoreLinks_row_tie rfl ⟨rfl,rfl⟩ (by kernel_rfl) rfl
  (fun f fn hf OI=>by
   obtain rfl : f = 4 := Option.some.inj ((show Tryz.prog.funcNamed "glosswright/glosswrightlaw7.QueryMoreLinks" = some 4 by kernel_rfl).symm.trans hf) |>.symm;obtain rfl:fn=Tryz.f4:=(Option.some.inj (Tryz.func4.symm.trans OI)).symm
   exact⟨by kernel_rfl,fun j t ht=>by
    rw[Tryz.params4]at ht
    have hm:t∈[32,36,56,39]:=by simpa using Array.mem_of_getElem? ht
    have fE:([32,36,56,39].all fun u=> !Tryz.prog.wantsStandIn u)=true:=by kernel_rfl
    exact(show Tryz.prog.wantsStandIn t=false by simpa using List.all_eq_true.1 fE t hm)⟩)
  (by kernel_rfl)
#print axioms holds
end Go.Proofs.YtolmidffiegkaaaGreatDoor.qryMore
