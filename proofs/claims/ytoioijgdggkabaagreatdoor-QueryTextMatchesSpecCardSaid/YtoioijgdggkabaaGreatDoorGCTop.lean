/-
  The law QueryTextMatchesSpec: for every input it returns true, and the input reads as it did; its card: the listed variables are tied to the program's text.
  Conditions: none.
-/
import Derived.Test.YtoioijgdggkabaaGreatDoorRows
import Derived.Test.YtoioijgdggkabaaGreatDoorTie
import Derived.Test.YtoioijgdggkabaaGreatDoorCards
import Derived.Test.YtoioijgdggkabaaGreatDoorGC1
import Derived.Test.YtoioijgdggkabaaGreatDoorGC2
import Derived.Test.YtoioijgdggkabaaGreatDoorGC9
import Derived.ProofKit
import Derived.SevenTiedAt
set_option linter.unusedVariables false
set_option linter.unusedSimpArgs false
namespace Go.Proofs.YtoioijgdggkabaaGreatDoor.qryText
open Go Go.J Go.ChangeShapes Go.WideShapes Go.ChangeAt Go.RowKit
open Go.ChangeMaps (open_string)
set_option maxRecDepth 100000
theorem own:ownKnob Tryz.prog.godebug=none:=by kernel_rfl
theorem laidOut:laidOutB Tryz.prog=true:=by kernel_rfl
theorem xg:Tryz.prog.cellsOf 9=1:=by kernel_rfl
theorem WC:Tryz.prog.bytesOf 9=16:=by kernel_rfl
theorem r5 (W:World):laidMetH Tryz.prog Rows.queryTextMatchesSpecRow.laid W=laidMet Tryz.prog Rows.queryTextMatchesSpecRow.laid W:=MakeChecks.laidMetH_plain _ _ _ (by kernel_rfl)
theorem QX:Rows.laid_unicode_utf8_acceptRanges=Lib.acceptData:=by kernel_rfl
theorem Hy:Rows.laid_unicode_utf8_first=Lib.firstData:=by kernel_rfl
theorem WD:(Rows.laid_math_bits_deBruijn64tab:DataW Unit)=Lib.tabData .u8 (Lib.deBruijn64tab.map fun x:Nat=>(x:Int)):=by kernel_rfl
theorem WE:(Rows.laid_glosswright_query_signs:DataW Unit)= .slice (cn.map fun s=> .lit (.string s)) []:=by kernel_rfl
theorem WG {W:World}(h:laidMetH Tryz.prog Rows.queryTextMatchesSpecRow.laid W):Ka W:=
 vD (by kernel_rfl) (by kernel_rfl) (by kernel_rfl) (by kernel_rfl) Tryz.underlying160 IP Tryz.underlying163 Tryz.underlying162 (fun i fd hi=>by
  match i,hi with
  |0,hi=>simp at hi;subst hi;exact⟨IP,rfl,by kernel_rfl⟩
  |1,hi=>simp at hi;subst hi;exact⟨IP,rfl,by kernel_rfl⟩
  |i+2,hi=>simp at hi) rfl (by kernel_rfl) (by kernel_rfl) (by kernel_rfl) h (r5 W) (by rw[←Hy];exact .tail _ (.tail _ (.tail _ (.head _)))) (by rw[←QX];exact .tail _ (.head _))
theorem QY {W:World}(h:Ka W):u8.f (J.all W):=fun w hw=>tU h hw
theorem QZ {W:World}(h:laidMetH Tryz.prog Rows.queryTextMatchesSpecRow.laid W):∀d∈[tz,u8,qh],d.f (J.all W):=by
 have h':laidMet Tryz.prog Rows.queryTextMatchesSpecRow.laid W:=by rw[←r5];exact h
 intro d hd
 simp only[List.mem_cons,List.not_mem_nil,or_false]at hd
 rcases hd with rfl|rfl|rfl
 ·exact fun w hw=>C6 (by kernel_rfl) (by kernel_rfl) Tryz.underlying183 IP (by kernel_rfl) (by kernel_rfl) (Lib.laidMet.reads h' (by rw[←WD];exact .head _)) w hw
 ·exact QY (WG h)
 ·exact Fu (by kernel_rfl) (by kernel_rfl) kT cZ (by kernel_rfl) (by decide) (by decide) (Lib.laidMet.reads h' (by rw[←WE];exact .tail _ (.tail _ (.head _))))
theorem FD (H:Type)(enc:TypeId×Value→H)(W:World)(base:Nat)(args:Array Value)(ds gs:List (DataW H))(before:List MemPlace)
 (FE:∀(j:Nat) t v,Tryz.f3.params[j]?=some t→args[j]?=some v→Value.okWide Tryz.prog W .any base t v)
 (hW:DataW.Whole enc Tryz.prog Tryz.f3.params.toList Rows.queryTextMatchesSpecSpec.vars false W args.toList ds gs before)
 (Qa:(DataW.weightsEach Tryz.prog (Tryz.f3.params.toList++(OpenSpec.ofChange Rows.queryTextMatchesSpecSpec).bare.plain.varTypes Tryz.prog) (ds++gs)).all (· ≤reachBytes)=true) (FF:∀d∈[tz,u8,qh],d.f (J.all W)):
 Calls Tryz.prog 3 args W fun e W'=>∃v,e= .returned v∧Rows.queryTextMatchesSpecSpec.post enc Tryz.prog Tryz.f3 false true false false W args v W':=by
 have RT:=hW
 obtain⟨p,q,Y9,hV,rfl,hfz,Bd⟩:=hW
 have hA:DataW.TrodAll enc Tryz.prog W 0 (fun _=>true) true Tryz.f3.params.toList args.toList ds p:=Y9
 have fx:(DataW.weightsEach Tryz.prog (Tryz.f3.params.toList++(OpenSpec.ofChange Rows.queryTextMatchesSpecSpec).bare.plain.varTypes Tryz.prog) (ds++gs)).all (· ≤reachBytes)=true:=Qa
 rw[Tryz.params3]at hA FE fx;obtain⟨v0,v1,d0,d1,p0,p1,rfl,rfl,rfl,h0,h1⟩:=trodAll_two hA;obtain⟨rfl,rfl⟩:=trodVars_none hV
 clear Y9 Qa
 simp only[List.append_nil]at RT
 have iU:∀x∈p0++p1,x.block<W.heap.size:=fun x hx=>by simpa using RT.lt x hx
 obtain⟨a0,rfl,f0,s0⟩:=xh (FE 0 25 v0 rfl rfl) (ml (j:=0) fx rfl rfl) h0;obtain⟨b1,e1,q1,_,_⟩:=open_string cZ (FE 1 9 v1 rfl rfl) h1;obtain rfl:v1=sv b1.data.toList:=e1.trans (Bs b1)
 obtain⟨a1,YA⟩:∃a,a=b1.data.toList:=⟨_,rfl⟩
 have z1:a1.length≤140737488351232:=by
  have:=ml (j:=1) fx rfl rfl
  rw[q1]at this
  simp only[mj,DataW.weights,reachBytes,List.all_cons,List.all_nil,Bool.and_true]at this
  rw[YA];exact of_decide_eq_true this
 rw[←YA]at RT h1⊢;refine((Bb a0 a1 z1).below (W:=W) (fun d hd=> ?_)).mono ?_
 ·simp only[List.mem_cons,List.not_mem_nil,or_false]at hd
  rcases hd with rfl|rfl|rfl|rfl
  ·exact f0
  ·exact FF _ (by simp only[List.mem_cons,true_or,or_true])
  ·exact FF _ (by simp only[List.mem_cons,true_or,or_true])
  ·exact FF _ (by simp only[List.mem_cons,true_or,or_true])
 ·rintro e W' ⟨rfl,hb⟩
  have ha:∀{t v d p},Tryz.prog.readableRec t=true→t<Tryz.prog.types.size→DataW.Trod enc Tryz.prog W 0 (fun _=>true) true t v d p→(∀x∈p,x.block<W.heap.size)→DataW.Trod enc Tryz.prog W' 0 (fun b=>decide (b<W.heap.size)) true t v d p:=
   fun hr ht h hl=>Below.trod laidOut hr ht h hb hl
  refine⟨_,rfl,_,_,_,[],_,[],RT,trodAll_mk1 (shut_bool zR _),trodAll_mk2 (ha (by kernel_rfl) (of_decide_eq_true (by kernel_rfl)) h0 fun x hx=>iU x (by simp[hx])) (ha (by kernel_rfl) (of_decide_eq_true (by kernel_rfl)) h1 fun x hx=>iU x (by simp[hx])),rfl,hb.frame _,fun h=>by cases h⟩
theorem FG (os:Os):laidMetH Tryz.prog Rows.queryTextMatchesSpecRow.laid ((World.laidAll Tryz.prog os Rows.queryTextMatchesSpecRow.laid).forCall (fun _ _=>0) ⟨#[],#[.agg #[.slice none 0 0,.slice none 0 0],.string ⟨#[]⟩],[]⟩).memory:=by
 rw[r5];exact laidMet_laidAll _ (by kernel_rfl) (by kernel_rfl)
theorem reads (os:Os){H:Type}(enc:TypeId×Value→H):DataW.whole enc Tryz.prog ((World.laidAll Tryz.prog os Rows.queryTextMatchesSpecRow.laid).forCall (fun _ _=>0) ⟨#[],#[.agg #[.slice none 0 0,.slice none 0 0],.string ⟨#[]⟩],[]⟩).memory Tryz.f3.params.toList Rows.queryTextMatchesSpecSpec.vars false #[.agg #[.slice none 0 0,.slice none 0 0],.string ⟨#[]⟩].toList 8=some ([.agg [.nil,.nil],.lit (.string [])],[],[]):=by kernel_rfl
theorem lifted (os:Os)(started:os.Started)(H:Type)(enc:TypeId×Value→H)(F:Stop.Interp):
 ReturnsInHanded {} Tryz.checked os 3 .any ((OpenSpec.ofChange Rows.queryTextMatchesSpecSpec).preRow enc Tryz.prog Tryz.f3 Rows.queryTextMatchesSpecRow.domain false Rows.queryTextMatchesSpecRow.laid) (((OpenSpec.ofChange Rows.queryTextMatchesSpecSpec).at F).post enc Tryz.prog Tryz.f3 false true false false):=by
 refine returnsInHanded_of_row (C:=Tryz.checked) (s:=(OpenSpec.ofChange Rows.queryTextMatchesSpecSpec)) own started (by kernel_rfl) Tryz.func3
  ⟨World.laidAll Tryz.prog os Rows.queryTextMatchesSpecRow.laid,fun _ _=>0,⟨#[],#[.agg #[.slice none 0 0,.slice none 0 0],.string ⟨#[]⟩],[]⟩,World.laidAll_os _ _ _,World.shaped_of_ZipB (by kernel_rfl) (by kernel_rfl),rfl,
   (Input.okWide_of_okWideB (P:=Tryz.prog) (f:=3) (w:=(World.laidAll Tryz.prog os Rows.queryTextMatchesSpecRow.laid).forCall (fun _ _=>0) ⟨#[],#[.agg #[.slice none 0 0,.slice none 0 0],.string ⟨#[]⟩],[]⟩) (i:=⟨#[],#[.agg #[.slice none 0 0,.slice none 0 0],.string ⟨#[]⟩],[]⟩) (by kernel_rfl)).2,
   OpenSpec.preRow_of_cond 8 (reads os enc) (by kernel_rfl) (fun k hk=>by cases hk) (by kernel_rfl) (FG os),by
    simp only[Assume.holds]
    exact⟨by simp,by simp,fun _=>Modest.zero,by simp,by simp⟩⟩ ?_
 intro W base args ds gs before FE hW _ YB fx hL _ _;exact FD H enc W base args ds gs before FE hW fx (QZ hL)
theorem said:Rows.QueryTextMatchesSpecSaid:=
 OpenClaim.holds_of_cond 3 Tryz.f3 rfl rfl rfl rfl rfl rfl rfl ⟨rfl,rfl,rfl,rfl,rfl⟩ rfl rfl rfl rfl rfl (by kernel_rfl) Tryz.func3 (by kernel_rfl)
  (of_decide_eq_true (by kernel_rfl)) (by unfold Func.isWrapper;first|(rw[if_pos (by decide+kernel)];kernel_rfl)|(rw[if_neg (by decide+kernel)];exact⟨rfl,rfl⟩))
  (fun os started H enc _ F=>by rw[OpenClaim.pre_eq_preRow];exact lifted os started H enc F)
theorem holds:Rows.QueryTextMatchesSpecCardSaid:=
 Claim7.holds_tied_plain_at .later [] [.data, .data, .data, .pinned] true (true, "088fb0a49fd91c58e86520d36fad2d8adab45ab50493ba735e15812da601e598") false
  said (fun _ h=>by cases h) (by kernel_rfl) (fun _ h=>by cases h) queryTextMatchesSpec_row_tie rfl ⟨rfl,rfl⟩ (by kernel_rfl) rfl
  (fun f fn hf Qv=>by
   obtain rfl : f = 3 := Option.some.inj ((show Tryz.prog.funcNamed "glosswright/glosswrightlaw7.QueryTextMatchesSpec" = some 3 by kernel_rfl).symm.trans hf) |>.symm;obtain rfl:fn=Tryz.f3:=(Option.some.inj (Tryz.func3.symm.trans Qv)).symm
   exact⟨by kernel_rfl,fun j t ht=>by
    rw[Tryz.params3]at ht
    have hm:t∈[25,9]:=by simpa using Array.mem_of_getElem? ht
    have ej:([25,9].all fun u=> !Tryz.prog.wantsStandIn u)=true:=by kernel_rfl
    exact(show Tryz.prog.wantsStandIn t=false by simpa using List.all_eq_true.1 ej t hm)⟩)
  (by kernel_rfl)
#print axioms holds
end Go.Proofs.YtoioijgdggkabaaGreatDoor.qryText
