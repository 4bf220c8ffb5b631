/-
  The law AgreeMoreForms: for every input it returns true, and the input reads as it did; its card: the listed variables are tied tqo the program's text.
  Conditions: none.
-/
import Derived.Test.YtblifkgpebebmaaGreatDoorRows
import Derived.Test.YtblifkgpebebmaaGreatDoorTie
import Derived.Test.YtblifkgpebebmaaGreatDoorCards
import Derived.Test.YtblifkgpebebmaaGreatDoorGA11
import Derived.SevenTiedAt
set_option linter.unusedVariables false
set_option linter.unusedSimpArgs false
namespace Go.Proofs.YtblifkgpebebmaaGreatDoor.agrMore
open Go Go.J Go.ChangeShapes Go.WideShapes Go.ChangeAt Go.RowKit
open Go.ChangeMaps (open_string)
set_option maxRecDepth 100000
theorem own:ownKnob Tryz.prog.godebug=none:=by kernel_rfl
theorem laidOut:laidOutB Tryz.prog=true:=by kernel_rfl
theorem qG:Tryz.prog.cellsOf 9=1:=by kernel_rfl
theorem RU:Tryz.prog.cellsOf 33=1:=by kernel_rfl
theorem Vn:Tryz.prog.bytesOf 9=16:=by kernel_rfl
theorem RF:Tryz.prog.bytesOf 33=24:=by kernel_rfl
theorem zG (W:World):laidMetH Tryz.prog Rows.agreeMoreFormsRow.laid W=laidMet Tryz.prog Rows.agreeMoreFormsRow.laid W:=MakeChecks.laidMetH_plain _ _ _ (by kernel_rfl)
theorem Yk:Rows.laid_unicode_utf8_acceptRanges=Lib.acceptData:=by kernel_rfl
theorem Ru:Rows.laid_unicode_utf8_first=Lib.firstData:=by kernel_rfl
theorem alV:(Rows.laid_math_bits_deBruijn64tab:DataW Unit)=Lib.tabData .u8 (Lib.deBruijn64tab.map λx:Nat=>(x:Int)):=by kernel_rfl
theorem alU {W:World}(h:laidMetH Tryz.prog Rows.agreeMoreFormsRow.laid W):VU W:=
 G0 (by kernel_rfl) (by kernel_rfl) (by kernel_rfl) (by kernel_rfl) Tryz.underlying217 GG Tryz.underlying221 Tryz.underlying220 (λi fd a=>by
  match i,a with
  |0,a=>simp at a;subst a;exact⟨GG,rfl,by kernel_rfl⟩
  |1,a=>simp at a;subst a;exact⟨GG,rfl,by kernel_rfl⟩
  |i+2,a=>simp at a) rfl (by kernel_rfl) (by kernel_rfl) (by kernel_rfl) h (zG W) (by rw[←Ru];exact .tail _ (.tail _ (.head _))) (by rw[←Yk];exact .tail _ (.head _))
theorem afD {W:World}(h:VU W):u8.f (J.all W):=λw hw=>DZ h hw
theorem Zy {W:World}(h:laidMetH Tryz.prog Rows.agreeMoreFormsRow.laid W):∀d∈[tz,u8],d.f (J.all W):=by
 have a:laidMet Tryz.prog Rows.agreeMoreFormsRow.laid W:=by rw[←zG];exact h
 intro d hd
 simp only[List.mem_cons,List.not_mem_nil,or_false]at hd
 rcases hd with rfl|rfl
 ·exact λw hw=>Mg (by kernel_rfl) (by kernel_rfl) Tryz.underlying257 GG (by kernel_rfl) (by kernel_rfl) (Lib.laidMet.reads a (by rw[←alV];exact .head _)) w hw
 ·exact afD (alU h)
theorem N1 (H:Type)(enc:TypeId×Value→H)(W:World)(base:Nat)(args:Array Value)(ds gs:List (DataW H))(before:List MemPlace)
 (g:∀(j:Nat) t v,Tryz.f4.params[j]?=some t→args[j]?=some v→Value.okWide Tryz.prog W .any base t v)
 (B:DataW.Whole enc Tryz.prog Tryz.f4.params.toList Rows.agreeMoreFormsSpec.vars false W args.toList ds gs before)
 (C:(DataW.weightsEach Tryz.prog (Tryz.f4.params.toList++(OpenSpec.ofChange Rows.agreeMoreFormsSpec).bare.plain.varTypes Tryz.prog) (ds++gs)).all (· ≤reachBytes)=true) (i:∀d∈[tz,u8],d.f (J.all W)):
 Calls Tryz.prog 4 args W λe w=>∃v,e= .returned v∧Rows.agreeMoreFormsSpec.post enc Tryz.prog Tryz.f4 false true false false W args v w:=by
 have c:=B
 obtain⟨p,q,k,K,rfl,L,X⟩:=B
 have D:DataW.TrodAll enc Tryz.prog W 0 (λ_=>true) true Tryz.f4.params.toList args.toList ds p:=k
 have l:(DataW.weightsEach Tryz.prog (Tryz.f4.params.toList++(OpenSpec.ofChange Rows.agreeMoreFormsSpec).bare.plain.varTypes Tryz.prog) (ds++gs)).all (· ≤reachBytes)=true:=C
 rw[Tryz.params4]at D g l;obtain⟨v0,v1,v2,v3,d0,d1,d2,d3,p0,M,N,O,rfl,rfl,rfl,m,h1,E,y⟩:=trodAll_four D;obtain⟨rfl,rfl⟩:=trodVars_none K
 clear k C
 simp only[List.append_nil]at c
 have r:∀x∈p0++M++N++O,x.block<W.heap.size:=λx hx=>by simpa using c.lt x hx
 obtain⟨a0,rfl,f0⟩:=Oc (g 0 32 v0 rfl rfl) (qg (j:=0) l rfl rfl) m;obtain⟨F,f1,g1,G⟩:=LF bL pK RU mz qG (W7 wW) (g 1 49 v1 rfl rfl) (qg (j:=1) l rfl rfl) h1
 have Y:=PS l 1 (xs:=F) rfl rfl pK g1 24 RF
 rw[Vn]at G;obtain⟨a2,rfl⟩:=okWide_int gG (g 2 3 v2 rfl rfl)
 have Z:aa a2:=by
  obtain⟨n,P⟩:=E;obtain⟨z,m,_,Q⟩:=DataW.trod_int gG P
  simp[Value.cells]at m
  subst m;exact wf_i64 Q
 obtain⟨A,R,S,_,_⟩:=open_string wW (g 3 9 v3 rfl rfl) y;obtain rfl:v3=sv A.data.toList:=R.trans (Pd A)
 obtain⟨a3,o⟩:∃a,a=A.data.toList:=⟨_,rfl⟩
 have z3:a3.length≤140737488351232:=by
  have:=qg (j:=3) l rfl rfl
  rw[S]at this
  simp only[n9,DataW.weights,reachBytes,List.all_cons,List.all_nil,Bool.and_true]at this
  rw[o];exact ei this
 rw[←o]at c y⊢;refine((D4 a0 v1 F a2 a3 (by omega) (λs T=>by have:=G s T;omega) z3).below (W:=W) (λd hd=> ?_)).mono ?_
 ·simp only[List.mem_cons,List.not_mem_nil,or_false]at hd
  rcases hd with rfl|rfl|rfl|rfl
  ·exact f0
  ·exact f1
  ·exact i _ (by simp only[List.mem_cons,true_or,or_true])
  ·exact i _ (by simp only[List.mem_cons,true_or,or_true])
 ·rintro e w ⟨rfl,I⟩
  have u:∀{t v d p},Tryz.prog.readableRec t=true→t<Tryz.prog.types.size→DataW.Trod enc Tryz.prog W 0 (λ_=>true) true t v d p→(∀x∈p,x.block<W.heap.size)→DataW.Trod enc Tryz.prog w 0 (λb=>decide (b<W.heap.size)) true t v d p:=
   λU ht h V=>Below.trod laidOut U ht h I V
  refine⟨_,rfl,_,_,_,[],_,[],c,trodAll_mk1 (shut_bool IA _),trodAll_mk4 (u (by kernel_rfl) (ei (by kernel_rfl)) m λx hx=>r x (by simp[hx])) (u (by kernel_rfl) (ei (by kernel_rfl)) h1 λx hx=>r x (by simp[hx])) (u (by kernel_rfl) (ei (by kernel_rfl)) E λx hx=>r x (by simp[hx])) (u (by kernel_rfl) (ei (by kernel_rfl)) y λx hx=>r x (by simp[hx])),rfl,I.frame _,λh=>by cases h⟩
theorem O4 (os:Os):laidMetH Tryz.prog Rows.agreeMoreFormsRow.laid ((World.laidAll Tryz.prog os Rows.agreeMoreFormsRow.laid).forCall (λ_ _=>0) ⟨#[],#[.agg #[.slice none 0 0,.slice none 0 0,.slice none 0 0,.slice none 0 0,.slice none 0 0],.slice none 0 0,.int .i64 0,.string ⟨#[]⟩],[]⟩).memory:=by
 rw[zG];exact laidMet_laidAll _ (by kernel_rfl) (by kernel_rfl)
theorem reads (os:Os){H:Type}(enc:TypeId×Value→H):DataW.whole enc Tryz.prog ((World.laidAll Tryz.prog os Rows.agreeMoreFormsRow.laid).forCall (λ_ _=>0) ⟨#[],#[.agg #[.slice none 0 0,.slice none 0 0,.slice none 0 0,.slice none 0 0,.slice none 0 0],.slice none 0 0,.int .i64 0,.string ⟨#[]⟩],[]⟩).memory Tryz.f4.params.toList Rows.agreeMoreFormsSpec.vars false #[.agg #[.slice none 0 0,.slice none 0 0,.slice none 0 0,.slice none 0 0,.slice none 0 0],.slice none 0 0,.int .i64 0,.string ⟨#[]⟩].toList 8=some ([.agg [.agg [.nil,.nil],.nil,.nil,.agg [.nil]],.nil,.lit (.int .i64 0),.lit (.string [])],[],[]):=by kernel_rfl
theorem lifted (os:Os)(started:os.Started)(H:Type)(enc:TypeId×Value→H)(F:Stop.Interp):
 ReturnsInHanded {} Tryz.checked os 4 .any ((OpenSpec.ofChange Rows.agreeMoreFormsSpec).preRow enc Tryz.prog Tryz.f4 Rows.agreeMoreFormsRow.domain false Rows.agreeMoreFormsRow.laid) (((OpenSpec.ofChange Rows.agreeMoreFormsSpec).at F).post enc Tryz.prog Tryz.f4 false true false false):=by
 refine returnsInHanded_of_row (C:=Tryz.checked) (s:=(OpenSpec.ofChange Rows.agreeMoreFormsSpec)) own started (by kernel_rfl) Tryz.func4
  ⟨World.laidAll Tryz.prog os Rows.agreeMoreFormsRow.laid,λ_ _=>0,⟨#[],#[.agg #[.slice none 0 0,.slice none 0 0,.slice none 0 0,.slice none 0 0,.slice none 0 0],.slice none 0 0,.int .i64 0,.string ⟨#[]⟩],[]⟩,World.laidAll_os _ _ _,World.shaped_of_ZipB (by kernel_rfl) (by kernel_rfl),rfl,
   (Input.okWide_of_okWideB (P:=Tryz.prog) (f:=4) (w:=(World.laidAll Tryz.prog os Rows.agreeMoreFormsRow.laid).forCall (λ_ _=>0) ⟨#[],#[.agg #[.slice none 0 0,.slice none 0 0,.slice none 0 0,.slice none 0 0,.slice none 0 0],.slice none 0 0,.int .i64 0,.string ⟨#[]⟩],[]⟩) (i:=⟨#[],#[.agg #[.slice none 0 0,.slice none 0 0,.slice none 0 0,.slice none 0 0,.slice none 0 0],.slice none 0 0,.int .i64 0,.string ⟨#[]⟩],[]⟩) (by kernel_rfl)).2,
   OpenSpec.preRow_of_cond 8 (reads os enc) (by kernel_rfl) (λk hk=>by cases hk) (by kernel_rfl) (O4 os),by
    simp only[Assume.holds]
    exact⟨by simp,by simp,λ_=>Modest.zero,by simp,by simp⟩⟩ ?_
 intro W base args ds gs before a b _ c d e _ _;exact N1 H enc W base args ds gs before a b d (Zy e)
theorem said:Rows.AgreeMoreFormsSaid:=
 OpenClaim.holds_of_cond 4 Tryz.f4 rfl rfl rfl rfl rfl rfl rfl ⟨rfl,rfl,rfl,rfl,rfl⟩ rfl rfl rfl rfl rfl (by kernel_rfl) Tryz.func4 (by kernel_rfl)
  (ei (by kernel_rfl)) (by unfold Func.isWrapper;first|(rw[aC (by decide+kernel)];kernel_rfl)|(rw[aA (by decide+kernel)];exact⟨rfl,rfl⟩))
  (λos started H enc _ F=>by rw[OpenClaim.pre_eq_preRow];exact lifted os started H enc F)
theorem holds:Rows.AgreeMoreFormsCardSaid:=
 Claim7.holds_tied_plain_at .later [] [.data, .data, .pinned] true (true, "0e83c27d7ce0a1db18017fb35400dfa89671e62fdafe4b6c7938be19390e2dc3") true
  said (λ_ h=>by cases h) (by kernel_rfl) (λ_ h=>by cases h) agreeMoreForms_row_tie rfl ⟨rfl,rfl⟩ (by kernel_rfl) rfl
  (λf fn a b=>by
   obtain rfl : f = 4 := Option.some.inj ((show Tryz.prog.funcNamed "glosswright/glosswrightlaw7.AgreeMoreForms" = some 4 by kernel_rfl).symm.trans a) |>.symm;obtain rfl:fn=Tryz.f4:=(Option.some.inj (Tryz.func4.symm.trans b)).symm
   exact⟨by kernel_rfl,λj t ht=>by
    rw[Tryz.params4]at ht
    have hm:t∈[32,49,3,9]:=by simpa using Array.mem_of_getElem? ht
    have c:([32,49,3,9].all λu=> !Tryz.prog.wantsStandIn u)=true:=by kernel_rfl
    exact(show Tryz.prog.wantsStandIn t=false by simpa using eW.1 c t hm)⟩)
  (by kernel_rfl)
#print axioms holds
end Go.Proofs.YtblifkgpebebmaaGreatDoor.agrMore
