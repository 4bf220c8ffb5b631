/-
  Laws of walks through programs, and facts on grammars, trees and queries.
  Conditions: none.
-/
import Derived.Test.YtolmidffiegkaaaGreatDoorGA8
import Derived.Test.YtolmidffiegkaaaGreatDoorGA2
import Derived.Test.YtolmidffiegkaaaGreatDoorGA7
import Derived.Test.YtolmidffiegkaaaGreatDoorGA1
import Derived.Test.YtolmidffiegkaaaGreatDoorGA5
set_option maxRecDepth 20000
set_option linter.unusedSimpArgs false
set_option linter.unusedVariables false
namespace Go.Proofs.YtolmidffiegkaaaGreatDoor
open Go Go.J
open Go.Lib
def FP (s:cQ):Nat:=if dL (bt s 0)then 0 else if(List.range (more (bt s 0))).all (cq s 0)then more (bt s 0)+1 else 0
theorem MO {s:cQ}(h:dL (bt s 0)=true):FP s=0:=by unfold FP;rw[if_pos h]
theorem ua {s:cQ}{k:Nat}(hk:k<more (bt s 0))(h:cq s 0 k=false):FP s=0:=by
 unfold FP
 split
 ·rfl
 ·rw[if_neg]
  rw[List.all_eq_true]
  intro hh;rw[hh k (List.mem_range.2 hk)]at h;cases h
theorem MP {s:cQ}(h:bt s 0<128):FP s=1:=by
 have hm:=dv (bt s 0)
 have h0:more (bt s 0)=0:=by omega
 unfold FP
 rw[if_neg (by unfold dL;simp;omega),h0];rfl
theorem QL {s:cQ}{m:Nat}(hm:more (bt s 0)=m)(h1:1≤m)(hl:m<s.length)(hc:∀i,i<m→128≤bt s (i+1)∧bt s (i+1)≤191):FP s=if vA (bt s 0)≤bt s 1∧bt s 1≤vB (bt s 0)then m+1 else 0:=by
 have Fm:=fJ (bt s 0)
 have OW:=fK (bt s 0)
 have yf:=dv (bt s 0)
 by_cases e:vA (bt s 0)≤bt s 1∧bt s 1≤vB (bt s 0)
 ·rw[if_pos e]
  unfold FP;rw[if_neg (by unfold dL;simp;omega),hm,if_pos];rw[List.all_eq_true];intro i hi
  have hi:=List.mem_range.1 hi
  have:=hc i hi
  rw[show i+1=0+1+i by omega]at this;unfold cq;refine decide_eq_true ⟨by omega,?_,?_⟩
  ·split
   ·rename_i h0;subst h0;exact e.1
   ·exact this.1
  ·split
   ·rename_i h0;subst h0;exact e.2
   ·exact this.2
 ·rw[if_neg e]
  refine ua (k:=0) (by omega) ?_;unfold cq;refine decide_eq_false ?_;rintro ⟨_,h2,h3⟩;exact e ⟨h2,h3⟩
def vF (s:cQ)(v0:Int):Nat→Int
 |0=>v0
 |k+1=>64*vF s v0 k+(bt s (k+1):Int)-128
theorem MQ {s:cQ}{p:Nat}(hs:dV (s.getD p 0)=false):(FP (s.drop p)=0∧sa s p=none)∨∃w,FP (s.drop p)=w+1∧sa s p=some (w+1):=by
 have e0:∀i,bt (s.drop p) i=bt s (p+i):=fun i=>by unfold bt;rw[getD_dropU]
 have ec:∀k,cq (s.drop p) 0 k=cq s p k:=fun k=>by
  unfold cq;rw[e0,e0,List.length_drop,show p+0=p from rfl,show p+(0+1+k)=p+1+k by omega]
  have:(0+1+k<s.length-p)=(p+1+k<s.length):=propext (by omega)
  simp only[this]
 have ea:∀m,(List.range m).all (cq (s.drop p) 0)=(List.range m).all (cq s p):=fun m=>by congr 1;funext k;exact ec k
 unfold FP sa;rw[e0,Nat.add_zero,ea,hs]
 cases dL (bt s p)with
 |true=>left;exact⟨rfl,rfl⟩
 |false=>
  cases h:(List.range (more (bt s p))).all (cq s p)with
  |true=>right;exact⟨_,rfl,rfl⟩
  |false=>left;exact⟨rfl,rfl⟩
set_option maxHeartbeats 4000000 in
theorem yn (s:cQ)(h0:0<s.length)(hs:s.length≤9223372036854775807):ct Tryz.prog 102 #[sv s] [] (iv ((FP s:Nat):Int)):=by
 refine ct.jA (args:=[sv s]) 86 Tryz.func102 rfl Tryz.ntmps102 rfl (fun c=> ?_);refine St.sr ?_;refine St.ak ?_;refine St.nn (St.sr ?_);refine St.mv ?_;refine St.ee (Ev.en (k:=0) (.mk rfl) (.mk rfl) df (by omega) (by omega)) ?_
 have Qw:(s.getD 0 0).toNat=bt s 0:=rfl
 have adN:=kW s 0
 have yf:=dv (bt s 0)
 have Fm:=fJ (bt s 0)
 have OW:=fK (bt s 0)
 rw[Qw];refine St.ak ?_;refine St.nn (St.sr ?_);refine St.ak ?_;refine St.ak ?_;refine St.nn (St.sr ?_);refine St.ak ?_;refine St.nn ?_;refine St.join (ι:=Nat×Int×Int) (fun x T=>(4,iv ((x.1:Nat):Int))::(5,iv x.2.1)::(6,iv x.2.2)::T) (fun x=>[]) (fun x=>(x.1=2∧x.2.1=128∧x.2.2=(bt s 0:Int)-192∧more (bt s 0)=1)∨(x.1=3∧x.2.1=2048∧x.2.2=(bt s 0:Int)-224∧more (bt s 0)=2)∨(x.1=4∧x.2.1=65536∧x.2.2=(bt s 0:Int)-240∧more (bt s 0)=3)) (aE.cons 0 rfl aE.nil) ?_ ?_
 ·refine St.block (St.sr ?_)
  refine St.mv ?_;refine St.ee Ev.dn ?_;refine St.ak ?_;refine St.nn ?_;refine St.cond _ rfl (fun re=> ?_) (fun re=> ?_)
  ·try simp only[aC]at re
   refine St.sr ?_;refine St.ak ?_;refine St.nn (St.aX (St.aM (St.aB ?_)));refine St.rU [_] [] Tryz.results102 ?_;exact congrArg iv (by rw[MP (by omega)];rfl)
  ·try simp only[aC]at re
   refine St.sr ?_;refine St.mv ?_;refine St.ee Ev.qV ?_;refine St.mv ?_;refine St.gt _ rfl rfl (fun hg=>Ev.move (.mk rfl)) rfl ?_;refine St.gt _ rfl rfl (fun hg=>Ev.leq (aL.gv rfl hg) (.mk rfl)) rfl ?_;refine St.ee Ev.n0 ?_;refine St.ak ?_;refine St.nn ?_;refine St.cond _ rfl (fun CX=> ?_) (fun CX=> ?_)
   ·try simp only[aC]at CX
    refine St.rg ?_;refine St.mv ?_;refine St.ee (Ev.tP (.mk rfl) (by rw[DG];rfl) bP (by omega)) ?_;refine St.ee Ev.s0 ?_;refine St.ak ?_;refine St.ak ?_;refine St.ak ?_;refine St.nil (St.aN (St.aA ?_));refine St.mE (2,128,(bt s 0:Int)-192) (.inl ⟨rfl,rfl,rfl,by omega⟩)
   ·try simp only[aC]at CX
    refine St.sr ?_;refine St.mv ?_;refine St.ee Ev.qV ?_;refine St.mv ?_;refine St.gt _ rfl rfl (fun hg=>Ev.move (.mk rfl)) rfl ?_;refine St.gt _ rfl rfl (fun hg=>Ev.leq (aL.gv rfl hg) (.mk rfl)) rfl ?_;refine St.ee Ev.n0 ?_;refine St.ak ?_;refine St.nn ?_;refine St.cond _ rfl (fun uX=> ?_) (fun uX=> ?_)
    ·try simp only[aC]at uX
     refine St.rg ?_;refine St.mv ?_;refine St.ee (Ev.tP (.mk rfl) (by rw[DG];rfl) bP (by omega)) ?_;refine St.ee Ev.s0 ?_;refine St.ak ?_;refine St.ak ?_;refine St.ak ?_;refine St.nil (St.aN (St.aA ?_));refine St.mE (3,2048,(bt s 0:Int)-224) (.inr (.inl ⟨rfl,rfl,rfl,by omega⟩))
    ·try simp only[aC]at uX
     refine St.sr ?_;refine St.mv ?_;refine St.ee Ev.qV ?_;refine St.mv ?_;refine St.gt _ rfl rfl (fun hg=>Ev.move (.mk rfl)) rfl ?_;refine St.gt _ rfl rfl (fun hg=>Ev.leq (aL.gv rfl hg) (.mk rfl)) rfl ?_;refine St.ee Ev.n0 ?_;refine St.ak ?_;refine St.nn ?_;refine St.cond _ rfl (fun qZ=> ?_) (fun qZ=> ?_)
     ·try simp only[aC]at qZ
      refine St.rg ?_;refine St.mv ?_;refine St.ee (Ev.tP (.mk rfl) (by rw[DG];rfl) bP (by omega)) ?_;refine St.ee Ev.s0 ?_;refine St.ak ?_;refine St.ak ?_;refine St.ak ?_;refine St.nil (St.aN (St.aA ?_));refine St.mE (4,65536,(bt s 0:Int)-240) (.inr (.inr ⟨rfl,rfl,rfl,by omega⟩))
     ·try simp only[aC]at qZ
      refine St.sr ?_;refine St.ak ?_;refine St.nn (St.aX (St.aM (St.aB ?_)));refine St.rU [_] [] Tryz.results102 ?_;exact congrArg iv (by rw[MO (by unfold dL;exact decide_eq_true ⟨by omega,by omega⟩)];rfl)
 ·rintro ⟨m1,low,v0⟩ hx
  dsimp only at hx⊢
  obtain⟨m,rfl⟩:∃m,m1=m+1:=⟨m1-1,by omega⟩
  have sX:more (bt s 0)=m:=by omega
  refine St.seq (St.sr ?_);refine St.mv ?_;refine St.ee (Ev.gx (.mk rfl) df) ?_;refine St.mv ?_;refine St.ee Ev.dn ?_;refine St.nn ?_;refine St.cond _ rfl (fun pw=> ?_) (fun pw=> ?_)
  ·try simp only[aC]at pw
   refine St.sr ?_;refine St.ak ?_;refine St.nn (St.aX (St.aB ?_));refine St.rU [_] [] Tryz.results102 ?_;exact congrArg iv (by rw[ua (k:=m-1) (by omega) (by unfold cq;exact decide_eq_false (by omega))];rfl)
  ·try simp only[aC]at pw
   refine St.skip (St.aA (St.seq (St.sr ?_)));refine St.ak ?_;refine St.nn (St.block ?_);refine St.lS (ι:=Nat) (fun j T=>(7,iv ((j+1:Nat):Int))::(6,iv (vF s v0 j))::T) (fun j=>j≤m∧(∀i,i<j→128≤bt s (i+1)∧bt s (i+1)≤191)∧0≤vF s v0 j∧(j=0→vF s v0 j≤31)∧(j=1→vF s v0 j≤2047)∧(j=2→vF s v0 j≤131071)∧(j=3→vF s v0 j≤8388607)) (fun j=>m-j) 0 (aE.cons 0 rfl (aE.cons 4 rfl (aE.cons 5 rfl aE.nil))) ⟨Nat.zero_le _,fun i hi=>absurd hi (by omega),by show 0≤v0;omega,fun _=>by show v0≤31;omega,by omega,by omega,by omega⟩ ?_;intro j dA;obtain⟨hj,eP,hv0,wa,mR,hv3,hv4⟩:=dA;refine St.seq (St.sr ?_);refine St.mv ?_;refine St.mv ?_;refine St.ee Ev.dn ?_;refine St.nn ?_;refine St.cond _ rfl (fun QM=> ?_) (fun QM=> ?_)
   ·try simp only[aC]at QM
    have N6:(s.getD (j+1) 0).toNat=bt s (j+1):=rfl
    have ac1:=kW s (j+1)
    have Fw:vF s v0 (j+1)=64*vF s v0 j+(bt s (j+1):Int)-128:=rfl
    refine St.skip (St.aA (St.seq (St.block (St.seq (St.sr ?_)))));refine St.mv ?_;refine St.mv ?_;refine St.ee (Ev.en (k:=(j+1)) (.mk rfl) (.mk rfl) df (by omega) (by omega)) ?_;refine St.ee Ev.dn ?_;refine St.mv ?_;refine St.gf _ rfl rfl (fun hg=>Ev.move (.mk rfl)) rfl ?_;refine St.gf _ rfl rfl (fun hg=>Ev.move (.mk rfl)) rfl ?_;refine St.gf _ rfl rfl (fun hg=>Ev.en (k:=(j+1)) (aL.gv rfl hg) (aL.gv rfl hg) df (by omega) (by first|omega|(simp only[aC]at hg;omega))) rfl ?_;refine St.gf _ rfl rfl (fun hg=>Ev.gtr (aL.gv rfl hg) (.mk rfl)) rfl ?_;refine St.ee Ev.o0 ?_;refine St.nn ?_;refine St.cond _ rfl (fun BC=> ?_) (fun BC=> ?_)
    ·try simp only[aC]at BC
     refine St.sr ?_;refine St.ak ?_;refine St.nn (St.aX (St.aB (St.aM (St.aB (St.aB (St.aM (St.aB ?_)))))));refine St.rU [_] [] Tryz.results102 ?_;exact congrArg iv (by rw[ua (k:=j) (by omega) (by unfold cq;rw[show 0+1+j=j+1 by omega];exact decide_eq_false (by rintro ⟨_,q1,q2⟩;split at q1<;>split at q2<;>omega))];rfl)
    ·try simp only[aC]at BC
     refine St.skip (St.aA (St.rg ?_));refine St.mv ?_;refine St.ee (Ev.mul (.mk rfl) (.mk rfl) (by omega)) ?_;refine St.mv ?_;refine St.mv ?_;refine St.ee (Ev.en (k:=(j+1)) (.mk rfl) (.mk rfl) df (by omega) (by omega)) ?_;refine St.ee (Ev.tP (.mk rfl) (by rw[DG];rfl) bP (by omega)) ?_;refine St.ee Ev.a0 ?_;refine St.ee Ev.s0 ?_;refine St.ak ?_;refine St.nil (St.aN (St.aA (St.rg ?_)));refine St.mv ?_;refine St.ee Ev.a0 ?_;refine St.ak ?_;refine St.nn ?_;refine St.slot 6 (iv (vF s v0 (j+1))) rfl (congrArg iv (by rw[Fw,←N6])) ?_;refine St.slot 7 (iv ((j+1+1:Nat):Int)) rfl rfl ?_;refine St.aS (j+1) ⟨by omega,fun i hi=>by rcases Nat.lt_or_ge i j with h|h;exact eP i h;rw[show i=j by omega];omega,by rw[Fw];omega,by omega,fun _=>by rw[Fw];omega,fun _=>by rw[Fw];omega,fun _=>by rw[Fw];omega⟩
   ·try simp only[aC]at QM
    have hjm:j=m:=by omega
    subst hjm
    have Xd:=QL sX (by omega) (by omega) eP
    refine St.exit (St.aF (St.aF (St.bH (St.aA (St.seq (St.sr ?_))))));refine St.mv ?_;refine St.mv ?_;refine St.ee Ev.dn ?_;refine St.mv ?_;refine St.gf _ rfl rfl (fun hg=>Ev.move (.mk rfl)) rfl ?_;refine St.gf _ rfl rfl (fun hg=>Ev.gtr (aL.gv rfl hg) (.mk rfl)) rfl ?_;refine St.ee Ev.o0 ?_;refine St.mv ?_;refine St.gf _ rfl rfl (fun hg=>Ev.move (.mk rfl)) rfl ?_;refine St.gf _ rfl rfl (fun hg=>Ev.geq (aL.gv rfl hg) (.mk rfl)) rfl ?_;refine St.gf _ rfl rfl (fun hg=>Ev.move (aL.gv rfl hg)) rfl ?_;refine St.oZ _ rfl rfl (fun hg=>Ev.move (.mk rfl)) rfl ?_;refine St.oZ _ rfl rfl (fun hg=>Ev.leq (aL.gv rfl hg) (.mk rfl)) rfl ?_;refine St.gf _ rfl rfl (fun hg=>Ev.and (aL.gv rfl hg) (fun hp=>aL.gv rfl (hN hg hp))) rfl ?_;refine St.ee Ev.o0 ?_;refine St.nn ?_
    have Qn:vF s v0 1=64*v0+(bt s 1:Int)-128:=rfl
    have Fo:vF s v0 2=64*vF s v0 1+(bt s 2:Int)-128:=rfl
    have ZX:vF s v0 3=64*vF s v0 2+(bt s 3:Int)-128:=rfl
    have Xe:=eP 0
    have Xf:=eP 1
    have ha2:=eP 2
    have hjc:(j=1∧vF s v0 j=vF s v0 1)∨(j=2∧vF s v0 j=vF s v0 2)∨(j=3∧vF s v0 j=vF s v0 3):=by rcases(show j=1∨j=2∨j=3 by omega)with h|h|h;left;exact⟨h,by rw[h]⟩;right;left;exact⟨h,by rw[h]⟩;right;right;exact⟨h,by rw[h]⟩
    have ae5:j=1∨(128≤bt s 2∧bt s 2≤191):=by rcases(show j=1∨1<j by omega)with h|h;left;exact h;right;exact Xf h
    have ae6:j≤2∨(128≤bt s 3∧bt s 3≤191):=by rcases(show j≤2∨2<j by omega)with h|h;left;exact h;right;exact ha2 h
    have ae7:128≤bt s 1∧bt s 1≤191:=Xe (by omega)
    clear Xe Xf ha2 eP
    refine St.cond _ rfl (fun vD=> ?_) (fun vD=> ?_)
    ·try simp only[aC]at vD
     rw[if_neg (by omega)]at Xd;refine St.sr ?_;refine St.ak ?_;refine St.nn (St.aX (St.aB ?_));refine St.rU [_] [] Tryz.results102 ?_;exact congrArg iv (by rw[Xd];rfl)
    ·try simp only[aC]at vD
     rw[if_pos (by omega)]at Xd;refine St.skip (St.aA (St.sr ?_));refine St.mv ?_;refine St.ak ?_;refine St.nn (St.aX ?_);refine St.rU [_] [] Tryz.results102 ?_;exact congrArg iv (by rw[Xd])
theorem Al {s:cQ}(h:runeCountL s<1∨30<runeCountL s):isWord s=false:=by
 rw[la]
 have:(decide (1≤runeCountL s)&&decide (runeCountL s≤30))=false:=by
  rw[Bool.and_eq_false_iff,decide_eq_false_iff_not,decide_eq_false_iff_not];omega
 rw[this];rfl
theorem Am {s:cQ}(h:s.any dV=true):isWord s=false:=by rw[la,h];simp
theorem An {s:cQ}(h1:1≤runeCountL s)(h2:runeCountL s≤30)(h3:s.any dV=false):isWord s=(wc s 0).isSome:=by
 rw[la,h3,decide_eq_true h1,decide_eq_true h2];unfold wc;rw[xj s (s.length-0) 0 (Nat.le_refl _),List.drop_zero,h3];unfold validD;rw[Nat.sub_zero]
 cases validGoD s.length s<;>rfl
theorem JG {s:cQ}{f p:Nat}(hp:p<s.length):runeCountFrom ⟨s.toArray⟩ (f+1) p=1+runeCountFrom ⟨s.toArray⟩ f (p+(Utf8.decode ⟨s.toArray⟩ p).2):=by
 rw[runeCountFrom,if_pos (by show p<s.toArray.size;simpa using hp)]
theorem MR {s:cQ}{f p:Nat}(hp:s.length≤p):runeCountFrom ⟨s.toArray⟩ f p=0:=runeCountFrom_end _ _ _ (by show ¬p<s.toArray.size;simp;omega)
theorem JH (s:cQ)(p:Nat):Utf8.decode ⟨s.toArray⟩ p=decodeL (s.drop p):=by
 have:=decodeL_drop ⟨s.toArray⟩ p
 simp only at this
 rw[←this]
theorem MS {s:cQ}{p:Nat}(hp:p<s.length):dV (s.getD p 0)=true↔(decodeL (s.drop p)).1=32∨(decodeL (s.drop p)).1=9∨(decodeL (s.drop p)).1=10∨(decodeL (s.drop p)).1=40∨(decodeL (s.drop p)).1=41∨(decodeL (s.drop p)).1=91∨(decodeL (s.drop p)).1=93∨(decodeL (s.drop p)).1=44∨(decodeL (s.drop p)).1=59:=by
 obtain⟨_,_,h⟩:=iA hp
 rcases h with⟨h1,h2⟩|⟨h1,h2⟩
 ·rw[h2];exact ny
 ·have h3:=h2 0 (by have:=(iA hp).1;omega)
  rw[Nat.add_zero]at h3
  have h4:dV (s.getD p 0)=false:=tQ h3
  rw[h4]
  constructor
  ·intro h;cases h
  ·intro h;omega
theorem JI {s:cQ}(h:s.any dV=false)(p:Nat):dV (s.getD p 0)=false:=by
 rcases Nat.lt_or_ge p s.length with hp|hp
 ·have:=List.any_eq_false.1 h (s.getD p 0) (by rw[List.getD_eq_getElem?_getD,List.getElem?_eq_getElem hp];exact List.getElem_mem hp)
  simpa using this
 ·rw[List.getD_eq_getElem?_getD,List.getElem?_eq_none hp];decide
set_option maxHeartbeats 4000000 in
theorem Cg (s:cQ)(hs:s.length<9223372036854775807):ct Tryz.prog 77 #[sv s] [] (.bool (isWord s)):=by
 refine ct.jA (args:=[sv s]) 68 Tryz.func77 rfl Tryz.ntmps77 rfl (fun c=> ?_);refine St.sr ?_;refine St.ak ?_;refine St.nn (St.sr ?_);refine St.ak ?_;refine St.nn (St.seq (St.sr ?_));refine St.mv ?_;refine St.JE (.mk rfl) df rfl (fun b9=> ?_);refine St.nn (St.block ?_);refine St.lH (ι:=Nat×Nat) (fun x T=>(3,iv (x.1:Nat))::T) (fun x=>[ae b9 (.stringIter ⟨s.toArray⟩ x.2)]) (fun x=>x.2≤s.length∧x.1≤x.2∧s.any dV=(s.drop x.2).any dV∧∃f,s.length-x.2≤f∧runeCountL s=x.1+runeCountFrom ⟨s.toArray⟩ f x.2) (fun x=>s.length-x.2) (0,0) (aE.cons 0 rfl (aE.cons 9 rfl aE.nil)) ⟨Nat.zero_le _,Nat.le_refl _,rfl,s.length,Nat.le_refl _,by rw[Nat.zero_add];unfold runeCountL runeCount;rfl⟩ ?_;rintro ⟨n,p⟩ ⟨hp,WW,Ch,fu,Xg,Xh⟩
 dsimp only at hp WW Ch Xg Xh⊢
 refine St.sr ?_;refine St.MN (s:=s) (p:=p) (b:=b9) (.mk rfl) rfl (fun u10 OQ hu2=> ?_);refine St.ee (Ev.JF (.mk rfl) OQ hu2) ?_;refine St.nn (St.seq ?_);refine St.cond _ rfl (fun vE=> ?_) (fun vE=> ?_)
 ·try simp only[aC]at vE
  rw[if_pos vE];obtain rfl:=OQ vE
  obtain⟨f,rfl⟩:∃f,fu=f+1:=⟨fu-1,by omega⟩
  rw[JG vE]at Xh;rw[JH]at Xh⊢;obtain⟨AP,Pl,_⟩:=iA vE
  have hsv:=MS vE
  refine St.skip (St.aA (St.block (St.sr ?_)));refine St.ee (Ev.extract (.mk rfl) rfl) ?_;refine St.ak ?_;refine St.nn (St.sr ?_);refine St.mv ?_;refine St.ee Ev.a0 ?_;refine St.ak ?_;refine St.nn (St.sr ?_);refine St.mv ?_;refine St.ee Ev.ey ?_;refine St.mv ?_;refine St.gf _ rfl rfl (fun hg=>Ev.move (.mk rfl)) rfl ?_;refine St.gf _ rfl rfl (fun hg=>Ev.eql (aL.gv rfl hg) (.mk rfl)) rfl ?_;refine St.ee Ev.o0 ?_;refine St.mv ?_;refine St.gf _ rfl rfl (fun hg=>Ev.move (.mk rfl)) rfl ?_;refine St.gf _ rfl rfl (fun hg=>Ev.eql (aL.gv rfl hg) (.mk rfl)) rfl ?_;refine St.ee Ev.o0 ?_;refine St.mv ?_;refine St.gf _ rfl rfl (fun hg=>Ev.move (.mk rfl)) rfl ?_;refine St.gf _ rfl rfl (fun hg=>Ev.eql (aL.gv rfl hg) (.mk rfl)) rfl ?_;refine St.ee Ev.o0 ?_;refine St.mv ?_;refine St.gf _ rfl rfl (fun hg=>Ev.move (.mk rfl)) rfl ?_;refine St.gf _ rfl rfl (fun hg=>Ev.eql (aL.gv rfl hg) (.mk rfl)) rfl ?_;refine St.ee Ev.o0 ?_;refine St.mv ?_;refine St.gf _ rfl rfl (fun hg=>Ev.move (.mk rfl)) rfl ?_;refine St.gf _ rfl rfl (fun hg=>Ev.eql (aL.gv rfl hg) (.mk rfl)) rfl ?_;refine St.ee Ev.o0 ?_;refine St.mv ?_;refine St.gf _ rfl rfl (fun hg=>Ev.move (.mk rfl)) rfl ?_;refine St.gf _ rfl rfl (fun hg=>Ev.eql (aL.gv rfl hg) (.mk rfl)) rfl ?_;refine St.ee Ev.o0 ?_;refine St.mv ?_;refine St.gf _ rfl rfl (fun hg=>Ev.move (.mk rfl)) rfl ?_;refine St.gf _ rfl rfl (fun hg=>Ev.eql (aL.gv rfl hg) (.mk rfl)) rfl ?_;refine St.ee Ev.o0 ?_;refine St.mv ?_;refine St.gf _ rfl rfl (fun hg=>Ev.move (.mk rfl)) rfl ?_;refine St.gf _ rfl rfl (fun hg=>Ev.eql (aL.gv rfl hg) (.mk rfl)) rfl ?_;refine St.ee Ev.o0 ?_;refine St.nn ?_;refine St.cond _ rfl (fun qD=> ?_) (fun qD=> ?_)
  ·try simp only[aC]at qD
   have hsp:dV (s.getD p 0)=true:=hsv.2 (by omega)
   have han:s.any dV=true:=by rw[Ch,bz (jq 0 vE),List.any_cons,hsp];rfl
   refine St.sr ?_;refine St.ak ?_;refine St.nn (St.aX (St.aM (St.aB (St.aM (St.aB ?_)))));refine St.rU [_] [] Tryz.results77 ?_;exact be (Am han).symm
  ·try simp only[aC]at qD
   have hsp:dV (s.getD p 0)=false:=by cases e:dV (s.getD p 0)with|false=>rfl|true=>(have:=hsv.1 e;omega)
   rw[tR vE hsp]at Ch;refine St.skip (St.aN (St.aA ?_));refine St.aH (n+1,p+(decodeL (s.drop p)).2) ⟨by dsimp only;omega,by dsimp only;omega,Ch,f,by dsimp only;omega,by dsimp only;omega⟩
 ·try simp only[aC]at vE
  rw[MR (by omega)]at Xh;rw[List.drop_of_length_le (by omega)]at Ch;refine St.exit (St.aF (St.aF (St.bH (St.aA (St.seq (St.sr ?_))))));refine St.mv ?_;refine St.ee Ev.dn ?_;refine St.mv ?_;refine St.gf _ rfl rfl (fun hg=>Ev.move (.mk rfl)) rfl ?_;refine St.gf _ rfl rfl (fun hg=>Ev.gtr (aL.gv rfl hg) (.mk rfl)) rfl ?_;refine St.ee Ev.o0 ?_;refine St.nn ?_;refine St.cond _ rfl (fun th=> ?_) (fun th=> ?_)
  ·try simp only[aC]at th
   refine St.sr ?_;refine St.ak ?_;refine St.nn (St.aX (St.aB ?_));refine St.rU [_] [] Tryz.results77 ?_;exact be (Al (by omega)).symm
  ·try simp only[aC]at th
   have WX:=An (s:=s) (by omega) (by omega) Ch
   refine St.skip (St.aA (St.seq (St.sr ?_)));refine St.ak ?_;refine St.nn (St.block ?_);refine St.lH (ι:=Nat) (fun i T=>(6,iv i)::T) (fun i=>[]) (fun i=>i≤s.length∧isWord s=(wc s i).isSome) (fun i=>s.length-i) 0 (aE.cons 0 rfl aE.nil) ⟨Nat.zero_le _,WX⟩ ?_;intro i dA;obtain⟨hi,QN⟩:=dA;refine St.seq (St.sr ?_);refine St.mv ?_;refine St.mv ?_;refine St.ee (Ev.gx (.mk rfl) df) ?_;refine St.ee Ev.dn ?_;refine St.nn ?_;refine St.cond _ rfl (fun BH=> ?_) (fun BH=> ?_)
   ·try simp only[aC]at BH
    have Xi:i<s.length:=by omega
    have hdl:(s.drop i).length=s.length-i:=List.length_drop ..
    have hns:=JI (s:=s) (by rw[Ch];rfl) i
    have NX:=MQ (s:=s) (p:=i) hns
    refine St.skip (St.aA (St.block (St.sr ?_)));refine St.mv ?_;refine St.mv ?_;refine St.ee (Ev.MM (l:=i) (.mk rfl) (.mk rfl) df rfl (by omega)) ?_;refine St.ee (Ev.call (yn (s.drop i) (by omega) (by omega)) W0 (.cons (.mk rfl) .nil)) ?_;refine St.ak ?_;refine St.nn (St.seq (St.sr ?_));refine St.mv ?_;refine St.ee Ev.ey ?_;refine St.nn ?_;refine St.cond _ rfl (fun mh=> ?_) (fun mh=> ?_)
    ·try simp only[aC]at mh
     rcases NX with⟨hr,RB⟩|⟨w,hr,RB⟩
     rotate_left
     exact absurd mh (by omega);rw[D3 Xi RB]at QN;refine St.sr ?_;refine St.ak ?_;refine St.nn (St.aX (St.aB (St.aM (St.aB (St.aM (St.aB ?_))))));refine St.rU [_] [] Tryz.results77 ?_;exact be QN.symm
    ·try simp only[aC]at mh
     rcases NX with⟨hr,RB⟩|⟨w,hr,RB⟩
     exact absurd mh (by omega);rw[D4 Xi RB]at QN;obtain⟨hd1,hd2,_⟩:=iA Xi
     have Xj:=D2 Xi hns
     rw[RB]at Xj
     have NT:i+(w+1)≤s.length:=by split at Xj;cases Xj;simp only[Option.some.injEq]at Xj;omega
     rw[Option.isSome_map]at QN
     have ae8:((FP (s.drop i):Nat):Int)=((w+1:Nat):Int):=by rw[hr]
     refine St.skip (St.aA (St.rg ?_));refine St.mv ?_;refine St.mv ?_;refine St.ee Ev.a0 ?_;refine St.ak ?_;refine St.nil (St.aN (St.aA ?_));refine St.slot 6 (iv ((i+(w+1):Nat):Int)) rfl (congrArg iv (by omega)) ?_;refine St.aH (i+(w+1)) ⟨NT,QN⟩
   ·try simp only[aC]at BH
    rw[GJ (by omega)]at QN;refine St.exit (St.aF (St.aF (St.bH (St.aA (St.sr ?_)))));refine St.ak ?_;refine St.nn (St.aX ?_);refine St.rU [_] [] Tryz.results77 ?_;exact be QN.symm
theorem Ci {s:cQ}{p k:Nat}:cq s p k=true↔p+1+k<s.length∧(if k=0 then vA (bt s p)else 128)≤bt s (p+1+k)∧bt s (p+1+k)≤(if k=0 then vB (bt s p)else 191):=by
 unfold cq;exact decide_eq_true_iff
theorem FQ {s:cQ}{p k:Nat}(h:¬(p+1+k<s.length∧(if k=0 then vA (bt s p)else 128)≤bt s (p+1+k)∧bt s (p+1+k)≤(if k=0 then vB (bt s p)else 191))):cq s p k=false:=by
 unfold cq;exact decide_eq_false h
theorem uc {q:Nat→Bool}{k:Nat}(h:(List.range k).all q=true)(hk:q k=true):(List.range (k+1)).all q=true:=by
 rw[List.range_succ,List.all_append,h];simp[hk]
theorem Jv {a:Int}{b:Nat}(h:a=b):iv a=iv (b:Int):=by rw[h]
theorem xI {a:Int}{b:Nat}(h:a=b):Value.int .u8 a= .int .u8 (b:Int):=by rw[h]
set_option maxHeartbeats 2000000 in
theorem Ao (s:cQ)(hs:s.length<9223372036854775807):ct Tryz.prog 28 #[sv s] [] (.bool (isWord s)):=by
 refine ct.jA (args:=[sv s]) 114 Tryz.func28 rfl Tryz.ntmps28 rfl (fun c=> ?_);refine St.sr ?_;refine St.ak ?_;refine St.nn (St.sr ?_);refine St.ak ?_;refine St.nn (St.seq (St.sr ?_));refine St.ak ?_;refine St.nn (St.block ?_);refine St.lS (ι:=Nat×Nat) (fun x T=>(3,iv x.1)::(4,iv x.2)::T) (fun x=>x.2≤s.length∧x.1≤x.2∧isWord s=jz s x.1 x.2) (fun x=>s.length-x.2) (0,0) (aE.cons 0 rfl aE.nil) ⟨Nat.zero_le _,Nat.le_refl _,zR s⟩ ?_;rintro ⟨n,p⟩ ⟨Qu,hn,hv⟩
 dsimp only at Qu hn hv⊢
 refine St.seq (St.sr ?_);refine St.mv ?_;refine St.mv ?_;refine St.ee (Ev.gx (.mk rfl) df) ?_;refine St.ee Ev.dn ?_;refine St.nn ?_;refine St.cond _ rfl (fun CX=> ?_) (fun CX=> ?_)
 ·try simp only[aC]at CX
  have hp:p<s.length:=by omega
  have Jn:bt s p=(s.getD p 0).toNat:=rfl
  refine St.skip (St.aA (St.block (St.sr ?_)));refine St.mv ?_;refine St.mv ?_;refine St.ee (Ev.en (k:=p) (.mk rfl) (.mk rfl) df (by omega) (by omega)) ?_;refine St.ak ?_;refine St.nn (St.sr ?_);refine St.ak ?_;refine St.nn (St.sr ?_);refine St.ak ?_;refine St.ak ?_;refine St.nn (St.seq (St.sr ?_));refine St.mv ?_;refine St.ee Ev.ey ?_;refine St.mv ?_;refine St.gf _ rfl rfl (fun hg=>Ev.move (.mk rfl)) rfl ?_;refine St.gf _ rfl rfl (fun hg=>Ev.eql (aL.gv rfl hg) (.mk rfl)) rfl ?_;refine St.ee Ev.o0 ?_;refine St.mv ?_;refine St.gf _ rfl rfl (fun hg=>Ev.move (.mk rfl)) rfl ?_;refine St.gf _ rfl rfl (fun hg=>Ev.eql (aL.gv rfl hg) (.mk rfl)) rfl ?_;refine St.ee Ev.o0 ?_;refine St.mv ?_;refine St.gf _ rfl rfl (fun hg=>Ev.move (.mk rfl)) rfl ?_;refine St.gf _ rfl rfl (fun hg=>Ev.eql (aL.gv rfl hg) (.mk rfl)) rfl ?_;refine St.ee Ev.o0 ?_;refine St.mv ?_;refine St.gf _ rfl rfl (fun hg=>Ev.move (.mk rfl)) rfl ?_;refine St.gf _ rfl rfl (fun hg=>Ev.eql (aL.gv rfl hg) (.mk rfl)) rfl ?_;refine St.ee Ev.o0 ?_;refine St.mv ?_;refine St.gf _ rfl rfl (fun hg=>Ev.move (.mk rfl)) rfl ?_;refine St.gf _ rfl rfl (fun hg=>Ev.eql (aL.gv rfl hg) (.mk rfl)) rfl ?_;refine St.ee Ev.o0 ?_;refine St.mv ?_;refine St.gf _ rfl rfl (fun hg=>Ev.move (.mk rfl)) rfl ?_;refine St.gf _ rfl rfl (fun hg=>Ev.eql (aL.gv rfl hg) (.mk rfl)) rfl ?_;refine St.ee Ev.o0 ?_;refine St.mv ?_;refine St.gf _ rfl rfl (fun hg=>Ev.move (.mk rfl)) rfl ?_;refine St.gf _ rfl rfl (fun hg=>Ev.eql (aL.gv rfl hg) (.mk rfl)) rfl ?_;refine St.ee Ev.o0 ?_;refine St.mv ?_;refine St.gf _ rfl rfl (fun hg=>Ev.move (.mk rfl)) rfl ?_;refine St.gf _ rfl rfl (fun hg=>Ev.eql (aL.gv rfl hg) (.mk rfl)) rfl ?_;refine St.ee Ev.o0 ?_;refine St.nn ?_;refine St.cond _ rfl (fun Bm=> ?_) (fun Bm=> ?_)
  ·try simp only[aC]at Bm
   refine St.sr ?_;refine St.ak ?_;refine St.nn (St.aX (St.aB (St.aM (St.aB (St.aM (St.aB ?_))))));refine St.rU [_] [] Tryz.results28 ?_;exact be (by rw[hv,nB hp (KA (ny.2 (by omega)))])
  ·try simp only[aC]at Bm
   have hse:dV (s.getD p 0)=false:=by
    cases hq:dV (s.getD p 0)with
    |false=>rfl
    |true=>have:=ny.1 hq;omega
   refine St.skip (St.aA ?_);refine St.join (ι:=Unit) (fun u T=>(6,iv ((more (bt s p):Nat):Int))::(7,.int .u8 ((vA (bt s p):Nat):Int))::(8,.int .u8 ((vB (bt s p):Nat):Int))::T) (fun u=>[]) (fun u=>dL (bt s p)=false) (aE.cons 0 rfl (aE.cons 3 rfl (aE.cons 4 rfl aE.nil))) ?_ ?_
   ·refine St.sr ?_
    refine St.mv ?_;refine St.ee Ev.qV ?_;refine St.mv ?_;refine St.gt _ rfl rfl (fun hg=>Ev.move (.mk rfl)) rfl ?_;refine St.gt _ rfl rfl (fun hg=>Ev.leq (aL.gv rfl hg) (.mk rfl)) rfl ?_;refine St.ee Ev.n0 ?_;refine St.nn ?_;refine St.cond _ rfl (fun h56=> ?_) (fun h56=> ?_)
    ·try simp only[aC]at h56
     refine St.rg ?_;refine St.ak ?_;refine St.nn ?_
     have yf:=dv (bt s p)
     have MT:=fJ (bt s p)
     have MU:=fK (bt s p)
     refine St.slot 6 (iv ((more (bt s p):Nat):Int)) rfl (Jv (by omega)) ?_;refine St.slot 7 (.int .u8 ((vA (bt s p):Nat):Int)) rfl (xI (by omega)) ?_;refine St.slot 8 (.int .u8 ((vB (bt s p):Nat):Int)) rfl (xI (by omega)) ?_;refine St.mE () (by unfold dL;exact decide_eq_false (by omega))
    ·try simp only[aC]at h56
     refine St.sr ?_;refine St.mv ?_;refine St.ee Ev.qV ?_;refine St.mv ?_;refine St.gt _ rfl rfl (fun hg=>Ev.move (.mk rfl)) rfl ?_;refine St.gt _ rfl rfl (fun hg=>Ev.leq (aL.gv rfl hg) (.mk rfl)) rfl ?_;refine St.ee Ev.n0 ?_;refine St.nn ?_;refine St.cond _ rfl (fun oB=> ?_) (fun oB=> ?_)
     ·try simp only[aC]at oB
      refine St.sr ?_;refine St.ak ?_;refine St.nn (St.seq (St.sr ?_));refine St.mv ?_;refine St.ee Ev.ey ?_;refine St.nn ?_;refine St.cond _ rfl (fun mh=> ?_) (fun mh=> ?_)
      ·try simp only[aC]at mh
       refine St.rg ?_;refine St.ak ?_;refine St.nn (St.sr ?_);refine St.mv ?_;refine St.ee Ev.ey ?_;refine St.nn ?_;refine St.cond _ rfl (fun FH=> ?_) (fun FH=> ?_)
       ·try simp only[aC]at FH
        refine St.rg ?_;refine St.ak ?_;refine St.nn ?_
        have yf:=dv (bt s p)
        have MT:=fJ (bt s p)
        have MU:=fK (bt s p)
        refine St.slot 6 (iv ((more (bt s p):Nat):Int)) rfl (Jv (by omega)) ?_;refine St.slot 7 (.int .u8 ((vA (bt s p):Nat):Int)) rfl (xI (by omega)) ?_;refine St.slot 8 (.int .u8 ((vB (bt s p):Nat):Int)) rfl (xI (by omega)) ?_;refine St.mE () (by unfold dL;exact decide_eq_false (by omega))
       ·try simp only[aC]at FH
        refine St.skip (St.aA ?_)
        have yf:=dv (bt s p)
        have MT:=fJ (bt s p)
        have MU:=fK (bt s p)
        refine St.slot 6 (iv ((more (bt s p):Nat):Int)) rfl (Jv (by omega)) ?_;refine St.slot 7 (.int .u8 ((vA (bt s p):Nat):Int)) rfl (xI (by omega)) ?_;refine St.slot 8 (.int .u8 ((vB (bt s p):Nat):Int)) rfl (xI (by omega)) ?_;refine St.mE () (by unfold dL;exact decide_eq_false (by omega))
      ·try simp only[aC]at mh
       refine St.skip (St.aA (St.sr ?_));refine St.mv ?_;refine St.ee Ev.ey ?_;refine St.nn ?_;refine St.cond _ rfl (fun FH=> ?_) (fun FH=> ?_)
       ·try simp only[aC]at FH
        refine St.rg ?_;refine St.ak ?_;refine St.nn ?_
        have yf:=dv (bt s p)
        have MT:=fJ (bt s p)
        have MU:=fK (bt s p)
        refine St.slot 6 (iv ((more (bt s p):Nat):Int)) rfl (Jv (by omega)) ?_;refine St.slot 7 (.int .u8 ((vA (bt s p):Nat):Int)) rfl (xI (by omega)) ?_;refine St.slot 8 (.int .u8 ((vB (bt s p):Nat):Int)) rfl (xI (by omega)) ?_;refine St.mE () (by unfold dL;exact decide_eq_false (by omega))
       ·try simp only[aC]at FH
        refine St.skip (St.aA ?_)
        have yf:=dv (bt s p)
        have MT:=fJ (bt s p)
        have MU:=fK (bt s p)
        refine St.slot 6 (iv ((more (bt s p):Nat):Int)) rfl (Jv (by omega)) ?_;refine St.slot 7 (.int .u8 ((vA (bt s p):Nat):Int)) rfl (xI (by omega)) ?_;refine St.slot 8 (.int .u8 ((vB (bt s p):Nat):Int)) rfl (xI (by omega)) ?_;refine St.mE () (by unfold dL;exact decide_eq_false (by omega))
     ·try simp only[aC]at oB
      refine St.sr ?_;refine St.mv ?_;refine St.ee Ev.qV ?_;refine St.mv ?_;refine St.gt _ rfl rfl (fun hg=>Ev.move (.mk rfl)) rfl ?_;refine St.gt _ rfl rfl (fun hg=>Ev.leq (aL.gv rfl hg) (.mk rfl)) rfl ?_;refine St.ee Ev.n0 ?_;refine St.nn ?_;refine St.cond _ rfl (fun BD=> ?_) (fun BD=> ?_)
      ·try simp only[aC]at BD
       refine St.sr ?_;refine St.ak ?_;refine St.nn (St.seq (St.sr ?_));refine St.mv ?_;refine St.ee Ev.ey ?_;refine St.nn ?_;refine St.cond _ rfl (fun BG=> ?_) (fun BG=> ?_)
       ·try simp only[aC]at BG
        refine St.rg ?_;refine St.ak ?_;refine St.nn (St.sr ?_);refine St.mv ?_;refine St.ee Ev.ey ?_;refine St.nn ?_;refine St.cond _ rfl (fun FI=> ?_) (fun FI=> ?_)
        ·try simp only[aC]at FI
         refine St.rg ?_;refine St.ak ?_;refine St.nn ?_
         have yf:=dv (bt s p)
         have MT:=fJ (bt s p)
         have MU:=fK (bt s p)
         refine St.slot 6 (iv ((more (bt s p):Nat):Int)) rfl (Jv (by omega)) ?_;refine St.slot 7 (.int .u8 ((vA (bt s p):Nat):Int)) rfl (xI (by omega)) ?_;refine St.slot 8 (.int .u8 ((vB (bt s p):Nat):Int)) rfl (xI (by omega)) ?_;refine St.mE () (by unfold dL;exact decide_eq_false (by omega))
        ·try simp only[aC]at FI
         refine St.skip (St.aA ?_)
         have yf:=dv (bt s p)
         have MT:=fJ (bt s p)
         have MU:=fK (bt s p)
         refine St.slot 6 (iv ((more (bt s p):Nat):Int)) rfl (Jv (by omega)) ?_;refine St.slot 7 (.int .u8 ((vA (bt s p):Nat):Int)) rfl (xI (by omega)) ?_;refine St.slot 8 (.int .u8 ((vB (bt s p):Nat):Int)) rfl (xI (by omega)) ?_;refine St.mE () (by unfold dL;exact decide_eq_false (by omega))
       ·try simp only[aC]at BG
        refine St.skip (St.aA (St.sr ?_));refine St.mv ?_;refine St.ee Ev.ey ?_;refine St.nn ?_;refine St.cond _ rfl (fun FI=> ?_) (fun FI=> ?_)
        ·try simp only[aC]at FI
         refine St.rg ?_;refine St.ak ?_;refine St.nn ?_
         have yf:=dv (bt s p)
         have MT:=fJ (bt s p)
         have MU:=fK (bt s p)
         refine St.slot 6 (iv ((more (bt s p):Nat):Int)) rfl (Jv (by omega)) ?_;refine St.slot 7 (.int .u8 ((vA (bt s p):Nat):Int)) rfl (xI (by omega)) ?_;refine St.slot 8 (.int .u8 ((vB (bt s p):Nat):Int)) rfl (xI (by omega)) ?_;refine St.mE () (by unfold dL;exact decide_eq_false (by omega))
        ·try simp only[aC]at FI
         refine St.skip (St.aA ?_)
         have yf:=dv (bt s p)
         have MT:=fJ (bt s p)
         have MU:=fK (bt s p)
         refine St.slot 6 (iv ((more (bt s p):Nat):Int)) rfl (Jv (by omega)) ?_;refine St.slot 7 (.int .u8 ((vA (bt s p):Nat):Int)) rfl (xI (by omega)) ?_;refine St.slot 8 (.int .u8 ((vB (bt s p):Nat):Int)) rfl (xI (by omega)) ?_;refine St.mE () (by unfold dL;exact decide_eq_false (by omega))
      ·try simp only[aC]at BD
       refine St.sr ?_;refine St.mv ?_;refine St.ee Ev.qV ?_;refine St.nn ?_;refine St.cond _ rfl (fun vW=> ?_) (fun vW=> ?_)
       ·try simp only[aC]at vW
        refine St.sr ?_;refine St.ak ?_;refine St.nn (St.aX (St.aB (St.aM (St.aB (St.aM (St.aB ?_))))));refine St.rU [_] [] Tryz.results28 ?_;exact be (by rw[hv,nB hp (KB (by have yf:=dv (bt s p);unfold dL;exact decide_eq_true (by omega)))])
       ·try simp only[aC]at vW
        refine St.skip (St.aA ?_)
        have yf:=dv (bt s p)
        have MT:=fJ (bt s p)
        have MU:=fK (bt s p)
        refine St.slot 6 (iv ((more (bt s p):Nat):Int)) rfl (Jv (by omega)) ?_;refine St.slot 7 (.int .u8 ((vA (bt s p):Nat):Int)) rfl (xI (by omega)) ?_;refine St.slot 8 (.int .u8 ((vB (bt s p):Nat):Int)) rfl (xI (by omega)) ?_;refine St.mE () (by unfold dL;exact decide_eq_false (by omega))
   ·intro u hbl
    refine St.sr ?_;refine St.mv ?_;refine St.ee Ev.a0 ?_;refine St.ak ?_;refine St.nn (St.seq (St.sr ?_));refine St.ak ?_;refine St.nn (St.block ?_);refine St.lS (ι:=Nat) (fun k T=>(9,iv k)::(4,iv ((p+1+k:Nat):Int))::(7,.int .u8 (((if k=0 then vA (bt s p)else 128):Nat):Int))::(8,.int .u8 (((if k=0 then vB (bt s p)else 191):Nat):Int))::T) (fun k=>k≤more (bt s p)∧p+1+k≤s.length∧(List.range k).all (cq s p)=true) (fun k=>more (bt s p)-k) 0 (aE.cons 0 rfl (aE.cons 3 rfl (aE.cons 6 rfl aE.nil))) ⟨Nat.zero_le _,by omega,rfl⟩ ?_;intro k dA;obtain⟨hk,PS,eP⟩:=dA;refine St.seq (St.sr ?_);refine St.mv ?_;refine St.mv ?_;refine St.ee Ev.dn ?_;refine St.nn ?_;refine St.cond _ rfl (fun LQ=> ?_) (fun LQ=> ?_)
    ·try simp only[aC]at LQ
     have NO:bt s (p+1+k)=(s.getD (p+1+k) 0).toNat:=rfl
     refine St.skip (St.aA (St.seq (St.block (St.seq (St.sr ?_)))));refine St.mv ?_;refine St.mv ?_;refine St.ee (Ev.gx (.mk rfl) df) ?_;refine St.ee Ev.qV ?_;refine St.mv ?_;refine St.gf _ rfl rfl (fun hg=>Ev.move (.mk rfl)) rfl ?_;refine St.gf _ rfl rfl (fun hg=>Ev.move (.mk rfl)) rfl ?_;refine St.gf _ rfl rfl (fun hg=>Ev.en (k:=(p+1+k)) (aL.gv rfl hg) (aL.gv rfl hg) df (by omega) (by first|omega|(simp only[aC]at hg;omega))) rfl ?_;refine St.gf _ rfl rfl (fun hg=>Ev.move (.mk rfl)) rfl ?_;refine St.gf _ rfl rfl (fun hg=>Ev.lss (aL.gv rfl hg) (aL.gv rfl hg)) rfl ?_;refine St.ee Ev.o0 ?_;refine St.mv ?_;refine St.gf _ rfl rfl (fun hg=>Ev.move (.mk rfl)) rfl ?_;refine St.gf _ rfl rfl (fun hg=>Ev.move (.mk rfl)) rfl ?_;refine St.gf _ rfl rfl (fun hg=>Ev.en (k:=(p+1+k)) (aL.gv rfl hg) (aL.gv rfl hg) df (by omega) (by first|omega|(simp only[aC]at hg;omega))) rfl ?_;refine St.gf _ rfl rfl (fun hg=>Ev.move (.mk rfl)) rfl ?_;refine St.gf _ rfl rfl (fun hg=>Ev.gtr (aL.gv rfl hg) (aL.gv rfl hg)) rfl ?_;refine St.ee Ev.o0 ?_;refine St.nn ?_;refine St.cond _ rfl (fun na=> ?_) (fun na=> ?_)
     ·try simp only[aC]at na
      refine St.sr ?_;refine St.ak ?_;refine St.nn (St.aX (St.aB (St.aM (St.aB (St.aB (St.aM (St.aB (St.aM (St.aB (St.aM (St.aB ?_)))))))))));refine St.rU [_] [] Tryz.results28 ?_;exact be (by rw[hv,nB hp (GK (k:=k) (by omega) (FQ (by omega)))])
     ·try simp only[aC]at na
      have hck:cq s p k=true:=Ci.2 (by omega)
      refine St.skip (St.aA (St.sr ?_));refine St.ak ?_;refine St.ak ?_;refine St.nn (St.rg ?_);refine St.mv ?_;refine St.ee Ev.a0 ?_;refine St.ak ?_;refine St.nil (St.aN (St.aA (St.rg ?_)));refine St.mv ?_;refine St.ee Ev.a0 ?_;refine St.ak ?_;refine St.nn ?_;refine St.aS (k+1) ⟨by omega,by omega,uc eP hck⟩
    ·try simp only[aC]at LQ
     have hmk:k=more (bt s p):=by omega
     subst hmk
     have pP:=Ol hse hbl eP
     refine St.exit (St.aF (St.aF (St.bH (St.aA (St.rg ?_)))));refine St.mv ?_;refine St.ee Ev.a0 ?_;refine St.ak ?_;refine St.nil (St.aN (St.aA ?_));refine St.aS (n+1,p+1+more (bt s p)) ⟨by show p+1+more (bt s p)≤s.length;omega,by show n+1≤p+1+more (bt s p);omega,by rw[hv,zS hp pP];show _=jz s (n+1) (p+1+more (bt s p));congr 1;omega⟩
 ·try simp only[aC]at CX
  refine St.exit (St.aF (St.aF (St.bH (St.aA (St.sr ?_)))));refine St.mv ?_;refine St.ee Ev.qV ?_;refine St.mv ?_;refine St.gt _ rfl rfl (fun hg=>Ev.move (.mk rfl)) rfl ?_;refine St.gt _ rfl rfl (fun hg=>Ev.leq (aL.gv rfl hg) (.mk rfl)) rfl ?_;refine St.ee Ev.n0 ?_;refine St.ak ?_;refine St.nn (St.aX ?_);refine St.rU [_] [] Tryz.results28 ?_;exact be (by rw[hv,Ba (by omega)];rw[Bool.eq_iff_iff];simp only[Bool.and_eq_true,decide_eq_true_eq];omega)
end Go.Proofs.YtolmidffiegkaaaGreatDoor
namespace Go.Proofs.YtolmidffiegkaaaGreatDoor
open Go Go.J
abbrev JJ:Rp (cF×Nat×Nat):=⟨8,by decide,fun p=>pX p.1++ [iv (p.2.1:Nat),iv (p.2.2:Nat)],fun _=>True,fun _=>rfl,fun p u h=>by
 rcases List.mem_append.1 h with h|h
 ·exact nz p.1 u h
 ·simp only[List.mem_cons,List.not_mem_nil,or_false]at h
  rcases h with rfl|rfl<;>rfl⟩
def MV (st:List (cF×Nat×Nat)):List (dB×Nat×Nat):=st.reverse.map fun p=>(ax p.1,p.2)
theorem JK (s0:List (cF×Nat×Nat))(p:cF×Nat×Nat):MV (s0++ [p])=(ax p.1,p.2)::MV s0:=by unfold MV;rw[List.reverse_append];rfl
theorem MW (s0:List (cF×Nat×Nat))(l:List cF)(d b:Nat):MV (s0++l.reverse.map (fun y=>(y,d,b)))=(l.map ax).map (fun y=>(y,d,b))++MV s0:=by
 unfold MV
 rw[List.reverse_append,List.map_append,←List.map_reverse,List.reverse_reverse,List.map_map,List.map_map];rfl
theorem JL {α β:Type}{l:List α}{j:Nat}{y:α}(h:l[j]?=some y)(f:α→β):(l.drop j).reverse.map f=(l.drop (j+1)).reverse.map f++ [f y]:=by rw[bz h,List.reverse_cons,List.map_append];rfl
def ud (k:Int):Int:=([0,0,0,1,2]:List Int).getD k.toNat 0
theorem MX {k:Int}{nm:cQ}{ix:Int}{tp:dY}{m b:Nat}(h1:1≤k)(h4:k≤4)(h:¬((m:Int)=ud k∧(k=1∨nm=[])∧(k=2∨ix=0)∧((k=1∨k=3)∨iB tp=true))):gU k nm ix tp m b=5:=by
 rcases(show k=1∨k=2∨k=3∨k=4 by omega)with rfl|rfl|rfl|rfl
 ·rw[Yd,if_pos]
  have e:ud 1=0:=rfl
  rw[e]at h;omega
 ·rw[Ye,if_pos]
  have e:ud 2=0:=rfl
  rw[e]at h
  by_cases c1:nm=[]
  ·by_cases c2:m=0
   ·refine .inr (.inl ?_)
    cases c3:iB tp with
    |false=>rfl
    |true=>exact absurd ⟨by omega,.inr c1,.inl rfl,.inr c3⟩ h
   ·exact .inr (.inr c2)
  ·exact .inl c1
 ·rw[Yf,if_pos]
  have e:ud 3=1:=rfl
  rw[e]at h
  by_cases c1:nm=[]
  ·by_cases c2:m=1
   ·refine .inr (.inl fun c3=>h ⟨by omega,.inr c1,.inr c3,.inl (.inr rfl)⟩)
   ·exact .inr (.inr c2)
  ·exact .inl c1
 ·rw[Yg,if_pos]
  have e:ud 4=2:=rfl
  rw[e]at h
  by_cases c1:nm=[]
  ·by_cases c2:m=2
   ·by_cases c4:ix=0
    ·refine .inr (.inr (.inl ?_))
     cases c3:iB tp with
     |false=>rfl
     |true=>exact absurd ⟨by omega,.inr c1,.inr c4,.inr c3⟩ h
    ·exact .inr (.inl c4)
   ·exact .inr (.inr (.inr c2))
  ·exact .inl c1
theorem MY {k:Int}{nm:cQ}{ix:Int}{tp:dY}{m b:Nat}(h1:1≤k)(h4:k≤4)(h:(m:Int)=ud k∧(k=1∨nm=[])∧(k=2∨ix=0)∧((k=1∨k=3)∨iB tp=true)):
 gU k nm ix tp m b=if k=1∧isName nm=false then 10 else if(k=1∨k=3)∧jl tp≠0 then 12 else if k=2∧(ix<0∨(b:Int)≤ix)then 15 else 0:=by
 obtain⟨q1,q2,q3,q4⟩:=h
 rcases(show k=1∨k=2∨k=3∨k=4 by omega)with rfl|rfl|rfl|rfl
 ·have e:ud 1=0:=rfl
  rw[e]at q1
  rw[Yd,if_neg (by omega)];simp
 ·have e:ud 2=0:=rfl
  rw[e]at q1
  have q2:nm=[]:=q2.resolve_left (by decide)
  have q4:iB tp=true:=q4.resolve_left (by decide)
  rw[Ye,if_neg (by rw[q2,q4];simp;omega)];simp
 ·have e:ud 3=1:=rfl
  rw[e]at q1
  have q2:nm=[]:=q2.resolve_left (by decide)
  rw[Yf,if_neg (by rw[q2];simp;omega)];simp
 ·have e:ud 4=2:=rfl
  rw[e]at q1
  have q2:nm=[]:=q2.resolve_left (by decide)
  have q4:iB tp=true:=q4.resolve_left (by decide)
  rw[Yg,if_neg (by rw[q2,q4];simp;omega)];simp
theorem Cj {x:dB}{b:Nat}(h:jT x b=0):x.args.length≤2:=by
 rcases qq h with⟨_,_,h⟩|⟨_,_,_,h⟩|⟨_,h,_⟩|⟨_,h⟩<;>omega
theorem JM (t:dB):pD [(t,1,0)] 0=if(fi t 1 0 0).2.1≠0 then(fi t 1 0 0).2 else(0,0):=by rw[o7];rfl
set_option maxHeartbeats 4000000 in
theorem Ap (hto:∀t:cF,cG.wf t→vQ (ax t) 1 0→jn (ax t)≤200→fF Tryz.prog 125 #[bb t] ([bO t].map aG) (fun v H'=>∃z:cT,v= .tuple #[aQ z,.bool (iY (ax t) []).isSome]∧H'=[]))(t:cF)(qY:cG.wf t):ct Tryz.prog 101 #[bb t] [bO t] (fv (iC (ax t))):=by
 refine ct.ic (args:=[bb t]) 177 Tryz.func101 rfl Tryz.ntmps101 rfl (fun c=> ?_);refine St.seq ?_;refine St.da bO ?_;refine St.eo bO (xs:=[]) (x:=t) ?_;refine St.gQ (aY bO (([(t,1,0)]:List (cF×Nat×Nat)).map Prod.fst)) [aY bO [t]] (fun ρ h=>h _ (List.mem_cons_self ..)) ?_;refine St.rg ?_;refine St.cV (.mk rfl) rfl (fun b1=> ?_);refine St.alloc dF rfl (fun b2=> ?_);refine St.nn (St.sr ?_);refine St.ee (Ev.bF (.mk rfl) fO trivial (by exact dC)) ?_;refine St.ee (Ev.build (ps:=[(0,(.tmp 14)),(1,(.const (.int .i64 1))),(2,(.const (.int .i64 0)))]) (aU.cons (aL.mk rfl) (aU.cons (aL.mk rfl) (aU.cons (aL.mk rfl) aU.nil))) (fun w=>qK rfl rfl w)) ?_;refine St.cn rfl (.cons (.mk rfl) .nil) rR uW Ix rfl rfl (by simp[Value.cells]) rfl rfl (fun LI=> ?_);refine St.bB (.slice (some ⟨LI,0,none⟩) 1 1) (show _=([(t,1,0)]:List (cF×Nat×Nat)).length from rfl) (show _=rows JJ [(t,1,0)]from rfl) ?_;refine St.ak ?_;refine St.nn (St.seq (St.sr ?_));refine St.ak ?_;refine St.nn (St.block ?_);refine St.mf (ι:=Nat) (κ:=Value×List (cF×Nat×Nat)) (fun n z T=>(3,z.1)::(4,iv (n:Nat))::T) (fun n z=>[row z.1 197 8 (z.2).length (rows JJ (z.2)),aG (aY bO ((z.2).map Prod.fst)),ae b1 (.cells (pX t).toArray 91 (0,0)),ae b2 (.cells [iv 0,iv 0].toArray 42 (0,0)),aG (bO t)]) (fun n z=>n≤200∧pD (MV z.2) n=(if(fi (ax t) 1 0 0).2.1≠0 then(fi (ax t) 1 0 0).2 else(0,0))∧(∀p∈z.2,p.2.1≤41∧p.2.2≤p.2.1∧cG.wf p.1)∧z.2.length≤n+1) (fun n z=>201-n) 0 ((.slice (some ⟨LI,0,none⟩) 1 1),[(t,1,0)]) (aE.cons 1 rfl (aE.cons 2 rfl aE.nil)) ⟨Nat.zero_le _,JM (ax t),fun p hp=>by rw[List.mem_singleton.1 hp];exact⟨by show(1:Nat)≤41;decide,by show(0:Nat)≤1;decide,qY⟩,Nat.le_refl _⟩ ?_;rintro n ⟨vz,st⟩ ⟨hn,cE,OG,sc⟩
 dsimp only at hn cE OG sc⊢
 refine St.seq (St.sr ?_);refine St.mv ?_;refine St.ee (Ev.fS (.mk rfl) rR) ?_;refine St.ee Ev.qn ?_;refine St.nn ?_;refine St.cond _ rfl (fun gY=> ?_) (fun gY=> ?_)
 ·try simp only[aC]at gY
  obtain⟨s0,p,rfl⟩:=yM (show 0<st.length by omega);obtain⟨y,d,b⟩:=p;obtain⟨WU,Wk,Kq⟩:=OG (y,d,b) (by simp)
  replace WU:d≤41:=WU
  replace Wk:b≤d:=Wk
  have Oj:(s0++ [(y,d,b)]).length=s0.length+1:=by rw[List.length_append];rfl
  rw[JK]at cE
  replace cE:pD ((ax y,d,b)::MV s0) n=_:=cE
  have UJ:y.name.length≤9223372036854775807:=by have:=Kq.2.1;simp only[iL]at this;omega
  refine St.cD bO ((s0++ [(y,d,b)]).map Prod.fst) (x:=y) (by simp) ?_;refine St.gQ (aY bO (s0.map Prod.fst)) [aY bO ((s0++ [(y,d,b)]).map Prod.fst)] (fun ρ h z hz=>h _ (List.mem_cons_self ..) z (by rw[List.map_append];exact List.mem_append_left _ hz)) ?_;refine St.pY y ?_;refine St.wf y.av.1 (fun ac2 ae9=> ?_)
  have xJ:=yG y b
  refine St.skip (St.aA (St.seq (St.block (St.sr ?_))));refine St.mv ?_;refine St.mv ?_;refine St.ee (Ev.fS (.mk rfl) rR) ?_;refine St.ee Ev.s0 ?_;refine St.ee (Ev.cK (k:=s0.length) (.mk rfl) (.mk rfl) rR uW (by omega) (by omega)) ?_;refine St.ee (Ev.rB (R:=JJ) (l:=s0++ [(y,d,b)]) (g:=(y,d,b)) (.mk rfl) (by simp) Tryz.underlying197 trivial uW (by omega)) ?_;refine St.slot 27 (.agg [iv y.kind,sv y.name,iv y.index,sv y.type.base,y.type.av.1,y.av.1,iv ((d:Nat):Int),iv ((b:Nat):Int)].toArray) rfl rfl ?_;refine St.alloc OA rfl (fun b5=> ?_);refine St.sA (.mk rfl) (.mk rfl) uW ?_ (h1:=(by simp only[List.all_cons,List.all_nil,Bool.and_true,Bool.and_eq_true];exact⟨rfl,rfl,rfl,rfl,y.type.av.2,y.av.2,rfl,rfl⟩));refine St.nn (St.sr ?_);refine St.mv ?_;refine St.mv ?_;refine St.ee (Ev.fS (.mk rfl) rR) ?_;refine St.ee Ev.s0 ?_;refine St.ee (Ev.p6 (h:=s0.length) (.mk rfl) (.mk rfl) rR uW (by omega) (by omega)) ?_;refine St.BU vz s0.length (by omega) ?_;refine St.bB (pO vz 8 0 s0.length) rfl (qM JJ s0 (y,d,b)) ?_;refine St.ak ?_;refine St.nn (St.sr ?_);refine St.ee (Ev.aD (.mk rfl) M7) ?_;refine St.ee (Ev.iI 6 (.mk rfl) fO trivial dC rfl rfl) ?_;refine St.slot 34 (.agg [iv y.kind,sv y.name,iv y.index,sv y.type.base,y.type.av.1,y.av.1].toArray) rfl rfl ?_;refine St.alloc sM rfl (fun b6=> ?_);refine St.sA (.mk rfl) (.mk rfl) dC ?_ (h1:=(by simp only[List.all_cons,List.all_nil,Bool.and_true,Bool.and_eq_true];exact⟨rfl,rfl,rfl,rfl,y.type.av.2,y.av.2⟩));refine St.nn (St.sr ?_);refine St.ak ?_;refine St.nn ?_;refine St.join (ι:=Int) (fun cd T=>(7,iv cd)::T) (fun cd=>[row (pO vz 8 0 s0.length) 197 8 (s0).length (rows JJ (s0)),ae b5 (.cells [iv y.kind,sv y.name,iv y.index,sv y.type.base,y.type.av.1,y.av.1,iv ((d:Nat):Int),iv ((b:Nat):Int)].toArray 197 (0,0)),ae b6 (.cells [iv y.kind,sv y.name,iv y.index,sv y.type.base,y.type.av.1,y.av.1].toArray 91 (0,0)),aG (bW y.type),aG (sl cG y.av.1 y.args),aG (aY bO y.args),aG (aY bO (s0.map Prod.fst)),ae b1 (.cells (pX t).toArray 91 (0,0)),ae b2 (.cells [iv 0,iv 0].toArray 42 (0,0)),aG (bO t)]) (fun cd=>cd=if 200<n+1∨40<d then 1 else jT (ax y) b) (aE.cons 1 rfl (aE.cons 2 rfl (aE.cons 3 rfl (aE.cons 4 rfl (aE.cons 5 rfl (aE.cons 6 rfl aE.nil)))))) ?_ ?_
  ·refine St.sr ?_
   refine St.mv ?_;refine St.ee Ev.qV ?_;refine St.mv ?_;refine St.gf _ rfl rfl (fun hg=>Ev.aD (.mk rfl) Dq) rfl ?_;refine St.gf _ rfl rfl (fun hg=>Ev.cN (aL.gv rfl hg) bP trivial (by rfl)) rfl ?_;refine St.gf _ rfl rfl (fun hg=>Ev.gtr (aL.gv rfl hg) (.mk rfl)) rfl ?_;refine St.ee Ev.o0 ?_;refine St.nn ?_;refine St.cond _ rfl (fun oT=> ?_) (fun oT=> ?_)
   ·try simp only[aC]at oT
    refine St.rg ?_;refine St.ak ?_;refine St.nn ?_;refine St.mE 1 (by rw[if_pos (by omega)])
   ·try simp only[aC]at oT
    have Du:¬(200<n+1∨40<d):=by omega
    refine St.sr ?_;refine St.ee (Ev.aD (.mk rfl) hJ) ?_;refine St.ee (Ev.l0 (.mk rfl) bP) ?_;refine St.ee Ev.dn ?_;refine St.mv ?_;refine St.gf _ rfl rfl (fun hg=>Ev.aD (.mk rfl) hJ) rfl ?_;refine St.gf _ rfl rfl (fun hg=>Ev.cN (aL.gv rfl hg) bP trivial (by rfl)) rfl ?_;refine St.gf _ rfl rfl (fun hg=>Ev.gtr (aL.gv rfl hg) (.mk rfl)) rfl ?_;refine St.ee Ev.o0 ?_;refine St.nn ?_;refine St.cond _ rfl (fun QM=> ?_) (fun QM=> ?_)
    ·try simp only[aC]at QM
     refine St.rg ?_;refine St.ak ?_;refine St.nn ?_;refine St.mE 4 (by rw[if_neg Du,xJ,tm5 (by omega) (by omega) (by omega) (by omega)])
    ·try simp only[aC]at QM
     have lz:1≤y.kind:=by omega
     have Tn:y.kind≤4:=by omega
     refine St.sr ?_;refine St.cn rfl (.cons (.mk rfl) (.cons (.mk rfl) (.cons (.mk rfl) (.cons (.mk rfl) (.cons (.mk rfl) .nil))))) bE cr eJ rfl rfl (by simp[Value.cells]) rfl rfl (fun b50=> ?_);refine St.aV (.slice (some ⟨b50,0,none⟩) 5 5) aK [0,0,0,1,2] rfl rfl (fun z hz=>by simp only[List.mem_cons,List.not_mem_nil,or_false]at hz;rcases hz with rfl|rfl|rfl|rfl|rfl<;>(show bD _;unfold bD;decide)) ?_;refine St.ee (Ev.aD (.mk rfl) hJ) ?_;refine St.ee (Ev.l0 (.mk rfl) bP) ?_;refine St.ee (Ev.aR (k:=y.kind.toNat) (.mk rfl) (.mk rfl) bE cr (by omega) (by show y.kind.toNat<5;omega)) ?_;refine St.ee (Ev.ff (.mk rfl) (show([0,0,0,1,2]:List Int)[y.kind.toNat]?=some (ud y.kind)from jq 0 (by show y.kind.toNat<5;omega)) bP trivial rfl) ?_;refine St.ak ?_;refine St.nn (St.sr ?_);refine St.ee (Ev.aD (.mk rfl) gN) ?_;refine St.ee (Ev.l0 (.mk rfl) ez) ?_;refine St.ee (Ev.ao (.mk rfl) ez) ?_;refine St.mv ?_;refine St.ee Ev.ey ?_;refine St.mv ?_;refine St.gt _ rfl rfl (fun hg=>Ev.aD (.mk rfl) hJ) rfl ?_;refine St.gt _ rfl rfl (fun hg=>Ev.cN (aL.gv rfl hg) bP trivial (by rfl)) rfl ?_;refine St.gt _ rfl rfl (fun hg=>Ev.eql (aL.gv rfl hg) (.mk rfl)) rfl ?_;refine St.gt _ rfl rfl (fun hg=>Ev.move (aL.gv rfl hg)) rfl ?_;refine St.lR _ rfl rfl (fun hg=>Ev.aD (.mk rfl) pB) rfl ?_;refine St.lR _ rfl rfl (fun hg=>Ev.cN (aL.gv rfl hg) df trivial (by rfl)) rfl ?_;refine St.lR _ rfl rfl (fun hg=>Ev.hP (aL.gv rfl hg) (.mk rfl)) rfl ?_;refine St.gt _ rfl rfl (fun hg=>Ev.or (aL.gv rfl hg) (fun hp=>aL.gv rfl (hN hg hp))) rfl ?_;refine St.ee Ev.n0 ?_;refine St.mv ?_;refine St.gt _ rfl rfl (fun hg=>Ev.aD (.mk rfl) hJ) rfl ?_;refine St.gt _ rfl rfl (fun hg=>Ev.cN (aL.gv rfl hg) bP trivial (by rfl)) rfl ?_;refine St.gt _ rfl rfl (fun hg=>Ev.eql (aL.gv rfl hg) (.mk rfl)) rfl ?_;refine St.gt _ rfl rfl (fun hg=>Ev.move (aL.gv rfl hg)) rfl ?_;refine St.lR _ rfl rfl (fun hg=>Ev.aD (.mk rfl) lJ) rfl ?_;refine St.lR _ rfl rfl (fun hg=>Ev.cN (aL.gv rfl hg) bP trivial (by rfl)) rfl ?_;refine St.lR _ rfl rfl (fun hg=>Ev.eql (aL.gv rfl hg) (.mk rfl)) rfl ?_;refine St.gt _ rfl rfl (fun hg=>Ev.or (aL.gv rfl hg) (fun hp=>aL.gv rfl (hN hg hp))) rfl ?_;refine St.ee Ev.n0 ?_;refine St.mv ?_;refine St.gt _ rfl rfl (fun hg=>Ev.aD (.mk rfl) hJ) rfl ?_;refine St.gt _ rfl rfl (fun hg=>Ev.cN (aL.gv rfl hg) bP trivial (by rfl)) rfl ?_;refine St.gt _ rfl rfl (fun hg=>Ev.eql (aL.gv rfl hg) (.mk rfl)) rfl ?_;refine St.gt _ rfl rfl (fun hg=>Ev.move (aL.gv rfl hg)) rfl ?_;refine St.lR _ rfl rfl (fun hg=>Ev.aD (.mk rfl) hJ) rfl ?_;refine St.lR _ rfl rfl (fun hg=>Ev.cN (aL.gv rfl hg) bP trivial (by rfl)) rfl ?_;refine St.lR _ rfl rfl (fun hg=>Ev.eql (aL.gv rfl hg) (.mk rfl)) rfl ?_;refine St.gt _ rfl rfl (fun hg=>Ev.or (aL.gv rfl hg) (fun hp=>aL.gv rfl (hN hg hp))) rfl ?_;refine St.gt _ rfl rfl (fun hg=>Ev.move (aL.gv rfl hg)) rfl ?_;refine St.lR _ rfl rfl (fun hg=>Ev.aD (.mk rfl) lK) rfl ?_;refine St.lR _ rfl rfl (fun hg=>Ev.iI 2 (aL.gv rfl hg) bX trivial bC rfl rfl) rfl ?_;refine St.lR _ rfl rfl (fun hg=>Ev.call (Aj y.type) W3 (.cons (aL.gv rfl hg) .nil)) rfl ?_;refine St.gt _ rfl rfl (fun hg=>Ev.or (aL.gv rfl hg) (fun hp=>aL.gv rfl (hN hg hp))) rfl ?_;refine St.ee Ev.n0 ?_;refine St.ak ?_;refine St.nn (St.sr ?_);refine St.mv ?_;refine St.ee (Ev.not (.mk rfl)) ?_;refine St.nn ?_;refine St.cond _ rfl (fun Fv=> ?_) (fun Fv=> ?_)
     ·simp only[aC]at Fv
      have h5:gU y.kind y.name y.index (bK y.type) y.args.length b=5:=MX lz Tn (by rintro ⟨g1,g2,g3,g4⟩;rcases Fv with((h|h)|h)|h;exact h g1;rcases g2 with g|g;exact h.1 g;exact h.2 g;rcases g3 with g|g;exact h.1 g;exact h.2 g;rcases g4 with(g|g)|g;exact h.1.1 g;exact h.1.2 g;rw[h.2]at g;cases g)
      refine St.rg ?_;refine St.ak ?_;refine St.nn ?_;refine St.mE 5 (by rw[if_neg Du,xJ,h5])
     ·simp only[aC]at Fv
      have ox:=MY (nm:=y.name) (ix:=y.index) (tp:=bK y.type) (m:=y.args.length) (b:=b) lz Tn ⟨Fv.1.1.1,Fv.1.1.2,Fv.1.2,Fv.2⟩
      refine St.sr ?_;refine St.ee (Ev.aD (.mk rfl) hJ) ?_;refine St.ee (Ev.l0 (.mk rfl) bP) ?_;refine St.ee Ev.ey ?_;refine St.mv ?_;refine St.gt _ rfl rfl (fun hg=>Ev.aD (.mk rfl) pB) rfl ?_;refine St.gt _ rfl rfl (fun hg=>Ev.cN (aL.gv rfl hg) df trivial (by rfl)) rfl ?_;refine St.gt _ rfl rfl (fun hg=>Ev.call (CW y.name UJ) W4 (.cons (aL.gv rfl hg) .nil)) rfl ?_;refine St.gt _ rfl rfl (fun hg=>Ev.not (aL.gv rfl hg)) rfl ?_;refine St.ee Ev.n0 ?_;refine St.nn ?_;refine St.cond _ rfl (fun JN=> ?_) (fun JN=> ?_)
      ·try simp only[aC]at JN
       rw[if_pos (show y.kind=1∧isName y.name=false from JN)]at ox;refine St.rg ?_;refine St.ak ?_;refine St.nn ?_;refine St.mE 10 (by rw[if_neg Du,xJ,ox])
      ·try simp only[aC]at JN
       rw[if_neg (show ¬(y.kind=1∧isName y.name=false)from fun g=>by rcases JN with h|h;exact h g.1;rw[g.2]at h;cases h)]at ox;refine St.sr ?_;refine St.ee (Ev.aD (.mk rfl) hJ) ?_;refine St.ee (Ev.l0 (.mk rfl) bP) ?_;refine St.ee Ev.ey ?_;refine St.mv ?_;refine St.gf _ rfl rfl (fun hg=>Ev.aD (.mk rfl) hJ) rfl ?_;refine St.gf _ rfl rfl (fun hg=>Ev.cN (aL.gv rfl hg) bP trivial (by rfl)) rfl ?_;refine St.gf _ rfl rfl (fun hg=>Ev.eql (aL.gv rfl hg) (.mk rfl)) rfl ?_;refine St.ee Ev.o0 ?_;refine St.mv ?_;refine St.gt _ rfl rfl (fun hg=>Ev.aD (.mk rfl) lK) rfl ?_;refine St.gt _ rfl rfl (fun hg=>Ev.iI 2 (aL.gv rfl hg) bX trivial bC rfl rfl) rfl ?_;refine St.gt _ rfl rfl (fun hg=>Ev.call (ym y.type) W5 (.cons (aL.gv rfl hg) .nil)) rfl ?_;refine St.gt _ rfl rfl (fun hg=>Ev.neq (aL.gv rfl hg) (.mk rfl)) rfl ?_;refine St.ee Ev.n0 ?_;refine St.nn ?_;refine St.cond _ rfl (fun tm=> ?_) (fun tm=> ?_)
       ·try simp only[aC]at tm
        rw[if_pos (show(y.kind=1∨y.kind=3)∧jl (bK y.type)≠0 from tm)]at ox;refine St.rg ?_;refine St.ak ?_;refine St.nn ?_;refine St.mE 12 (by rw[if_neg Du,xJ,ox])
       ·try simp only[aC]at tm
        rw[if_neg (show ¬((y.kind=1∨y.kind=3)∧jl (bK y.type)≠0)from fun g=>by rcases tm with h|h;rcases g.1 with g|g;exact h.1 g;exact h.2 g;exact g.2 (by simpa using h))]at ox;refine St.sr ?_;refine St.ee (Ev.aD (.mk rfl) hJ) ?_;refine St.ee (Ev.l0 (.mk rfl) bP) ?_;refine St.ee Ev.ey ?_;refine St.mv ?_;refine St.gt _ rfl rfl (fun hg=>Ev.aD (.mk rfl) lJ) rfl ?_;refine St.gt _ rfl rfl (fun hg=>Ev.cN (aL.gv rfl hg) bP trivial (by rfl)) rfl ?_;refine St.gt _ rfl rfl (fun hg=>Ev.lss (aL.gv rfl hg) (.mk rfl)) rfl ?_;refine St.gt _ rfl rfl (fun hg=>Ev.move (aL.gv rfl hg)) rfl ?_;refine St.lR _ rfl rfl (fun hg=>Ev.aD (.mk rfl) lJ) rfl ?_;refine St.lR _ rfl rfl (fun hg=>Ev.cN (aL.gv rfl hg) bP trivial (by rfl)) rfl ?_;refine St.lR _ rfl rfl (fun hg=>Ev.aD (.mk rfl) Dr) rfl ?_;refine St.lR _ rfl rfl (fun hg=>Ev.cN (aL.gv rfl hg) bP trivial (by rfl)) rfl ?_;refine St.lR _ rfl rfl (fun hg=>Ev.geq (aL.gv rfl hg) (aL.gv rfl hg)) rfl ?_;refine St.gt _ rfl rfl (fun hg=>Ev.or (aL.gv rfl hg) (fun hp=>aL.gv rfl (hN hg hp))) rfl ?_;refine St.ee Ev.n0 ?_;refine St.nn ?_;refine St.cond _ rfl (fun JO=> ?_) (fun JO=> ?_)
        ·try simp only[aC]at JO
         rw[if_pos (show y.kind=2∧(y.index<0∨(b:Int)≤y.index)from JO)]at ox;refine St.rg ?_;refine St.ak ?_;refine St.nn ?_;refine St.mE 15 (by rw[if_neg Du,xJ,ox])
        ·try simp only[aC]at JO
         rw[if_neg (show ¬(y.kind=2∧(y.index<0∨(b:Int)≤y.index))from fun g=>by rcases JO with h|h;exact h g.1;omega)]at ox;refine St.skip (St.aA ?_);refine St.mE 0 (by rw[if_neg Du,xJ,ox])
  ·intro cd QO
   refine St.seq (St.sr ?_);refine St.mv ?_;refine St.ee Ev.k9 ?_;refine St.nn ?_;refine St.cond _ rfl (fun FR=> ?_) (fun FR=> ?_)
   ·try simp only[aC]at FR
    have ac3:pD ((ax y,d,b)::MV s0) n=(cd,(n:Int)):=by by_cases h:200<n+1∨40<d;rw[Gt h,QO,if_pos h];rw[if_neg h]at QO;rw[Gu h (by rw[←QO];exact FR),QO]
    rw[ac3]at cE
    have nS:iC (ax t)=(cd,(n:Int)):=by unfold iC;by_cases h:(fi (ax t) 1 0 0).2.1≠0;rw[if_pos h]at cE⊢;exact cE.symm;rw[if_neg h]at cE;exact absurd (congrArg Prod.fst cE) FR
    refine St.sr ?_;refine St.mv ?_;refine St.mv ?_;refine St.ee (Ev.build (ps:=[(0,(.tmp 137)),(1,(.tmp 138))]) (aU.cons (aL.mk rfl) (aU.cons (aL.mk rfl) aU.nil)) (fun w=>bJ rfl rfl w)) ?_;refine St.sA (.mk rfl) (.mk rfl) ay ?_;refine St.nn (St.aX (St.aB (St.aM (St.aB (St.aB (St.aM (St.aB ?_)))))));refine St.rU [_] [] Tryz.results101 ?_;exact congrArg fv nS.symm
   ·try simp only[aC]at FR
    have Du:¬(200<n+1∨40<d):=by intro h;rw[if_pos h]at QO;omega
    rw[if_neg Du]at QO
    have h00:jT (ax y) b=0:=by rw[←QO];exact FR
    have Rk:=Cj h00
    rw[iw,List.length_map]at Rk;rw[Kr Du h00,iw,mO]at cE
    obtain⟨bd,Ej⟩:∃bd,bd=if y.kind=3 then b+1 else b:=⟨_,rfl⟩
    rw[←Ej]at cE
    have ac4:bd≤d+1:=by rw[Ej];split<;>omega
    refine St.skip (St.aA (St.sr ?_));refine St.ee (Ev.aD (.mk rfl) Dr) ?_;refine St.ee (Ev.l0 (.mk rfl) bP) ?_;refine St.ak ?_;refine St.nn ?_;refine St.join (ι:=Unit) (fun u T=>(10,iv ((bd:Nat):Int))::T) (fun u=>[row (pO vz 8 0 s0.length) 197 8 (s0).length (rows JJ (s0)),ae b5 (.cells [iv y.kind,sv y.name,iv y.index,sv y.type.base,y.type.av.1,y.av.1,iv ((d:Nat):Int),iv ((b:Nat):Int)].toArray 197 (0,0)),ae b6 (.cells [iv y.kind,sv y.name,iv y.index,sv y.type.base,y.type.av.1,y.av.1].toArray 91 (0,0)),aG (bW y.type),aG (sl cG y.av.1 y.args),aG (aY bO y.args),aG (aY bO (s0.map Prod.fst)),ae b1 (.cells (pX t).toArray 91 (0,0)),ae b2 (.cells [iv 0,iv 0].toArray 42 (0,0)),aG (bO t)]) (fun u=>True) (aE.cons 1 rfl (aE.cons 2 rfl (aE.cons 3 rfl (aE.cons 4 rfl (aE.cons 5 rfl (aE.cons 6 rfl aE.nil)))))) ?_ ?_
    ·refine St.sr ?_
     refine St.ee (Ev.aD (.mk rfl) hJ) ?_;refine St.ee (Ev.l0 (.mk rfl) bP) ?_;refine St.ee Ev.ey ?_;refine St.nn ?_;refine St.cond _ rfl (fun JP=> ?_) (fun JP=> ?_)
     ·try simp only[aC]at JP
      refine St.rg ?_;refine St.mv ?_;refine St.ee Ev.a0 ?_;refine St.ak ?_;refine St.nn ?_;refine St.slot 10 (iv ((bd:Nat):Int)) rfl (congrArg iv (by rw[Ej,if_pos JP];rfl)) ?_;refine St.mE () trivial
     ·try simp only[aC]at JP
      refine St.skip (St.aA ?_);refine St.slot 10 (iv ((bd:Nat):Int)) rfl (congrArg iv (by rw[Ej,if_neg JP])) ?_;refine St.mE () trivial
    ·intro _ _
     refine St.sr ?_;refine St.ee (Ev.aD (.mk rfl) gN) ?_;refine St.ee (Ev.l0 (.mk rfl) ez) ?_;refine St.ee (Ev.ao (.mk rfl) ez) ?_;refine St.ee Ev.s0 ?_;refine St.ak ?_;refine St.nn (St.block ?_);refine St.bB (pO vz 8 0 s0.length) (show _=(s0++(y.args.drop y.args.length).reverse.map (fun z=>(z,d+1,bd))).length by rw[List.drop_length];simp) (show _=rows JJ (s0++(y.args.drop y.args.length).reverse.map (fun z=>(z,d+1,bd))) by rw[List.drop_length];simp) ?_;refine St.mf (ι:=Nat) (κ:=Value) (fun j v T=>(11,iv ((j:Nat)-1:Int))::(3,v)::T) (fun j v=>[row v 197 8 (s0++(y.args.drop j).reverse.map (fun z=>(z,d+1,bd))).length (rows JJ (s0++(y.args.drop j).reverse.map (fun z=>(z,d+1,bd)))),ae b5 (.cells [iv y.kind,sv y.name,iv y.index,sv y.type.base,y.type.av.1,y.av.1,iv ((d:Nat):Int),iv ((b:Nat):Int)].toArray 197 (0,0)),ae b6 (.cells [iv y.kind,sv y.name,iv y.index,sv y.type.base,y.type.av.1,y.av.1].toArray 91 (0,0)),aG (bW y.type),aG (sl cG y.av.1 y.args),aG (aY bO y.args),aG (aY bO (s0.map Prod.fst)),ae b1 (.cells (pX t).toArray 91 (0,0)),ae b2 (.cells [iv 0,iv 0].toArray 42 (0,0)),aG (bO t)]) (fun j v=>j≤y.args.length) (fun j v=>j) y.args.length (pO vz 8 0 s0.length) (aE.cons 1 rfl (aE.cons 2 rfl (aE.cons 4 rfl (aE.cons 5 rfl (aE.cons 6 rfl (aE.cons 10 rfl aE.nil)))))) (Nat.le_refl _) ?_;intro j v hj;refine St.seq (St.sr ?_);refine St.mv ?_;refine St.ee Ev.qV ?_;refine St.nn ?_;refine St.cond _ rfl (fun QP=> ?_) (fun QP=> ?_)
     ·try simp only[aC]at QP
      obtain⟨i,rfl⟩:∃i,j=i+1:=⟨j-1,by omega⟩
      obtain⟨z,hz⟩:=aO (show i<y.args.length by omega)
      have DL:(s0++(y.args.drop (i+1)).reverse.map (fun z=>(z,d+1,bd))).length=s0.length+(y.args.length-(i+1)):=by rw[List.length_append,List.length_map,List.length_reverse,List.length_drop]
      have hpu:s0++(y.args.drop i).reverse.map (fun z=>(z,d+1,bd))=(s0++(y.args.drop (i+1)).reverse.map (fun z=>(z,d+1,bd)))++ [(z,d+1,bd)]:=by rw[JL hz,List.append_assoc]
      refine St.skip (St.aA (St.seq (St.block ?_)));refine St.eV [row v 197 8 (s0++(y.args.drop (i+1)).reverse.map (fun z=>(z,d+1,bd))).length (rows JJ (s0++(y.args.drop (i+1)).reverse.map (fun z=>(z,d+1,bd))))] mixed (fun np ns=> ?_);refine SW.dd 0 rfl (fun _=>Ev.move (.mk rfl)) ?_;refine SW.dd 1 rfl (fun _=>Ev.aD (.mk rfl) gN) ?_;refine SW.dd 2 rfl (fun _=>Ev.cN (.mk rfl) ez trivial (by rfl)) ?_;refine SW.dd 3 rfl (fun _=>Ev.move (.mk rfl)) ?_;refine SW.dd 4 rfl (fun _=>Ev.aR (k:=i) (.mk rfl) (.mk rfl) ez dC (by omega) (by omega)) ?_;refine SW.dd 5 rfl (fun _=>Ev.fg (.mk rfl) hz fO trivial dC ei.eq) ?_;refine SW.dd 6 rfl (fun _=>Ev.aD (.mk rfl) Dq) ?_;refine SW.dd 7 rfl (fun _=>Ev.cN (.mk rfl) bP trivial (by rfl)) ?_;refine SW.dd 8 rfl (fun _=>Ev.a0) ?_;refine SW.slot 163 (iv ((d+1:Nat):Int)) rfl rfl ?_;refine SW.dd 9 rfl (fun _=>Ev.move (.mk rfl)) ?_;refine SW.dd 10 rfl (fun _=>Ev.build (ps:=[(0,(.tmp 160)),(1,(.tmp 163)),(2,(.tmp 164))]) (aU.cons (aL.mk rfl) (aU.cons (aL.mk rfl) (aU.cons (aL.mk rfl) aU.nil))) (fun w=>qK rfl rfl w)) ?_;refine SW.bG (i:=11) (by kernel_rfl) rfl ?_;refine St.cn rfl (.cons (.mk rfl) .nil) rR uW Ix rfl rfl (by simp[Value.cells]) rfl rfl (fun FK=> ?_);refine St.nn ?_;refine SW.go ?_;refine SW.bG (i:=12) (by kernel_rfl) rfl ?_;refine St.cS (.mk rfl) (.mk rfl) rR uW Ix W6 (fun u hu=>by simp only[List.flatMap_cons,List.flatMap_nil,Value.cells,List.append_nil]at hu;exact JJ.one (z,d+1,bd) u (by simpa using hu)) (by omega) (by omega) rfl rfl rfl rfl (fun v167 adO=> ?_);refine St.bB v167 (show _=(s0++(y.args.drop i).reverse.map (fun z=>(z,d+1,bd))).length by rw[hpu];simp only[List.length_append,List.length_cons,List.length_nil]) (show _=rows JJ (s0++(y.args.drop i).reverse.map (fun z=>(z,d+1,bd))) by rw[hpu,cz];rfl) ?_;refine St.nn ?_;refine SW.go ?_;refine SW.dd 13 rfl (fun _=>Ev.assign (.mk rfl)) ?_;refine SW.done (by kernel_rfl) ?_;refine St.aN (St.aA (St.rg ?_));refine St.mv ?_;refine St.ee Ev.s0 ?_;refine St.ak ?_;refine St.nn ?_;refine St.slot 11 (iv ((i:Nat)-1:Int)) rfl (congrArg iv (by omega)) ?_;refine St.jb i v167 (by omega)
     ·try simp only[aC]at QP
      obtain rfl:j=0:=by omega
      rw[List.drop_zero];rw[←MW]at cE;refine St.gQ (aY bO ((s0++y.args.reverse.map (fun z=>(z,d+1,bd))).map Prod.fst)) [aY bO (s0.map Prod.fst),aY bO y.args] (fun ρ h z hz=>by rw[List.map_append,List.map_map]at hz;rcases List.mem_append.1 hz with hz|hz;exact h _ (List.mem_cons_self ..) z hz;exact(show(aY bO y.args).f ρ from h _ (by simp)) z (by simpa using hz)) ?_;refine St.exit (St.aF (St.aF (St.bH (St.aN (St.aA (St.rg ?_))))));refine St.mv ?_;refine St.ee Ev.a0 ?_;refine St.ak ?_;refine St.nn ?_;refine St.slot 4 (iv ((n+1:Nat):Int)) rfl rfl ?_;refine St.jb (n+1) (v,s0++y.args.reverse.map (fun z=>(z,d+1,bd))) ⟨by omega,cE,fun p hp=>by rcases List.mem_append.1 hp with hp|hp;exact OG p (List.mem_append_left _ hp);obtain⟨z,hz,rfl⟩:=List.mem_map.1 hp;exact⟨by show d+1≤41;omega,ac4,ac2 z (List.mem_reverse.1 hz)⟩,by dsimp only;rw[List.length_append,List.length_map,List.length_reverse];omega⟩
 ·try simp only[aC]at gY
  obtain rfl:st=[]:=List.eq_nil_of_length_eq_zero (by omega)
  have r5:(fi (ax t) 1 0 0).2.1=0:=by by_cases h:(fi (ax t) 1 0 0).2.1≠0;rw[if_pos h]at cE;exact(congrArg Prod.fst cE).symm;exact Decidable.not_not.1 h
  have WY:=zj _ _ _ _ r5
  have afA:=te _ _ _ _ r5
  refine St.exit (St.aF (St.aF (St.bH (St.aA (St.seq (St.sr ?_))))));refine St.ee (Ev.bF (.mk rfl) fO trivial (by exact dC)) ?_;refine St.aw (hto t qY WY (by omega)) W7 (.cons (.mk rfl) .nil) rfl ?_;rintro afB _ ⟨zs,rfl,rfl⟩;refine St.aJ ?_;refine St.mv ?_;refine St.ee (Ev.extract (.mk rfl) rfl) ?_;refine St.ee (Ev.extract (.mk rfl) rfl) ?_;refine St.alloc iP rfl (fun DS=> ?_);refine St.sA (.mk rfl) (.mk rfl) bC ?_ (h1:=(by simp only[List.all_cons,List.all_nil,Bool.and_true,Bool.and_eq_true];exact⟨rfl,zs.av.2⟩));refine St.ak ?_;refine St.nn (St.sr ?_);refine St.mv ?_;refine St.ee (Ev.not (.mk rfl)) ?_;refine St.nn ?_;refine St.cond _ rfl (fun Ck=> ?_) (fun Ck=> ?_)
  ·try simp only[aC]at Ck
   have nS:iC (ax t)=(12,-1):=by unfold iC;rw[if_neg (by rw[r5];decide),if_pos (by cases e:iY (ax t) []with|none=>rfl|some s=>rw[e]at Ck;cases Ck)]
   refine St.sr ?_;refine St.ee (Ev.build (ps:=[(0,(.const (.int .i64 12))),(1,(.const (.int .i64 (-1))))]) (aU.cons (aL.mk rfl) (aU.cons (aL.mk rfl) aU.nil)) (fun w=>bJ rfl rfl w)) ?_;refine St.sA (.mk rfl) (.mk rfl) ay ?_;refine St.nn (St.aX (St.aB ?_));refine St.rU [_] [] Tryz.results101 ?_;exact congrArg fv nS.symm
  ·try simp only[aC]at Ck
   have nS:iC (ax t)=(0,0):=by unfold iC;rw[if_neg (by rw[r5];decide),if_neg (by cases e:iY (ax t) []with|none=>rw[e]at Ck;cases Ck|some s=>simp)]
   refine St.skip (St.aA (St.sr ?_));refine St.ee (Ev.build (ps:=[]) (aU.nil) (fun w=>fA w)) ?_;refine St.sA (.mk rfl) (.mk rfl) ay ?_;refine St.nn (St.aX ?_);refine St.rU [_] [] Tryz.results101 ?_;exact congrArg fv nS.symm
structure rC where
 kind:Int
 name:cQ
 mq:dY
 index:Int
 kids:List Int
 up:Int
def Xk:rC:=⟨0,[],.mk [] [],0,[],0⟩
def jW:List dB→Nat→List Int
 | [],_=>[]
 |x::l,m=>(m:Int)::jW l (m+jn x)
mutual
def rD:dB→Int→Nat→List rC
 | .mk k s i t l,up,m=>⟨k,s,t,i,jW l (m+1),up⟩::qc l m (m+1)
def qc:List dB→Int→Nat→List rC
 | [],_,_=>[]
 |x::l,u,m=>rD x u m++qc l u (m+jn x)
end
theorem yo (x:dB)(up:Int)(m:Nat):rD x up m=⟨x.kind,x.name,x.type,x.index,jW x.args (m+1),up⟩::qc x.args m (m+1):=by cases x;rw[rD];rfl
theorem ue (x:dB):jn x=dT x.args+1:=by cases x;rw[jn];rfl
theorem gu (x:dB):0<jn x:=by rw[ue];omega
theorem mX:∀(x:dB) (up:Int) (m:Nat),(rD x up m).length=jn x:=by
 intro x;refine dB.rec (motive_1:=fun x=>∀(up:Int) (m:Nat),(rD x up m).length=jn x) (motive_2:=fun l=>∀(up:Int) (m:Nat),(qc l up m).length=dT l) ?_ ?_ ?_ x
 ·intro k s i t l ih up m
  rw[rD,List.length_cons,ih,jn]
 ·intro up m;rfl
 ·intro x l BA yC up m
  rw[qc,List.length_append,BA,yC,dT]
theorem Dv:∀(l:List dB) (up:Int) (m:Nat),(qc l up m).length=dT l
 | [],_,_=>rfl
 |x::l,up,m=>by rw[qc,List.length_append,mX,Dv l,dT]
theorem xK:∀(l:List dB) (x:dB),dT (l++ [x])=dT l+jn x
 | [],x=>by simp[dT]
 |y::l,x=>by rw[List.cons_append,dT,dT,xK l x];omega
theorem Aq:∀(l:List dB) (x:dB) (u:Int) (m:Nat),qc (l++ [x]) u m=qc l u m++rD x u (m+dT l)
 | [],x,u,m=>by show qc [x] u m=_;rw[qc,qc,qc,dT];simp
 |y::l,x,u,m=>by rw[List.cons_append,qc,qc,Aq l x,List.append_assoc,dT,show m+jn y+dT l=m+(jn y+dT l) by omega]
theorem xL:∀(l:List dB) (x:dB) (m:Nat),jW (l++ [x]) m=jW l m++ [((m+dT l:Nat):Int)]
 | [],x,m=>by show jW [x] m=_;rw[jW,jW,jW,dT];rfl
 |y::l,x,m=>by rw[List.cons_append,jW,jW,xL l x,dT,show m+jn y+dT l=m+(jn y+dT l) by omega];rfl
theorem Ar:∀(l:List dB) (m:Nat),(jW l m).length=l.length
 | [],_=>rfl
 |x::l,m=>by rw[jW,List.length_cons,Ar l,List.length_cons]
theorem Dw:∀l:List dB,l.length≤dT l
 | []=>Nat.zero_le _
 |x::l=>by have:=Dw l;have:=gu x;rw[dT,List.length_cons];omega
theorem uf:∀(l:List dB) (m:Nat),∀z∈jW l m,0≤z∧z<(m+dT l:Nat)
 | [],_,z,h=>by cases h
 |x::l,m,z,h=>by
  rw[jW]at h
  have hp:=gu x
  rw[dT]
  rcases List.mem_cons.1 h with rfl|h
  ·omega
  ·have:=uf l _ z h;omega
def xM (R:List rC):Nat→Int→Int→Int
 |0,_,_=> -1
 |f+1,k,at_=>if at_<0 then-1 else if(R.getD at_.toNat Xk).kind=3 then(if k=0 then at_ else xM R f (k-1) (R.getD at_.toNat Xk).up)else xM R f k (R.getD at_.toNat Xk).up
def FT (R:List rC):Prop:=∀(j:Nat) (r:rC),R[j]?=some r→ -1≤r.up∧r.up<j
theorem ni {R:List rC}{f:Nat}{k at_:Int}{j:Nat}{r:rC}(ha:at_=j)(hr:R[j]?=some r):xM R (f+1) k at_=if r.kind=3 then(if k=0 then at_ else xM R f (k-1) r.up)else xM R f k r.up:=by
 subst ha
 rw[xM,if_neg (by omega),Int.toNat_natCast,List.getD_eq_getElem?_getD,hr];rfl
theorem qP {R:List rC}{f:Nat}{k at_:Int}(h:at_<0):xM R f k at_= -1:=by
 cases f with
 |zero=>rfl
 |succ f=>rw[xM,if_pos h]
theorem ug {R:List rC}(hU:FT R):∀(n:Nat) (at_ k:Int) (f f':Nat),at_<n→n≤R.length→at_<f→at_<f'→xM R f k at_=xM R f' k at_:=by
 intro n
 induction n with
 |zero=>
  intro at_ k f f' h _ _ _;rw[qP (by omega),qP (by omega)]
 |succ n ih=>
  intro at_ k f f' h hn h1 h2
  by_cases h0:at_<0
  ·rw[qP h0,qP h0]
  obtain⟨j,rfl⟩:∃j:Nat,at_=j:=⟨at_.toNat,by omega⟩
  obtain⟨f,rfl⟩:∃g,f=g+1:=⟨f-1,by omega⟩
  obtain⟨f',rfl⟩:∃g,f'=g+1:=⟨f'-1,by omega⟩
  obtain⟨r,hr⟩:=aO (show j<R.length by omega);obtain⟨u1,u2⟩:=hU j r hr;rw[ni rfl hr,ni rfl hr]
  split
  ·split
   ·rfl
   ·exact ih _ _ _ _ (by omega) (by omega) (by omega) (by omega)
  ·exact ih _ _ _ _ (by omega) (by omega) (by omega) (by omega)
def mj (R:List rC)(c:List dY)(at_:Int):Prop:=∀k:Nat,k<c.length→∃(j:Nat) (r:rC),xM R (R.length+1) k at_=j∧R[j]?=some r∧c[c.length-1-k]?=some r.mq
theorem mj.nil (R:List rC)(a:Int):mj R [] a:=fun k h=>absurd h (Nat.not_lt_zero k)
theorem mj.abs {R:List rC}(hU:FT R){c:List dY}{m:Nat}{r:rC}(hr:R[m]?=some r)(hk:r.kind=3)(h:mj R c r.up):mj R (c++ [r.mq]) (m:Nat):=fun k qa=>by
 rw[List.length_append]at qa⊢
 simp only[List.length_cons,List.length_nil]at qa⊢
 have hm:=cL hr
 obtain⟨u1,u2⟩:=hU m r hr;rw[ni rfl hr,if_pos hk]
 cases k with
 |zero=>
  rw[if_pos (show((0:Nat):Int)=0 from rfl)];exact⟨m,r,rfl,hr,by rw[show c.length+(0+1)-1-0=c.length by omega,List.getElem?_append_right (Nat.le_refl _),Nat.sub_self];rfl⟩
 |succ k=>
  rw[if_neg (by omega),show((k+1:Nat):Int)-1=(k:Int) by omega];obtain⟨j,q,h1,h2,h3⟩:=h k (by omega);rw[ug hU R.length r.up k R.length (R.length+1) (by omega) (Nat.le_refl _) (by omega) (by omega)];exact⟨j,q,h1,h2,by rw[show c.length+(0+1)-1-(k+1)=c.length-1-k by omega,List.getElem?_append_left (by omega)];exact h3⟩
theorem mj.app {R:List rC}(hU:FT R){c:List dY}{m:Nat}{r:rC}(hr:R[m]?=some r)(hk:r.kind≠3)(h:mj R c r.up):mj R c (m:Nat):=fun k qa=>by
 have hm:=cL hr
 obtain⟨u1,u2⟩:=hU m r hr;rw[ni rfl hr,if_neg hk,ug hU R.length r.up k R.length (R.length+1) (by omega) (Nat.le_refl _) (by omega) (by omega)];exact h k qa
inductive dP (t:dB):Nat→Int→Nat→dB→List dY→Prop
 |root:dP t 0 (-1) 1 t []
 |abs {m d:Nat} {up:Int} {s x:dB} {c:List dY} (h:dP t m up d s c) (hk:s.kind=3) (ha:s.args=[x]):dP t (m+1) m (d+1) x (c++ [s.type])
 |left {m d:Nat} {up:Int} {s x y:dB} {c:List dY} (h:dP t m up d s c) (hk:s.kind=4) (ha:s.args=[x,y]):dP t (m+1) m (d+1) x c
 |right {m d:Nat} {up:Int} {s x y:dB} {c:List dY} (h:dP t m up d s c) (hk:s.kind=4) (ha:s.args=[x,y]):dP t (m+1+jn x) m (d+1) y c
theorem QQ:∀(x:dB) (up:Int) (m:Nat),-1≤up→up<m→∀(j:Nat) (r:rC),(rD x up m)[j]?=some r→ -1≤r.up∧r.up<(m+j:Nat):=by
 intro x;refine dB.rec (motive_1:=fun x=>∀(up:Int) (m:Nat),-1≤up→up<m→∀(j:Nat) (r:rC),(rD x up m)[j]?=some r→ -1≤r.up∧r.up<(m+j:Nat)) (motive_2:=fun l=>∀(up:Int) (m:Nat),-1≤up→up<m→∀(j:Nat) (r:rC),(qc l up m)[j]?=some r→ -1≤r.up∧r.up<(m+j:Nat)) ?_ ?_ ?_ x
 ·intro k s i t l ih up m h1 h2 j r hr
  rw[rD]at hr
  cases j with
  |zero=>
   simp only[List.getElem?_cons_zero,Option.some.injEq]at hr
   subst hr;exact⟨h1,by omega⟩
  |succ j=>
   rw[List.getElem?_cons_succ]at hr
   have:=ih m (m+1) (by omega) (by omega) j r hr
   omega
 ·intro up m _ _ j r hr;simp[qc]at hr
 ·intro x l BA yC up m h1 h2 j r hr
  rw[qc]at hr
  rcases Nat.lt_or_ge j (rD x up m).length with hj|hj
  ·rw[List.getElem?_append_left hj]at hr
   exact BA up m h1 h2 j r hr
  ·rw[List.getElem?_append_right hj]at hr
   rw[mX]at hr hj
   have:=yC up (m+jn x) h1 (by omega) _ r hr
   omega
theorem Au (t:dB):FT (rD t (-1) 0):=fun j r hr=>by
 have:=QQ t (-1) 0 (by omega) (by omega) j r hr
 omega
theorem dP.rows {t:dB}{m d:Nat}{up:Int}{s:dB}{c:List dY}(h:dP t m up d s c):∃A B,rD t (-1) 0=A++rD s up m++B∧A.length=m:=by
 induction h with
 |root=>exact⟨[],[],by simp,rfl⟩
 | @abs m d up s x c h hk ha ih=>
  obtain⟨A,B,e,hl⟩:=ih;refine⟨A++ [⟨s.kind,s.name,s.type,s.index,jW s.args (m+1),up⟩],B,?_,by rw[List.length_append];simp[hl]⟩
  rw[e,yo s,ha,qc,qc];simp
 | @left m d up s x y c h hk ha ih=>
  obtain⟨A,B,e,hl⟩:=ih;refine⟨A++ [⟨s.kind,s.name,s.type,s.index,jW s.args (m+1),up⟩],rD y m (m+1+jn x)++B,?_,by rw[List.length_append];simp[hl]⟩
  rw[e,yo s,ha,qc,qc,qc];simp
 | @right m d up s x y c h hk ha ih=>
  obtain⟨A,B,e,hl⟩:=ih;refine⟨A++ [⟨s.kind,s.name,s.type,s.index,jW s.args (m+1),up⟩]++rD x m (m+1),B,?_,by rw[List.length_append,List.length_append,mX];simp[hl]⟩
  rw[e,yo s,ha,qc,qc,qc];simp
theorem dP.node {t:dB}{m d:Nat}{up:Int}{s:dB}{c:List dY}(h:dP t m up d s c):(rD t (-1) 0)[m]?=some ⟨s.kind,s.name,s.type,s.index,jW s.args (m+1),up⟩:=by
 obtain⟨A,B,e,hl⟩:=h.rows
 rw[e,List.append_assoc,List.getElem?_append_right (by omega),hl,Nat.sub_self,yo];rfl
theorem dP.fits {t:dB}{m d:Nat}{up:Int}{s:dB}{c:List dY}(h:dP t m up d s c):m+jn s≤jn t:=by
 obtain⟨A,B,e,hl⟩:=h.rows
 have:=congrArg List.length e
 rw[mX,List.length_append,List.length_append,mX]at this;omega
theorem dP.ctx {t:dB}{m d:Nat}{up:Int}{s:dB}{c:List dY}(h:dP t m up d s c):mj (rD t (-1) 0) c up:=by
 have hU:=Au t
 induction h with
 |root=>exact .nil _ _
 |abs h hk ha ih=>exact mj.abs hU h.node hk ih
 |left h hk ha ih=>exact mj.app hU h.node (fun e=>absurd (hk.symm.trans e) (by decide)) ih
 |right h hk ha ih=>exact mj.app hU h.node (fun e=>absurd (hk.symm.trans e) (by decide)) ih
theorem dP.uG {t:dB}(hg:vQ t 1 0){m d:Nat}{up:Int}{s:dB}{c:List dY}(h:dP t m up d s c):vQ s d c.length:=by
 induction h with
 |root=>exact hg
 |abs h hk ha ih=>
  have:=(ih).inv.2.2 _ (by rw[ha];exact List.mem_singleton.2 rfl)
  rw[if_pos hk]at this
  rw[List.length_append];exact this
 |left h hk ha ih=>
  have:=(ih).inv.2.2 _ (by rw[ha];exact List.mem_cons_self ..)
  rw[if_neg (by rw[hk];decide)]at this;exact this
 | @right m d up s x y c h hk ha ih=>
  have:=(ih).inv.2.2 y (by rw[ha];simp)
  rw[if_neg (by rw[hk];decide)]at this;exact this
theorem vQ.shape {s:dB}{d b:Nat}(h:vQ s d b):(s.kind=1∧jl s.type=0∧s.args=[])∨(s.kind=2∧0≤s.index∧s.index<b∧s.args=[])∨(s.kind=3∧jl s.type=0∧∃x,s.args=[x])∨(s.kind=4∧∃x y,s.args=[x,y]):=by
 have h2:=h.inv.2.1
 unfold jT at h2
 rcases qq h2 with⟨a,e,m⟩|⟨a,e,g,m⟩|⟨a,m,e⟩|⟨a,m⟩
 ·exact .inl ⟨a,e,List.eq_nil_of_length_eq_zero m⟩
 ·exact .inr (.inl ⟨a,e,g,List.eq_nil_of_length_eq_zero m⟩)
 ·match hs:s.args,m with
  | [x],_=>exact .inr (.inr (.inl ⟨a,e,x,rfl⟩))
 ·match hs:s.args,m with
  | [x,y],_=>exact .inr (.inr (.inr ⟨a,x,y,rfl⟩))
theorem dP.all {t:dB}(hg:vQ t 1 0):∀(n:Nat) (s:dB),jn s≤n→∀(m d:Nat) (up:Int) (c:List dY),dP t m up d s c→∀i,m≤i→i<m+jn s→∃d' WZ s' c',dP t i WZ d' s' c':=by
 intro n
 induction n with
 |zero=>intro s hs;have:=gu s;omega
 |succ n ih=>
  intro s hs m d up c h i h1 h2
  by_cases e:i=m
  ·subst e;exact⟨_,_,_,_,h⟩
  rw[ue]at hs h2
  rcases(h.uG hg).shape with⟨_,_,ha⟩|⟨_,_,_,ha⟩|⟨hk,_,x,ha⟩|⟨hk,x,y,ha⟩
  ·rw[ha,dT]at h2;omega
  ·rw[ha,dT]at h2;omega
  ·rw[ha,dT,dT]at hs h2
   exact ih x (by omega) _ _ _ _ (.abs h hk ha) i (by omega) (by omega)
  ·rw[ha,dT,dT,dT]at hs h2
   rcases Nat.lt_or_ge i (m+1+jn x)with hi|hi
   ·exact ih x (by omega) _ _ _ _ (.left h hk ha) i (by omega) (by omega)
   ·exact ih y (by omega) _ _ _ _ (.right h hk ha) i (by omega) (by omega)
theorem dP.at_ {t:dB}(hg:vQ t 1 0){i:Nat}(hi:i<jn t):∃d up s c,dP t i up d s c:=
 dP.all hg _ t (Nat.le_refl _) 0 1 (-1) [] .root i (Nat.zero_le _) (by omega)
theorem Av {s x:dB}{c:List dY}(hk:s.kind=3)(ha:s.args=[x]):iY s c=(iY x (c++ [s.type])).map fun b=> .mk [] [s.type,b]:=by
 rw[pk,if_neg (by rw[hk];decide),if_neg (by rw[hk];decide),if_pos hk,ha,jo]
theorem qQ {s x y:dB}{c:List dY}(hk:s.kind=4)(ha:s.args=[x,y]):iY s c=xo (iY x c) (iY y c):=by
 rw[pk,if_neg (by rw[hk];decide),if_neg (by rw[hk];decide),if_neg (by rw[hk];decide),ha,jo,rZ]
theorem dP.none {t:dB}{m d:Nat}{up:Int}{s:dB}{c:List dY}(h:dP t m up d s c)(hn:iY s c=none):iY t []=none:=by
 induction h with
 |root=>exact hn
 |abs h hk ha ih=>exact ih (by rw[Av hk ha,hn];rfl)
 |left h hk ha ih=>exact ih (by rw[qQ hk ha,hn];rfl)
 |right h hk ha ih=>
  refine ih ?_;rw[qQ hk ha,hn];unfold xo
  split
  ·rename_i _ _ _ _ _ e;cases e
  ·rfl
structure eO where
 kind:Int
 name:cQ
 mq:cT
 index:Int
 kv:ck
 kids:List Int
 up:Int
def RC (x:eO):List Value:=[iv x.kind,sv x.name,sv x.mq.base,x.mq.av.1,iv x.index,x.kv.1,iv x.up]
theorem Dx (x:eO)(u:Value)(h:u∈RC x):u.oneCell'=true:=by
 simp only[RC,List.mem_cons,List.not_mem_nil,or_false]at h
 rcases h with rfl|rfl|rfl|rfl|rfl|rfl|rfl
 ·rfl
 ·rfl
 ·rfl
 ·exact x.mq.av.2
 ·rfl
 ·exact x.kv.2
 ·rfl
abbrev vH:Rp eO:=⟨7,by decide,RC,fun _=>True,fun _=>rfl,Dx⟩
instance (x:eO):ei vH x (RC x):=⟨rfl⟩
def z8 (x:eO):dm:=⟨fun ρ=>(bW x.mq).f ρ∧(sl aK x.kv.1 x.kids).f ρ,fun ρ ib h k=>⟨(bW x.mq).mono _ _ h k.1,(sl aK x.kv.1 x.kids).mono _ _ h k.2⟩⟩
def oy (x:eO):rC:=⟨x.kind,x.name,bK x.mq,x.index,x.kids,x.up⟩
theorem Wa (x:cF)(up:Int)(m:Nat):rD (ax x) up m=⟨x.kind,x.name,bK x.type,x.index,jW (x.args.map ax) (m+1),up⟩::qc (x.args.map ax) m (m+1):=by
 cases x with
 |mk k s i t v l=>rw[lp,rD];rfl
theorem Wb (x:cF):jn (ax x)=dT (x.args.map ax)+1:=by rw[ue,iw]
theorem Aw:∀(l m:List dB),dT (l++m)=dT l+dT m
 | [],m=>by simp[dT]
 |x::l,m=>by rw[List.cons_append,dT,dT,Aw l m];omega
theorem rE (l:List dB)(k:Nat):dT (l.take k)≤dT l:=by
 conv=>rhs;rw[←List.take_append_drop k l,Aw]
 omega
theorem QR (L W:List eO)(N:eO):(rows vH (L++N::W))[L.length*7+5]?=some N.kv.1:=by
 have:=jv vH (L++N::W) L.length 5 N (by simp) (by decide)
 exact this
theorem MZ (L W:List eO)(N:eO)(kv:ck)(kids:List Int):(rows vH (L++N::W)).set (L.length*7+5) kv.1=rows vH (L++{N with kv:=kv,kids:=kids}::W):=by
 have e:∀(A B:List eO) (x:eO),rows vH (A++x::B)=rows vH A++(RC x++rows vH B):=fun A B x=>by simp[rows]
 rw[e,e,List.set_append_right _ _ (by rw[e7];show L.length*7≤_;omega),e7];rw[show L.length*7+5-L.length*vH.size=5 by show _-L.length*7=5;omega];rfl
set_option maxHeartbeats 4000000 in
theorem FU:∀(x:cF) (up:Int) (L:List eO) (vl:Value),vl.oneCell'=true→cG.wf x→L.length+jn (ax x)≤1000→fF Tryz.prog 140 #[bb x,iv up,vl] [aG (bO x),row vl 219 7 (L).length (rows vH (L))] (fun v H'=>∃W:List eO,v.oneCell'=true∧W.map oy=rD (ax x) up L.length∧H'=[row v 219 7 (L++W).length (rows vH (L++W)),aG (aY z8 W)]):=by
 intro x
 induction x using cF.ind
 rename_i x ih
 intro up L vl wv hw fR;refine fF.body (args:=[bb x,iv up,vl]) 53 Tryz.func140 rfl Tryz.ntmps140 rfl (fun c=> ?_);refine St.seq ?_;refine St.pY x ?_;refine St.wf x.av.1 (fun lq tB=> ?_);rw[Wb]at fR;refine St.rg ?_;refine St.cV (.mk rfl) rfl (fun b3=> ?_);refine St.ak ?_;refine St.nn (St.sr ?_);refine St.mv ?_;refine St.ee (Ev.fS (.mk rfl) kA) ?_;refine St.ak ?_;refine St.nn (St.sr ?_);refine St.mv ?_;refine St.ee (Ev.aD (.mk rfl) hJ) ?_;refine St.ee (Ev.l0 (.mk rfl) bP) ?_;refine St.ee (Ev.aD (.mk rfl) pB) ?_;refine St.ee (Ev.l0 (.mk rfl) df) ?_;refine St.ee (Ev.aD (.mk rfl) lK) ?_;refine St.ee (Ev.iI 2 (.mk rfl) bX trivial bC rfl rfl) ?_;refine St.slot 17 (.agg [sv x.type.base,x.type.av.1].toArray) rfl rfl ?_;refine St.ee (Ev.aD (.mk rfl) lJ) ?_;refine St.ee (Ev.l0 (.mk rfl) bP) ?_;refine St.mv ?_;refine St.ee (Ev.build (ps:=[(0,(.tmp 13)),(1,(.tmp 15)),(2,(.tmp 17)),(3,(.tmp 19)),(5,(.tmp 20))]) (aU.cons (aL.mk rfl) (aU.cons (aL.mk rfl) (aU.cons (aL.mk rfl) (aU.cons (aL.mk rfl) (aU.cons (aL.mk rfl) aU.nil))))) (fun w=>rA rfl rfl rfl rfl w)) ?_;refine St.cn rfl (.cons (.mk rfl) .nil) kA ly OC rfl rfl (by simp[Value.cells]) rfl rfl (fun JA=> ?_);refine St.cS (.mk rfl) (.mk rfl) kA ly OC W9 (fun u hu=>Dx (⟨x.kind,x.name,x.type,x.index,fa,[],up⟩:eO) u (by rw[List.flatMap_cons,List.flatMap_nil,List.append_nil]at hu;exact hu)) (by omega) (by omega) rfl rfl rfl rfl (fun Tz afC=> ?_);refine St.bB Tz (show _=(L++(⟨x.kind,x.name,x.type,x.index,fa,[],up⟩:eO)::[]).length by rw[List.length_append];rfl) (show _=rows vH (L++(⟨x.kind,x.name,x.type,x.index,fa,[],up⟩:eO)::[]) by rw[show rows vH (L++(⟨x.kind,x.name,x.type,x.index,fa,[],up⟩:eO)::[])=rows vH L++RC (⟨x.kind,x.name,x.type,x.index,fa,[],up⟩:eO) by simp[rows]];rfl) ?_;refine St.eG Tz (fun uX _=> ?_);refine St.jw 3 1 ?_;refine St.bB (.slice none 0 0) (show _=([]:List Int).length from rfl) (show _=rows aK []from rfl) ?_;refine St.fact (aY z8 []) (fun _ _ _=>fun z hz=>by cases hz) ?_;refine St.ak ?_;refine St.nn (St.seq (St.sr ?_));refine St.ee (Ev.aD (.mk rfl) gN) ?_;refine St.ee (Ev.l0 (.mk rfl) ez) ?_;refine St.ee (Ev.ao (.mk rfl) ez) ?_;refine St.mv ?_;refine St.nn (St.block ?_);refine St.mf (ι:=Nat) (κ:=Value×List eO×ck×List Int) (fun k z T=>(27,iv k)::(2,z.1)::T) (fun k z=>[row z.1 219 7 (L++(⟨x.kind,x.name,x.type,x.index,z.2.2.1,z.2.2.2,up⟩:eO)::z.2.1).length (rows vH (L++(⟨x.kind,x.name,x.type,x.index,z.2.2.1,z.2.2.2,up⟩:eO)::z.2.1)),row z.2.2.1.1 3 1 (z.2.2.2).length (rows aK (z.2.2.2)),aG (aY z8 z.2.1),ae b3 (.cells (pX x).toArray 91 (0,0)),aG (bW x.type),aG (sl cG x.av.1 x.args),aG (aY bO x.args)]) (fun k z=>k≤x.args.length∧z.1.oneCell'=true∧z.2.1.map oy=qc ((x.args.map ax).take k) L.length (L.length+1)∧z.2.2.2=jW ((x.args.map ax).take k) (L.length+1)) (fun k z=>x.args.length-k) 0 (Tz,[],fa,[]) (aE.cons 3 rfl (aE.cons 6 rfl (aE.cons 7 rfl (aE.cons 26 rfl aE.nil)))) ⟨Nat.zero_le _,uX,rfl,rfl⟩ ?_;rintro k ⟨vz,W,kv,kids⟩ ⟨hk,QS,hW,xN⟩
 dsimp only at QS hW xN⊢
 have RD:W.length=dT ((x.args.map ax).take k):=by have:=congrArg List.length hW;rwa[List.length_map,Dv]at this
 have qa:kids.length≤1000:=by have e:=rE (x.args.map ax) k;rw[xN,Ar,List.length_take];have:=Dw (x.args.map ax);omega
 have hLW:(L++(⟨x.kind,x.name,x.type,x.index,kv,kids,up⟩:eO)::W).length=L.length+1+dT ((x.args.map ax).take k):=by rw[List.length_append,List.length_cons,RD];omega
 have cE:=rE (x.args.map ax) k
 refine St.sr ?_;refine St.ee Ev.dn ?_;refine St.nn (St.seq ?_);refine St.cond _ rfl (fun qX=> ?_) (fun qX=> ?_)
 ·try simp only[aC]at qX
  obtain⟨y,hy⟩:=aO (show k<x.args.length by omega)
  have lr:=List.mem_of_getElem? hy
  have qA:(x.args.map ax)[k]?=some (ax y):=by rw[List.getElem?_map,hy];rfl
  have v7:=bI qA
  have ac5:=rE (x.args.map ax) (k+1)
  rw[v7,xK]at ac5;refine St.cD bO x.args (x:=y) lr ?_;refine St.skip (St.aA (St.seq (St.block (St.sr ?_))));refine St.mv ?_;refine St.ak ?_;refine St.nn (St.sr ?_);refine St.mv ?_;refine St.mv ?_;refine St.mv ?_;refine St.mv ?_;refine St.ee (Ev.cK (k:=L.length) (.mk rfl) (.mk rfl) kA ly (by omega) (by omega)) ?_;refine St.ee (Ev.G5 (.mk rfl) (by omega) qJ) ?_;refine St.ee (Ev.hS (.mk rfl) bE trivial (by omega) (QR L W (⟨x.kind,x.name,x.type,x.index,kv,kids,up⟩:eO))) ?_;refine St.mv ?_;refine St.ee (Ev.fS (.mk rfl) kA) ?_;refine St.slot 38 (iv ((L.length+1+dT ((x.args.map ax).take k):Nat):Int)) rfl (congrArg iv (by rw[hLW])) ?_;refine St.cn rfl (.cons (.mk rfl) .nil) bE cr eJ rfl rfl (by simp[Value.cells]) rfl rfl (fun b39=> ?_);refine St.cS (.mk rfl) (.mk rfl) bE cr eJ Gh (by simp[Value.oneCell',Value.cells]) (by omega) (by omega) rfl rfl rfl rfl (fun v40 afD=> ?_);refine St.bB v40 (show _=(kids++ [((L.length+1+dT ((x.args.map ax).take k):Nat):Int)]).length by rw[List.length_append];rfl) (show _=rows aK (kids++ [((L.length+1+dT ((x.args.map ax).take k):Nat):Int)]) by rw[cz];rfl) ?_;refine St.eG v40 (fun wU _=> ?_)
  have QT:(L++(⟨x.kind,x.name,x.type,x.index,⟨v40,wU⟩,(kids++ [((L.length+1+dT ((x.args.map ax).take k):Nat):Int)]),up⟩:eO)::W).length=L.length+1+dT ((x.args.map ax).take k):=by rw[List.length_append,List.length_cons,RD];omega
  refine St.ee (Ev.cK (k:=L.length) (.mk rfl) (.mk rfl) kA ly (by omega) (by omega)) ?_;refine St.ee (Ev.G5 (.mk rfl) (by omega) qJ) ?_;refine St.dH (.mk rfl) (.mk rfl) eI wU (by omega) (by decide) ?_;refine St.bB vz (show _=(L++(⟨x.kind,x.name,x.type,x.index,⟨v40,wU⟩,(kids++ [((L.length+1+dT ((x.args.map ax).take k):Nat):Int)]),up⟩:eO)::W).length by rw[hLW,QT]) (MZ L W (⟨x.kind,x.name,x.type,x.index,kv,kids,up⟩:eO) ⟨v40,wU⟩ (kids++ [((L.length+1+dT ((x.args.map ax).take k):Nat):Int)])) ?_;refine St.nn (St.rg ?_);refine St.ee (Ev.aD (.mk rfl) gN) ?_;refine St.ee (Ev.l0 (.mk rfl) ez) ?_;refine St.mv ?_;refine St.ee (Ev.aR (k:=k) (.mk rfl) (.mk rfl) ez dC (by omega) (by omega)) ?_;refine St.ee (Ev.fg (.mk rfl) hy fO trivial dC ei.eq) ?_;refine St.mv ?_;refine St.mv ?_;refine St.call (ih y lr (L.length:Nat) (L++(⟨x.kind,x.name,x.type,x.index,⟨v40,wU⟩,(kids++ [((L.length+1+dT ((x.args.map ax).take k):Nat):Int)]),up⟩:eO)::W) vz QS (lq y lr) (by rw[QT];omega)) OD (.cons (.mk rfl) (.cons (.mk rfl) (.cons (.mk rfl) .nil))) rfl ?_;rintro Ty _ ⟨W2,mR,hW2,rfl⟩;refine St.cb ?_;refine St.ak ?_;refine St.nil (St.aN (St.aA (St.rg ?_)));refine St.ee Ev.a0 ?_;refine St.mv ?_;refine St.nn ?_;refine St.bB Ty (show _=(L++(⟨x.kind,x.name,x.type,x.index,⟨v40,wU⟩,(kids++ [((L.length+1+dT ((x.args.map ax).take k):Nat):Int)]),up⟩:eO)::(W++W2)).length by simp only[List.append_assoc,List.cons_append]) (show _=rows vH (L++(⟨x.kind,x.name,x.type,x.index,⟨v40,wU⟩,(kids++ [((L.length+1+dT ((x.args.map ax).take k):Nat):Int)]),up⟩:eO)::(W++W2)) by simp only[List.append_assoc,List.cons_append]) ?_;refine St.gQ (aY z8 (W++W2)) [aY z8 W,aY z8 W2] (fun ρ h z hz=>by rcases List.mem_append.1 hz with hz|hz;exact(show(aY z8 W).f ρ from h _ (by simp)) z hz;exact(show(aY z8 W2).f ρ from h _ (by simp)) z hz) ?_;refine St.jb (k+1) (Ty,W++W2,⟨v40,wU⟩,kids++ [((L.length+1+dT ((x.args.map ax).take k):Nat):Int)]) ⟨by omega,mR,by rw[List.map_append,hW,hW2,v7,Aq,QT],by rw[xN,v7,xL]⟩
 ·try simp only[aC]at qX
  have Hg:(x.args.map ax).length≤k:=by rw[List.length_map];omega
  rw[List.take_of_length_le Hg]at hW xN;refine St.aV kv.1 aK kids rfl rfl (fun z hz=>by rw[xN]at hz;have:=uf _ _ z hz;show bD z;unfold bD;omega) ?_;refine St.gQ (aY z8 ((⟨x.kind,x.name,x.type,x.index,kv,kids,up⟩:eO)::W)) [aY z8 W,bW x.type,sl aK kv.1 kids] (fun ρ h z hz=>by rcases List.mem_cons.1 hz with rfl|hz;exact⟨h _ (by simp),h _ (by simp)⟩;exact(show(aY z8 W).f ρ from h _ (by simp)) z hz) ?_;refine St.exit (St.aF (St.aF (St.bH (St.aA (St.sr ?_)))));refine St.mv ?_;refine St.ak ?_;refine St.nn (St.aX ?_);refine St.rU [_] [row vz 219 7 (L++(⟨x.kind,x.name,x.type,x.index,kv,kids,up⟩:eO)::W).length (rows vH (L++(⟨x.kind,x.name,x.type,x.index,kv,kids,up⟩:eO)::W)),aG (aY z8 ((⟨x.kind,x.name,x.type,x.index,kv,kids,up⟩:eO)::W))] Tryz.results140 ?_;exact⟨(⟨x.kind,x.name,x.type,x.index,kv,kids,up⟩:eO)::W,QS,by rw[List.map_cons,hW,xN,Wa];rfl,rfl⟩
set_option maxHeartbeats 1000000 in
theorem Ax (u:Value)(R:List eO)(hU:FT (R.map oy))(hl:R.length≤1000)(i:Nat)(r:eO)(hr:R[i]?=some r)(Xl:0≤r.index∧bD r.index):ct Tryz.prog 141 #[u,iv i] [sl vH u R] (iv (xM (R.map oy) ((R.map oy).length+1) r.index r.up)):=by
 refine ct.ic (args:=[u,iv i]) 35 Tryz.func141 rfl Tryz.ntmps141 rfl (fun c=> ?_);refine St.seq ?_
 have TY:(R.map oy).length=R.length:=List.length_map ..
 have TN:=cL hr
 have BE:=hU i (oy r) (by rw[List.getElem?_map,hr];rfl)
 replace BE: -1≤r.up∧r.up<i:=BE
 have Wc:=Xl.2
 unfold bD at Wc;refine St.rg ?_;refine St.ak ?_;refine St.nn (St.sr ?_);refine St.mv ?_;refine St.mv ?_;refine St.ee (Ev.aR (k:=i) (.mk rfl) (.mk rfl) kA ly (by omega) (by omega)) ?_;refine St.ee (Ev.e8 (.mk rfl) (by omega) M8) ?_;refine St.ee (Ev.ff (.mk rfl) hr bP trivial rfl) ?_;refine St.ak ?_;refine St.nn (St.seq (St.sr ?_));refine St.mv ?_;refine St.mv ?_;refine St.ee (Ev.aR (k:=i) (.mk rfl) (.mk rfl) kA ly (by omega) (by omega)) ?_;refine St.ee (Ev.e8 (.mk rfl) (by omega) yh) ?_;refine St.ee (Ev.ff (.mk rfl) hr bP trivial rfl) ?_;refine St.ak ?_;refine St.nn (St.block ?_);refine St.lS (ι:=Int×Int) (fun x T=>(5,iv x.1)::(6,iv x.2)::T) (fun x=>0≤x.1∧x.1≤9223372036854775807∧ -1≤x.2∧x.2<R.length∧xM (R.map oy) ((R.map oy).length+1) r.index r.up=xM (R.map oy) ((R.map oy).length+1) x.1 x.2) (fun x=>(x.2+1).toNat) (r.index,r.up) (aE.cons 0 rfl aE.nil) ⟨Xl.1,Wc.2,BE.1,by show r.up<_;omega,rfl⟩ ?_;rintro ⟨k,a⟩ ⟨Pd,lz,Xe,Xf,hv⟩
 dsimp only at Pd lz Xe Xf hv⊢
 refine St.seq (St.sr ?_);refine St.mv ?_;refine St.ee Ev.qV ?_;refine St.nn ?_;refine St.cond _ rfl (fun fN=> ?_) (fun fN=> ?_)
 ·try simp only[aC]at fN
  obtain⟨j,rfl⟩:∃j:Nat,a=j:=⟨a.toNat,by omega⟩
  obtain⟨q,hq⟩:=aO (show j<R.length by omega)
  have hqE:(R.map oy)[j]?=some (oy q):=by rw[List.getElem?_map,hq];rfl
  have Xm:=hU j (oy q) hqE
  replace Xm: -1≤q.up∧q.up<j:=Xm
  have il:=ni (f:=(R.map oy).length) (k:=k) (at_:=(j:Nat)) rfl hqE
  rw[←hv]at il
  have Xg:∀k:Int,xM (R.map oy) (R.map oy).length k q.up=xM (R.map oy) ((R.map oy).length+1) k q.up:=fun k=>ug hU R.length _ _ _ _ (by omega) (by omega) (by omega) (by omega)
  refine St.skip (St.aA (St.seq (St.block (St.sr ?_))));refine St.mv ?_;refine St.mv ?_;refine St.ee (Ev.aR (k:=j) (.mk rfl) (.mk rfl) kA ly (by omega) (by omega)) ?_;refine St.ee (Ev.e8 (.mk rfl) (by omega) Ds) ?_;refine St.ee (Ev.ff (.mk rfl) hq bP trivial rfl) ?_;refine St.ee Ev.ey ?_;refine St.nn ?_;refine St.cond _ rfl (fun yp=> ?_) (fun yp=> ?_)
  ·try simp only[aC]at yp
   rw[if_pos (show(oy q).kind=3 from yp)]at il;refine St.seq (St.sr ?_);refine St.mv ?_;refine St.ee Ev.ey ?_;refine St.nn ?_;refine St.cond _ rfl (fun kO=> ?_) (fun kO=> ?_)
   ·try simp only[aC]at kO
    rw[if_pos kO]at il;refine St.sr ?_;refine St.mv ?_;refine St.ak ?_;refine St.nn (St.aX (St.aB (St.aM (St.aB (St.aB (St.aM (St.aB ?_)))))));refine St.rU [_] [] Tryz.results141 ?_;exact congrArg iv il.symm
   ·try simp only[aC]at kO
    rw[if_neg kO]at il;refine St.skip (St.aA (St.rg ?_));refine St.mv ?_;refine St.ee Ev.s0 ?_;refine St.ak ?_;refine St.nil (St.aN (St.aA (St.rg ?_)));refine St.mv ?_;refine St.mv ?_;refine St.ee (Ev.aR (k:=j) (.mk rfl) (.mk rfl) kA ly (by omega) (by omega)) ?_;refine St.ee (Ev.e8 (.mk rfl) (by omega) yh) ?_;refine St.ee (Ev.ff (.mk rfl) hq bP trivial rfl) ?_;refine St.ak ?_;refine St.nn ?_;refine St.BS (k-1,q.up) ⟨by dsimp only;omega,by dsimp only;omega,Xm.1,by dsimp only;omega,by rw[il];exact Xg _⟩ (by dsimp only;omega) (by repeat(first|exact Sub.nil|refine Sub.cons (by first|rfl|exact congrArg (fun z=>some (iv z)) (by first|omega|(dsimp only;omega))|exact congrArg (fun z=>some (Value.bool z)) (by first|assumption|exact Eq.symm (by assumption))) ?_)) (fun _ hw=>hw.sub)
  ·try simp only[aC]at yp
   rw[if_neg (show ¬(oy q).kind=3 from yp)]at il;refine St.skip (St.aN (St.aA (St.rg ?_)));refine St.mv ?_;refine St.mv ?_;refine St.ee (Ev.aR (k:=j) (.mk rfl) (.mk rfl) kA ly (by omega) (by omega)) ?_;refine St.ee (Ev.e8 (.mk rfl) (by omega) yh) ?_;refine St.ee (Ev.ff (.mk rfl) hq bP trivial rfl) ?_;refine St.ak ?_;refine St.nn ?_;refine St.BS (k,q.up) ⟨Pd,lz,Xm.1,by dsimp only;omega,by rw[il];exact Xg _⟩ (by dsimp only;omega) (by repeat(first|exact Sub.nil|refine Sub.cons (by first|rfl|exact congrArg (fun z=>some (iv z)) (by first|omega|(dsimp only;omega))|exact congrArg (fun z=>some (Value.bool z)) (by first|assumption|exact Eq.symm (by assumption))) ?_)) (fun _ hw=>hw.sub)
 ·try simp only[aC]at fN
  rw[qP (at_:=a) (by omega)]at hv;refine St.exit (St.aF (St.aF (St.bH (St.aA (St.sr ?_)))));refine St.ak ?_;refine St.nn (St.aX ?_);refine St.rU [_] [] Tryz.results141 ?_;exact congrArg iv hv.symm
end Go.Proofs.YtolmidffiegkaaaGreatDoor
namespace Go.J
open Go Go.Proofs.YtolmidffiegkaaaGreatDoor
section
variable {P:Program}{n:Nat}{F:Fr}{c:Ctx}{H R:List bQ}{ty t e:TypeId}{x y:Operand}{v:Value}{Q:Exit→Act→World→Prop}{ops:Array Oper}{rest:List Oper}{d:Nat}{pos:String}{after:Array Edge}{m k:Nat}{α:Type}
theorem Ev.ac6 {Rr:Rp α}{xs:List α}{g:α}{dd:TypeDesc}{sz off:Nat}[hd:tA v H α Rr xs](hx:aL F x (eC v Rr.size k off))(hk:xs[k]?=some g)(ht:P.underlying t=some dd)(lz:(match dd with| .struct _| .array _ _=>True|_=>False))
 (hs:(P.info? t).map (·.size)=some sz) (fR:off+sz≤Rr.size) (zG:off<Rr.size):Ev P n F (Mm c H) (.load t x) ty (.agg (((Rr.cells g).drop off).take sz).toArray):= .of_run fun a w ha hw=>by
 obtain⟨ρ,hm⟩:=hw.out;obtain⟨b,o,h1,h2⟩:=xS hm hd hk (off:=off);rw[h1]at hx
 have h4:=eh (P:=P) (w:=w) (b:=b) (off:=o) (L:=((Rr.cells g).drop off).take sz) ht lz (by rw[hs,List.length_take,List.length_drop,Rr.len,Nat.min_eq_left (by omega)]) (fun j u hj=>by
  have EE:j<sz:=by
   have:=(List.getElem?_eq_some_iff.1 hj).1
   rw[List.length_take]at this;omega
  rw[List.getElem?_take,if_pos EE,List.getElem?_drop]at hj
  rw[h2 j (by omega)];exact hj)
 simp[execOp,hx.eval ha,Instr.loadAt,Instr.sureAddr,h4]
theorem St.Ma {Rr:Rp α}{g:α}{sz:Nat}(Mb:Rr.size=sz){zv:Value}{vn:Nat}{i j:Int}{kl kc:IntKind}(hx:aL F x (.int kl i))(hy:aL F y (.int kc j))(ht:P.underlying t=some (.slice e))(hs:(P.info? e).map (·.size)=some Rr.size)(hz:(P.info? e).bind (·.zero)=some zv)(hb:(P.info? e).map (·.bytes)=some vn)
 (hm:i=m) (tD:j=m) (mZ:vn*m≤281474976710656∧m≤9223372036854775807) (h1:zv.cells=(Rr.cells g).toArray) (hd:Nat.ble (d+1) n=true)
 (h:∀b,St n ((d,.slice (some ⟨b,0,none⟩) m m)::F) (Mm c (row (.slice (some ⟨b,0,none⟩) m m) e sz m (rows Rr (List.replicate m g))::H)) (wpList P ops Q rest)):
 St n F (Mm c H) (wpList P ops Q ({dst:=some d,op:= .makeSlice t x y,type:=ty,pos:=pos,after:=after,guard:=none}::rest)):=by
 subst hm tD Mb;refine St.Fj (K:=fun u H'=>∃b,u= .slice (some ⟨b,0,none⟩) m m∧H'=row (.slice (some ⟨b,0,none⟩) m m) e Rr.size m (rows Rr (List.replicate m g))::H) ?_ hd ?_
 ·intro a w ρ ha sX
  obtain⟨i,hi,fR⟩:=Option.map_eq_some_iff.1 hs;obtain⟨q1,q2,q3⟩:=n1 hs hz hb hi
  have tE:=run_make (P:=P) w t e i zv ht hi q2 kl kc m m (by omega) (by omega) (by rw[q3,←Int.natCast_mul];exact Int.ofNat_le.2 mZ.1) (by omega)
  have hlen:(rows Rr (List.replicate m g)).length=m*Rr.size:=by rw[e7,List.length_replicate]
  have tG:madeCells zv.cells (m*i.size)=(rows Rr (List.replicate m g)).toArray:=by
   rw[q1,h1]
   apply Array.ext
   ·simp[madeCells,hlen]
   ·intro k lz Fk
    have qa:k<m*Rr.size:=by simpa[madeCells]using lz
    have hp:=Rr.pos
    have hq:k/Rr.size<m:=Nat.div_lt_of_lt_mul (by rw[Nat.mul_comm];exact qa)
    have hr:k%Rr.size<Rr.size:=Nat.mod_lt _ hp
    have hg:=jv Rr (List.replicate m g) (k/Rr.size) (k%Rr.size) g (by rw[List.getElem?_replicate,if_pos hq]) hr
    have hk3:k/Rr.size*Rr.size+k%Rr.size=k:=by rw[Nat.mul_comm];exact Nat.div_add_mod k Rr.size
    rw[hk3,List.getElem?_eq_getElem (by rw[hlen];exact qa),List.getElem?_eq_getElem (by rw[Rr.len];exact hr)]at hg
    have hg:=Option.some.inj hg
    simp only[madeCells,List.getElem_toArray]
    rw[hg]
    simp[Rr.len,hr]
  simp only[Int.toNat_natCast,tG]at tE
  refine⟨.value (.slice (some ⟨w.heap.size,0,none⟩) m m),w.alloc (.cells (rows Rr (List.replicate m g)).toArray e),ρ,_,?_,⟨_,.inl rfl,_,rfl,rfl⟩,?_⟩
  ·simp[execOp,hx.eval ha,hy.eval ha,tE]
  ·refine sX.BO rfl ⟨rfl,Nat.le_refl _⟩ rfl (by simp) (fun k hk=>RowKit.Below.heap_alloc w _ k hk) (eT.2 ⟨hlen,.inr ⟨w.heap.size,m,_,rfl,Nat.zero_le _,heap_alloc_new w _,Nat.le_refl _,by unfold maxLen;omega,by simp[hlen],by rw[←hlen];simp⟩⟩) ?_
   intro b hb;rw[ek]at hb;simp[Value.ownBlock]at hb;omega
 ·rintro _ _ ⟨b,rfl,rfl⟩
  exact h b
abbrev JQ:Rp cT:=⟨2,by decide,fun x=>[sv x.base,x.av.1],fun x=>iL x.base,fun _=>rfl,fun x u h=>by
 simp only[List.mem_cons,List.not_mem_nil,or_false]at h
 rcases h with rfl|rfl
 ·rfl
 ·exact x.av.2⟩
theorem uh (g:cT):∀(l:List cT) (k:Nat),((rows JQ l).set (k*2) (sv g.base)).set (k*2+1) g.av.1=rows JQ (l.set k g)
 | [],k=>by simp[rows]
 |a::l,0=>by simp[rows]
 |a::l,k+1=>by
  have ih:=uh g l k
  simp only[rows,List.flatMap_cons,List.set_cons_succ]at ih⊢
  rw[←ih,show(k+1)*2=k*2+2 by omega];rfl
theorem St.sq {T:List cT}{g:cT}[tk:jX v H e 2 m (rows JQ T) R](hx:aL F x (eC v 2 k 0))(hy:aL F y (aQ g))(hs:(P.info? t).map (·.size)=some 2)
 (hk:k<m) (h:St n F (Mm c (row v e 2 m (rows JQ (T.set k g))::R)) (wpList P ops Q rest)):
 St n F (Mm c H) (wpList P ops Q ({dst:=none,op:= .store t x y,type:=ty,pos:=pos,after:=after,guard:=none}::rest)):=
 St.EM hx hy hs rfl g.av.2 hk (by rw[uh];exact h)
end
end Go.J
namespace Go.Proofs.YtolmidffiegkaaaGreatDoor
open Go Go.J
theorem dP.ac7 {t:dB}{m d:Nat}{up:Int}{s:dB}{c:List dY}(h:dP t m up d s c):c.length<d:=by
 induction h with
 |root=>exact Nat.zero_lt_one
 |abs h hk ha ih=>rw[List.length_append];simp only[List.length_cons,List.length_nil];omega
 |left h hk ha ih=>omega
 |right h hk ha ih=>omega
theorem uj {R:List rC}:∀(f:Nat) (k a:Int) (j:Nat),xM R f k a=j→(R.getD j Xk).kind=3
 |0,k,a,j,h=>by rw[xM]at h;omega
 |f+1,k,a,j,h=>by
  rw[xM]at h
  split at h
  ·omega
  ·split at h
   ·rename_i h1 h2
    split at h
    ·rw[h,Int.toNat_natCast]at h2;exact h2
    ·exact uj f _ _ _ h
   ·exact uj f _ _ _ h
def rF (t:dB)(T:List cT)(i:Nat):Prop:=∀(d:Nat) (up:Int) (s:dB) (c:List dY),dP t i up d s c→∃τ:cT,T[i]?=some τ∧iY s c=some (bK τ)∧gX (bK τ)∧rY (bK τ)≤201*jn s
theorem rF.ne {t:dB}{T:List cT}{i j:Nat}{τ:cT}(h:rF t T j)(fz:i≠j):rF t (T.set i τ) j:=fun d up s c hs=>by
 obtain⟨σ,h1,h2⟩:=h d up s c hs;exact⟨σ,by rw[List.getElem?_set_ne fz];exact h1,h2⟩
theorem rF.here {t:dB}{T:List cT}{i:Nat}{τ:cT}(hi:i<T.length)(h:∀(d:Nat) (up:Int) (s:dB) (c:List dY),dP t i up d s c→iY s c=some (bK τ)∧gX (bK τ)∧rY (bK τ)≤201*jn s):rF t (T.set i τ) i:=fun d up s c hs=>
 ⟨τ,List.getElem?_set_self hi,h d up s c hs⟩
theorem Dy {x:cT}(h:gX (bK x)):gh.wf x:=by
 show x.base.length≤140737488351232
 rcases h.cases with⟨hb,_⟩|⟨hb,_⟩
 ·rcases hb with hb|hb<;>rw[hb]<;>decide
 ·rw[hb];decide
theorem ss {s:dY}(h:jl s=0):gX s∧rY s≤200:=Ks h
theorem mY {t:dB}{R:List eO}(hR:R.map oy=rD t (-1) 0){i d:Nat}{up:Int}{s:dB}{c:List dY}(h:dP t i up d s c){r:eO}(hr:R[i]?=some r):r.kind=s.kind∧bK r.mq=s.type∧r.index=s.index∧r.kids=jW s.args (i+1)∧r.up=up:=by
 have h1:=h.node
 rw[←hR,List.getElem?_map,hr]at h1
 have h2:=Option.some.inj h1
 exact⟨congrArg rC.kind h2,congrArg rC.mq h2,congrArg rC.index h2,congrArg rC.kids h2,congrArg rC.up h2⟩
theorem JR {t:dB}(hg:vQ t 1 0){R:List eO}(hR:R.map oy=rD t (-1) 0){i:Nat}{r:eO}(hr:R[i]?=some r)(hk:r.kind=1){T:List cT}(hi:i<T.length):rF t (T.set i r.mq) i:= .here hi fun d up s c h=>by
 obtain⟨e1,e2,e3,e4,e5⟩:=mY hR h hr
 rcases(h.uG hg).shape with⟨q,f,_⟩|⟨q,_⟩|⟨q,_⟩|⟨q,_⟩
 ·obtain⟨f1,f2⟩:=ss f
  have:=gu s
  rw[e2];exact⟨by rw[pk,if_pos q],f1,by omega⟩
 ·omega
 ·omega
 ·omega
theorem QU {t:dB}(hg:vQ t 1 0){R:List eO}(hR:R.map oy=rD t (-1) 0){i:Nat}{r:eO}(hr:R[i]?=some r)(hk:r.kind=2)(hi:i<jn t):(0≤r.index∧bD r.index)∧∃(j:Nat) (q:eO),xM (R.map oy) ((R.map oy).length+1) r.index r.up=j∧R[j]?=some q∧∀(T:List cT),i<T.length→rF t (T.set i q.mq) i:=by
 obtain⟨d,up,s,c,h⟩:=dP.at_ hg hi;obtain⟨e1,e2,e3,e4,e5⟩:=mY hR h hr
 have Ok:=h.uG hg
 have hd:=Ok.inv.1
 have K5:=h.ac7
 rcases Ok.shape with⟨q,_⟩|⟨_,x0,x1,_⟩|⟨q,_⟩|⟨q,_⟩
 ·omega
 ·obtain⟨k,Fk⟩:∃k:Nat,s.index=k:=⟨s.index.toNat,by omega⟩
  obtain⟨j,r',c1,c2,c3⟩:=h.ctx k (by omega);rw[←hR]at c1 c2;rw[List.getElem?_map]at c2;obtain⟨q,hq,rfl⟩:=Option.map_eq_some_iff.1 c2;refine⟨⟨by omega,by unfold bD;omega⟩,j,q,by rw[e3,e5,Fk];exact c1,hq,fun T hT=> .here hT fun d' WZ s' c' h'=> ?_⟩;obtain⟨a1,a2,a3,a4,a5⟩:=mY hR h' hr
  have Rh:=h'.uG hg
  rcases Rh.shape with⟨q',_⟩|⟨p1,x0',x1',_⟩|⟨q',_⟩|⟨q',_⟩
  ·omega
  ·obtain⟨j',r'',c1',c2',c3'⟩:=h'.ctx k (by omega)
   rw[←hR]at c1' c2';rw[show WZ=up by rw[←a5,←e5],c1]at c1'
   have hjj:j=j':=by omega
   subst hjj;rw[List.getElem?_map,hq]at c2'
   have Tb:oy q=r'':=Option.some.inj c2'
   have Wd:(oy q).kind=3:=by
    have:=uj _ _ _ _ c1
    rw[List.getD_eq_getElem?_getD,List.getElem?_map,hq]at this;exact this
   have EE:j<jn t:=by
    have h1:=cL hq
    have h2:=congrArg List.length hR
    rw[List.length_map,mX]at h2;omega
   obtain⟨d2,up2,s2,cc2,h2⟩:=dP.at_ hg EE;obtain⟨b1,b2,_,_,_⟩:=mY hR h2 hq
   have hk3:s2.kind=3:=by rw[←b1];exact Wd
   rcases(h2.uG hg).shape with⟨z,_⟩|⟨z,_⟩|⟨_,f,_⟩|⟨z,_⟩
   ·omega
   ·omega
   ·obtain⟨f1,f2⟩:=ss f
    have:=gu s'
    refine⟨?_,by rw[b2];exact f1,by rw[b2];omega⟩
    rw[pk,if_neg (by omega),if_pos p1,show s'.index=s.index by rw[←a3,←e3],Fk,Int.toNat_natCast,c3',←Tb];rfl
   ·omega
  ·omega
  ·omega
 ·omega
 ·omega
theorem QV {t:dB}(hg:vQ t 1 0){R:List eO}(hR:R.map oy=rD t (-1) 0){i:Nat}{r:eO}(hr:R[i]?=some r)(hk:r.kind=3)(hi:i<jn t){T:List cT}(hT:∀j,i<j→j<jn t→rF t T j):∃τ:cT,r.kids=[((i+1:Nat):Int)]∧T[i+1]?=some τ∧gX (bK τ)∧gX (bK r.mq)∧∀w:cT,bK w= .mk [] [bK r.mq,bK τ]→i<T.length→rF t (T.set i w) i:=by
 obtain⟨d,up,s,c,h⟩:=dP.at_ hg hi;obtain⟨e1,e2,e3,e4,e5⟩:=mY hR h hr
 rcases(h.uG hg).shape with⟨q,_⟩|⟨q,_⟩|⟨q,f,x,ha⟩|⟨q,_⟩
 ·omega
 ·omega
 ·have hc:=dP.abs h q ha
  have RQ:=hc.fits
  have hp:=gu x
  obtain⟨τ,t1,t2,t3,t4⟩:=hT (i+1) (by omega) (by omega) _ _ _ _ hc;obtain⟨f1,f2⟩:=ss f;refine⟨τ,by rw[e4,ha];rfl,t1,t3,by rw[e2];exact f1,fun w hw hl=> .here hl fun d' WZ s' c' h'=> ?_⟩;obtain⟨a1,a2,a3,a4,a5⟩:=mY hR h' hr
  rcases(h'.uG hg).shape with⟨q',_⟩|⟨q',_⟩|⟨q',f',x',Fq⟩|⟨q',_⟩
  ·omega
  ·omega
  ·have hc':=dP.abs h' q' Fq
   have adP:=hc'.fits
   have Xc:=gu x'
   obtain⟨τ',t1',t2',t3',t4'⟩:=hT (i+1) (by omega) (by omega) _ _ _ _ hc';rw[t1]at t1'
   cases t1'
   rw[hw];refine⟨by rw[Av q' Fq,t2',a2];rfl,.fn (by rw[e2];exact f1) t3,?_⟩;obtain⟨g1,g2⟩:=ss f';rw[ue s',Fq,dT,dT,a2]
   simp only[rY,yA]
   omega
  ·omega
 ·omega
theorem Mc {x p q:cT}(h:gX (bK x))(ha:x.args=[p,q]):gX (bK p)∧gX (bK q)∧rY (bK p)≤rY (bK x):=by
 obtain⟨b,v,l⟩:=x;rw[j8]at h⊢
 have ha:l=[p,q]:=ha
 subst ha
 cases h with
 |fn h1 h2=>exact⟨h1,h2,by simp only[List.map_cons,List.map_nil,rY,yA];omega⟩
theorem yq {x:cT}{n:Nat}(h:gX (bK x))(hb:x.base=sE∨x.base=sT)(hl:x.args.length=n+1):False:=by
 obtain⟨b,v,l⟩:=x;rw[j8]at h
 have hb:b=sE∨b=sT:=hb
 have hl:l.length=n+1:=hl
 cases l with
 |nil=>cases hl
 |cons a l=>
  cases l with
  |nil=>cases h
  |cons a' l=>
   cases l with
   |nil=>
    cases h
    rcases hb with hb|hb<;>cases hb
   |cons=>cases h
theorem QW {t:dB}(hg:vQ t 1 0){R:List eO}(hR:R.map oy=rD t (-1) 0){i:Nat}{r:eO}(hr:R[i]?=some r)(hk:r.kind=4)(hi:i<jn t)(afE:jn t≤200){T:List cT}(hT:∀j,i<j→j<jn t→rF t T j):∃(m:Nat) (τ σ:cT),r.kids=[((i+1:Nat):Int),((m:Nat):Int)]∧i<m∧m<jn t∧T[i+1]?=some τ∧T[m]?=some σ∧gX (bK τ)∧gX (bK σ)∧rY (bK τ)≤1000000∧rY (bK σ)≤1000000∧
 ((¬∃p q,(bK τ).args=[p,q]∧fp p (bK σ)=true)→iY t []=none)∧∀p q:cT,τ.args=[p,q]→fp (bK p) (bK σ)=true→i<T.length→rF t (T.set i q) i:=by
 obtain⟨d,up,s,c,h⟩:=dP.at_ hg hi;obtain⟨e1,e2,e3,e4,e5⟩:=mY hR h hr
 rcases(h.uG hg).shape with⟨q,_⟩|⟨q,_⟩|⟨q,_⟩|⟨q,x,y,ha⟩
 ·omega
 ·omega
 ·omega
 ·have hl:=dP.left h q ha
  have hrr:=dP.right h q ha
  have hf1:=hl.fits
  have hf2:=hrr.fits
  have hp1:=gu x
  have Jo:=gu y
  obtain⟨τ,t1,t2,t3,t4⟩:=hT (i+1) (by omega) (by omega) _ _ _ _ hl;obtain⟨σ,u1,u2,u3,u4⟩:=hT (i+1+jn x) (by omega) (by omega) _ _ _ _ hrr;refine⟨i+1+jn x,τ,σ,by rw[e4,ha];rfl,by omega,by omega,t1,u1,t3,u3,?_,?_,fun ma=>h.none ?_,fun p z hpz hs hT'=> .here hT' fun d' WZ s' c' h'=> ?_⟩
  ·omega
  ·omega
  ·rw[qQ q ha,t2,u2]
   exact wM _ _ fun s0 l0 x0 a b c0=>by
    cases a;cases c0
    rintro ⟨p,z,TW,Oj⟩;exact ma ⟨p,z,b.trans TW,Oj⟩
  ·obtain⟨a1,a2,a3,a4,a5⟩:=mY hR h' hr
   rcases(h'.uG hg).shape with⟨q',_⟩|⟨q',_⟩|⟨q',_⟩|⟨q',x',y',Fq⟩
   ·omega
   ·omega
   ·omega
   ·have hl':=dP.left h' q' Fq
    have Cz:=dP.right h' q' Fq
    have afF:=hl'.fits
    have afG:=Cz.fits
    have PE:=gu x'
    have Sj:=gu y'
    have hxx:jn x'=jn x:=by
     have lz:jW s.args (i+1)=jW s'.args (i+1):=by rw[←e4,←a4]
     rw[ha,Fq]at lz
     simp only[jW,List.cons.injEq,and_true,true_and]at lz
     omega
    obtain⟨τ',v1,v2,v3,v4⟩:=hT (i+1) (by omega) (by omega) _ _ _ _ hl';obtain⟨σ',w1,w2,w3,w4⟩:=hT (i+1+jn x') (by omega) (by omega) _ _ _ _ Cz
    rw[t1]at v1;cases v1
    rw[hxx,u1]at w1;cases w1
    have PW:(bK τ).args=[bK p,bK z]:=by rw[dG,hpz];rfl
    have pP:gX (bK z)∧rY (bK z)≤rY (bK τ):=by
     rcases t3.cases with⟨_,_⟩|⟨_,a,b,sU,ka,kb,_,ks⟩
     ·rename_i hb _
      exfalso
      obtain⟨bs,av,args⟩:=τ;rw[j8]at t3
      have:args=[p,z]:=hpz
      subst this
      rcases hb with hb|hb
      ·have hb:bs=sE:=hb
       subst hb;cases t3
      ·have hb:bs=sT:=hb
       subst hb;cases t3
     ·rw[hpz]at sU
      simp only[List.cons.injEq,and_true]at sU
      obtain⟨rfl,rfl⟩:=sU;exact⟨kb,by omega⟩
    refine⟨by rw[qQ q' Fq,v2,w2];exact wN PW hs,pP.1,?_⟩
    have oT:=pP.2
    rw[ue s',Fq,dT,dT,dT];omega
set_option maxHeartbeats 8000000 in
theorem Ay (t:cF)(qY:cG.wf t)(hg:vQ (ax t) 1 0)(fR:jn (ax t)≤200):fF Tryz.prog 125 #[bb t] ([bO t].map aG) (fun v H'=>∃z:cT,v= .tuple #[aQ z,.bool (iY (ax t) []).isSome]∧H'=[]):=by
 refine fF.body (args:=[bb t]) 107 Tryz.func125 rfl Tryz.ntmps125 rfl (fun c=> ?_);refine St.cast (H':=[aG (bO t)]) rfl ?_;refine St.sr ?_;refine St.cV (.mk rfl) rfl (fun b1=> ?_);refine St.alloc iP rfl (fun b2=> ?_);refine St.ak ?_;refine St.nn (St.seq ?_);refine St.dup (bO t) ?_;refine St.jw 219 7 ?_;refine St.bB (.slice none 0 0) (show _=([]:List eO).length from rfl) (show _=rows vH []from rfl) ?_;refine St.rg ?_;refine St.ee (Ev.bF (.mk rfl) fO trivial (by exact dC)) ?_;refine St.call (FU t (-1) [] (.slice none 0 0) rfl qY (by show 0+_≤_;omega)) OD (.cons (.mk rfl) (.cons (.mk rfl) (.cons (.mk rfl) .nil))) rfl ?_;rintro v11 _ ⟨R,afH,hR,rfl⟩;refine St.cb ?_
 replace hR:R.map oy=rD (ax t) (-1) 0:=hR
 have TY:R.length=jn (ax t):=by have:=congrArg List.length hR;rwa[List.length_map,mX]at this
 have mD:=gu (ax t)
 have hU:FT (R.map oy):=by rw[hR];exact Au _
 refine St.aV v11 vH R rfl rfl (fun _ _=>trivial) ?_;refine St.ak ?_;refine St.nn (St.sr ?_);refine St.mv ?_;refine St.ee (Ev.ao (.mk rfl) kA) ?_;refine St.Ma (Rr:=JQ) (g:=gW) (m:=R.length) (sz:=2) rfl (.mk rfl) (.mk rfl) dM bC EW SM rfl rfl (by omega) rfl rfl (fun oU=> ?_);refine St.hY gh ?_;refine St.da bW ?_;refine St.mb [] (.slice none 0 0) rfl [] ?_;refine St.gQ (aY bW (List.replicate R.length gW)) [bW gW] (fun ρ h z hz=>by rw[List.eq_of_mem_replicate hz];exact h _ (List.mem_cons_self ..)) ?_;refine St.ak ?_;refine St.nn (St.seq (St.sr ?_));refine St.mv ?_;refine St.ee (Ev.ao (.mk rfl) kA) ?_;refine St.ee Ev.s0 ?_;refine St.ak ?_;refine St.nn (St.block ?_);refine St.mf (ι:=Nat) (κ:=List cT) (fun j T T=>(6,iv ((j:Nat)-1:Int))::T) (fun j T=>[row (.slice (some ⟨oU,0,none⟩) R.length R.length) 88 2 R.length (rows JQ (T)),aG (aY bW (T)),ae b1 (.cells [iv t.kind,sv t.name,iv t.index,sv t.type.base,t.type.av.1,t.av.1].toArray 91 (0,0)),ae b2 (.cells [sv [],(.slice none 0 0)].toArray 88 (0,0)),aG (sl vH v11 R),aG (aY z8 R),aG (bO t)]) (fun j T=>j≤R.length∧T.length=R.length∧∀k,j≤k→k<jn (ax t)→rF (ax t) T k) (fun j T=>j) R.length (List.replicate R.length gW) (aE.cons 2 rfl (aE.cons 4 rfl (aE.cons 5 rfl aE.nil))) ⟨Nat.le_refl _,List.length_replicate,fun k h1 h2=>absurd h2 (by omega)⟩ ?_;rintro j T ⟨hj,sO,hT⟩;refine St.seq (St.sr ?_);refine St.mv ?_;refine St.ee Ev.qV ?_;refine St.nn ?_;refine St.cond _ rfl (fun gY=> ?_) (fun gY=> ?_)
 ·try simp only[aC]at gY
  obtain⟨i,rfl⟩:∃i,j=i+1:=⟨j-1,by omega⟩
  obtain⟨r,hr⟩:=aO (show i<R.length by omega);refine St.cD z8 R (x:=r) (List.mem_of_getElem? hr) ?_;refine St.gQ (bW r.mq) [z8 r] (fun ρ h=>(h _ (List.mem_cons_self ..)).1) ?_;refine St.gQ (sl aK r.kv.1 r.kids) [z8 r] (fun ρ h=>(h _ (List.mem_cons_self ..)).2) ?_
  have Xn:i<jn (ax t):=by omega
  have hTi:∀k,i<k→k<jn (ax t)→rF (ax t) T k:=fun k h1 h2=>hT k (by omega) h2
  refine St.skip (St.aA (St.seq (St.block (St.sr ?_))));refine St.mv ?_;refine St.mv ?_;refine St.ee (Ev.aR (k:=i) (.mk rfl) (.mk rfl) kA ly (by omega) (by omega)) ?_;refine St.ee (Ev.fg (.mk rfl) hr Tryz.underlying219 trivial ly ei.eq) ?_;refine St.slot 25 (.agg [iv r.kind,sv r.name,sv r.mq.base,r.mq.av.1,iv r.index,r.kv.1,iv r.up].toArray) rfl rfl ?_;refine St.alloc OB rfl (fun b7=> ?_);refine St.sA (.mk rfl) (.mk rfl) ly ?_ (h1:=(by simp only[List.all_cons,List.all_nil,Bool.and_true,Bool.and_eq_true];exact⟨rfl,rfl,rfl,r.mq.av.2,rfl,r.kv.2,rfl⟩));refine St.nn (St.sr ?_);refine St.ee (Ev.aD (.mk rfl) Ds) ?_;refine St.ee (Ev.l0 (.mk rfl) bP) ?_;refine St.nn (St.block (St.sr ?_));refine St.ee Ev.ey ?_;refine St.ak ?_;refine St.nn ?_;refine St.cond _ rfl (fun qX=> ?_) (fun qX=> ?_)
  ·try simp only[aC]at qX
   have vM:=fun(hl:i<T.length)=>JR hg hR hr qX hl
   refine St.rg ?_;refine St.mv ?_;refine St.mv ?_;refine St.ee (Ev.aD (.mk rfl) yi) ?_;refine St.ee (Ev.iI 2 (.mk rfl) bX trivial bC rfl rfl) ?_;refine St.slot 33 (aQ r.mq) rfl rfl ?_;refine St.ee (Ev.jL (k:=i) rfl (.mk rfl) (.mk rfl) dM bC (by omega) (by omega)) ?_;refine St.sq (g:=r.mq) (.mk rfl) (.mk rfl) bC (by omega) ?_;refine St.gQ (aY bW (T.set i r.mq)) [aY bW T,bW r.mq] (fun ρ h z hz=>by rcases List.mem_or_eq_of_mem_set hz with hz|rfl;exact(show(aY bW T).f ρ from h _ (by simp)) z hz;exact h _ (by simp)) ?_;refine St.nil (St.aN (St.aN (St.aA (St.rg ?_))));refine St.mv ?_;refine St.ee Ev.s0 ?_;refine St.ak ?_;refine St.nn ?_;refine St.slot 6 (iv ((i:Nat)-1:Int)) rfl (congrArg iv (by omega)) ?_;refine St.jb i (T.set i r.mq) ⟨by omega,by rw[List.length_set];exact sO,fun k h1 h2=>by rcases Nat.lt_or_ge i k with h|h;exact(hT k (by omega) h2).ne (by omega);rw[show k=i by omega];exact vM (by omega)⟩
  ·try simp only[aC]at qX
   refine St.sr ?_;refine St.ee Ev.ey ?_;refine St.ak ?_;refine St.nn ?_;refine St.cond _ rfl (fun z7=> ?_) (fun z7=> ?_)
   ·try simp only[aC]at z7
    obtain⟨Xl,bj,q,N6,hq,vM⟩:=QU hg hR hr z7 Xn;refine St.cD z8 R (x:=q) (List.mem_of_getElem? hq) ?_;refine St.gQ (bW q.mq) [z8 q] (fun ρ h=>(h _ (List.mem_cons_self ..)).1) ?_
    have hbl:=cL hq
    have hii:((i+1:Nat):Int)-1=(i:Nat):=by omega
    refine St.slot 6 (iv ((i:Nat):Int)) rfl (congrArg iv hii) ?_;refine St.rg ?_;refine St.mv ?_;refine St.mv ?_;refine St.mv ?_;refine St.mv ?_;refine St.mv ?_;refine St.ee (Ev.call (Ax v11 R hU (by omega) i r hr Xl) WA (.cons (.mk rfl) (.cons (.mk rfl) .nil))) ?_;refine St.slot 42 (iv ((bj:Nat):Int)) rfl (congrArg iv N6) ?_;refine St.ee (Ev.aR (k:=bj) (.mk rfl) (.mk rfl) kA ly (by omega) (by omega)) ?_;refine St.ee (Ev.e8 (.mk rfl) (by omega) yi) ?_;refine St.ee (Ev.ac6 (Rr:=vH) (sz:=2) (off:=2) (.mk rfl) hq bX trivial bC (by decide) (by decide)) ?_;refine St.slot 45 (aQ q.mq) rfl rfl ?_;refine St.ee (Ev.jL (k:=i) rfl (.mk rfl) (.mk rfl) dM bC (by omega) (by omega)) ?_;refine St.sq (g:=q.mq) (.mk rfl) (.mk rfl) bC (by omega) ?_;refine St.gQ (aY bW (T.set i q.mq)) [aY bW T,bW q.mq] (fun ρ h z hz=>by rcases List.mem_or_eq_of_mem_set hz with hz|rfl;exact(show(aY bW T).f ρ from h _ (by simp)) z hz;exact h _ (by simp)) ?_;refine St.nil (St.aN (St.aN (St.aA (St.rg ?_))));refine St.mv ?_;refine St.ee Ev.s0 ?_;refine St.ak ?_;refine St.nn ?_;refine St.slot 6 (iv ((i:Nat)-1:Int)) rfl (congrArg iv (by omega)) ?_;refine St.jb i (T.set i q.mq) ⟨by omega,by rw[List.length_set];exact sO,fun k h1 h2=>by rcases Nat.lt_or_ge i k with h|h;exact(hT k (by omega) h2).ne (by omega);rw[show k=i by omega];exact vM T (by omega)⟩
   ·try simp only[aC]at z7
    refine St.sr ?_;refine St.ee Ev.ey ?_;refine St.ak ?_;refine St.nn ?_;refine St.cond _ rfl (fun NZ=> ?_) (fun NZ=> ?_)
    ·try simp only[aC]at NZ
     obtain⟨τ,FV,Md,RE,hr3,vM⟩:=QV hg hR hr NZ Xn hTi;refine St.cD bW T (x:=τ) (List.mem_of_getElem? Md) ?_;refine St.zW r.mq (aQ r.mq) rfl rfl (Dy hr3) ?_;refine St.zW τ (aQ τ) rfl rfl (Dy RE) ?_
     have ac8:=cL Md
     refine St.eV [row (.slice (some ⟨oU,0,none⟩) R.length R.length) 88 2 R.length (rows JQ (T))] mixed (fun np ns=> ?_);refine SW.dd 0 rfl (fun _=>Ev.move (.mk rfl)) ?_;refine SW.dd 1 rfl (fun _=>Ev.move (.mk rfl)) ?_;refine SW.dd 2 rfl (fun _=>Ev.aD (.mk rfl) yi) ?_;refine SW.dd 3 rfl (fun _=>Ev.iI 2 (.mk rfl) bX trivial bC rfl rfl) ?_;refine SW.slot 52 (aQ r.mq) rfl rfl ?_;refine SW.dd 4 rfl (fun _=>Ev.move (.mk rfl)) ?_;refine SW.dd 5 rfl (fun _=>Ev.aD (.mk rfl) qJ) ?_;refine SW.dd 6 rfl (fun _=>Ev.cN (.mk rfl) bE trivial (by rfl)) ?_;refine SW.dd 7 rfl (fun _=>Ev.aR (k:=0) (.mk rfl) (.mk rfl) bE cr rfl (by rw[FV];simp)) ?_;refine SW.dd 8 rfl (fun _=>Ev.ff (.mk rfl) (show r.kids[0]?=some ((i+1:Nat):Int) by rw[FV];rfl) bP trivial rfl) ?_;refine SW.dd 9 rfl (fun _=>Ev.jL (k:=(i+1)) rfl (.mk rfl) (.mk rfl) dM bC (by omega) (by omega)) ?_;refine SW.bG (i:=10) (by kernel_rfl) rfl ?_;refine St.ee (Ev.rB (R:=JQ) (l:=T) (g:=τ) (.mk rfl) Md bX trivial bC (by omega)) ?_;refine St.slot 59 (aQ τ) rfl rfl ?_;refine St.nn ?_;refine SW.go ?_;refine SW.bG (i:=11) (by kernel_rfl) rfl ?_;refine St.aw (ML (aQ r.mq) (aQ τ) (bK r.mq) (bK τ)) WB (.cons (.mk rfl) (.cons (.mk rfl) .nil)) rfl ?_;rintro v60 _ rfl;refine St.bL ?_;refine St.au (.mk [] [bK r.mq,bK τ]) v60 (fun w hw=> ?_);obtain⟨AP,hwE,Wz⟩:=hw;subst AP;refine St.nn ?_;refine SW.go ?_;refine SW.dd 12 rfl (fun _=>Ev.jL (k:=i) rfl (.mk rfl) (.mk rfl) dM bC (by omega) (by omega)) ?_;refine SW.bG (i:=13) (by kernel_rfl) rfl ?_;refine St.sq (g:=w) (.mk rfl) (.mk rfl) bC (by omega) ?_;refine St.gQ (aY bW (T.set i w)) [aY bW T,bW w] (fun ρ h z hz=>by rcases List.mem_or_eq_of_mem_set hz with hz|rfl;exact(show(aY bW T).f ρ from h _ (by simp)) z hz;exact h _ (by simp)) ?_;refine St.nn ?_;refine SW.go ?_;refine SW.done (by kernel_rfl) ?_;refine St.aN (St.aN (St.aA (St.rg ?_)));refine St.mv ?_;refine St.ee Ev.s0 ?_;refine St.ak ?_;refine St.nn ?_;refine St.slot 6 (iv ((i:Nat)-1:Int)) rfl (congrArg iv (by omega)) ?_;refine St.jb i (T.set i w) ⟨by omega,by rw[List.length_set];exact sO,fun k h1 h2=>by rcases Nat.lt_or_ge i k with h|h;exact(hT k (by omega) h2).ne (by omega);rw[show k=i by omega];exact vM w hwE (by omega)⟩
    ·try simp only[aC]at NZ
     refine St.sr ?_;refine St.ee Ev.ey ?_;refine St.ak ?_;refine St.nn ?_;refine St.cond _ rfl (fun oB=> ?_) (fun oB=> ?_)
     ·try simp only[aC]at oB
      obtain⟨m,τ,σ,FV,B8,tD,Md,hs1,RE,hs3,Js,yy,OH,vM⟩:=QW hg hR hr oB Xn fR hTi;refine St.cD bW T (x:=τ) (List.mem_of_getElem? Md) ?_;refine St.cD bW T (x:=σ) (List.mem_of_getElem? hs1) ?_;refine St.jk τ ?_
      have ac8:=cL Md
      have Ow:=cL hs1
      obtain⟨p,hp⟩:∃p,p=τ.args.getD 0 gW:=⟨_,rfl⟩
      obtain⟨q,hq⟩:∃q,q=τ.args.getD 1 gW:=⟨_,rfl⟩
      refine St.hY gh ?_;refine St.da bW ?_;refine St.mb [] (.slice none 0 0) rfl [] ?_;refine St.gQ (bW p) [aY bW τ.args,bW gW] (fun ρ h=>by rw[hp,List.getD_eq_getElem?_getD];cases e:τ.args[0]? with|none=>exact h (bW gW) (by simp)|some x=>exact(show(aY bW τ.args).f ρ from h _ (by simp)) x (List.mem_of_getElem? e)) ?_;refine St.gQ (bW q) [aY bW τ.args,bW gW] (fun ρ h=>by rw[hq,List.getD_eq_getElem?_getD];cases e:τ.args[1]? with|none=>exact h (bW gW) (by simp)|some x=>exact(show(aY bW τ.args).f ρ from h _ (by simp)) x (List.mem_of_getElem? e)) ?_;refine St.seq ?_;refine St.zM [] mixed (fun np ns=> ?_);refine SW.dd 0 rfl (fun _=>Ev.move (.mk rfl)) ?_;refine SW.dd 1 rfl (fun _=>Ev.aD (.mk rfl) qJ) ?_;refine SW.dd 2 rfl (fun _=>Ev.cN (.mk rfl) bE trivial (by rfl)) ?_;refine SW.dd 3 rfl (fun _=>Ev.aR (k:=0) (.mk rfl) (.mk rfl) bE cr rfl (by rw[FV];simp)) ?_;refine SW.dd 4 rfl (fun _=>Ev.ff (.mk rfl) (show r.kids[0]?=some ((i+1:Nat):Int) by rw[FV];rfl) bP trivial rfl) ?_;refine SW.dd 5 rfl (fun _=>Ev.jL (k:=(i+1)) rfl (.mk rfl) (.mk rfl) dM bC (by omega) (by omega)) ?_;refine SW.dd 6 rfl (fun _=>Ev.rB (R:=JQ) (l:=T) (g:=τ) (.mk rfl) Md bX trivial bC (by omega)) ?_;refine SW.slot 70 (aQ τ) rfl rfl ?_;refine SW.dd 7 rfl (fun _=>Ev.move (.mk rfl)) ?_;refine SW.dd 8 rfl (fun _=>Ev.aD (.mk rfl) qJ) ?_;refine SW.dd 9 rfl (fun _=>Ev.cN (.mk rfl) bE trivial (by rfl)) ?_;refine SW.dd 10 rfl (fun _=>Ev.aR (k:=1) (.mk rfl) (.mk rfl) bE cr rfl (by rw[FV];simp)) ?_;refine SW.dd 11 rfl (fun _=>Ev.ff (.mk rfl) (show r.kids[1]?=some ((m:Nat):Int) by rw[FV];rfl) bP trivial rfl) ?_;refine SW.dd 12 rfl (fun _=>Ev.jL (k:=m) rfl (.mk rfl) (.mk rfl) dM bC (by omega) (by omega)) ?_;refine SW.dd 13 rfl (fun _=>Ev.rB (R:=JQ) (l:=T) (g:=σ) (.mk rfl) hs1 bX trivial bC (by omega)) ?_;refine SW.slot 77 (aQ σ) rfl rfl ?_;refine SW.Oa 14 15 (by kernel_rfl) rfl rfl (by kernel_rfl) (by kernel_rfl) iP iP rfl rfl rfl (fun b8 b9=> ?_);refine SW.bG (i:=16) (by kernel_rfl) rfl ?_;refine St.sA (.mk rfl) (.mk rfl) bC ?_ (h1:=(by simp only[List.all_cons,List.all_nil,Bool.and_true,Bool.and_eq_true];exact⟨rfl,τ.av.2⟩));refine St.nn ?_;refine SW.go ?_;refine SW.bG (i:=17) (by kernel_rfl) rfl ?_;refine St.sA (.mk rfl) (.mk rfl) bC ?_ (h1:=(by simp only[List.all_cons,List.all_nil,Bool.and_true,Bool.and_eq_true];exact⟨rfl,σ.av.2⟩));refine St.nn ?_;refine SW.go ?_;refine SW.done (by kernel_rfl) ?_;refine St.aA (St.seq (St.seq ?_));refine St.zM [] mixed (fun np ns=> ?_);refine SW.dd 0 rfl (fun _=>Ev.aD (.mk rfl) j2) ?_;refine SW.dd 1 rfl (fun _=>Ev.cN (.mk rfl) df trivial (by rfl)) ?_;refine SW.dd 2 rfl (fun _=>Ev.oa (.mk rfl) (.mk rfl)) ?_;refine SW.dd 3 rfl (fun _=>Ev.move (.mk rfl)) ?_;refine SW.gf 4 _ np ns rfl rfl rfl (fun R hg=>Ev.aD (.mk rfl) ef) (by kernel_rfl) rfl ?_;refine SW.gf 5 _ np ns rfl rfl rfl (fun R hg=>Ev.cN (aL.gv rfl hg) dM trivial (by rfl)) (by kernel_rfl) rfl ?_;refine SW.gf 6 _ np ns rfl rfl rfl (fun R hg=>Ev.ao (aL.gv rfl hg) dM) (by kernel_rfl) rfl ?_;refine SW.gf 7 _ np ns rfl rfl rfl (fun R hg=>Ev.neq (aL.gv rfl hg) (.mk rfl)) (by kernel_rfl) rfl ?_;refine SW.dd 8 rfl (fun _=>Ev.o0) ?_;refine SW.dd 9 rfl (fun _=>Ev.move (.mk rfl)) ?_;refine SW.split 87 _ rfl (fun yH=> ?_) (fun yH=> ?_)
      ·simp only[aC]at yH
       have ma:iY (ax t) []=none:=OH (by rintro ⟨p,q,yI,_⟩;rcases RE.cases with⟨hb,_⟩|⟨hb,a,b,sU,_⟩;rw[dG]at yI;have hl:=congrArg List.length yI;rw[List.length_map]at hl;(have:=RE;exact yq RE hb hl);rcases yH with h|h;exact h hb;exact h (by rw[sU];rfl))
       refine SW.gf 10 undef np ns rfl rfl rfl (fun R hg=>by cases hg) (by kernel_rfl) rfl ?_;refine SW.slot 88 undef rfl (ag rfl _) ?_;refine SW.gf 11 undef np ns rfl rfl rfl (fun R hg=>by cases hg) (by kernel_rfl) rfl ?_;refine SW.slot 89 undef rfl (ag rfl _) ?_;refine SW.gf 12 undef np ns rfl rfl rfl (fun R hg=>by cases hg) (by kernel_rfl) rfl ?_;refine SW.slot 90 undef rfl (ag rfl _) ?_;refine SW.gf 13 undef np ns rfl rfl rfl (fun R hg=>by cases hg) (by kernel_rfl) rfl ?_;refine SW.slot 91 undef rfl (ag rfl _) ?_;refine SW.gf 14 undef np ns rfl rfl rfl (fun R hg=>by cases hg) (by kernel_rfl) rfl ?_;refine SW.slot 92 undef rfl (ag rfl _) ?_;refine SW.gf 15 undef np ns rfl rfl rfl (fun R hg=>by cases hg) (by kernel_rfl) rfl ?_;refine SW.slot 93 undef rfl (ag rfl _) ?_;refine SW.gf 16 undef np ns rfl rfl rfl (fun R hg=>by cases hg) (by kernel_rfl) rfl ?_;refine SW.slot 94 undef rfl (ag rfl _) ?_;refine SW.dd 17 rfl (fun _=>Ev.fB (.mk rfl) rfl (.mk rfl)) ?_;refine SW.done (by kernel_rfl) ?_;refine St.aA ?_;refine St.Mn _ rfl rfl ?_;refine St.sr ?_;refine St.ee (Ev.build (ps:=[]) (aU.nil) (fun w=>qp w)) ?_;refine St.sA (.mk rfl) (.mk rfl) bC ?_;refine St.ak ?_;refine St.nn (St.aX (St.aB (St.aM (St.aM (St.aB (St.aB (St.aM (St.aB ?_))))))));refine St.rT [_,_] [] Tryz.results125 ⟨⟨_,_,_,_,rfl,ju.mem,.inl ⟨⟨_,bX⟩,bC,rfl⟩⟩,⟨rfl,trivial⟩⟩ ?_;exact⟨gW,by rw[ma];rfl,rfl⟩
      ·simp only[aC]at yH
       have yI:τ.args=[p,q]:=by obtain⟨a,b,sU⟩:=nM (show τ.args.length=2 by omega);rw[hp,hq,sU];rfl
       have ac9:=Mc RE yI
       refine SW.gf 10 _ np ns rfl rfl rfl (fun R _=>Ev.aD (.mk rfl) ef) (by kernel_rfl) rfl ?_;refine SW.slot 88 _ rfl (bM rfl _) ?_;refine SW.gf 11 _ np ns rfl rfl rfl (fun R _=>Ev.cN (.mk rfl) dM trivial (by rfl)) (by kernel_rfl) rfl ?_;refine SW.slot 89 _ rfl (bM rfl _) ?_;refine SW.gf 12 _ np ns rfl rfl rfl (fun R _=>Ev.aR (k:=0) (.mk rfl) (.mk rfl) dM bC (by omega) (by rw[yI];simp)) (by kernel_rfl) rfl ?_;refine SW.slot 90 _ rfl (bM rfl _) ?_;refine SW.gf 13 _ np ns rfl rfl rfl (fun R _=>Ev.fg (.mk rfl) (show τ.args[0]?=some p by rw[yI];rfl) bX trivial bC ei.eq) (by kernel_rfl) rfl ?_;refine SW.slot 91 _ rfl (bM rfl _) ?_;refine SW.gf 14 _ np ns rfl rfl rfl (fun R _=>Ev.bF (.mk rfl) bX trivial (by exact bC)) (by kernel_rfl) rfl ?_;refine SW.slot 92 _ rfl (bM rfl _) ?_;refine SW.gf 15 _ np ns rfl rfl rfl (fun R _=>Ev.call (Cf p σ ac9.1 hs3 (by omega) (by omega)) WC (.cons (.mk rfl) (.cons (.mk rfl) .nil))) (by kernel_rfl) rfl ?_;refine SW.slot 93 _ rfl (bM rfl _) ?_;refine SW.gf 16 _ np ns rfl rfl rfl (fun R _=>Ev.not (.mk rfl)) (by kernel_rfl) rfl ?_;refine SW.slot 94 _ rfl (bM rfl _) ?_;refine SW.dd 17 rfl (fun _=>Ev.oc (.mk rfl) rfl (.mk rfl)) ?_;refine SW.done (by kernel_rfl) ?_;refine St.aA ?_;refine St.cond _ rfl (fun qu=> ?_) (fun qu=> ?_)
       ·try simp only[aC]at qu
        have ma:iY (ax t) []=none:=OH (by rintro ⟨p2,q2,QX,Xo⟩;rw[dG,yI]at QX;simp only[List.map_cons,List.map_nil,List.cons.injEq,and_true]at QX;rw[←QX.1]at Xo;rw[Xo]at qu;cases qu)
        refine St.sr ?_;refine St.ee (Ev.build (ps:=[]) (aU.nil) (fun w=>qp w)) ?_;refine St.sA (.mk rfl) (.mk rfl) bC ?_;refine St.ak ?_;refine St.nn (St.aX (St.aB (St.aM (St.aM (St.aB (St.aB (St.aM (St.aB ?_))))))));refine St.rT [_,_] [] Tryz.results125 ⟨⟨_,_,_,_,rfl,ju.mem,.inl ⟨⟨_,bX⟩,bC,rfl⟩⟩,⟨rfl,trivial⟩⟩ ?_;exact⟨gW,by rw[ma];rfl,rfl⟩
       ·try simp only[aC]at qu
        have Xo:fp (bK p) (bK σ)=true:=by simpa using qu
        have adA:=vM p q yI Xo
        refine St.skip (St.aA (St.rg ?_));refine St.mv ?_;refine St.mv ?_;refine St.ee (Ev.aD (.mk rfl) ef) ?_;refine St.ee (Ev.l0 (.mk rfl) dM) ?_;refine St.ee (Ev.aR (k:=1) (.mk rfl) (.mk rfl) dM bC (by omega) (by rw[yI];simp)) ?_;refine St.ee (Ev.fg (.mk rfl) (show τ.args[1]?=some q by rw[yI];rfl) bX trivial bC ei.eq) ?_;refine St.ee (Ev.jL (k:=i) rfl (.mk rfl) (.mk rfl) dM bC (by omega) (by omega)) ?_;refine St.sq (g:=q) (.mk rfl) (.mk rfl) bC (by omega) ?_;refine St.gQ (aY bW (T.set i q)) [aY bW T,bW q] (fun ρ h z hz=>by rcases List.mem_or_eq_of_mem_set hz with hz|rfl;exact(show(aY bW T).f ρ from h _ (by simp)) z hz;exact h _ (by simp)) ?_;refine St.nil (St.aN (St.aN (St.aA (St.rg ?_))));refine St.mv ?_;refine St.ee Ev.s0 ?_;refine St.ak ?_;refine St.nn ?_;refine St.slot 6 (iv ((i:Nat)-1:Int)) rfl (congrArg iv (by omega)) ?_;refine St.jb i (T.set i q) ⟨by omega,by rw[List.length_set];exact sO,fun k h1 h2=>by rcases Nat.lt_or_ge i k with h|h;exact(hT k (by omega) h2).ne (by omega);rw[show k=i by omega];exact adA (by omega)⟩
     ·try simp only[aC]at oB
      obtain⟨d0,up0,s0,c0,h0⟩:=dP.at_ hg Xn
      have e1:=(mY hR h0 hr).1
      exfalso
      rcases(h0.uG hg).shape with⟨q,_⟩|⟨q,_⟩|⟨q,_⟩|⟨q,_⟩<;>omega
 ·try simp only[aC]at gY
  obtain rfl:j=0:=by omega
  obtain⟨τ,Md,ht2,_⟩:=hT 0 (Nat.le_refl _) (by omega) _ _ _ _ dP.root;refine St.exit (St.aF (St.aF (St.bH (St.aA (St.sr ?_)))));refine St.mv ?_;refine St.ee (Ev.cK (k:=0) (.mk rfl) (.mk rfl) dM bC (by omega) (by omega)) ?_;refine St.ee (Ev.rB (R:=JQ) (l:=T) (g:=τ) (.mk rfl) Md bX trivial bC (by omega)) ?_;refine St.slot 106 (aQ τ) rfl rfl ?_;refine St.sA (.mk rfl) (.mk rfl) bC ?_ (h1:=(by simp only[List.all_cons,List.all_nil,Bool.and_true,Bool.and_eq_true];exact⟨rfl,τ.av.2⟩));refine St.ak ?_;refine St.nn (St.aX ?_);refine St.rT [_,_] [] Tryz.results125 ⟨⟨_,_,_,_,rfl,ju.mem,.inl ⟨⟨_,bX⟩,bC,rfl⟩⟩,⟨rfl,trivial⟩⟩ ?_;exact⟨τ,by rw[ht2];rfl,rfl⟩
theorem Cl (t:cF)(qY:cG.wf t):ct Tryz.prog 101 #[bb t] [bO t] (fv (iC (ax t))):=Ap (fun t a b c=>Ay t a b c) t qY
theorem uk (t:cF)(qY:cG.wf t):ct Tryz.prog 76 #[bb t] [bO t] (fv (iC (ax t))):=by
 refine ct.ic (args:=[bb t]) 5 Tryz.func76 rfl Tryz.ntmps76 rfl (fun c=> ?_);refine St.sr ?_;refine St.cV (.mk rfl) rfl (fun b1=> ?_);refine St.alloc dF rfl (fun b2=> ?_);refine St.nn (St.sr ?_);refine St.ee (Ev.bF (.mk rfl) fO trivial (by exact dC)) ?_;refine St.ee (Ev.call (Cl t qY) WD (.cons (.mk rfl) .nil)) ?_;refine St.sA (.mk rfl) (.mk rfl) ay ?_;refine St.nn (St.aX ?_);refine St.rU [_] [] Tryz.results76 ?_;rfl
end Go.Proofs.YtolmidffiegkaaaGreatDoor
namespace Go.J
open Go
theorem Sq.slot {n:Nat}{F:Fr}{T:Act→Prop}{v:Value}(k:Nat)(v':Value)(hk:look F k=some v)(h:v=v')(hT:Sq n ((k,v')::F) T):Sq n F T:=by
 subst h
 refine fun a ha=>hT a ⟨ha.size,ha.defers,fun t u hu=> ?_⟩
 simp only[look]at hu
 cases hb:Nat.beq t k with
 |true=>
  have e:=Nat.eq_of_beq_eq_true hb
  subst e
  simp only[hb,cond_true,Option.some.injEq]at hu
  subst hu;exact ha.slot _ _ hk
 |false=>
  simp only[hb,cond_false]at hu
  exact ha.slot _ _ hu
theorem Ev.JS {P:Program}{n:Nat}{F:Fr}{A:World→Prop}{ty:TypeId}{x:Operand}{a:Addr}(hx:aL F x (.pointer (some a))):Ev P n F A (.nilCheck x) ty (.pointer (some a)):= .of_run fun ac w ha _=>by simp[execOp,hx.eval ha]
end Go.J
namespace Go.Proofs.YtolmidffiegkaaaGreatDoor
open Go Go.J
theorem FW {G:iE}{kids:Int}{k:Nat}(hk:k<4)(h:decide (0≤B9 G k)≠decide ((k:Int)≤kids)):kf G kids=false:=by
 unfold kf;rw[List.all_eq_false];exact⟨k,List.mem_range.2 hk,by simpa using h⟩
theorem Az {G:iE}{kids:Int}{k:Nat}(h0:(List.range k).all (fun k=>decide (0≤B9 G k)==decide ((k:Int)≤kids))=true)(h:¬decide (0≤B9 G k)≠decide ((k:Int)≤kids)):(List.range (k+1)).all (fun k=>decide (0≤B9 G k)==decide ((k:Int)≤kids))=true:=by
 rw[List.range_succ,List.all_append,h0]
 simpa using h
set_option maxHeartbeats 2000000 in
theorem Cm (tv xv:ck)(ts:List jj)(fs:List eF)(x:bV)(hT:iJ (ts.map bf))(hF:∀f∈fs,0≤f.nC∧f.nC<ts.length∧0≤f.value∧f.value<ts.length)(hw:cA.wf x):ct Tryz.prog 37 #[.agg #[tv.1,xv.1],ld x] [sl e6 tv.1 ts,aY ew ts,sl bu xv.1 fs,cO x] (iv (kh (ts.map bf) (fs.map dR) (mH x))):=by
 unfold ct;refine fF.body (args:=[.agg #[tv.1,xv.1],ld x]) 52 Tryz.func37 rfl Tryz.ntmps37 rfl (fun c=> ?_);refine St.cast (H':=[aG (sl e6 tv.1 ts),aG (aY ew ts),aG (sl bu xv.1 fs),aG (cO x)]) rfl ?_;refine St.seq ?_
 refine St.fI (cO x) (fun _:Unit=>D6 x) (fun ρ h=>⟨(),h⟩) fun _=> ?_
 refine St.cast (H':=[aG (bU x.graph),aG (bO x.cg),aG (sl e6 tv.1 ts),aG (aY ew ts),aG (sl bu xv.1 fs),aG (cO x)]) rfl ?_
 have jU:=AZ (ts.map bf) (fs.map dR) x
 obtain⟨AP,hwk,hwg,Po⟩:=hw;refine St.rg ?_;refine St.cV (.mk rfl) rfl (fun b2=> ?_);refine St.cV (.mk rfl) rfl (fun b3=> ?_);refine St.ak ?_;refine St.nn (St.seq (St.sr ?_));refine St.ee (Ev.aD (.mk rfl) nV) ?_;refine St.ee (Ev.l0 (.mk rfl) bP) ?_;refine St.ee Ev.dn ?_;refine St.mv ?_;refine St.gf _ rfl rfl (fun hg=>Ev.aD (.mk rfl) nV) rfl ?_;refine St.gf _ rfl rfl (fun hg=>Ev.cN (aL.gv rfl hg) bP trivial (by rfl)) rfl ?_;refine St.gf _ rfl rfl (fun hg=>Ev.gtr (aL.gv rfl hg) (.mk rfl)) rfl ?_;refine St.ee Ev.o0 ?_;refine St.mv ?_;refine St.gf _ rfl rfl (fun hg=>Ev.aD (.mk rfl) yR) rfl ?_;refine St.gf _ rfl rfl (fun hg=>Ev.cN (aL.gv rfl hg) bP trivial (by rfl)) rfl ?_;refine St.gf _ rfl rfl (fun hg=>Ev.lss (aL.gv rfl hg) (.mk rfl)) rfl ?_;refine St.ee Ev.o0 ?_;refine St.mv ?_;refine St.gf _ rfl rfl (fun hg=>Ev.aD (.mk rfl) yR) rfl ?_;refine St.gf _ rfl rfl (fun hg=>Ev.cN (aL.gv rfl hg) bP trivial (by rfl)) rfl ?_;refine St.gf _ rfl rfl (fun hg=>Ev.gtr (aL.gv rfl hg) (.mk rfl)) rfl ?_;refine St.ee Ev.o0 ?_;refine St.nn ?_;refine St.cond _ rfl (fun pE=> ?_) (fun pE=> ?_)
 ·try simp only[aC]at pE
  rw[if_pos (by omega)]at jU;refine St.sr ?_;refine St.ak ?_;refine St.nn (St.aX (St.aB ?_));refine St.rU [_] [] Tryz.results37 ?_;exact ie jU.symm
 ·try simp only[aC]at pE
  rw[if_neg (by omega)]at jU;refine St.skip (St.aA (St.seq (St.sr ?_)));refine St.ee (Ev.bF (.mk rfl) nI trivial (by exact ln)) ?_;refine St.ee (Ev.aD (.mk rfl) yS) ?_;refine St.ee (Ev.iI 1 (.mk rfl) p9 trivial nK rfl rfl) ?_;refine St.slot 27 (dQ x.graph) rfl rfl ?_;refine St.ee (Ev.call (ng tv xv ts fs x.graph hT hF) QB (.cons (.mk rfl) (.cons (.mk rfl) .nil))) ?_;refine St.alloc dF rfl (fun b5=> ?_);refine St.sA (.mk rfl) (.mk rfl) ay ?_;refine St.nn (St.sr ?_);refine St.ee (Ev.aD (.mk rfl) cX) ?_;refine St.ee (Ev.l0 (.mk rfl) bP) ?_;refine St.ee Ev.k9 ?_;refine St.nn ?_;refine St.cond _ rfl (fun kO=> ?_) (fun kO=> ?_)
  ·skip
   have hb:(cU (ts.map bf) (fs.map dR) (dN x.graph)).1≠0:=by simpa using kO
   rw[if_pos hb]at jU;refine St.sr ?_;refine St.ee (Ev.aD (.mk rfl) cX) ?_;refine St.ee (Ev.l0 (.mk rfl) bP) ?_;refine St.ak ?_;refine St.nn (St.aX (St.aB ?_));refine St.rU [_] [] Tryz.results37 ?_;exact ie jU.symm
  ·skip
   have hb:¬(cU (ts.map bf) (fs.map dR) (dN x.graph)).1≠0:=by simpa using kO
   rw[if_neg hb]at jU
   have Ql:0<x.graph.nodes.length:=by have:=(nT (qE (Decidable.not_not.1 hb))).1;rw[ku]at this;exact this
   refine St.skip (St.aA (St.seq (St.sr ?_)));refine St.mv ?_;refine St.nn (St.block ?_);refine St.lS (ι:=Nat) (fun k T=>(34,iv k)::T) (fun k=>k≤4∧(List.range k).all (fun k=>decide (0≤B9 (dN x.graph) k)==decide ((k:Int)≤x.kids))=true) (fun k=>4-k) 0 (aE.cons 3 rfl aE.nil) ⟨Nat.zero_le _,rfl⟩ ?_;intro k dA;obtain⟨Tn,eP⟩:=dA;refine St.sr ?_;refine St.ee Ev.dn ?_;refine St.nn (St.seq ?_);refine St.cond _ rfl (fun z7=> ?_) (fun z7=> ?_)
   ·try simp only[aC]at z7
    refine St.skip (St.aA (St.seq (St.block (St.sr ?_))));refine St.mv ?_;refine St.ak ?_;refine St.nn (St.seq ?_);refine St.rq mixed (by kernel_rfl) (Mm.drawn _ _) ?_;refine Sq.ee (Ev.aD (.mk rfl) yS) ?_;refine Sq.ee (Ev.iI 1 (.mk rfl) p9 trivial nK rfl rfl) ?_;refine Sq.slot 38 (dQ x.graph) rfl rfl ?_;refine Sq.ee (Ev.move (.mk rfl)) ?_;refine Sq.ee (Ev.call (yl x.graph k Ql) acL (.cons (.mk rfl) (.cons (.mk rfl) (.cons (.mk rfl) .nil)))) ?_;refine Sq.ee Ev.qV ?_;refine Sq.ee (Ev.move (.mk rfl)) ?_;refine Sq.ee (Ev.aD (.mk rfl) nV) ?_;refine Sq.ee (Ev.l0 (.mk rfl) bP) ?_;refine Sq.ee Ev.Jm ?_;refine Sq.ee (Ev.sY (.mk rfl) (.mk rfl) sJ) ?_;refine Sq.nil ?_;refine St.aA ?_;refine St.cond _ rfl (fun pw=> ?_) (fun pw=> ?_)
    ·skip
     have QY:decide (0≤B9 (dN x.graph) k)≠decide ((k:Int)≤x.kids):=by simpa using pw
     rw[if_pos (FW (by omega) QY)]at jU;refine St.sr ?_;refine St.ak ?_;refine St.nn (St.aX (St.aM (St.aB (St.aB (St.aM (St.aB ?_))))));refine St.rU [_] [] Tryz.results37 ?_;exact ie jU.symm
    ·skip
     have QY:¬decide (0≤B9 (dN x.graph) k)≠decide ((k:Int)≤x.kids):=by simpa using pw
     refine St.skip (St.aN (St.aA (St.rg ?_)));refine St.ee Ev.a0 ?_;refine St.mv ?_;refine St.nn ?_;refine St.aS (k+1) ⟨by omega,Az eP QY⟩
   ·try simp only[aC]at z7
    rw[show k=4 by omega]at eP;rw[if_neg (by rw[show kf (dN x.graph) x.kids=true from eP];decide)]at jU;refine St.exit (St.aF (St.aF (St.bH (St.aA (St.sr ?_)))));refine St.ee (Ev.aD (.mk rfl) HY) ?_;refine St.ee (Ev.iI 6 (.mk rfl) fO trivial dC rfl rfl) ?_;refine St.slot 49 (bb x.cg) rfl rfl ?_;refine St.ee (Ev.call (uk x.cg Po) WE (.cons (.mk rfl) .nil)) ?_;refine St.ee (Ev.qh (.mk rfl) fl rfl (by first|rw[bP]|(dsimp only;rw[bP])|kernel_rfl) rfl) ?_;refine St.ak ?_;refine St.nn (St.aX ?_);refine St.rU [_] [] Tryz.results37 ?_;exact ie jU.symm
set_option maxHeartbeats 2000000 in
theorem FX (tv xv:ck)(ts:List jj)(fs:List eF)(x:cv)(hT:iJ (ts.map bf))(hF:∀f∈fs,0≤f.nC∧f.nC<ts.length∧0≤f.value∧f.value<ts.length)(hw:cI.wf x):ct Tryz.prog 38 #[.agg #[tv.1,xv.1],GO x] [sl e6 tv.1 ts,aY ew ts,sl bu xv.1 fs,dX x] (iv (pZ (ts.map bf) (fs.map dR) (jr x))):=by
 unfold ct;refine fF.body (args:=[.agg #[tv.1,xv.1],GO x]) 31 Tryz.func38 rfl Tryz.ntmps38 rfl (fun c=> ?_);refine St.cast (H':=[aG (sl e6 tv.1 ts),aG (aY ew ts),aG (sl bu xv.1 fs),aG (dX x)]) rfl ?_;refine St.seq ?_
 refine St.fI (dX x) (fun _:Unit=>KF x) (fun ρ h=>⟨(),h⟩) fun _=> ?_
 refine St.cast (H':=[aG (bU x.graph),aG (bO x.cg),aG (sl e6 tv.1 ts),aG (aY ew ts),aG (sl bu xv.1 fs),aG (dX x)]) rfl ?_
 have jU:=Df (ts.map bf) (fs.map dR) x
 obtain⟨AP,Pl,Po⟩:=hw
 replace AP:x.word.length≤140737488351232:=AP
 refine St.rg ?_;refine St.cV (.mk rfl) rfl (fun b2=> ?_);refine St.cV (.mk rfl) rfl (fun b3=> ?_);refine St.ak ?_;refine St.nn (St.seq (St.sr ?_));refine St.ee (Ev.aD (.mk rfl) yP) ?_;refine St.ee (Ev.l0 (.mk rfl) df) ?_;refine St.ee (Ev.call (Cg x.word (by omega)) acM (.cons (.mk rfl) .nil)) ?_;refine St.ee (Ev.not (.mk rfl)) ?_;refine St.nn ?_;refine St.cond _ rfl (fun h9=> ?_) (fun h9=> ?_)
 ·skip
  rw[if_pos (by simpa using h9)]at jU;refine St.sr ?_;refine St.ak ?_;refine St.nn (St.aX (St.aB ?_));refine St.rU [_] [] Tryz.results38 ?_;exact ie jU.symm
 ·skip
  rw[if_neg (by simpa using h9)]at jU;refine St.skip (St.aA (St.seq (St.sr ?_)));refine St.ee (Ev.aD (.mk rfl) yQ) ?_;refine St.ee (Ev.l0 (.mk rfl) bP) ?_;refine St.ee Ev.dn ?_;refine St.mv ?_;refine St.gf _ rfl rfl (fun hg=>Ev.aD (.mk rfl) yQ) rfl ?_;refine St.gf _ rfl rfl (fun hg=>Ev.cN (aL.gv rfl hg) bP trivial (by rfl)) rfl ?_;refine St.gf _ rfl rfl (fun hg=>Ev.gtr (aL.gv rfl hg) (.mk rfl)) rfl ?_;refine St.ee Ev.o0 ?_;refine St.nn ?_;refine St.cond _ rfl (fun m8=> ?_) (fun m8=> ?_)
  ·try simp only[aC]at m8
   rw[if_pos (by omega)]at jU;refine St.sr ?_;refine St.ak ?_;refine St.nn (St.aX (St.aB ?_));refine St.rU [_] [] Tryz.results38 ?_;exact ie jU.symm
  ·try simp only[aC]at m8
   rw[if_neg (by omega)]at jU;refine St.skip (St.aA (St.seq (St.sr ?_)));refine St.ee (Ev.bF (.mk rfl) nI trivial (by exact ln)) ?_;refine St.ee (Ev.aD (.mk rfl) HW) ?_;refine St.ee (Ev.iI 1 (.mk rfl) p9 trivial nK rfl rfl) ?_;refine St.slot 20 (dQ x.graph) rfl rfl ?_;refine St.ee (Ev.call (ng tv xv ts fs x.graph hT hF) QB (.cons (.mk rfl) (.cons (.mk rfl) .nil))) ?_;refine St.alloc dF rfl (fun b5=> ?_);refine St.sA (.mk rfl) (.mk rfl) ay ?_;refine St.nn (St.sr ?_);refine St.ee (Ev.aD (.mk rfl) cX) ?_;refine St.ee (Ev.l0 (.mk rfl) bP) ?_;refine St.ee Ev.k9 ?_;refine St.nn ?_;refine St.cond _ rfl (fun pE=> ?_) (fun pE=> ?_)
   ·skip
    have hb:(cU (ts.map bf) (fs.map dR) (dN x.graph)).1≠0:=by simpa using pE
    rw[if_pos hb]at jU;refine St.sr ?_;refine St.ee (Ev.aD (.mk rfl) cX) ?_;refine St.ee (Ev.l0 (.mk rfl) bP) ?_;refine St.ak ?_;refine St.nn (St.aX (St.aB ?_));refine St.rU [_] [] Tryz.results38 ?_;exact ie jU.symm
   ·skip
    have hb:¬(cU (ts.map bf) (fs.map dR) (dN x.graph)).1≠0:=by simpa using pE
    rw[if_neg hb]at jU;refine St.skip (St.aA (St.sr ?_));refine St.ee (Ev.aD (.mk rfl) HX) ?_;refine St.ee (Ev.iI 6 (.mk rfl) fO trivial dC rfl rfl) ?_;refine St.slot 28 (bb x.cg) rfl rfl ?_;refine St.ee (Ev.call (uk x.cg Po) WE (.cons (.mk rfl) .nil)) ?_;refine St.ee (Ev.qh (.mk rfl) fl rfl (by first|rw[bP]|(dsimp only;rw[bP])|kernel_rfl) rfl) ?_;refine St.ak ?_;refine St.nn (St.aX ?_);refine St.rU [_] [] Tryz.results38 ?_;exact ie jU.symm
set_option maxHeartbeats 4000000 in
theorem FY (g:iX):ct Tryz.prog 10 #[iG g] [dw g] (fv (kP (fV g))):=by
 unfold ct;refine fF.body (args:=[iG g]) 108 Tryz.func10 rfl Tryz.ntmps10 rfl (fun c=> ?_);refine St.cast (H':=[aG (dw g)]) rfl ?_;refine St.seq ?_
 refine St.fI (dw g) (fun _:Unit=>zT g) (fun ρ h=>⟨(),h⟩) fun _=> ?_
 refine St.cast (H':=[aG (sl e6 g.tv.1 g.types),aG (aY ew g.types),aG (sl bu g.fv.1 g.bZ),aG (sl cA g.rv.1 g.rules),aG (aY cO g.rules),aG (sl cI g.xv.1 g.bA),aG (aY dX g.bA),aG (bU g.start),aG (dw g)]) rfl ?_
 have lO:=Dg g
 have sO:(g.types.map bf).length=g.types.length:=List.length_map ..
 have Et:(g.bZ.map dR).length=g.bZ.length:=List.length_map ..
 have TY:(g.rules.map mH).length=g.rules.length:=List.length_map ..
 have R3:(g.bA.map jr).length=g.bA.length:=List.length_map ..
 refine St.wf g.rv.1 (fun NX TN=> ?_);refine St.wf g.xv.1 (fun lq tB=> ?_);refine St.rg ?_;refine St.cV (.mk rfl) rfl (fun b1=> ?_);refine St.alloc dF rfl (fun b2=> ?_);refine St.nn (St.seq (St.sr ?_));refine St.ee (Ev.aD (.mk rfl) pA) ?_;refine St.ee (Ev.iI 2 (.mk rfl) nI trivial ln rfl rfl) ?_;refine St.slot 14 (.agg #[g.tv.1,g.fv.1]) rfl rfl ?_;refine St.ee (Ev.call (Cd g.tv g.fv g.types g.bZ) acN (.cons (.mk rfl) .nil)) ?_;refine St.alloc dF rfl (fun b3=> ?_);refine St.sA (.mk rfl) (.mk rfl) ay ?_;refine St.nn (St.sr ?_);refine St.ee (Ev.aD (.mk rfl) cX) ?_;refine St.ee (Ev.l0 (.mk rfl) bP) ?_;refine St.ee Ev.k9 ?_;refine St.nn ?_;refine St.cond _ rfl (fun fN=> ?_) (fun fN=> ?_)
 ·skip
  have hb:(fZ (g.types.map bf) (g.bZ.map dR)).1≠0:=by simpa using fN
  rw[if_pos hb]at lO;refine St.sr ?_;refine St.ee (Ev.bF (.mk rfl) fl trivial (by exact ay)) ?_;refine St.sA (.mk rfl) (.mk rfl) ay ?_;refine St.nn (St.aX (St.aB ?_));refine St.rU [_] [] Tryz.results10 ?_;exact congrArg fv lO.symm
 ·skip
  have hb:¬(fZ (g.types.map bf) (g.bZ.map dR)).1≠0:=by simpa using fN
  rw[if_neg hb]at lO;obtain⟨_,hT,Zc,Zd⟩:=DW (Decidable.not_not.1 hb)
  have hF:∀f∈g.bZ,0≤f.nC∧f.nC<g.types.length∧0≤f.value∧f.value<g.types.length:=fun f hf=>by have:=Zd (dR f) (List.mem_map_of_mem hf);rw[sO]at this;exact this
  refine St.skip (St.aA (St.seq (St.sr ?_)));refine St.ee (Ev.aD (.mk rfl) pA) ?_;refine St.ee (Ev.xT (.mk rfl) jQ) ?_;refine St.ee (Ev.l0 (.mk rfl) iz) ?_;refine St.ee (Ev.ao (.mk rfl) iz) ?_;refine St.ee Ev.Jm ?_;refine St.nn ?_;refine St.cond _ rfl (fun pE=> ?_) (fun pE=> ?_)
  ·try simp only[aC]at pE
   rw[if_pos (by omega)]at lO;refine St.sr ?_;refine St.ee (Ev.build (ps:=[(0,(.const (.int .i64 9))),(1,(.const (.int .i64 (-1))))]) (aU.cons (aL.mk rfl) (aU.cons (aL.mk rfl) aU.nil)) (fun w=>bJ rfl rfl w)) ?_;refine St.sA (.mk rfl) (.mk rfl) ay ?_;refine St.nn (St.aX (St.aB ?_));refine St.rU [_] [] Tryz.results10 ?_;exact congrArg fv lO.symm
  ·try simp only[aC]at pE
   rw[if_neg (by omega)]at lO;refine St.skip (St.aA (St.seq (St.sr ?_)));refine St.ee (Ev.aD (.mk rfl) jS) ?_;refine St.ee (Ev.l0 (.mk rfl) j0) ?_;refine St.ee (Ev.ao (.mk rfl) j0) ?_;refine St.ee Ev.qn ?_;refine St.mv ?_;refine St.gf _ rfl rfl (fun hg=>Ev.aD (.mk rfl) jR) rfl ?_;refine St.gf _ rfl rfl (fun hg=>Ev.cN (aL.gv rfl hg) j1 trivial (by rfl)) rfl ?_;refine St.gf _ rfl rfl (fun hg=>Ev.ao (aL.gv rfl hg) j1) rfl ?_;refine St.gf _ rfl rfl (fun hg=>Ev.gtr (aL.gv rfl hg) (.mk rfl)) rfl ?_;refine St.ee Ev.o0 ?_;refine St.nn ?_;refine St.cond _ rfl (fun z7=> ?_) (fun z7=> ?_)
   ·try simp only[aC]at z7
    rw[if_pos (by omega)]at lO;refine St.sr ?_;refine St.ee (Ev.build (ps:=[(0,(.const (.int .i64 2))),(1,(.const (.int .i64 (-1))))]) (aU.cons (aL.mk rfl) (aU.cons (aL.mk rfl) aU.nil)) (fun w=>bJ rfl rfl w)) ?_;refine St.sA (.mk rfl) (.mk rfl) ay ?_;refine St.nn (St.aX (St.aB ?_));refine St.rU [_] [] Tryz.results10 ?_;exact congrArg fv lO.symm
   ·try simp only[aC]at z7
    rw[if_neg (by omega)]at lO;refine St.skip (St.aA (St.seq (St.sr ?_)));refine St.ee (Ev.aD (.mk rfl) jS) ?_;refine St.ee (Ev.l0 (.mk rfl) j0) ?_;refine St.ee (Ev.ao (.mk rfl) j0) ?_;refine St.mv ?_;refine St.nn (St.block ?_);refine St.lH (ι:=Nat) (fun k T=>(40,iv k)::T) (fun k=>[ae b1 (.cells [g.tv.1,g.fv.1,g.rv.1,g.xv.1,g.start.nv.1].toArray 32 (0,0)),ae b2 (.cells [iv 0,iv 0].toArray 42 (0,0)),aG (sl e6 g.tv.1 g.types),aG (aY ew g.types),aG (sl bu g.fv.1 g.bZ),aG (sl cA g.rv.1 g.rules),aG (aY cO g.rules),aG (sl cI g.xv.1 g.bA),aG (aY dX g.bA),aG (bU g.start)]) (fun k=>k≤g.rules.length∧gG (g.types.map bf) (g.bZ.map dR) [] 0 (g.rules.map mH)=gG (g.types.map bf) (g.bZ.map dR) ((g.rules.take k).map bV.name) k ((g.rules.map mH).drop k)) (fun k=>g.rules.length-k) 0 (aE.cons 1 rfl (aE.cons 2 rfl (aE.cons 38 rfl (aE.cons 39 rfl aE.nil)))) ⟨Nat.zero_le _,rfl⟩ ?_;intro k dA;obtain⟨hk,hv⟩:=dA;refine St.sr ?_;refine St.ee Ev.dn ?_;refine St.nn (St.seq ?_);refine St.cond _ rfl (fun oT=> ?_) (fun oT=> ?_)
    ·try simp only[aC]at oT
     obtain⟨t,ht⟩:=aO (show k<g.rules.length by omega)
     have lU:=List.mem_of_getElem? ht
     have cE:=rm (T:=(g.types.map bf)) (Fs:=(g.bZ.map dR)) (l:=g.rules.map mH) (k:=k) (t:=mH t) (by rw[List.getElem?_map,ht];rfl) ((g.rules.take k).map bV.name)
     have zr:t.name.length≤9223372036854775807:=by have:=(NX t lU).1;simp only[iL]at this;omega
     refine St.cD cO g.rules (x:=t) lU ?_;refine St.skip (St.aA (St.seq (St.block (St.sr ?_))));refine St.mv ?_;refine St.ee (Ev.aR (k:=k) (.mk rfl) (.mk rfl) j0 nL (by omega) (by omega)) ?_;refine St.ee (Ev.fg (.mk rfl) ht Gf trivial nL ei.eq) ?_;refine St.alloc Gg rfl (fun b5=> ?_);refine St.ak ?_;refine St.sA (.mk rfl) (.mk rfl) nL ?_ (h1:=(by simp only[List.all_cons,List.all_nil,Bool.and_true,Bool.and_eq_true];exact⟨rfl,t.graph.nv.2,rfl,rfl,rfl,rfl,rfl,rfl,t.cg.type.av.2,t.cg.av.2⟩));refine St.nn (St.seq (St.sr ?_));refine St.ee (Ev.aD (.mk rfl) nW) ?_;refine St.ee (Ev.l0 (.mk rfl) df) ?_;refine St.ee (Ev.call (pN t.name zr) QA (.cons (.mk rfl) .nil)) ?_;refine St.ee (Ev.not (.mk rfl)) ?_;refine St.nn ?_;refine St.cond _ rfl (fun qD=> ?_) (fun qD=> ?_)
     ·try simp only[aC]at qD
      rw[if_pos (show isName (mH t).name=false from(by simpa using qD:isName t.name=false))]at cE;refine St.sr ?_;refine St.mv ?_;refine St.ee (Ev.build (ps:=[(0,(.const (.int .i64 10))),(1,(.tmp 49))]) (aU.cons (aL.mk rfl) (aU.cons (aL.mk rfl) aU.nil)) (fun w=>bJ rfl rfl w)) ?_;refine St.sA (.mk rfl) (.mk rfl) ay ?_;refine St.nn (St.aX (St.aB (St.aM (St.aB (St.aB (St.aM (St.aB ?_)))))));refine St.rU [_] [] Tryz.results10 ?_;exact congrArg fv (fH lO (hv.trans cE) (by decide)).symm
     ·try simp only[aC]at qD
      rw[if_neg (show ¬isName (mH t).name=false from(by simpa using qD:¬isName t.name=false))]at cE;refine St.skip (St.aA (St.seq (St.sr ?_)));refine St.ee (Ev.aD (.mk rfl) jS) ?_;refine St.ee (Ev.l0 (.mk rfl) j0) ?_;refine St.mv ?_;refine St.ee (Ev.nk (h:=k) (.mk rfl) (.mk rfl) j0 nL (by omega) (by omega)) ?_;refine St.part (Rr:=cA) (xs:=g.rules) g.rv.1 0 k (Nat.zero_le _) (by omega) ?_;refine St.gQ (sl cA (pO g.rv.1 cA.size 0 k) (g.rules.take k)) [sl cA (pO g.rv.1 cA.size 0 k) ((g.rules.drop 0).take (k-0))] (fun ρ h=>by simpa using h _ (List.mem_cons_self ..)) ?_
      have v7:(g.rules.take k).length=k:=by rw[List.length_take];omega
      refine St.ee (Ev.ao (.mk rfl) j0) ?_;refine St.mv ?_;refine St.nn (St.block ?_);refine St.lH (ι:=Nat) (fun q T=>(56,iv q)::T) (fun q=>[aG (sl cA (pO g.rv.1 cA.size 0 k) (g.rules.take k)),ae b5 (.cells [sv t.name,t.graph.nv.1,iv t.kids,iv t.weight,iv t.cg.kind,sv t.cg.name,iv t.cg.index,sv t.cg.type.base,t.cg.type.av.1,t.cg.av.1].toArray 93 (0,0)),aG (cO t),ae b1 (.cells [g.tv.1,g.fv.1,g.rv.1,g.xv.1,g.start.nv.1].toArray 32 (0,0)),ae b2 (.cells [iv 0,iv 0].toArray 42 (0,0)),aG (sl e6 g.tv.1 g.types),aG (aY ew g.types),aG (sl bu g.fv.1 g.bZ),aG (sl cA g.rv.1 g.rules),aG (aY cO g.rules),aG (sl cI g.xv.1 g.bA),aG (aY dX g.bA),aG (bU g.start)]) (fun q=>q≤k∧t.name∉(g.rules.take q).map bV.name) (fun q=>k-q) 0 (aE.cons 1 rfl (aE.cons 2 rfl (aE.cons 4 rfl (aE.cons 5 rfl (aE.cons 38 rfl (aE.cons 39 rfl (aE.cons 40 rfl (aE.cons 54 rfl (aE.cons 55 rfl aE.nil))))))))) ⟨Nat.zero_le _,by simp⟩ ?_;intro q dA;obtain⟨hq,ma⟩:=dA;refine St.sr ?_;refine St.ee Ev.dn ?_;refine St.nn (St.seq ?_);refine St.cond _ rfl (fun h57=> ?_) (fun h57=> ?_)
      ·try simp only[aC]at h57
       obtain⟨y,hy⟩:=aO (show q<g.rules.length by omega);refine St.skip (St.aA (St.seq (St.block (St.sr ?_))));refine St.ee (Ev.aR (k:=q) (.mk rfl) (.mk rfl) j0 nL (by omega) (by omega)) ?_;refine St.ee (Ev.fg (.mk rfl) (qL hy (show q<k by omega)) Gf trivial nL ei.eq) ?_;refine St.alloc Gg rfl (fun b7=> ?_);refine St.sA (.mk rfl) (.mk rfl) nL ?_ (h1:=(by simp only[List.all_cons,List.all_nil,Bool.and_true,Bool.and_eq_true];exact⟨rfl,y.graph.nv.2,rfl,rfl,rfl,rfl,rfl,rfl,y.cg.type.av.2,y.cg.av.2⟩));refine St.nn (St.sr ?_);refine St.ee (Ev.aD (.mk rfl) nW) ?_;refine St.ee (Ev.l0 (.mk rfl) df) ?_;refine St.ee (Ev.aD (.mk rfl) nW) ?_;refine St.ee (Ev.l0 (.mk rfl) df) ?_;refine St.ee (Ev.hP (.mk rfl) (.mk rfl)) ?_;refine St.nn ?_;refine St.cond _ rfl (fun mh=> ?_) (fun mh=> ?_)
       ·try simp only[aC]at mh
        have vh:=mV bV.name hy (show q<k by omega)
        rw[mh]at vh;rw[if_pos (show(mH t).name∈(g.rules.take k).map bV.name from vh)]at cE;refine St.sr ?_;refine St.mv ?_;refine St.ee (Ev.build (ps:=[(0,(.const (.int .i64 7))),(1,(.tmp 65))]) (aU.cons (aL.mk rfl) (aU.cons (aL.mk rfl) aU.nil)) (fun w=>bJ rfl rfl w)) ?_;refine St.sA (.mk rfl) (.mk rfl) ay ?_;refine St.nn (St.aX (St.aM (St.aB (St.aB (St.aM (St.aB (St.aM (St.aB (St.aB (St.aM (St.aB ?_)))))))))));refine St.rU [_] [] Tryz.results10 ?_;exact congrArg fv (fH lO (hv.trans cE) (by decide)).symm
       ·try simp only[aC]at mh
        refine St.skip (St.aN (St.aA (St.rg ?_)));refine St.ee Ev.a0 ?_;refine St.mv ?_;refine St.nn ?_;refine St.aH (q+1) ⟨by omega,by rw[bx bV.name hy];exact uZ ma mh⟩
      ·try simp only[aC]at h57
       rw[show q=k by omega]at ma;rw[if_neg (show ¬(mH t).name∈(g.rules.take k).map bV.name from ma)]at cE;refine St.exit (St.aF (St.aF (St.bH (St.aA (St.sr ?_)))));refine St.ee (Ev.aD (.mk rfl) pA) ?_;refine St.ee (Ev.iI 2 (.mk rfl) nI trivial ln rfl rfl) ?_;refine St.slot 69 (.agg #[g.tv.1,g.fv.1]) rfl rfl ?_;refine St.ee (Ev.bF (.mk rfl) Gf trivial (by exact nL)) ?_;refine St.slot 70 (ld t) rfl rfl ?_;refine St.ee (Ev.call (Cm g.tv g.fv g.types g.bZ t hT hF (NX t lU)) acO (.cons (.mk rfl) (.cons (.mk rfl) .nil))) ?_;refine St.ak ?_;refine St.nn (St.sr ?_);refine St.mv ?_;refine St.ee Ev.k9 ?_;refine St.nn ?_;refine St.cond _ rfl (fun AK=> ?_) (fun AK=> ?_)
       ·skip
        have vc:kh (g.types.map bf) (g.bZ.map dR) (mH t)≠0:=by simpa using AK
        rw[if_pos vc]at cE;refine St.sr ?_;refine St.mv ?_;refine St.mv ?_;refine St.ee (Ev.build (ps:=[(0,(.tmp 74)),(1,(.tmp 75))]) (aU.cons (aL.mk rfl) (aU.cons (aL.mk rfl) aU.nil)) (fun w=>bJ rfl rfl w)) ?_;refine St.sA (.mk rfl) (.mk rfl) ay ?_;refine St.nn (St.aX (St.aM (St.aB (St.aB (St.aM (St.aB ?_))))));refine St.rU [_] [] Tryz.results10 ?_;exact congrArg fv (fH lO (hv.trans cE) vc).symm
       ·skip
        have vc:¬kh (g.types.map bf) (g.bZ.map dR) (mH t)≠0:=by simpa using AK
        rw[if_neg vc]at cE;refine St.skip (St.aN (St.aA (St.rg ?_)));refine St.ee Ev.a0 ?_;refine St.mv ?_;refine St.nn ?_;refine St.aH (k+1) ⟨by omega,by rw[hv,cE,bx bV.name ht];rfl⟩
    ·try simp only[aC]at oT
     rw[uL (by omega)]at hv
     replace lO:=oD lO hv
     refine St.exit (St.aF (St.aF (St.bH (St.aA (St.seq (St.sr ?_))))));refine St.ee (Ev.aD (.mk rfl) jR) ?_;refine St.ee (Ev.l0 (.mk rfl) j1) ?_;refine St.ee (Ev.ao (.mk rfl) j1) ?_;refine St.mv ?_;refine St.nn (St.block ?_);refine St.lH (ι:=Nat) (fun q T=>(81,iv q)::T) (fun q=>[ae b1 (.cells [g.tv.1,g.fv.1,g.rv.1,g.xv.1,g.start.nv.1].toArray 32 (0,0)),ae b2 (.cells [iv 0,iv 0].toArray 42 (0,0)),aG (sl e6 g.tv.1 g.types),aG (aY ew g.types),aG (sl bu g.fv.1 g.bZ),aG (sl cA g.rv.1 g.rules),aG (aY cO g.rules),aG (sl cI g.xv.1 g.bA),aG (aY dX g.bA),aG (bU g.start)]) (fun q=>q≤g.bA.length∧gH (g.types.map bf) (g.bZ.map dR) 0 (g.bA.map jr)=gH (g.types.map bf) (g.bZ.map dR) q ((g.bA.map jr).drop q)) (fun q=>g.bA.length-q) 0 (aE.cons 1 rfl (aE.cons 2 rfl (aE.cons 79 rfl (aE.cons 80 rfl aE.nil)))) ⟨Nat.zero_le _,rfl⟩ ?_;rintro q ⟨hq,mR⟩;refine St.sr ?_;refine St.ee Ev.dn ?_;refine St.nn (St.seq ?_);refine St.cond _ rfl (fun QJ=> ?_) (fun QJ=> ?_)
     ·try simp only[aC]at QJ
      obtain⟨x,hx⟩:=aO (show q<g.bA.length by omega)
      have Eu:=List.mem_of_getElem? hx
      have cE:=rn (T:=(g.types.map bf)) (Fs:=(g.bZ.map dR)) (l:=g.bA.map jr) (k:=q) (t:=jr x) (by rw[List.getElem?_map,hx];rfl)
      refine St.cD dX g.bA (x:=x) Eu ?_;refine St.skip (St.aA (St.seq (St.block (St.sr ?_))));refine St.mv ?_;refine St.ee (Ev.aR (k:=q) (.mk rfl) (.mk rfl) j1 oQ (by omega) (by omega)) ?_;refine St.ee (Ev.fg (.mk rfl) hx Kn trivial oQ ei.eq) ?_;refine St.alloc P8 rfl (fun jc=> ?_);refine St.ak ?_;refine St.sA (.mk rfl) (.mk rfl) oQ ?_ (h1:=(by simp only[List.all_cons,List.all_nil,Bool.and_true,Bool.and_eq_true];exact⟨rfl,x.graph.nv.2,rfl,rfl,rfl,rfl,rfl,x.cg.type.av.2,x.cg.av.2⟩));refine St.nn (St.sr ?_);refine St.ee (Ev.aD (.mk rfl) pA) ?_;refine St.ee (Ev.iI 2 (.mk rfl) nI trivial ln rfl rfl) ?_;refine St.slot 87 (.agg #[g.tv.1,g.fv.1]) rfl rfl ?_;refine St.ee (Ev.bF (.mk rfl) Kn trivial (by exact oQ)) ?_;refine St.slot 88 (GO x) rfl rfl ?_;refine St.ee (Ev.call (FX g.tv g.fv g.types g.bZ x hT hF (lq x Eu)) acP (.cons (.mk rfl) (.cons (.mk rfl) .nil))) ?_;refine St.ak ?_;refine St.nn (St.sr ?_);refine St.mv ?_;refine St.ee Ev.k9 ?_;refine St.nn ?_;refine St.cond _ rfl (fun h91=> ?_) (fun h91=> ?_)
      ·skip
       have vc:pZ (g.types.map bf) (g.bZ.map dR) (jr x)≠0:=by simpa using h91
       rw[if_pos vc]at cE;refine St.sr ?_;refine St.mv ?_;refine St.mv ?_;refine St.ee (Ev.build (ps:=[(0,(.tmp 92)),(1,(.tmp 93))]) (aU.cons (aL.mk rfl) (aU.cons (aL.mk rfl) aU.nil)) (fun w=>bJ rfl rfl w)) ?_;refine St.sA (.mk rfl) (.mk rfl) ay ?_;refine St.nn (St.aX (St.aM (St.aB (St.aB (St.aM (St.aB ?_))))));refine St.rU [_] [] Tryz.results10 ?_;exact congrArg fv (fH lO (mR.trans cE) vc).symm
      ·skip
       have vc:¬pZ (g.types.map bf) (g.bZ.map dR) (jr x)≠0:=by simpa using h91
       rw[if_neg vc]at cE;refine St.skip (St.aN (St.aA (St.rg ?_)));refine St.ee Ev.a0 ?_;refine St.mv ?_;refine St.nn ?_;refine St.aH (q+1) ⟨by omega,mR.trans cE⟩
     ·try simp only[aC]at QJ
      rw[uM (by omega)]at mR
      replace lO:=oD lO mR
      refine St.exit (St.aF (St.aF (St.bH (St.aA (St.seq (St.sr ?_))))));refine St.ee (Ev.aD (.mk rfl) pA) ?_;refine St.ee (Ev.iI 2 (.mk rfl) nI trivial ln rfl rfl) ?_;refine St.slot 97 (.agg #[g.tv.1,g.fv.1]) rfl rfl ?_;refine St.ee (Ev.aD (.mk rfl) Bj) ?_;refine St.ee (Ev.iI 1 (.mk rfl) p9 trivial nK rfl rfl) ?_;refine St.slot 99 (dQ g.start) rfl rfl ?_;refine St.ee (Ev.call (ng g.tv g.fv g.types g.bZ g.start hT hF) QB (.cons (.mk rfl) (.cons (.mk rfl) .nil))) ?_;refine St.alloc dF rfl (fun DS=> ?_);refine St.sA (.mk rfl) (.mk rfl) ay ?_;refine St.nn (St.sr ?_);refine St.ee (Ev.aD (.mk rfl) cX) ?_;refine St.ee (Ev.l0 (.mk rfl) bP) ?_;refine St.ee Ev.k9 ?_;refine St.nn ?_;refine St.cond _ rfl (fun na=> ?_) (fun na=> ?_)
      ·skip
       have Pr:(cU (g.types.map bf) (g.bZ.map dR) (dN g.start)).1≠0:=by simpa using na
       rw[if_pos Pr]at lO;refine St.sr ?_;refine St.ee (Ev.aD (.mk rfl) cX) ?_;refine St.ee (Ev.l0 (.mk rfl) bP) ?_;refine St.ee (Ev.build (ps:=[(0,(.tmp 105)),(1,(.const (.int .i64 (-1))))]) (aU.cons (aL.mk rfl) (aU.cons (aL.mk rfl) aU.nil)) (fun w=>bJ rfl rfl w)) ?_;refine St.sA (.mk rfl) (.mk rfl) ay ?_;refine St.nn (St.aX (St.aB ?_));refine St.rU [_] [] Tryz.results10 ?_;exact congrArg fv lO.symm
      ·skip
       have Pr:¬(cU (g.types.map bf) (g.bZ.map dR) (dN g.start)).1≠0:=by simpa using na
       rw[if_neg Pr]at lO;refine St.skip (St.aA (St.sr ?_));refine St.ee (Ev.build (ps:=[]) (aU.nil) (fun w=>fA w)) ?_;refine St.sA (.mk rfl) (.mk rfl) ay ?_;refine St.nn (St.aX ?_);refine St.rU [_] [] Tryz.results10 ?_;exact congrArg fv lO.symm
end Go.Proofs.YtolmidffiegkaaaGreatDoor
