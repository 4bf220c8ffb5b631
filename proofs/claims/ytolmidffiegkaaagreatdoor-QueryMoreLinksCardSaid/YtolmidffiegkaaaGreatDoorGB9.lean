/-
  Laws of walks through programs, and facts on grammars, trees and queries.
  Conditions: none.
-/
import Derived.Test.YtolmidffiegkaaaGreatDoorGB8
import Derived.Test.YtolmidffiegkaaaGreatDoorGB7
import Derived.Test.YtolmidffiegkaaaGreatDoorGB2
import Derived.Test.YtolmidffiegkaaaGreatDoorGB1
import Derived.Test.YtolmidffiegkaaaGreatDoorGB5
import Derived.Test.YtolmidffiegkaaaGreatDoorGB4
set_option maxRecDepth 20000
set_option linter.unusedSimpArgs false
set_option linter.unusedVariables false
namespace Go.Proofs.YtolmidffiegkaaaGreatDoor
open Go Go.J
abbrev IV:Rp (cD×Nat×Nat):=⟨8,by decide,fun p=>pA p.1++ [iv (p.2.1:Nat),iv (p.2.2:Nat)],fun _=>True,fun _=>rfl,fun p u h=>by
 rcases List.mem_append.1 h with h|h
 ·exact nU p.1 u h
 ·simp only[List.mem_cons,List.not_mem_nil,or_false]at h
  rcases h with rfl|rfl<;>rfl⟩
def LY (st:List (cD×Nat×Nat)):List (cx×Nat×Nat):=st.reverse.map fun p=>(ax p.1,p.2)
theorem IW (s0:List (cD×Nat×Nat))(p:cD×Nat×Nat):LY (s0++ [p])=(ax p.1,p.2)::LY s0:=by unfold LY;rw[List.reverse_append];rfl
theorem LZ (s0:List (cD×Nat×Nat))(l:List cD)(d b:Nat):LY (s0++l.reverse.map (fun y=>(y,d,b)))=(l.map ax).map (fun y=>(y,d,b))++LY s0:=by
 unfold LY
 rw[List.reverse_append,List.map_append,←List.map_reverse,List.reverse_reverse,List.map_map,List.map_map];rfl
theorem IX {α β:Type}{l:List α}{j:Nat}{y:α}(h:l[j]?=some y)(f:α→β):(l.drop j).reverse.map f=(l.drop (j+1)).reverse.map f++ [f y]:=by rw[bf h,List.reverse_cons,List.map_append];rfl
def uA (k:Int):Int:=([0,0,0,1,2]:List Int).getD k.toNat 0
theorem La {k:Int}{nm:cV}{ix:Int}{tp:dU}{m b:Nat}(h1:1≤k)(h4:k≤4)(h:¬((m:Int)=uA k∧(k=1∨nm=[])∧(k=2∨ix=0)∧((k=1∨k=3)∨gr tp=true))):gK k nm ix tp m b=5:=by
 rcases(show k=1∨k=2∨k=3∨k=4 by omega)with rfl|rfl|rfl|rfl
 ·rw[Xk,if_pos]
  have e:uA 1=0:=rfl
  rw[e]at h;omega
 ·rw[Xl,if_pos]
  have e:uA 2=0:=rfl
  rw[e]at h
  by_cases c1:nm=[]
  ·by_cases c2:m=0
   ·refine .inr (.inl ?_)
    cases c3:gr tp with
    |false=>rfl
    |true=>exact absurd ⟨by omega,.inr c1,.inl rfl,.inr c3⟩ h
   ·exact .inr (.inr c2)
  ·exact .inl c1
 ·rw[Xm,if_pos]
  have e:uA 3=1:=rfl
  rw[e]at h
  by_cases c1:nm=[]
  ·by_cases c2:m=1
   ·refine .inr (.inl fun c3=>h ⟨by omega,.inr c1,.inr c3,.inl (.inr rfl)⟩)
   ·exact .inr (.inr c2)
  ·exact .inl c1
 ·rw[Xn,if_pos]
  have e:uA 4=2:=rfl
  rw[e]at h
  by_cases c1:nm=[]
  ·by_cases c2:m=2
   ·by_cases c4:ix=0
    ·refine .inr (.inr (.inl ?_))
     cases c3:gr tp with
     |false=>rfl
     |true=>exact absurd ⟨by omega,.inr c1,.inr c4,.inr c3⟩ h
    ·exact .inr (.inl c4)
   ·exact .inr (.inr (.inr c2))
  ·exact .inl c1
theorem Lb {k:Int}{nm:cV}{ix:Int}{tp:dU}{m b:Nat}(h1:1≤k)(h4:k≤4)(h:(m:Int)=uA k∧(k=1∨nm=[])∧(k=2∨ix=0)∧((k=1∨k=3)∨gr tp=true)):
 gK k nm ix tp m b=if k=1∧isName nm=false then 10 else if(k=1∨k=3)∧jc tp≠0 then 12 else if k=2∧(ix<0∨(b:Int)≤ix)then 15 else 0:=by
 obtain⟨q1,q2,q3,q4⟩:=h
 rcases(show k=1∨k=2∨k=3∨k=4 by omega)with rfl|rfl|rfl|rfl
 ·have e:uA 1=0:=rfl
  rw[e]at q1
  rw[Xk,if_neg (by omega)];simp
 ·have e:uA 2=0:=rfl
  rw[e]at q1
  have q2:nm=[]:=q2.resolve_left (by decide)
  have q4:gr tp=true:=q4.resolve_left (by decide)
  rw[Xl,if_neg (by rw[q2,q4];simp;omega)];simp
 ·have e:uA 3=1:=rfl
  rw[e]at q1
  have q2:nm=[]:=q2.resolve_left (by decide)
  rw[Xm,if_neg (by rw[q2];simp;omega)];simp
 ·have e:uA 4=2:=rfl
  rw[e]at q1
  have q2:nm=[]:=q2.resolve_left (by decide)
  have q4:gr tp=true:=q4.resolve_left (by decide)
  rw[Xn,if_neg (by rw[q2,q4];simp;omega)];simp
theorem Bs {x:cx}{b:Nat}(h:jN x b=0):x.args.length≤2:=by
 rcases qT h with⟨_,_,h⟩|⟨_,_,_,h⟩|⟨_,h,_⟩|⟨_,h⟩<;>omega
theorem IY (t:cx):oa [(t,1,0)] 0=if(fU t 1 0 0).2.1≠0 then(fU t 1 0 0).2 else(0,0):=by rw[nZ];rfl
set_option maxHeartbeats 4000000 in
theorem zy (hto:∀t:cD,cE.wf t→ue (ax t) 1 0→je (ax t)≤200→fC Tryz.prog 125 #[bc t] ([bN t].map aF) (fun v H'=>∃z:cT,v= .tuple #[aP z,.bool (iH (ax t) []).isSome]∧H'=[]))(t:cD)(pR:cE.wf t):cz Tryz.prog 101 #[bc t] [bN t] (fv (gu (ax t))):=by
 refine cz.iL (args:=[bc t]) 177 Tryz.func101 rfl Tryz.ntmps101 rfl (fun c=> ?_);refine St.seq ?_;refine St.dX bN ?_;refine St.ei bN (xs:=[]) (x:=t) ?_;refine St.fo (aX bN (([(t,1,0)]:List (cD×Nat×Nat)).map Prod.fst)) [aX bN [t]] (fun ρ h=>h _ (List.mem_cons_self ..)) ?_;refine St.rg ?_;refine St.cX (.mk rfl) rfl (fun b1=> ?_);refine St.alloc dC rfl (fun b2=> ?_);refine St.nn (St.sr ?_);refine St.ee (Ev.bH (.mk rfl) fH trivial (by exact cy)) ?_;refine St.ee (Ev.build (ps:=[(0,(.tmp 14)),(1,(.const (.int .i64 1))),(2,(.const (.int .i64 0)))]) (aV.cons (aL.mk rfl) (aV.cons (aL.mk rfl) (aV.cons (aL.mk rfl) aV.nil))) (fun w=>pn rfl rfl w)) ?_;refine St.cn rfl (.cons (.mk rfl) .nil) r5 tx I2 rfl rfl (by simp[Value.cells]) rfl rfl (fun KM=> ?_);refine St.bB (.slice (some ⟨KM,0,none⟩) 1 1) (show _=([(t,1,0)]:List (cD×Nat×Nat)).length from rfl) (show _=rows IV [(t,1,0)]from rfl) ?_;refine St.ar ?_;refine St.nn (St.seq (St.sr ?_));refine St.ar ?_;refine St.nn (St.block ?_);refine St.my (ι:=Nat) (κ:=Value×List (cD×Nat×Nat)) (fun n z T=>(3,z.1)::(4,iv (n:Nat))::T) (fun n z=>[row z.1 197 8 (z.2).length (rows IV (z.2)),aF (aX bN ((z.2).map Prod.fst)),ae b1 (.cells (pA t).toArray 91 (0,0)),ae b2 (.cells [iv 0,iv 0].toArray 42 (0,0)),aF (bN t)]) (fun n z=>n≤200∧oa (LY z.2) n=(if(fU (ax t) 1 0 0).2.1≠0 then(fU (ax t) 1 0 0).2 else(0,0))∧(∀p∈z.2,p.2.1≤41∧p.2.2≤p.2.1∧cE.wf p.1)∧z.2.length≤n+1) (fun n z=>201-n) 0 ((.slice (some ⟨KM,0,none⟩) 1 1),[(t,1,0)]) (aE.cons 1 rfl (aE.cons 2 rfl aE.nil)) ⟨Nat.zero_le _,IY (ax t),fun p hp=>by rw[List.mem_singleton.1 hp];exact⟨by show(1:Nat)≤41;decide,by show(0:Nat)≤1;decide,pR⟩,Nat.le_refl _⟩ ?_;rintro n ⟨vz,st⟩ ⟨hn,cQ,ND,uO⟩
 dsimp only at hn cQ ND uO⊢
 refine St.seq (St.sr ?_);refine St.mv ?_;refine St.ee (Ev.fl (.mk rfl) r5) ?_;refine St.ee Ev.s5 ?_;refine St.nn ?_;refine St.cond _ rfl (fun gP=> ?_) (fun gP=> ?_)
 ·try simp only[aC]at gP
  obtain⟨s0,p,rfl⟩:=xU (show 0<st.length by omega);obtain⟨y,d,b⟩:=p;obtain⟨VT,Vi,Jv⟩:=ND (y,d,b) (by simp)
  replace VT:d≤41:=VT
  replace Vi:b≤d:=Vi
  have Nd:(s0++ [(y,d,b)]).length=s0.length+1:=by rw[List.length_append];rfl
  rw[IW]at cQ
  replace cQ:oa ((ax y,d,b)::LY s0) n=_:=cQ
  have TH:y.name.length≤9223372036854775807:=by have:=Jv.2.1;simp only[hP]at this;omega
  refine St.cC bN ((s0++ [(y,d,b)]).map Prod.fst) (x:=y) (by simp) ?_;refine St.fo (aX bN (s0.map Prod.fst)) [aX bN ((s0++ [(y,d,b)]).map Prod.fst)] (fun ρ h z hz=>h _ (List.mem_cons_self ..) z (by rw[List.map_append];exact List.mem_append_left _ hz)) ?_;refine St.pB y ?_;refine St.wf y.av.1 (fun abN adT=> ?_)
  have wH:=xO y b
  refine St.skip (St.aA (St.seq (St.block (St.sr ?_))));refine St.mv ?_;refine St.mv ?_;refine St.ee (Ev.fl (.mk rfl) r5) ?_;refine St.ee Ev.s0 ?_;refine St.ee (Ev.cN (k:=s0.length) (.mk rfl) (.mk rfl) r5 tx (by omega) (by omega)) ?_;refine St.ee (Ev.qm (R:=IV) (l:=s0++ [(y,d,b)]) (g:=(y,d,b)) (.mk rfl) (by simp) Tryz.underlying197 trivial tx (by omega)) ?_;refine St.slot 27 (.agg [iv y.kind,sv y.name,iv y.index,sv y.type.base,y.type.av.1,y.av.1,iv ((d:Nat):Int),iv ((b:Nat):Int)].toArray) rfl rfl ?_;refine St.alloc N8 rfl (fun b5=> ?_);refine St.sA (.mk rfl) (.mk rfl) tx ?_ (h1:=(by simp only[List.all_cons,List.all_nil,Bool.and_true,Bool.and_eq_true];exact⟨rfl,rfl,rfl,rfl,y.type.av.2,y.av.2,rfl,rfl⟩));refine St.nn (St.sr ?_);refine St.mv ?_;refine St.mv ?_;refine St.ee (Ev.fl (.mk rfl) r5) ?_;refine St.ee Ev.s0 ?_;refine St.ee (Ev.oS (h:=s0.length) (.mk rfl) (.mk rfl) r5 tx (by omega) (by omega)) ?_;refine St.Ad vz s0.length (by omega) ?_;refine St.bB (ou vz 8 0 s0.length) rfl (pq IV s0 (y,d,b)) ?_;refine St.ar ?_;refine St.nn (St.sr ?_);refine St.ee (Ev.aD (.mk rfl) LA) ?_;refine St.ee (Ev.gy 6 (.mk rfl) fH trivial cy rfl rfl) ?_;refine St.slot 34 (.agg [iv y.kind,sv y.name,iv y.index,sv y.type.base,y.type.av.1,y.av.1].toArray) rfl rfl ?_;refine St.alloc rb rfl (fun b6=> ?_);refine St.sA (.mk rfl) (.mk rfl) cy ?_ (h1:=(by simp only[List.all_cons,List.all_nil,Bool.and_true,Bool.and_eq_true];exact⟨rfl,rfl,rfl,rfl,y.type.av.2,y.av.2⟩));refine St.nn (St.sr ?_);refine St.ar ?_;refine St.nn ?_;refine St.join (ι:=Int) (fun cd T=>(7,iv cd)::T) (fun cd=>[row (ou vz 8 0 s0.length) 197 8 (s0).length (rows IV (s0)),ae b5 (.cells [iv y.kind,sv y.name,iv y.index,sv y.type.base,y.type.av.1,y.av.1,iv ((d:Nat):Int),iv ((b:Nat):Int)].toArray 197 (0,0)),ae b6 (.cells [iv y.kind,sv y.name,iv y.index,sv y.type.base,y.type.av.1,y.av.1].toArray 91 (0,0)),aF (bW y.type),aF (sl cE y.av.1 y.args),aF (aX bN y.args),aF (aX bN (s0.map Prod.fst)),ae b1 (.cells (pA t).toArray 91 (0,0)),ae b2 (.cells [iv 0,iv 0].toArray 42 (0,0)),aF (bN t)]) (fun cd=>cd=if 200<n+1∨40<d then 1 else jN (ax y) b) (aE.cons 1 rfl (aE.cons 2 rfl (aE.cons 3 rfl (aE.cons 4 rfl (aE.cons 5 rfl (aE.cons 6 rfl aE.nil)))))) ?_ ?_
  ·refine St.sr ?_
   refine St.mv ?_;refine St.ee Ev.ra ?_;refine St.mv ?_;refine St.gf _ rfl rfl (fun hg=>Ev.aD (.mk rfl) Cx) rfl ?_;refine St.gf _ rfl rfl (fun hg=>Ev.cS (aL.gv rfl hg) bP trivial (by rfl)) rfl ?_;refine St.gf _ rfl rfl (fun hg=>Ev.gtr (aL.gv rfl hg) (.mk rfl)) rfl ?_;refine St.ee Ev.o0 ?_;refine St.nn ?_;refine St.cond _ rfl (fun o6=> ?_) (fun o6=> ?_)
   ·try simp only[aC]at o6
    refine St.rg ?_;refine St.ar ?_;refine St.nn ?_;refine St.mE 1 (by rw[if_pos (by omega)])
   ·try simp only[aC]at o6
    have D1:¬(200<n+1∨40<d):=by omega
    refine St.sr ?_;refine St.ee (Ev.aD (.mk rfl) gp) ?_;refine St.ee (Ev.l0 (.mk rfl) bP) ?_;refine St.ee Ev.dz ?_;refine St.mv ?_;refine St.gf _ rfl rfl (fun hg=>Ev.aD (.mk rfl) gp) rfl ?_;refine St.gf _ rfl rfl (fun hg=>Ev.cS (aL.gv rfl hg) bP trivial (by rfl)) rfl ?_;refine St.gf _ rfl rfl (fun hg=>Ev.gtr (aL.gv rfl hg) (.mk rfl)) rfl ?_;refine St.ee Ev.o0 ?_;refine St.nn ?_;refine St.cond _ rfl (fun PW=> ?_) (fun PW=> ?_)
    ·try simp only[aC]at PW
     refine St.rg ?_;refine St.ar ?_;refine St.nn ?_;refine St.mE 4 (by rw[if_neg D1,wH,tm5 (by omega) (by omega) (by omega) (by omega)])
    ·try simp only[aC]at PW
     have lb:1≤y.kind:=by omega
     have Sh:y.kind≤4:=by omega
     refine St.sr ?_;refine St.cn rfl (.cons (.mk rfl) (.cons (.mk rfl) (.cons (.mk rfl) (.cons (.mk rfl) (.cons (.mk rfl) .nil))))) bE cr eE rfl rfl (by simp[Value.cells]) rfl rfl (fun b50=> ?_);refine St.aU (.slice (some ⟨b50,0,none⟩) 5 5) aK [0,0,0,1,2] rfl rfl (fun z hz=>by simp only[List.mem_cons,List.not_mem_nil,or_false]at hz;rcases hz with rfl|rfl|rfl|rfl|rfl<;>(show bF _;unfold bF;decide)) ?_;refine St.ee (Ev.aD (.mk rfl) gp) ?_;refine St.ee (Ev.l0 (.mk rfl) bP) ?_;refine St.ee (Ev.aR (k:=y.kind.toNat) (.mk rfl) (.mk rfl) bE cr (by omega) (by show y.kind.toNat<5;omega)) ?_;refine St.ee (Ev.fL (.mk rfl) (show([0,0,0,1,2]:List Int)[y.kind.toNat]?=some (uA y.kind)from jg 0 (by show y.kind.toNat<5;omega)) bP trivial rfl) ?_;refine St.ar ?_;refine St.nn (St.sr ?_);refine St.ee (Ev.aD (.mk rfl) gC) ?_;refine St.ee (Ev.l0 (.mk rfl) eo) ?_;refine St.ee (Ev.au (.mk rfl) eo) ?_;refine St.mv ?_;refine St.ee Ev.fa ?_;refine St.mv ?_;refine St.gt _ rfl rfl (fun hg=>Ev.aD (.mk rfl) gp) rfl ?_;refine St.gt _ rfl rfl (fun hg=>Ev.cS (aL.gv rfl hg) bP trivial (by rfl)) rfl ?_;refine St.gt _ rfl rfl (fun hg=>Ev.eql (aL.gv rfl hg) (.mk rfl)) rfl ?_;refine St.gt _ rfl rfl (fun hg=>Ev.move (aL.gv rfl hg)) rfl ?_;refine St.ny _ rfl rfl (fun hg=>Ev.aD (.mk rfl) oY) rfl ?_;refine St.ny _ rfl rfl (fun hg=>Ev.cS (aL.gv rfl hg) eG trivial (by rfl)) rfl ?_;refine St.ny _ rfl rfl (fun hg=>Ev.j1 (aL.gv rfl hg) (.mk rfl)) rfl ?_;refine St.gt _ rfl rfl (fun hg=>Ev.or (aL.gv rfl hg) (fun hp=>aL.gv rfl (kH hg hp))) rfl ?_;refine St.ee Ev.n0 ?_;refine St.mv ?_;refine St.gt _ rfl rfl (fun hg=>Ev.aD (.mk rfl) gp) rfl ?_;refine St.gt _ rfl rfl (fun hg=>Ev.cS (aL.gv rfl hg) bP trivial (by rfl)) rfl ?_;refine St.gt _ rfl rfl (fun hg=>Ev.eql (aL.gv rfl hg) (.mk rfl)) rfl ?_;refine St.gt _ rfl rfl (fun hg=>Ev.move (aL.gv rfl hg)) rfl ?_;refine St.ny _ rfl rfl (fun hg=>Ev.aD (.mk rfl) lB) rfl ?_;refine St.ny _ rfl rfl (fun hg=>Ev.cS (aL.gv rfl hg) bP trivial (by rfl)) rfl ?_;refine St.ny _ rfl rfl (fun hg=>Ev.eql (aL.gv rfl hg) (.mk rfl)) rfl ?_;refine St.gt _ rfl rfl (fun hg=>Ev.or (aL.gv rfl hg) (fun hp=>aL.gv rfl (kH hg hp))) rfl ?_;refine St.ee Ev.n0 ?_;refine St.mv ?_;refine St.gt _ rfl rfl (fun hg=>Ev.aD (.mk rfl) gp) rfl ?_;refine St.gt _ rfl rfl (fun hg=>Ev.cS (aL.gv rfl hg) bP trivial (by rfl)) rfl ?_;refine St.gt _ rfl rfl (fun hg=>Ev.eql (aL.gv rfl hg) (.mk rfl)) rfl ?_;refine St.gt _ rfl rfl (fun hg=>Ev.move (aL.gv rfl hg)) rfl ?_;refine St.ny _ rfl rfl (fun hg=>Ev.aD (.mk rfl) gp) rfl ?_;refine St.ny _ rfl rfl (fun hg=>Ev.cS (aL.gv rfl hg) bP trivial (by rfl)) rfl ?_;refine St.ny _ rfl rfl (fun hg=>Ev.eql (aL.gv rfl hg) (.mk rfl)) rfl ?_;refine St.gt _ rfl rfl (fun hg=>Ev.or (aL.gv rfl hg) (fun hp=>aL.gv rfl (kH hg hp))) rfl ?_;refine St.gt _ rfl rfl (fun hg=>Ev.move (aL.gv rfl hg)) rfl ?_;refine St.ny _ rfl rfl (fun hg=>Ev.aD (.mk rfl) lC) rfl ?_;refine St.ny _ rfl rfl (fun hg=>Ev.gy 2 (aL.gv rfl hg) bX trivial bD rfl rfl) rfl ?_;refine St.ny _ rfl rfl (fun hg=>Ev.call (zr y.type) V6 (.cons (aL.gv rfl hg) .nil)) rfl ?_;refine St.gt _ rfl rfl (fun hg=>Ev.or (aL.gv rfl hg) (fun hp=>aL.gv rfl (kH hg hp))) rfl ?_;refine St.ee Ev.n0 ?_;refine St.ar ?_;refine St.nn (St.sr ?_);refine St.mv ?_;refine St.ee (Ev.not (.mk rfl)) ?_;refine St.nn ?_;refine St.cond _ rfl (fun Ep=> ?_) (fun Ep=> ?_)
     ·simp only[aC]at Ep
      have h5:gK y.kind y.name y.index (bI y.type) y.args.length b=5:=La lb Sh (by rintro ⟨g1,g2,g3,g4⟩;rcases Ep with((h|h)|h)|h;exact h g1;rcases g2 with g|g;exact h.1 g;exact h.2 g;rcases g3 with g|g;exact h.1 g;exact h.2 g;rcases g4 with(g|g)|g;exact h.1.1 g;exact h.1.2 g;rw[h.2]at g;cases g)
      refine St.rg ?_;refine St.ar ?_;refine St.nn ?_;refine St.mE 5 (by rw[if_neg D1,wH,h5])
     ·simp only[aC]at Ep
      have oL:=Lb (nm:=y.name) (ix:=y.index) (tp:=bI y.type) (m:=y.args.length) (b:=b) lb Sh ⟨Ep.1.1.1,Ep.1.1.2,Ep.1.2,Ep.2⟩
      refine St.sr ?_;refine St.ee (Ev.aD (.mk rfl) gp) ?_;refine St.ee (Ev.l0 (.mk rfl) bP) ?_;refine St.ee Ev.fa ?_;refine St.mv ?_;refine St.gt _ rfl rfl (fun hg=>Ev.aD (.mk rfl) oY) rfl ?_;refine St.gt _ rfl rfl (fun hg=>Ev.cS (aL.gv rfl hg) eG trivial (by rfl)) rfl ?_;refine St.gt _ rfl rfl (fun hg=>Ev.call (Bh y.name TH) V7 (.cons (aL.gv rfl hg) .nil)) rfl ?_;refine St.gt _ rfl rfl (fun hg=>Ev.not (aL.gv rfl hg)) rfl ?_;refine St.ee Ev.n0 ?_;refine St.nn ?_;refine St.cond _ rfl (fun IZ=> ?_) (fun IZ=> ?_)
      ·try simp only[aC]at IZ
       rw[if_pos (show y.kind=1∧isName y.name=false from IZ)]at oL;refine St.rg ?_;refine St.ar ?_;refine St.nn ?_;refine St.mE 10 (by rw[if_neg D1,wH,oL])
      ·try simp only[aC]at IZ
       rw[if_neg (show ¬(y.kind=1∧isName y.name=false)from fun g=>by rcases IZ with h|h;exact h g.1;rw[g.2]at h;cases h)]at oL;refine St.sr ?_;refine St.ee (Ev.aD (.mk rfl) gp) ?_;refine St.ee (Ev.l0 (.mk rfl) bP) ?_;refine St.ee Ev.fa ?_;refine St.mv ?_;refine St.gf _ rfl rfl (fun hg=>Ev.aD (.mk rfl) gp) rfl ?_;refine St.gf _ rfl rfl (fun hg=>Ev.cS (aL.gv rfl hg) bP trivial (by rfl)) rfl ?_;refine St.gf _ rfl rfl (fun hg=>Ev.eql (aL.gv rfl hg) (.mk rfl)) rfl ?_;refine St.ee Ev.o0 ?_;refine St.mv ?_;refine St.gt _ rfl rfl (fun hg=>Ev.aD (.mk rfl) lC) rfl ?_;refine St.gt _ rfl rfl (fun hg=>Ev.gy 2 (aL.gv rfl hg) bX trivial bD rfl rfl) rfl ?_;refine St.gt _ rfl rfl (fun hg=>Ev.call (y1 y.type) V8 (.cons (aL.gv rfl hg) .nil)) rfl ?_;refine St.gt _ rfl rfl (fun hg=>Ev.neq (aL.gv rfl hg) (.mk rfl)) rfl ?_;refine St.ee Ev.n0 ?_;refine St.nn ?_;refine St.cond _ rfl (fun tE=> ?_) (fun tE=> ?_)
       ·try simp only[aC]at tE
        rw[if_pos (show(y.kind=1∨y.kind=3)∧jc (bI y.type)≠0 from tE)]at oL;refine St.rg ?_;refine St.ar ?_;refine St.nn ?_;refine St.mE 12 (by rw[if_neg D1,wH,oL])
       ·try simp only[aC]at tE
        rw[if_neg (show ¬((y.kind=1∨y.kind=3)∧jc (bI y.type)≠0)from fun g=>by rcases tE with h|h;rcases g.1 with g|g;exact h.1 g;exact h.2 g;exact g.2 (by simpa using h))]at oL;refine St.sr ?_;refine St.ee (Ev.aD (.mk rfl) gp) ?_;refine St.ee (Ev.l0 (.mk rfl) bP) ?_;refine St.ee Ev.fa ?_;refine St.mv ?_;refine St.gt _ rfl rfl (fun hg=>Ev.aD (.mk rfl) lB) rfl ?_;refine St.gt _ rfl rfl (fun hg=>Ev.cS (aL.gv rfl hg) bP trivial (by rfl)) rfl ?_;refine St.gt _ rfl rfl (fun hg=>Ev.lss (aL.gv rfl hg) (.mk rfl)) rfl ?_;refine St.gt _ rfl rfl (fun hg=>Ev.move (aL.gv rfl hg)) rfl ?_;refine St.ny _ rfl rfl (fun hg=>Ev.aD (.mk rfl) lB) rfl ?_;refine St.ny _ rfl rfl (fun hg=>Ev.cS (aL.gv rfl hg) bP trivial (by rfl)) rfl ?_;refine St.ny _ rfl rfl (fun hg=>Ev.aD (.mk rfl) Cy) rfl ?_;refine St.ny _ rfl rfl (fun hg=>Ev.cS (aL.gv rfl hg) bP trivial (by rfl)) rfl ?_;refine St.ny _ rfl rfl (fun hg=>Ev.geq (aL.gv rfl hg) (aL.gv rfl hg)) rfl ?_;refine St.gt _ rfl rfl (fun hg=>Ev.or (aL.gv rfl hg) (fun hp=>aL.gv rfl (kH hg hp))) rfl ?_;refine St.ee Ev.n0 ?_;refine St.nn ?_;refine St.cond _ rfl (fun Ia=> ?_) (fun Ia=> ?_)
        ·try simp only[aC]at Ia
         rw[if_pos (show y.kind=2∧(y.index<0∨(b:Int)≤y.index)from Ia)]at oL;refine St.rg ?_;refine St.ar ?_;refine St.nn ?_;refine St.mE 15 (by rw[if_neg D1,wH,oL])
        ·try simp only[aC]at Ia
         rw[if_neg (show ¬(y.kind=2∧(y.index<0∨(b:Int)≤y.index))from fun g=>by rcases Ia with h|h;exact h g.1;omega)]at oL;refine St.skip (St.aA ?_);refine St.mE 0 (by rw[if_neg D1,wH,oL])
  ·intro cd PY
   refine St.seq (St.sr ?_);refine St.mv ?_;refine St.ee Ev.jj ?_;refine St.nn ?_;refine St.cond _ rfl (fun EU=> ?_) (fun EU=> ?_)
   ·try simp only[aC]at EU
    have abO:oa ((ax y,d,b)::LY s0) n=(cd,(n:Int)):=by by_cases h:200<n+1∨40<d;rw[G2 h,PY,if_pos h];rw[if_neg h]at PY;rw[G3 h (by rw[←PY];exact EU),PY]
    rw[abO]at cQ
    have od:gu (ax t)=(cd,(n:Int)):=by unfold gu;by_cases h:(fU (ax t) 1 0 0).2.1≠0;rw[if_pos h]at cQ⊢;exact cQ.symm;rw[if_neg h]at cQ;exact absurd (congrArg Prod.fst cQ) EU
    refine St.sr ?_;refine St.mv ?_;refine St.mv ?_;refine St.ee (Ev.build (ps:=[(0,(.tmp 137)),(1,(.tmp 138))]) (aV.cons (aL.mk rfl) (aV.cons (aL.mk rfl) aV.nil)) (fun w=>bO rfl rfl w)) ?_;refine St.sA (.mk rfl) (.mk rfl) bC ?_;refine St.nn (St.ab (St.aB (St.aN (St.aB (St.aB (St.aN (St.aB ?_)))))));refine St.rU [_] [] Tryz.results101 ?_;exact congrArg fv od.symm
   ·try simp only[aC]at EU
    have D1:¬(200<n+1∨40<d):=by intro h;rw[if_pos h]at PY;omega
    rw[if_neg D1]at PY
    have h00:jN (ax y) b=0:=by rw[←PY];exact EU
    have Ql:=Bs h00
    rw[iZ,List.length_map]at Ql;rw[Jw D1 h00,iZ,m7]at cQ
    obtain⟨bd,Dt⟩:∃bd,bd=if y.kind=3 then b+1 else b:=⟨_,rfl⟩
    rw[←Dt]at cQ
    have abP:bd≤d+1:=by rw[Dt];split<;>omega
    refine St.skip (St.aA (St.sr ?_));refine St.ee (Ev.aD (.mk rfl) Cy) ?_;refine St.ee (Ev.l0 (.mk rfl) bP) ?_;refine St.ar ?_;refine St.nn ?_;refine St.join (ι:=Unit) (fun u T=>(10,iv ((bd:Nat):Int))::T) (fun u=>[row (ou vz 8 0 s0.length) 197 8 (s0).length (rows IV (s0)),ae b5 (.cells [iv y.kind,sv y.name,iv y.index,sv y.type.base,y.type.av.1,y.av.1,iv ((d:Nat):Int),iv ((b:Nat):Int)].toArray 197 (0,0)),ae b6 (.cells [iv y.kind,sv y.name,iv y.index,sv y.type.base,y.type.av.1,y.av.1].toArray 91 (0,0)),aF (bW y.type),aF (sl cE y.av.1 y.args),aF (aX bN y.args),aF (aX bN (s0.map Prod.fst)),ae b1 (.cells (pA t).toArray 91 (0,0)),ae b2 (.cells [iv 0,iv 0].toArray 42 (0,0)),aF (bN t)]) (fun u=>True) (aE.cons 1 rfl (aE.cons 2 rfl (aE.cons 3 rfl (aE.cons 4 rfl (aE.cons 5 rfl (aE.cons 6 rfl aE.nil)))))) ?_ ?_
    ·refine St.sr ?_
     refine St.ee (Ev.aD (.mk rfl) gp) ?_;refine St.ee (Ev.l0 (.mk rfl) bP) ?_;refine St.ee Ev.fa ?_;refine St.nn ?_;refine St.cond _ rfl (fun Ib=> ?_) (fun Ib=> ?_)
     ·try simp only[aC]at Ib
      refine St.rg ?_;refine St.mv ?_;refine St.ee Ev.a0 ?_;refine St.ar ?_;refine St.nn ?_;refine St.slot 10 (iv ((bd:Nat):Int)) rfl (congrArg iv (by rw[Dt,if_pos Ib];rfl)) ?_;refine St.mE () trivial
     ·try simp only[aC]at Ib
      refine St.skip (St.aA ?_);refine St.slot 10 (iv ((bd:Nat):Int)) rfl (congrArg iv (by rw[Dt,if_neg Ib])) ?_;refine St.mE () trivial
    ·intro _ _
     refine St.sr ?_;refine St.ee (Ev.aD (.mk rfl) gC) ?_;refine St.ee (Ev.l0 (.mk rfl) eo) ?_;refine St.ee (Ev.au (.mk rfl) eo) ?_;refine St.ee Ev.s0 ?_;refine St.ar ?_;refine St.nn (St.block ?_);refine St.bB (ou vz 8 0 s0.length) (show _=(s0++(y.args.drop y.args.length).reverse.map (fun z=>(z,d+1,bd))).length by rw[List.drop_length];simp) (show _=rows IV (s0++(y.args.drop y.args.length).reverse.map (fun z=>(z,d+1,bd))) by rw[List.drop_length];simp) ?_;refine St.my (ι:=Nat) (κ:=Value) (fun j v T=>(11,iv ((j:Nat)-1:Int))::(3,v)::T) (fun j v=>[row v 197 8 (s0++(y.args.drop j).reverse.map (fun z=>(z,d+1,bd))).length (rows IV (s0++(y.args.drop j).reverse.map (fun z=>(z,d+1,bd)))),ae b5 (.cells [iv y.kind,sv y.name,iv y.index,sv y.type.base,y.type.av.1,y.av.1,iv ((d:Nat):Int),iv ((b:Nat):Int)].toArray 197 (0,0)),ae b6 (.cells [iv y.kind,sv y.name,iv y.index,sv y.type.base,y.type.av.1,y.av.1].toArray 91 (0,0)),aF (bW y.type),aF (sl cE y.av.1 y.args),aF (aX bN y.args),aF (aX bN (s0.map Prod.fst)),ae b1 (.cells (pA t).toArray 91 (0,0)),ae b2 (.cells [iv 0,iv 0].toArray 42 (0,0)),aF (bN t)]) (fun j v=>j≤y.args.length) (fun j v=>j) y.args.length (ou vz 8 0 s0.length) (aE.cons 1 rfl (aE.cons 2 rfl (aE.cons 4 rfl (aE.cons 5 rfl (aE.cons 6 rfl (aE.cons 10 rfl aE.nil)))))) (Nat.le_refl _) ?_;intro j v hj;refine St.seq (St.sr ?_);refine St.mv ?_;refine St.ee Ev.ra ?_;refine St.nn ?_;refine St.cond _ rfl (fun PZ=> ?_) (fun PZ=> ?_)
     ·try simp only[aC]at PZ
      obtain⟨i,rfl⟩:∃i,j=i+1:=⟨j-1,by omega⟩
      obtain⟨z,hz⟩:=aQ (show i<y.args.length by omega)
      have AJ:(s0++(y.args.drop (i+1)).reverse.map (fun z=>(z,d+1,bd))).length=s0.length+(y.args.length-(i+1)):=by rw[List.length_append,List.length_map,List.length_reverse,List.length_drop]
      have hpu:s0++(y.args.drop i).reverse.map (fun z=>(z,d+1,bd))=(s0++(y.args.drop (i+1)).reverse.map (fun z=>(z,d+1,bd)))++ [(z,d+1,bd)]:=by rw[IX hz,List.append_assoc]
      refine St.skip (St.aA (St.seq (St.block ?_)));refine St.eK [row v 197 8 (s0++(y.args.drop (i+1)).reverse.map (fun z=>(z,d+1,bd))).length (rows IV (s0++(y.args.drop (i+1)).reverse.map (fun z=>(z,d+1,bd))))] mixed (fun np ns=> ?_);refine SW.dd 0 rfl (fun _=>Ev.move (.mk rfl)) ?_;refine SW.dd 1 rfl (fun _=>Ev.aD (.mk rfl) gC) ?_;refine SW.dd 2 rfl (fun _=>Ev.cS (.mk rfl) eo trivial (by rfl)) ?_;refine SW.dd 3 rfl (fun _=>Ev.move (.mk rfl)) ?_;refine SW.dd 4 rfl (fun _=>Ev.aR (k:=i) (.mk rfl) (.mk rfl) eo cy (by omega) (by omega)) ?_;refine SW.dd 5 rfl (fun _=>Ev.fg (.mk rfl) hz fH trivial cy en.eq) ?_;refine SW.dd 6 rfl (fun _=>Ev.aD (.mk rfl) Cx) ?_;refine SW.dd 7 rfl (fun _=>Ev.cS (.mk rfl) bP trivial (by rfl)) ?_;refine SW.dd 8 rfl (fun _=>Ev.a0) ?_;refine SW.slot 163 (iv ((d+1:Nat):Int)) rfl rfl ?_;refine SW.dd 9 rfl (fun _=>Ev.move (.mk rfl)) ?_;refine SW.dd 10 rfl (fun _=>Ev.build (ps:=[(0,(.tmp 160)),(1,(.tmp 163)),(2,(.tmp 164))]) (aV.cons (aL.mk rfl) (aV.cons (aL.mk rfl) (aV.cons (aL.mk rfl) aV.nil))) (fun w=>pn rfl rfl w)) ?_;refine SW.bG (i:=11) (by kernel_rfl) rfl ?_;refine St.cn rfl (.cons (.mk rfl) .nil) r5 tx I2 rfl rfl (by simp[Value.cells]) rfl rfl (fun EN=> ?_);refine St.nn ?_;refine SW.go ?_;refine SW.bG (i:=12) (by kernel_rfl) rfl ?_;refine St.cL (.mk rfl) (.mk rfl) r5 tx I2 V9 (fun u hu=>by simp only[List.flatMap_cons,List.flatMap_nil,Value.cells,List.append_nil]at hu;exact IV.one (z,d+1,bd) u (by simpa using hu)) (by omega) (by omega) rfl rfl rfl rfl (fun v167 ab9=> ?_);refine St.bB v167 (show _=(s0++(y.args.drop i).reverse.map (fun z=>(z,d+1,bd))).length by rw[hpu];simp only[List.length_append,List.length_cons,List.length_nil]) (show _=rows IV (s0++(y.args.drop i).reverse.map (fun z=>(z,d+1,bd))) by rw[hpu,cl];rfl) ?_;refine St.nn ?_;refine SW.go ?_;refine SW.dd 13 rfl (fun _=>Ev.assign (.mk rfl)) ?_;refine SW.done (by kernel_rfl) ?_;refine St.aO (St.aA (St.rg ?_));refine St.mv ?_;refine St.ee Ev.s0 ?_;refine St.ar ?_;refine St.nn ?_;refine St.slot 11 (iv ((i:Nat)-1:Int)) rfl (congrArg iv (by omega)) ?_;refine St.ji i v167 (by omega)
     ·try simp only[aC]at PZ
      obtain rfl:j=0:=by omega
      rw[List.drop_zero];rw[←LZ]at cQ;refine St.fo (aX bN ((s0++y.args.reverse.map (fun z=>(z,d+1,bd))).map Prod.fst)) [aX bN (s0.map Prod.fst),aX bN y.args] (fun ρ h z hz=>by rw[List.map_append,List.map_map]at hz;rcases List.mem_append.1 hz with hz|hz;exact h _ (List.mem_cons_self ..) z hz;exact(show(aX bN y.args).f ρ from h _ (by simp)) z (by simpa using hz)) ?_;refine St.exit (St.aI (St.aI (St.bM (St.aO (St.aA (St.rg ?_))))));refine St.mv ?_;refine St.ee Ev.a0 ?_;refine St.ar ?_;refine St.nn ?_;refine St.slot 4 (iv ((n+1:Nat):Int)) rfl rfl ?_;refine St.ji (n+1) (v,s0++y.args.reverse.map (fun z=>(z,d+1,bd))) ⟨by omega,cQ,fun p hp=>by rcases List.mem_append.1 hp with hp|hp;exact ND p (List.mem_append_left _ hp);obtain⟨z,hz,rfl⟩:=List.mem_map.1 hp;exact⟨by show d+1≤41;omega,abP,abN z (List.mem_reverse.1 hz)⟩,by dsimp only;rw[List.length_append,List.length_map,List.length_reverse];omega⟩
 ·try simp only[aC]at gP
  obtain rfl:st=[]:=List.eq_nil_of_length_eq_zero (by omega)
  have qg:(fU (ax t) 1 0 0).2.1=0:=by by_cases h:(fU (ax t) 1 0 0).2.1≠0;rw[if_pos h]at cQ;exact(congrArg Prod.fst cQ).symm;exact Decidable.not_not.1 h
  have VV:=ym _ _ _ _ qg
  have adU:=tB _ _ _ _ qg
  refine St.exit (St.aI (St.aI (St.bM (St.aA (St.seq (St.sr ?_))))));refine St.ee (Ev.bH (.mk rfl) fH trivial (by exact cy)) ?_;refine St.ay (hto t pR VV (by omega)) VA (.cons (.mk rfl) .nil) rfl ?_;rintro adV _ ⟨zs,rfl,rfl⟩;refine St.aJ ?_;refine St.mv ?_;refine St.ee (Ev.extract (.mk rfl) rfl) ?_;refine St.ee (Ev.extract (.mk rfl) rfl) ?_;refine St.alloc iA rfl (fun B6=> ?_);refine St.sA (.mk rfl) (.mk rfl) bD ?_ (h1:=(by simp only[List.all_cons,List.all_nil,Bool.and_true,Bool.and_eq_true];exact⟨rfl,zs.av.2⟩));refine St.ar ?_;refine St.nn (St.sr ?_);refine St.mv ?_;refine St.ee (Ev.not (.mk rfl)) ?_;refine St.nn ?_;refine St.cond _ rfl (fun Bt=> ?_) (fun Bt=> ?_)
  ·try simp only[aC]at Bt
   have od:gu (ax t)=(12,-1):=by unfold gu;rw[if_neg (by rw[qg];decide),if_pos (by cases e:iH (ax t) []with|none=>rfl|some s=>rw[e]at Bt;cases Bt)]
   refine St.sr ?_;refine St.ee (Ev.build (ps:=[(0,(.const (.int .i64 12))),(1,(.const (.int .i64 (-1))))]) (aV.cons (aL.mk rfl) (aV.cons (aL.mk rfl) aV.nil)) (fun w=>bO rfl rfl w)) ?_;refine St.sA (.mk rfl) (.mk rfl) bC ?_;refine St.nn (St.ab (St.aB ?_));refine St.rU [_] [] Tryz.results101 ?_;exact congrArg fv od.symm
  ·try simp only[aC]at Bt
   have od:gu (ax t)=(0,0):=by unfold gu;rw[if_neg (by rw[qg];decide),if_neg (by cases e:iH (ax t) []with|none=>rw[e]at Bt;cases Bt|some s=>simp)]
   refine St.skip (St.aA (St.sr ?_));refine St.ee (Ev.build (ps:=[]) (aV.nil) (fun w=>fB w)) ?_;refine St.sA (.mk rfl) (.mk rfl) bC ?_;refine St.nn (St.ab ?_);refine St.rU [_] [] Tryz.results101 ?_;exact congrArg fv od.symm
structure qn where
 kind:Int
 name:cV
 mX:dU
 index:Int
 kids:List Int
 up:Int
def We:qn:=⟨0,[],.mk [] [],0,[],0⟩
def jQ:List cx→Nat→List Int
 | [],_=>[]
 |x::l,m=>(m:Int)::jQ l (m+je x)
mutual
def qo:cx→Int→Nat→List qn
 | .mk k s i t l,up,m=>⟨k,s,t,i,jQ l (m+1),up⟩::qC l m (m+1)
def qC:List cx→Int→Nat→List qn
 | [],_,_=>[]
 |x::l,u,m=>qo x u m++qC l u (m+je x)
end
theorem y5 (x:cx)(up:Int)(m:Nat):qo x up m=⟨x.kind,x.name,x.type,x.index,jQ x.args (m+1),up⟩::qC x.args m (m+1):=by cases x;rw[qo];rfl
theorem uB (x:cx):je x=dQ x.args+1:=by cases x;rw[je];rfl
theorem gi (x:cx):0<je x:=by rw[uB];omega
theorem mI:∀(x:cx) (up:Int) (m:Nat),(qo x up m).length=je x:=by
 intro x;refine cx.rec (motive_1:=fun x=>∀(up:Int) (m:Nat),(qo x up m).length=je x) (motive_2:=fun l=>∀(up:Int) (m:Nat),(qC l up m).length=dQ l) ?_ ?_ ?_ x
 ·intro k s i t l ih up m
  rw[qo,List.length_cons,ih,je]
 ·intro up m;rfl
 ·intro x l AH xK up m
  rw[qC,List.length_append,AH,xK,dQ]
theorem D2:∀(l:List cx) (up:Int) (m:Nat),(qC l up m).length=dQ l
 | [],_,_=>rfl
 |x::l,up,m=>by rw[qC,List.length_append,mI,D2 l,dQ]
theorem wI:∀(l:List cx) (x:cx),dQ (l++ [x])=dQ l+je x
 | [],x=>by simp[dQ]
 |y::l,x=>by rw[List.cons_append,dQ,dQ,wI l x];omega
theorem zz:∀(l:List cx) (x:cx) (u:Int) (m:Nat),qC (l++ [x]) u m=qC l u m++qo x u (m+dQ l)
 | [],x,u,m=>by show qC [x] u m=_;rw[qC,qC,qC,dQ];simp
 |y::l,x,u,m=>by rw[List.cons_append,qC,qC,zz l x,List.append_assoc,dQ,show m+je y+dQ l=m+(je y+dQ l) by omega]
theorem wJ:∀(l:List cx) (x:cx) (m:Nat),jQ (l++ [x]) m=jQ l m++ [((m+dQ l:Nat):Int)]
 | [],x,m=>by show jQ [x] m=_;rw[jQ,jQ,jQ,dQ];rfl
 |y::l,x,m=>by rw[List.cons_append,jQ,jQ,wJ l x,dQ,show m+je y+dQ l=m+(je y+dQ l) by omega];rfl
theorem A0:∀(l:List cx) (m:Nat),(jQ l m).length=l.length
 | [],_=>rfl
 |x::l,m=>by rw[jQ,List.length_cons,A0 l,List.length_cons]
theorem D3:∀l:List cx,l.length≤dQ l
 | []=>Nat.zero_le _
 |x::l=>by have:=D3 l;have:=gi x;rw[dQ,List.length_cons];omega
theorem uC:∀(l:List cx) (m:Nat),∀z∈jQ l m,0≤z∧z<(m+dQ l:Nat)
 | [],_,z,h=>by cases h
 |x::l,m,z,h=>by
  rw[jQ]at h
  have hp:=gi x
  rw[dQ]
  rcases List.mem_cons.1 h with rfl|h
  ·omega
  ·have:=uC l _ z h;omega
def wK (R:List qn):Nat→Int→Int→Int
 |0,_,_=> -1
 |f+1,k,at_=>if at_<0 then-1 else if(R.getD at_.toNat We).kind=3 then(if k=0 then at_ else wK R f (k-1) (R.getD at_.toNat We).up)else wK R f k (R.getD at_.toNat We).up
def EV (R:List qn):Prop:=∀(j:Nat) (r:qn),R[j]?=some r→ -1≤r.up∧r.up<j
theorem nP {R:List qn}{f:Nat}{k at_:Int}{j:Nat}{r:qn}(ha:at_=j)(hr:R[j]?=some r):wK R (f+1) k at_=if r.kind=3 then(if k=0 then at_ else wK R f (k-1) r.up)else wK R f k r.up:=by
 subst ha
 rw[wK,if_neg (by omega),Int.toNat_natCast,List.getD_eq_getElem?_getD,hr];rfl
theorem pw {R:List qn}{f:Nat}{k at_:Int}(h:at_<0):wK R f k at_= -1:=by
 cases f with
 |zero=>rfl
 |succ f=>rw[wK,if_pos h]
theorem uD {R:List qn}(hU:EV R):∀(n:Nat) (at_ k:Int) (f f':Nat),at_<n→n≤R.length→at_<f→at_<f'→wK R f k at_=wK R f' k at_:=by
 intro n
 induction n with
 |zero=>
  intro at_ k f f' h _ _ _;rw[pw (by omega),pw (by omega)]
 |succ n ih=>
  intro at_ k f f' h hn h1 h2
  by_cases h0:at_<0
  ·rw[pw h0,pw h0]
  obtain⟨j,rfl⟩:∃j:Nat,at_=j:=⟨at_.toNat,by omega⟩
  obtain⟨f,rfl⟩:∃g,f=g+1:=⟨f-1,by omega⟩
  obtain⟨f',rfl⟩:∃g,f'=g+1:=⟨f'-1,by omega⟩
  obtain⟨r,hr⟩:=aQ (show j<R.length by omega);obtain⟨u1,u2⟩:=hU j r hr;rw[nP rfl hr,nP rfl hr]
  split
  ·split
   ·rfl
   ·exact ih _ _ _ _ (by omega) (by omega) (by omega) (by omega)
  ·exact ih _ _ _ _ (by omega) (by omega) (by omega) (by omega)
def mQ (R:List qn)(c:List dU)(at_:Int):Prop:=∀k:Nat,k<c.length→∃(j:Nat) (r:qn),wK R (R.length+1) k at_=j∧R[j]?=some r∧c[c.length-1-k]?=some r.mX
theorem mQ.nil (R:List qn)(a:Int):mQ R [] a:=fun k h=>absurd h (Nat.not_lt_zero k)
theorem mQ.abs {R:List qn}(hU:EV R){c:List dU}{m:Nat}{r:qn}(hr:R[m]?=some r)(hk:r.kind=3)(h:mQ R c r.up):mQ R (c++ [r.mX]) (m:Nat):=fun k qc=>by
 rw[List.length_append]at qc⊢
 simp only[List.length_cons,List.length_nil]at qc⊢
 have hm:=cG hr
 obtain⟨u1,u2⟩:=hU m r hr;rw[nP rfl hr,if_pos hk]
 cases k with
 |zero=>
  rw[if_pos (show((0:Nat):Int)=0 from rfl)];exact⟨m,r,rfl,hr,by rw[show c.length+(0+1)-1-0=c.length by omega,List.getElem?_append_right (Nat.le_refl _),Nat.sub_self];rfl⟩
 |succ k=>
  rw[if_neg (by omega),show((k+1:Nat):Int)-1=(k:Int) by omega];obtain⟨j,q,h1,h2,h3⟩:=h k (by omega);rw[uD hU R.length r.up k R.length (R.length+1) (by omega) (Nat.le_refl _) (by omega) (by omega)];exact⟨j,q,h1,h2,by rw[show c.length+(0+1)-1-(k+1)=c.length-1-k by omega,List.getElem?_append_left (by omega)];exact h3⟩
theorem mQ.app {R:List qn}(hU:EV R){c:List dU}{m:Nat}{r:qn}(hr:R[m]?=some r)(hk:r.kind≠3)(h:mQ R c r.up):mQ R c (m:Nat):=fun k qc=>by
 have hm:=cG hr
 obtain⟨u1,u2⟩:=hU m r hr;rw[nP rfl hr,if_neg hk,uD hU R.length r.up k R.length (R.length+1) (by omega) (Nat.le_refl _) (by omega) (by omega)];exact h k qc
inductive dI (t:cx):Nat→Int→Nat→cx→List dU→Prop
 |root:dI t 0 (-1) 1 t []
 |abs {m d:Nat} {up:Int} {s x:cx} {c:List dU} (h:dI t m up d s c) (hk:s.kind=3) (ha:s.args=[x]):dI t (m+1) m (d+1) x (c++ [s.type])
 |left {m d:Nat} {up:Int} {s x y:cx} {c:List dU} (h:dI t m up d s c) (hk:s.kind=4) (ha:s.args=[x,y]):dI t (m+1) m (d+1) x c
 |right {m d:Nat} {up:Int} {s x y:cx} {c:List dU} (h:dI t m up d s c) (hk:s.kind=4) (ha:s.args=[x,y]):dI t (m+1+je x) m (d+1) y c
theorem Pa:∀(x:cx) (up:Int) (m:Nat),-1≤up→up<m→∀(j:Nat) (r:qn),(qo x up m)[j]?=some r→ -1≤r.up∧r.up<(m+j:Nat):=by
 intro x;refine cx.rec (motive_1:=fun x=>∀(up:Int) (m:Nat),-1≤up→up<m→∀(j:Nat) (r:qn),(qo x up m)[j]?=some r→ -1≤r.up∧r.up<(m+j:Nat)) (motive_2:=fun l=>∀(up:Int) (m:Nat),-1≤up→up<m→∀(j:Nat) (r:qn),(qC l up m)[j]?=some r→ -1≤r.up∧r.up<(m+j:Nat)) ?_ ?_ ?_ x
 ·intro k s i t l ih up m h1 h2 j r hr
  rw[qo]at hr
  cases j with
  |zero=>
   simp only[List.getElem?_cons_zero,Option.some.injEq]at hr
   subst hr;exact⟨h1,by omega⟩
  |succ j=>
   rw[List.getElem?_cons_succ]at hr
   have:=ih m (m+1) (by omega) (by omega) j r hr
   omega
 ·intro up m _ _ j r hr;simp[qC]at hr
 ·intro x l AH xK up m h1 h2 j r hr
  rw[qC]at hr
  rcases Nat.lt_or_ge j (qo x up m).length with hj|hj
  ·rw[List.getElem?_append_left hj]at hr
   exact AH up m h1 h2 j r hr
  ·rw[List.getElem?_append_right hj]at hr
   rw[mI]at hr hj
   have:=xK up (m+je x) h1 (by omega) _ r hr
   omega
theorem A1 (t:cx):EV (qo t (-1) 0):=fun j r hr=>by
 have:=Pa t (-1) 0 (by omega) (by omega) j r hr
 omega
theorem dI.rows {t:cx}{m d:Nat}{up:Int}{s:cx}{c:List dU}(h:dI t m up d s c):∃A B,qo t (-1) 0=A++qo s up m++B∧A.length=m:=by
 induction h with
 |root=>exact⟨[],[],by simp,rfl⟩
 | @abs m d up s x c h hk ha ih=>
  obtain⟨A,B,e,hl⟩:=ih;refine⟨A++ [⟨s.kind,s.name,s.type,s.index,jQ s.args (m+1),up⟩],B,?_,by rw[List.length_append];simp[hl]⟩
  rw[e,y5 s,ha,qC,qC];simp
 | @left m d up s x y c h hk ha ih=>
  obtain⟨A,B,e,hl⟩:=ih;refine⟨A++ [⟨s.kind,s.name,s.type,s.index,jQ s.args (m+1),up⟩],qo y m (m+1+je x)++B,?_,by rw[List.length_append];simp[hl]⟩
  rw[e,y5 s,ha,qC,qC,qC];simp
 | @right m d up s x y c h hk ha ih=>
  obtain⟨A,B,e,hl⟩:=ih;refine⟨A++ [⟨s.kind,s.name,s.type,s.index,jQ s.args (m+1),up⟩]++qo x m (m+1),B,?_,by rw[List.length_append,List.length_append,mI];simp[hl]⟩
  rw[e,y5 s,ha,qC,qC,qC];simp
theorem dI.node {t:cx}{m d:Nat}{up:Int}{s:cx}{c:List dU}(h:dI t m up d s c):(qo t (-1) 0)[m]?=some ⟨s.kind,s.name,s.type,s.index,jQ s.args (m+1),up⟩:=by
 obtain⟨A,B,e,hl⟩:=h.rows
 rw[e,List.append_assoc,List.getElem?_append_right (by omega),hl,Nat.sub_self,y5];rfl
theorem dI.fits {t:cx}{m d:Nat}{up:Int}{s:cx}{c:List dU}(h:dI t m up d s c):m+je s≤je t:=by
 obtain⟨A,B,e,hl⟩:=h.rows
 have:=congrArg List.length e
 rw[mI,List.length_append,List.length_append,mI]at this;omega
theorem dI.ctx {t:cx}{m d:Nat}{up:Int}{s:cx}{c:List dU}(h:dI t m up d s c):mQ (qo t (-1) 0) c up:=by
 have hU:=A1 t
 induction h with
 |root=>exact .nil _ _
 |abs h hk ha ih=>exact mQ.abs hU h.node hk ih
 |left h hk ha ih=>exact mQ.app hU h.node (fun e=>absurd (hk.symm.trans e) (by decide)) ih
 |right h hk ha ih=>exact mQ.app hU h.node (fun e=>absurd (hk.symm.trans e) (by decide)) ih
theorem dI.tU {t:cx}(hg:ue t 1 0){m d:Nat}{up:Int}{s:cx}{c:List dU}(h:dI t m up d s c):ue s d c.length:=by
 induction h with
 |root=>exact hg
 |abs h hk ha ih=>
  have:=(ih).inv.2.2 _ (by rw[ha];exact List.mem_singleton.2 rfl)
  rw[if_pos hk]at this
  rw[List.length_append];exact this
 |left h hk ha ih=>
  have:=(ih).inv.2.2 _ (by rw[ha];exact List.mem_cons_self ..)
  rw[if_neg (by rw[hk];decide)]at this;exact this
 | @right m d up s x y c h hk ha ih=>
  have:=(ih).inv.2.2 y (by rw[ha];simp)
  rw[if_neg (by rw[hk];decide)]at this;exact this
theorem ue.shape {s:cx}{d b:Nat}(h:ue s d b):(s.kind=1∧jc s.type=0∧s.args=[])∨(s.kind=2∧0≤s.index∧s.index<b∧s.args=[])∨(s.kind=3∧jc s.type=0∧∃x,s.args=[x])∨(s.kind=4∧∃x y,s.args=[x,y]):=by
 have h2:=h.inv.2.1
 unfold jN at h2
 rcases qT h2 with⟨a,e,m⟩|⟨a,e,g,m⟩|⟨a,m,e⟩|⟨a,m⟩
 ·exact .inl ⟨a,e,List.eq_nil_of_length_eq_zero m⟩
 ·exact .inr (.inl ⟨a,e,g,List.eq_nil_of_length_eq_zero m⟩)
 ·match hs:s.args,m with
  | [x],_=>exact .inr (.inr (.inl ⟨a,e,x,rfl⟩))
 ·match hs:s.args,m with
  | [x,y],_=>exact .inr (.inr (.inr ⟨a,x,y,rfl⟩))
theorem dI.all {t:cx}(hg:ue t 1 0):∀(n:Nat) (s:cx),je s≤n→∀(m d:Nat) (up:Int) (c:List dU),dI t m up d s c→∀i,m≤i→i<m+je s→∃d' VW s' c',dI t i VW d' s' c':=by
 intro n
 induction n with
 |zero=>intro s hs;have:=gi s;omega
 |succ n ih=>
  intro s hs m d up c h i h1 h2
  by_cases e:i=m
  ·subst e;exact⟨_,_,_,_,h⟩
  rw[uB]at hs h2
  rcases(h.tU hg).shape with⟨_,_,ha⟩|⟨_,_,_,ha⟩|⟨hk,_,x,ha⟩|⟨hk,x,y,ha⟩
  ·rw[ha,dQ]at h2;omega
  ·rw[ha,dQ]at h2;omega
  ·rw[ha,dQ,dQ]at hs h2
   exact ih x (by omega) _ _ _ _ (.abs h hk ha) i (by omega) (by omega)
  ·rw[ha,dQ,dQ,dQ]at hs h2
   rcases Nat.lt_or_ge i (m+1+je x)with hi|hi
   ·exact ih x (by omega) _ _ _ _ (.left h hk ha) i (by omega) (by omega)
   ·exact ih y (by omega) _ _ _ _ (.right h hk ha) i (by omega) (by omega)
theorem dI.at_ {t:cx}(hg:ue t 1 0){i:Nat}(hi:i<je t):∃d up s c,dI t i up d s c:=
 dI.all hg _ t (Nat.le_refl _) 0 1 (-1) [] .root i (Nat.zero_le _) (by omega)
theorem A3 {s x:cx}{c:List dU}(hk:s.kind=3)(ha:s.args=[x]):iH s c=(iH x (c++ [s.type])).map fun b=> .mk [] [s.type,b]:=by
 rw[pO,if_neg (by rw[hk];decide),if_neg (by rw[hk];decide),if_pos hk,ha,jf]
theorem px {s x y:cx}{c:List dU}(hk:s.kind=4)(ha:s.args=[x,y]):iH s c=wj (iH x c) (iH y c):=by
 rw[pO,if_neg (by rw[hk];decide),if_neg (by rw[hk];decide),if_neg (by rw[hk];decide),ha,jf,rA]
theorem dI.none {t:cx}{m d:Nat}{up:Int}{s:cx}{c:List dU}(h:dI t m up d s c)(hn:iH s c=none):iH t []=none:=by
 induction h with
 |root=>exact hn
 |abs h hk ha ih=>exact ih (by rw[A3 hk ha,hn];rfl)
 |left h hk ha ih=>exact ih (by rw[px hk ha,hn];rfl)
 |right h hk ha ih=>
  refine ih ?_;rw[px hk ha,hn];unfold wj
  split
  ·rename_i _ _ _ _ _ e;cases e
  ·rfl
structure eJ where
 kind:Int
 name:cV
 mX:cT
 index:Int
 kv:cm
 kids:List Int
 up:Int
def QF (x:eJ):List Value:=[iv x.kind,sv x.name,sv x.mX.base,x.mX.av.1,iv x.index,x.kv.1,iv x.up]
theorem D4 (x:eJ)(u:Value)(h:u∈QF x):u.oneCell'=true:=by
 simp only[QF,List.mem_cons,List.not_mem_nil,or_false]at h
 rcases h with rfl|rfl|rfl|rfl|rfl|rfl|rfl
 ·rfl
 ·rfl
 ·rfl
 ·exact x.mX.av.2
 ·rfl
 ·exact x.kv.2
 ·rfl
abbrev uU:Rp eJ:=⟨7,by decide,QF,fun _=>True,fun _=>rfl,D4⟩
instance (x:eJ):en uU x (QF x):=⟨rfl⟩
def yI (x:eJ):df:=⟨fun ρ=>(bW x.mX).f ρ∧(sl aK x.kv.1 x.kids).f ρ,fun ρ iK h k=>⟨(bW x.mX).mono _ _ h k.1,(sl aK x.kv.1 x.kids).mono _ _ h k.2⟩⟩
def oM (x:eJ):qn:=⟨x.kind,x.name,bI x.mX,x.index,x.kids,x.up⟩
theorem VX (x:cD)(up:Int)(m:Nat):qo (ax x) up m=⟨x.kind,x.name,bI x.type,x.index,jQ (x.args.map ax) (m+1),up⟩::qC (x.args.map ax) m (m+1):=by
 cases x with
 |mk k s i t v l=>rw[lW,qo];rfl
theorem VY (x:cD):je (ax x)=dQ (x.args.map ax)+1:=by rw[uB,iZ]
theorem A4:∀(l m:List cx),dQ (l++m)=dQ l+dQ m
 | [],m=>by simp[dQ]
 |x::l,m=>by rw[List.cons_append,dQ,dQ,A4 l m];omega
theorem qp (l:List cx)(k:Nat):dQ (l.take k)≤dQ l:=by
 conv=>rhs;rw[←List.take_append_drop k l,A4]
 omega
theorem Pb (L W:List eJ)(N:eJ):(rows uU (L++N::W))[L.length*7+5]?=some N.kv.1:=by
 have:=jn uU (L++N::W) L.length 5 N (by simp) (by decide)
 exact this
theorem Lc (L W:List eJ)(N:eJ)(kv:cm)(kids:List Int):(rows uU (L++N::W)).set (L.length*7+5) kv.1=rows uU (L++{N with kv:=kv,kids:=kids}::W):=by
 have e:∀(A B:List eJ) (x:eJ),rows uU (A++x::B)=rows uU A++(QF x++rows uU B):=fun A B x=>by simp[rows]
 rw[e,e,List.set_append_right _ _ (by rw[dw];show L.length*7≤_;omega),dw];rw[show L.length*7+5-L.length*uU.size=5 by show _-L.length*7=5;omega];rfl
set_option maxHeartbeats 4000000 in
theorem EW:∀(x:cD) (up:Int) (L:List eJ) (vl:Value),vl.oneCell'=true→cE.wf x→L.length+je (ax x)≤1000→fC Tryz.prog 140 #[bc x,iv up,vl] [aF (bN x),row vl 219 7 (L).length (rows uU (L))] (fun v H'=>∃W:List eJ,v.oneCell'=true∧W.map oM=qo (ax x) up L.length∧H'=[row v 219 7 (L++W).length (rows uU (L++W)),aF (aX yI W)]):=by
 intro x
 induction x using cD.ind
 rename_i x ih
 intro up L vl zX hw fD;refine fC.body (args:=[bc x,iv up,vl]) 53 Tryz.func140 rfl Tryz.ntmps140 rfl (fun c=> ?_);refine St.seq ?_;refine St.pB x ?_;refine St.wf x.av.1 (fun lX sO=> ?_);rw[VY]at fD;refine St.rg ?_;refine St.cX (.mk rfl) rfl (fun b3=> ?_);refine St.ar ?_;refine St.nn (St.sr ?_);refine St.mv ?_;refine St.ee (Ev.fl (.mk rfl) jy) ?_;refine St.ar ?_;refine St.nn (St.sr ?_);refine St.mv ?_;refine St.ee (Ev.aD (.mk rfl) gp) ?_;refine St.ee (Ev.l0 (.mk rfl) bP) ?_;refine St.ee (Ev.aD (.mk rfl) oY) ?_;refine St.ee (Ev.l0 (.mk rfl) eG) ?_;refine St.ee (Ev.aD (.mk rfl) lC) ?_;refine St.ee (Ev.gy 2 (.mk rfl) bX trivial bD rfl rfl) ?_;refine St.slot 17 (.agg [sv x.type.base,x.type.av.1].toArray) rfl rfl ?_;refine St.ee (Ev.aD (.mk rfl) lB) ?_;refine St.ee (Ev.l0 (.mk rfl) bP) ?_;refine St.mv ?_;refine St.ee (Ev.build (ps:=[(0,(.tmp 13)),(1,(.tmp 15)),(2,(.tmp 17)),(3,(.tmp 19)),(5,(.tmp 20))]) (aV.cons (aL.mk rfl) (aV.cons (aL.mk rfl) (aV.cons (aL.mk rfl) (aV.cons (aL.mk rfl) (aV.cons (aL.mk rfl) aV.nil))))) (fun w=>ql rfl rfl rfl rfl w)) ?_;refine St.cn rfl (.cons (.mk rfl) .nil) jy la NA rfl rfl (by simp[Value.cells]) rfl rfl (fun IH=> ?_);refine St.cL (.mk rfl) (.mk rfl) jy la NA VC (fun u hu=>D4 (⟨x.kind,x.name,x.type,x.index,fQ,[],up⟩:eJ) u (by rw[List.flatMap_cons,List.flatMap_nil,List.append_nil]at hu;exact hu)) (by omega) (by omega) rfl rfl rfl rfl (fun Ss adW=> ?_);refine St.bB Ss (show _=(L++(⟨x.kind,x.name,x.type,x.index,fQ,[],up⟩:eJ)::[]).length by rw[List.length_append];rfl) (show _=rows uU (L++(⟨x.kind,x.name,x.type,x.index,fQ,[],up⟩:eJ)::[]) by rw[show rows uU (L++(⟨x.kind,x.name,x.type,x.index,fQ,[],up⟩:eJ)::[])=rows uU L++QF (⟨x.kind,x.name,x.type,x.index,fQ,[],up⟩:eJ) by simp[rows]];rfl) ?_;refine St.dm Ss (fun xz _=> ?_);refine St.jD 3 1 ?_;refine St.bB (.slice none 0 0) (show _=([]:List Int).length from rfl) (show _=rows aK []from rfl) ?_;refine St.fact (aX yI []) (fun _ _ _=>fun z hz=>by cases hz) ?_;refine St.ar ?_;refine St.nn (St.seq (St.sr ?_));refine St.ee (Ev.aD (.mk rfl) gC) ?_;refine St.ee (Ev.l0 (.mk rfl) eo) ?_;refine St.ee (Ev.au (.mk rfl) eo) ?_;refine St.mv ?_;refine St.nn (St.block ?_);refine St.my (ι:=Nat) (κ:=Value×List eJ×cm×List Int) (fun k z T=>(27,iv k)::(2,z.1)::T) (fun k z=>[row z.1 219 7 (L++(⟨x.kind,x.name,x.type,x.index,z.2.2.1,z.2.2.2,up⟩:eJ)::z.2.1).length (rows uU (L++(⟨x.kind,x.name,x.type,x.index,z.2.2.1,z.2.2.2,up⟩:eJ)::z.2.1)),row z.2.2.1.1 3 1 (z.2.2.2).length (rows aK (z.2.2.2)),aF (aX yI z.2.1),ae b3 (.cells (pA x).toArray 91 (0,0)),aF (bW x.type),aF (sl cE x.av.1 x.args),aF (aX bN x.args)]) (fun k z=>k≤x.args.length∧z.1.oneCell'=true∧z.2.1.map oM=qC ((x.args.map ax).take k) L.length (L.length+1)∧z.2.2.2=jQ ((x.args.map ax).take k) (L.length+1)) (fun k z=>x.args.length-k) 0 (Ss,[],fQ,[]) (aE.cons 3 rfl (aE.cons 6 rfl (aE.cons 7 rfl (aE.cons 26 rfl aE.nil)))) ⟨Nat.zero_le _,xz,rfl,rfl⟩ ?_;rintro k ⟨vz,W,kv,kids⟩ ⟨hk,Pc,hW,wL⟩
 dsimp only at Pc hW wL⊢
 have QG:W.length=dQ ((x.args.map ax).take k):=by have:=congrArg List.length hW;rwa[List.length_map,D2]at this
 have qc:kids.length≤1000:=by have e:=qp (x.args.map ax) k;rw[wL,A0,List.length_take];have:=D3 (x.args.map ax);omega
 have hLW:(L++(⟨x.kind,x.name,x.type,x.index,kv,kids,up⟩:eJ)::W).length=L.length+1+dQ ((x.args.map ax).take k):=by rw[List.length_append,List.length_cons,QG];omega
 have cQ:=qp (x.args.map ax) k
 refine St.sr ?_;refine St.ee Ev.dz ?_;refine St.nn (St.seq ?_);refine St.cond _ rfl (fun s8=> ?_) (fun s8=> ?_)
 ·try simp only[aC]at s8
  obtain⟨y,hy⟩:=aQ (show k<x.args.length by omega)
  have lY:=List.mem_of_getElem? hy
  have pb:(x.args.map ax)[k]?=some (ax y):=by rw[List.getElem?_map,hy];rfl
  have uN:=bJ pb
  have abQ:=qp (x.args.map ax) (k+1)
  rw[uN,wI]at abQ;refine St.cC bN x.args (x:=y) lY ?_;refine St.skip (St.aA (St.seq (St.block (St.sr ?_))));refine St.mv ?_;refine St.ar ?_;refine St.nn (St.sr ?_);refine St.mv ?_;refine St.mv ?_;refine St.mv ?_;refine St.mv ?_;refine St.ee (Ev.cN (k:=L.length) (.mk rfl) (.mk rfl) jy la (by omega) (by omega)) ?_;refine St.ee (Ev.F5 (.mk rfl) (by omega) pk) ?_;refine St.ee (Ev.j2 (.mk rfl) bE trivial (by omega) (Pb L W (⟨x.kind,x.name,x.type,x.index,kv,kids,up⟩:eJ))) ?_;refine St.mv ?_;refine St.ee (Ev.fl (.mk rfl) jy) ?_;refine St.slot 38 (iv ((L.length+1+dQ ((x.args.map ax).take k):Nat):Int)) rfl (congrArg iv (by rw[hLW])) ?_;refine St.cn rfl (.cons (.mk rfl) .nil) bE cr eE rfl rfl (by simp[Value.cells]) rfl rfl (fun b39=> ?_);refine St.cL (.mk rfl) (.mk rfl) bE cr eE Ix (by simp[Value.oneCell',Value.cells]) (by omega) (by omega) rfl rfl rfl rfl (fun v40 VZ=> ?_);refine St.bB v40 (show _=(kids++ [((L.length+1+dQ ((x.args.map ax).take k):Nat):Int)]).length by rw[List.length_append];rfl) (show _=rows aK (kids++ [((L.length+1+dQ ((x.args.map ax).take k):Nat):Int)]) by rw[cl];rfl) ?_;refine St.dm v40 (fun rF _=> ?_)
  have Pd:(L++(⟨x.kind,x.name,x.type,x.index,⟨v40,rF⟩,(kids++ [((L.length+1+dQ ((x.args.map ax).take k):Nat):Int)]),up⟩:eJ)::W).length=L.length+1+dQ ((x.args.map ax).take k):=by rw[List.length_append,List.length_cons,QG];omega
  refine St.ee (Ev.cN (k:=L.length) (.mk rfl) (.mk rfl) jy la (by omega) (by omega)) ?_;refine St.ee (Ev.F5 (.mk rfl) (by omega) pk) ?_;refine St.dM (.mk rfl) (.mk rfl) e7 rF (by omega) (by decide) ?_;refine St.bB vz (show _=(L++(⟨x.kind,x.name,x.type,x.index,⟨v40,rF⟩,(kids++ [((L.length+1+dQ ((x.args.map ax).take k):Nat):Int)]),up⟩:eJ)::W).length by rw[hLW,Pd]) (Lc L W (⟨x.kind,x.name,x.type,x.index,kv,kids,up⟩:eJ) ⟨v40,rF⟩ (kids++ [((L.length+1+dQ ((x.args.map ax).take k):Nat):Int)])) ?_;refine St.nn (St.rg ?_);refine St.ee (Ev.aD (.mk rfl) gC) ?_;refine St.ee (Ev.l0 (.mk rfl) eo) ?_;refine St.mv ?_;refine St.ee (Ev.aR (k:=k) (.mk rfl) (.mk rfl) eo cy (by omega) (by omega)) ?_;refine St.ee (Ev.fg (.mk rfl) hy fH trivial cy en.eq) ?_;refine St.mv ?_;refine St.mv ?_;refine St.call (ih y lY (L.length:Nat) (L++(⟨x.kind,x.name,x.type,x.index,⟨v40,rF⟩,(kids++ [((L.length+1+dQ ((x.args.map ax).take k):Nat):Int)]),up⟩:eJ)::W) vz Pc (lX y lY) (by rw[Pd];omega)) NB (.cons (.mk rfl) (.cons (.mk rfl) (.cons (.mk rfl) .nil))) rfl ?_;rintro Sr _ ⟨W2,ng,hW2,rfl⟩;refine St.ca ?_;refine St.ar ?_;refine St.nil (St.aO (St.aA (St.rg ?_)));refine St.ee Ev.a0 ?_;refine St.mv ?_;refine St.nn ?_;refine St.bB Sr (show _=(L++(⟨x.kind,x.name,x.type,x.index,⟨v40,rF⟩,(kids++ [((L.length+1+dQ ((x.args.map ax).take k):Nat):Int)]),up⟩:eJ)::(W++W2)).length by simp only[List.append_assoc,List.cons_append]) (show _=rows uU (L++(⟨x.kind,x.name,x.type,x.index,⟨v40,rF⟩,(kids++ [((L.length+1+dQ ((x.args.map ax).take k):Nat):Int)]),up⟩:eJ)::(W++W2)) by simp only[List.append_assoc,List.cons_append]) ?_;refine St.fo (aX yI (W++W2)) [aX yI W,aX yI W2] (fun ρ h z hz=>by rcases List.mem_append.1 hz with hz|hz;exact(show(aX yI W).f ρ from h _ (by simp)) z hz;exact(show(aX yI W2).f ρ from h _ (by simp)) z hz) ?_;refine St.ji (k+1) (Sr,W++W2,⟨v40,rF⟩,kids++ [((L.length+1+dQ ((x.args.map ax).take k):Nat):Int)]) ⟨by omega,ng,by rw[List.map_append,hW,hW2,uN,zz,Pd],by rw[wL,uN,wJ]⟩
 ·try simp only[aC]at s8
  have Gk:(x.args.map ax).length≤k:=by rw[List.length_map];omega
  rw[List.take_of_length_le Gk]at hW wL;refine St.aU kv.1 aK kids rfl rfl (fun z hz=>by rw[wL]at hz;have:=uC _ _ z hz;show bF z;unfold bF;omega) ?_;refine St.fo (aX yI ((⟨x.kind,x.name,x.type,x.index,kv,kids,up⟩:eJ)::W)) [aX yI W,bW x.type,sl aK kv.1 kids] (fun ρ h z hz=>by rcases List.mem_cons.1 hz with rfl|hz;exact⟨h _ (by simp),h _ (by simp)⟩;exact(show(aX yI W).f ρ from h _ (by simp)) z hz) ?_;refine St.exit (St.aI (St.aI (St.bM (St.aA (St.sr ?_)))));refine St.mv ?_;refine St.ar ?_;refine St.nn (St.ab ?_);refine St.rU [_] [row vz 219 7 (L++(⟨x.kind,x.name,x.type,x.index,kv,kids,up⟩:eJ)::W).length (rows uU (L++(⟨x.kind,x.name,x.type,x.index,kv,kids,up⟩:eJ)::W)),aF (aX yI ((⟨x.kind,x.name,x.type,x.index,kv,kids,up⟩:eJ)::W))] Tryz.results140 ?_;exact⟨(⟨x.kind,x.name,x.type,x.index,kv,kids,up⟩:eJ)::W,Pc,by rw[List.map_cons,hW,wL,VX];rfl,rfl⟩
set_option maxHeartbeats 1000000 in
theorem A5 (u:Value)(R:List eJ)(hU:EV (R.map oM))(hl:R.length≤1000)(i:Nat)(r:eJ)(hr:R[i]?=some r)(Wf:0≤r.index∧bF r.index):cz Tryz.prog 141 #[u,iv i] [sl uU u R] (iv (wK (R.map oM) ((R.map oM).length+1) r.index r.up)):=by
 refine cz.iL (args:=[u,iv i]) 35 Tryz.func141 rfl Tryz.ntmps141 rfl (fun c=> ?_);refine St.seq ?_
 have SR:(R.map oM).length=R.length:=List.length_map ..
 have Q1:=cG hr
 have AK:=hU i (oM r) (by rw[List.getElem?_map,hr];rfl)
 replace AK: -1≤r.up∧r.up<i:=AK
 have Va:=Wf.2
 unfold bF at Va;refine St.rg ?_;refine St.ar ?_;refine St.nn (St.sr ?_);refine St.mv ?_;refine St.mv ?_;refine St.ee (Ev.aR (k:=i) (.mk rfl) (.mk rfl) jy la (by omega) (by omega)) ?_;refine St.ee (Ev.eR (.mk rfl) (by omega) LB) ?_;refine St.ee (Ev.fL (.mk rfl) hr bP trivial rfl) ?_;refine St.ar ?_;refine St.nn (St.seq (St.sr ?_));refine St.mv ?_;refine St.mv ?_;refine St.ee (Ev.aR (k:=i) (.mk rfl) (.mk rfl) jy la (by omega) (by omega)) ?_;refine St.ee (Ev.eR (.mk rfl) (by omega) xx) ?_;refine St.ee (Ev.fL (.mk rfl) hr bP trivial rfl) ?_;refine St.ar ?_;refine St.nn (St.block ?_);refine St.lS (ι:=Int×Int) (fun x T=>(5,iv x.1)::(6,iv x.2)::T) (fun x=>0≤x.1∧x.1≤9223372036854775807∧ -1≤x.2∧x.2<R.length∧wK (R.map oM) ((R.map oM).length+1) r.index r.up=wK (R.map oM) ((R.map oM).length+1) x.1 x.2) (fun x=>(x.2+1).toNat) (r.index,r.up) (aE.cons 0 rfl aE.nil) ⟨Wf.1,Va.2,AK.1,by show r.up<_;omega,rfl⟩ ?_;rintro ⟨k,a⟩ ⟨Od,lb,WY,WZ,hv⟩
 dsimp only at Od lb WY WZ hv⊢
 refine St.seq (St.sr ?_);refine St.mv ?_;refine St.ee Ev.ra ?_;refine St.nn ?_;refine St.cond _ rfl (fun fM=> ?_) (fun fM=> ?_)
 ·try simp only[aC]at fM
  obtain⟨j,rfl⟩:∃j:Nat,a=j:=⟨a.toNat,by omega⟩
  obtain⟨q,hq⟩:=aQ (show j<R.length by omega)
  have hqE:(R.map oM)[j]?=some (oM q):=by rw[List.getElem?_map,hq];rfl
  have Wg:=hU j (oM q) hqE
  replace Wg: -1≤q.up∧q.up<j:=Wg
  have iU:=nP (f:=(R.map oM).length) (k:=k) (at_:=(j:Nat)) rfl hqE
  rw[←hv]at iU
  have Wa:∀k:Int,wK (R.map oM) (R.map oM).length k q.up=wK (R.map oM) ((R.map oM).length+1) k q.up:=fun k=>uD hU R.length _ _ _ _ (by omega) (by omega) (by omega) (by omega)
  refine St.skip (St.aA (St.seq (St.block (St.sr ?_))));refine St.mv ?_;refine St.mv ?_;refine St.ee (Ev.aR (k:=j) (.mk rfl) (.mk rfl) jy la (by omega) (by omega)) ?_;refine St.ee (Ev.eR (.mk rfl) (by omega) Cz) ?_;refine St.ee (Ev.fL (.mk rfl) hq bP trivial rfl) ?_;refine St.ee Ev.fa ?_;refine St.nn ?_;refine St.cond _ rfl (fun y7=> ?_) (fun y7=> ?_)
  ·try simp only[aC]at y7
   rw[if_pos (show(oM q).kind=3 from y7)]at iU;refine St.seq (St.sr ?_);refine St.mv ?_;refine St.ee Ev.fa ?_;refine St.nn ?_;refine St.cond _ rfl (fun kE=> ?_) (fun kE=> ?_)
   ·try simp only[aC]at kE
    rw[if_pos kE]at iU;refine St.sr ?_;refine St.mv ?_;refine St.ar ?_;refine St.nn (St.ab (St.aB (St.aN (St.aB (St.aB (St.aN (St.aB ?_)))))));refine St.rU [_] [] Tryz.results141 ?_;exact congrArg iv iU.symm
   ·try simp only[aC]at kE
    rw[if_neg kE]at iU;refine St.skip (St.aA (St.rg ?_));refine St.mv ?_;refine St.ee Ev.s0 ?_;refine St.ar ?_;refine St.nil (St.aO (St.aA (St.rg ?_)));refine St.mv ?_;refine St.mv ?_;refine St.ee (Ev.aR (k:=j) (.mk rfl) (.mk rfl) jy la (by omega) (by omega)) ?_;refine St.ee (Ev.eR (.mk rfl) (by omega) xx) ?_;refine St.ee (Ev.fL (.mk rfl) hq bP trivial rfl) ?_;refine St.ar ?_;refine St.nn ?_;refine St.Ab (k-1,q.up) ⟨by dsimp only;omega,by dsimp only;omega,Wg.1,by dsimp only;omega,by rw[iU];exact Wa _⟩ (by dsimp only;omega) (by repeat(first|exact Sub.nil|refine Sub.cons (by first|rfl|exact congrArg (fun z=>some (iv z)) (by first|omega|(dsimp only;omega))|exact congrArg (fun z=>some (Value.bool z)) (by first|assumption|exact Eq.symm (by assumption))) ?_)) (fun _ hw=>hw.sub)
  ·try simp only[aC]at y7
   rw[if_neg (show ¬(oM q).kind=3 from y7)]at iU;refine St.skip (St.aO (St.aA (St.rg ?_)));refine St.mv ?_;refine St.mv ?_;refine St.ee (Ev.aR (k:=j) (.mk rfl) (.mk rfl) jy la (by omega) (by omega)) ?_;refine St.ee (Ev.eR (.mk rfl) (by omega) xx) ?_;refine St.ee (Ev.fL (.mk rfl) hq bP trivial rfl) ?_;refine St.ar ?_;refine St.nn ?_;refine St.Ab (k,q.up) ⟨Od,lb,Wg.1,by dsimp only;omega,by rw[iU];exact Wa _⟩ (by dsimp only;omega) (by repeat(first|exact Sub.nil|refine Sub.cons (by first|rfl|exact congrArg (fun z=>some (iv z)) (by first|omega|(dsimp only;omega))|exact congrArg (fun z=>some (Value.bool z)) (by first|assumption|exact Eq.symm (by assumption))) ?_)) (fun _ hw=>hw.sub)
 ·try simp only[aC]at fM
  rw[pw (at_:=a) (by omega)]at hv;refine St.exit (St.aI (St.aI (St.bM (St.aA (St.sr ?_)))));refine St.ar ?_;refine St.nn (St.ab ?_);refine St.rU [_] [] Tryz.results141 ?_;exact congrArg iv hv.symm
end Go.Proofs.YtolmidffiegkaaaGreatDoor
namespace Go.J
open Go Go.Proofs.YtolmidffiegkaaaGreatDoor
section
variable {P:Program}{n:Nat}{F:Fr}{c:Ctx}{H R:List bQ}{ty t e:TypeId}{x y:Operand}{v:Value}{Q:Exit→Act→World→Prop}{ops:Array Oper}{rest:List Oper}{d:Nat}{pos:String}{after:Array Edge}{m k:Nat}{α:Type}
theorem Ev.abR {Rr:Rp α}{xs:List α}{g:α}{dd:TypeDesc}{sz off:Nat}[hd:sM v H α Rr xs](hx:aL F x (e9 v Rr.size k off))(hk:xs[k]?=some g)(ht:P.underlying t=some dd)(lb:(match dd with| .struct _| .array _ _=>True|_=>False))
 (hs:(P.info? t).map (·.size)=some sz) (fD:off+sz≤Rr.size) (yO:off<Rr.size):Ev P n F (Mm c H) (.load t x) ty (.agg (((Rr.cells g).drop off).take sz).toArray):= .of_run fun a w ha hw=>by
 obtain⟨ρ,hm⟩:=hw.out;obtain⟨b,o,h1,h2⟩:=wP hm hd hk (off:=off);rw[h1]at hx
 have h4:=eZ (P:=P) (w:=w) (b:=b) (off:=o) (L:=((Rr.cells g).drop off).take sz) ht lb (by rw[hs,List.length_take,List.length_drop,Rr.len,Nat.min_eq_left (by omega)]) (fun j u hj=>by
  have DQ:j<sz:=by
   have:=(List.getElem?_eq_some_iff.1 hj).1
   rw[List.length_take]at this;omega
  rw[List.getElem?_take,if_pos DQ,List.getElem?_drop]at hj
  rw[h2 j (by omega)];exact hj)
 simp[execOp,hx.eval ha,Instr.loadAt,Instr.sureAddr,h4]
theorem St.Ld {Rr:Rp α}{g:α}{sz:Nat}(Le:Rr.size=sz){zv:Value}{vA:Nat}{i j:Int}{kl kc:IntKind}(hx:aL F x (.int kl i))(hy:aL F y (.int kc j))(ht:P.underlying t=some (.slice e))(hs:(P.info? e).map (·.size)=some Rr.size)(hz:(P.info? e).bind (·.zero)=some zv)(hb:(P.info? e).map (·.bytes)=some vA)
 (hm:i=m) (qJ:j=m) (mK:vA*m≤281474976710656∧m≤9223372036854775807) (h1:zv.cells=(Rr.cells g).toArray) (hd:Nat.ble (d+1) n=true)
 (h:∀b,St n ((d,.slice (some ⟨b,0,none⟩) m m)::F) (Mm c (row (.slice (some ⟨b,0,none⟩) m m) e sz m (rows Rr (List.replicate m g))::H)) (wpList P ops Q rest)):
 St n F (Mm c H) (wpList P ops Q ({dst:=some d,op:= .makeSlice t x y,type:=ty,pos:=pos,after:=after,guard:=none}::rest)):=by
 subst hm qJ Le;refine St.Eg (K:=fun u H'=>∃b,u= .slice (some ⟨b,0,none⟩) m m∧H'=row (.slice (some ⟨b,0,none⟩) m m) e Rr.size m (rows Rr (List.replicate m g))::H) ?_ hd ?_
 ·intro a w ρ ha sN
  obtain⟨i,hi,fD⟩:=Option.map_eq_some_iff.1 hs;obtain⟨q1,q2,q3⟩:=mb hs hz hb hi
  have sP:=run_make (P:=P) w t e i zv ht hi q2 kl kc m m (by omega) (by omega) (by rw[q3,←Int.natCast_mul];exact Int.ofNat_le.2 mK.1) (by omega)
  have hlen:(rows Rr (List.replicate m g)).length=m*Rr.size:=by rw[dw,List.length_replicate]
  have sR:madeCells zv.cells (m*i.size)=(rows Rr (List.replicate m g)).toArray:=by
   rw[q1,h1]
   apply Array.ext
   ·simp[madeCells,hlen]
   ·intro k lb Eh
    have qc:k<m*Rr.size:=by simpa[madeCells]using lb
    have hp:=Rr.pos
    have hq:k/Rr.size<m:=Nat.div_lt_of_lt_mul (by rw[Nat.mul_comm];exact qc)
    have hr:k%Rr.size<Rr.size:=Nat.mod_lt _ hp
    have hg:=jn Rr (List.replicate m g) (k/Rr.size) (k%Rr.size) g (by rw[List.getElem?_replicate,if_pos hq]) hr
    have hk3:k/Rr.size*Rr.size+k%Rr.size=k:=by rw[Nat.mul_comm];exact Nat.div_add_mod k Rr.size
    rw[hk3,List.getElem?_eq_getElem (by rw[hlen];exact qc),List.getElem?_eq_getElem (by rw[Rr.len];exact hr)]at hg
    have hg:=Option.some.inj hg
    simp only[madeCells,List.getElem_toArray]
    rw[hg]
    simp[Rr.len,hr]
  simp only[Int.toNat_natCast,sR]at sP
  refine⟨.value (.slice (some ⟨w.heap.size,0,none⟩) m m),w.alloc (.cells (rows Rr (List.replicate m g)).toArray e),ρ,_,?_,⟨_,.inl rfl,_,rfl,rfl⟩,?_⟩
  ·simp[execOp,hx.eval ha,hy.eval ha,sP]
  ·refine sN.AX rfl ⟨rfl,Nat.le_refl _⟩ rfl (by simp) (fun k hk=>RowKit.Below.heap_alloc w _ k hk) (eP.2 ⟨hlen,.inr ⟨w.heap.size,m,_,rfl,Nat.zero_le _,heap_alloc_new w _,Nat.le_refl _,by unfold maxLen;omega,by simp[hlen],by rw[←hlen];simp⟩⟩) ?_
   intro b hb;rw[ef]at hb;simp[Value.ownBlock]at hb;omega
 ·rintro _ _ ⟨b,rfl,rfl⟩
  exact h b
abbrev Ic:Rp cT:=⟨2,by decide,fun x=>[sv x.base,x.av.1],fun x=>hP x.base,fun _=>rfl,fun x u h=>by
 simp only[List.mem_cons,List.not_mem_nil,or_false]at h
 rcases h with rfl|rfl
 ·rfl
 ·exact x.av.2⟩
theorem uE (g:cT):∀(l:List cT) (k:Nat),((rows Ic l).set (k*2) (sv g.base)).set (k*2+1) g.av.1=rows Ic (l.set k g)
 | [],k=>by simp[rows]
 |a::l,0=>by simp[rows]
 |a::l,k+1=>by
  have ih:=uE g l k
  simp only[rows,List.flatMap_cons,List.set_cons_succ]at ih⊢
  rw[←ih,show(k+1)*2=k*2+2 by omega];rfl
theorem St.sI {T:List cT}{g:cT}[tk:jR v H e 2 m (rows Ic T) R](hx:aL F x (e9 v 2 k 0))(hy:aL F y (aP g))(hs:(P.info? t).map (·.size)=some 2)
 (hk:k<m) (h:St n F (Mm c (row v e 2 m (rows Ic (T.set k g))::R)) (wpList P ops Q rest)):
 St n F (Mm c H) (wpList P ops Q ({dst:=none,op:= .store t x y,type:=ty,pos:=pos,after:=after,guard:=none}::rest)):=
 St.DW hx hy hs rfl g.av.2 hk (by rw[uE];exact h)
end
end Go.J
namespace Go.Proofs.YtolmidffiegkaaaGreatDoor
open Go Go.J
theorem dI.abS {t:cx}{m d:Nat}{up:Int}{s:cx}{c:List dU}(h:dI t m up d s c):c.length<d:=by
 induction h with
 |root=>exact Nat.zero_lt_one
 |abs h hk ha ih=>rw[List.length_append];simp only[List.length_cons,List.length_nil];omega
 |left h hk ha ih=>omega
 |right h hk ha ih=>omega
theorem uF {R:List qn}:∀(f:Nat) (k a:Int) (j:Nat),wK R f k a=j→(R.getD j We).kind=3
 |0,k,a,j,h=>by rw[wK]at h;omega
 |f+1,k,a,j,h=>by
  rw[wK]at h
  split at h
  ·omega
  ·split at h
   ·rename_i h1 h2
    split at h
    ·rw[h,Int.toNat_natCast]at h2;exact h2
    ·exact uF f _ _ _ h
   ·exact uF f _ _ _ h
def qq (t:cx)(T:List cT)(i:Nat):Prop:=∀(d:Nat) (up:Int) (s:cx) (c:List dU),dI t i up d s c→∃τ:cT,T[i]?=some τ∧iH s c=some (bI τ)∧gO (bI τ)∧r9 (bI τ)≤201*je s
theorem qq.ne {t:cx}{T:List cT}{i j:Nat}{τ:cT}(h:qq t T j)(fj:i≠j):qq t (T.set i τ) j:=fun d up s c hs=>by
 obtain⟨σ,h1,h2⟩:=h d up s c hs;exact⟨σ,by rw[List.getElem?_set_ne fj];exact h1,h2⟩
theorem qq.here {t:cx}{T:List cT}{i:Nat}{τ:cT}(hi:i<T.length)(h:∀(d:Nat) (up:Int) (s:cx) (c:List dU),dI t i up d s c→iH s c=some (bI τ)∧gO (bI τ)∧r9 (bI τ)≤201*je s):qq t (T.set i τ) i:=fun d up s c hs=>
 ⟨τ,List.getElem?_set_self hi,h d up s c hs⟩
theorem D5 {x:cT}(h:gO (bI x)):gT.wf x:=by
 show x.base.length≤140737488351232
 rcases h.cases with⟨hb,_⟩|⟨hb,_⟩
 ·rcases hb with hb|hb<;>rw[hb]<;>decide
 ·rw[hb];decide
theorem sJ {s:dU}(h:jc s=0):gO s∧r9 s≤200:=Jx h
theorem mJ {t:cx}{R:List eJ}(hR:R.map oM=qo t (-1) 0){i d:Nat}{up:Int}{s:cx}{c:List dU}(h:dI t i up d s c){r:eJ}(hr:R[i]?=some r):r.kind=s.kind∧bI r.mX=s.type∧r.index=s.index∧r.kids=jQ s.args (i+1)∧r.up=up:=by
 have h1:=h.node
 rw[←hR,List.getElem?_map,hr]at h1
 have h2:=Option.some.inj h1
 exact⟨congrArg qn.kind h2,congrArg qn.mX h2,congrArg qn.index h2,congrArg qn.kids h2,congrArg qn.up h2⟩
theorem Ie {t:cx}(hg:ue t 1 0){R:List eJ}(hR:R.map oM=qo t (-1) 0){i:Nat}{r:eJ}(hr:R[i]?=some r)(hk:r.kind=1){T:List cT}(hi:i<T.length):qq t (T.set i r.mX) i:= .here hi fun d up s c h=>by
 obtain⟨e1,e2,e3,e4,e5⟩:=mJ hR h hr
 rcases(h.tU hg).shape with⟨q,f,_⟩|⟨q,_⟩|⟨q,_⟩|⟨q,_⟩
 ·obtain⟨f1,f2⟩:=sJ f
  have:=gi s
  rw[e2];exact⟨by rw[pO,if_pos q],f1,by omega⟩
 ·omega
 ·omega
 ·omega
theorem Pe {t:cx}(hg:ue t 1 0){R:List eJ}(hR:R.map oM=qo t (-1) 0){i:Nat}{r:eJ}(hr:R[i]?=some r)(hk:r.kind=2)(hi:i<je t):(0≤r.index∧bF r.index)∧∃(j:Nat) (q:eJ),wK (R.map oM) ((R.map oM).length+1) r.index r.up=j∧R[j]?=some q∧∀(T:List cT),i<T.length→qq t (T.set i q.mX) i:=by
 obtain⟨d,up,s,c,h⟩:=dI.at_ hg hi;obtain⟨e1,e2,e3,e4,e5⟩:=mJ hR h hr
 have Nf:=h.tU hg
 have hd:=Nf.inv.1
 have JE:=h.abS
 rcases Nf.shape with⟨q,_⟩|⟨_,x0,x1,_⟩|⟨q,_⟩|⟨q,_⟩
 ·omega
 ·obtain⟨k,Eh⟩:∃k:Nat,s.index=k:=⟨s.index.toNat,by omega⟩
  obtain⟨j,r',c1,c2,c3⟩:=h.ctx k (by omega);rw[←hR]at c1 c2;rw[List.getElem?_map]at c2;obtain⟨q,hq,rfl⟩:=Option.map_eq_some_iff.1 c2;refine⟨⟨by omega,by unfold bF;omega⟩,j,q,by rw[e3,e5,Eh];exact c1,hq,fun T hT=> .here hT fun d' VW s' c' h'=> ?_⟩;obtain⟨a1,a2,a3,a4,a5⟩:=mJ hR h' hr
  have Qi:=h'.tU hg
  rcases Qi.shape with⟨q',_⟩|⟨p1,x0',x1',_⟩|⟨q',_⟩|⟨q',_⟩
  ·omega
  ·obtain⟨j',r'',c1',c2',c3'⟩:=h'.ctx k (by omega)
   rw[←hR]at c1' c2';rw[show VW=up by rw[←a5,←e5],c1]at c1'
   have hjj:j=j':=by omega
   subst hjj;rw[List.getElem?_map,hq]at c2'
   have Ym:oM q=r'':=Option.some.inj c2'
   have Vb:(oM q).kind=3:=by
    have:=uF _ _ _ _ c1
    rw[List.getD_eq_getElem?_getD,List.getElem?_map,hq]at this;exact this
   have DQ:j<je t:=by
    have h1:=cG hq
    have h2:=congrArg List.length hR
    rw[List.length_map,mI]at h2;omega
   obtain⟨d2,up2,s2,cc2,h2⟩:=dI.at_ hg DQ;obtain⟨b1,b2,_,_,_⟩:=mJ hR h2 hq
   have hk3:s2.kind=3:=by rw[←b1];exact Vb
   rcases(h2.tU hg).shape with⟨z,_⟩|⟨z,_⟩|⟨_,f,_⟩|⟨z,_⟩
   ·omega
   ·omega
   ·obtain⟨f1,f2⟩:=sJ f
    have:=gi s'
    refine⟨?_,by rw[b2];exact f1,by rw[b2];omega⟩
    rw[pO,if_neg (by omega),if_pos p1,show s'.index=s.index by rw[←a3,←e3],Eh,Int.toNat_natCast,c3',←Ym];rfl
   ·omega
  ·omega
  ·omega
 ·omega
 ·omega
theorem Pf {t:cx}(hg:ue t 1 0){R:List eJ}(hR:R.map oM=qo t (-1) 0){i:Nat}{r:eJ}(hr:R[i]?=some r)(hk:r.kind=3)(hi:i<je t){T:List cT}(hT:∀j,i<j→j<je t→qq t T j):∃τ:cT,r.kids=[((i+1:Nat):Int)]∧T[i+1]?=some τ∧gO (bI τ)∧gO (bI r.mX)∧∀w:cT,bI w= .mk [] [bI r.mX,bI τ]→i<T.length→qq t (T.set i w) i:=by
 obtain⟨d,up,s,c,h⟩:=dI.at_ hg hi;obtain⟨e1,e2,e3,e4,e5⟩:=mJ hR h hr
 rcases(h.tU hg).shape with⟨q,_⟩|⟨q,_⟩|⟨q,f,x,ha⟩|⟨q,_⟩
 ·omega
 ·omega
 ·have hc:=dI.abs h q ha
  have QS:=hc.fits
  have hp:=gi x
  obtain⟨τ,t1,t2,t3,t4⟩:=hT (i+1) (by omega) (by omega) _ _ _ _ hc;obtain⟨f1,f2⟩:=sJ f;refine⟨τ,by rw[e4,ha];rfl,t1,t3,by rw[e2];exact f1,fun w hw hl=> .here hl fun d' VW s' c' h'=> ?_⟩;obtain⟨a1,a2,a3,a4,a5⟩:=mJ hR h' hr
  rcases(h'.tU hg).shape with⟨q',_⟩|⟨q',_⟩|⟨q',f',x',El⟩|⟨q',_⟩
  ·omega
  ·omega
  ·have hc':=dI.abs h' q' El
   have acA:=hc'.fits
   have WW:=gi x'
   obtain⟨τ',t1',t2',t3',t4'⟩:=hT (i+1) (by omega) (by omega) _ _ _ _ hc';rw[t1]at t1'
   cases t1'
   rw[hw];refine⟨by rw[A3 q' El,t2',a2];rfl,.fn (by rw[e2];exact f1) t3,?_⟩;obtain⟨g1,g2⟩:=sJ f';rw[uB s',El,dQ,dQ,a2]
   simp only[r9,xI]
   omega
  ·omega
 ·omega
theorem Lf {x p q:cT}(h:gO (bI x))(ha:x.args=[p,q]):gO (bI p)∧gO (bI q)∧r9 (bI p)≤r9 (bI x):=by
 obtain⟨b,v,l⟩:=x;rw[iy]at h⊢
 have ha:l=[p,q]:=ha
 subst ha
 cases h with
 |fn h1 h2=>exact⟨h1,h2,by simp only[List.map_cons,List.map_nil,r9,xI];omega⟩
theorem y8 {x:cT}{n:Nat}(h:gO (bI x))(hb:x.base=sE∨x.base=sT)(hl:x.args.length=n+1):False:=by
 obtain⟨b,v,l⟩:=x;rw[iy]at h
 have hb:b=sE∨b=sT:=hb
 have hl:l.length=n+1:=hl
 cases l with
 |nil=>cases hl
 |cons a l=>
  cases l with
  |nil=>cases h
  |cons a' l=>
   cases l with
   |nil=>
    cases h
    rcases hb with hb|hb<;>cases hb
   |cons=>cases h
theorem Pg {t:cx}(hg:ue t 1 0){R:List eJ}(hR:R.map oM=qo t (-1) 0){i:Nat}{r:eJ}(hr:R[i]?=some r)(hk:r.kind=4)(hi:i<je t)(adX:je t≤200){T:List cT}(hT:∀j,i<j→j<je t→qq t T j):∃(m:Nat) (τ σ:cT),r.kids=[((i+1:Nat):Int),((m:Nat):Int)]∧i<m∧m<je t∧T[i+1]?=some τ∧T[m]?=some σ∧gO (bI τ)∧gO (bI σ)∧r9 (bI τ)≤1000000∧r9 (bI σ)≤1000000∧
 ((¬∃p q,(bI τ).args=[p,q]∧fZ p (bI σ)=true)→iH t []=none)∧∀p q:cT,τ.args=[p,q]→fZ (bI p) (bI σ)=true→i<T.length→qq t (T.set i q) i:=by
 obtain⟨d,up,s,c,h⟩:=dI.at_ hg hi;obtain⟨e1,e2,e3,e4,e5⟩:=mJ hR h hr
 rcases(h.tU hg).shape with⟨q,_⟩|⟨q,_⟩|⟨q,_⟩|⟨q,x,y,ha⟩
 ·omega
 ·omega
 ·omega
 ·have hl:=dI.left h q ha
  have hrr:=dI.right h q ha
  have hf1:=hl.fits
  have hf2:=hrr.fits
  have hp1:=gi x
  have Iy:=gi y
  obtain⟨τ,t1,t2,t3,t4⟩:=hT (i+1) (by omega) (by omega) _ _ _ _ hl;obtain⟨σ,u1,u2,u3,u4⟩:=hT (i+1+je x) (by omega) (by omega) _ _ _ _ hrr;refine⟨i+1+je x,τ,σ,by rw[e4,ha];rfl,by omega,by omega,t1,u1,t3,u3,?_,?_,fun mL=>h.none ?_,fun p z hpz hs hT'=> .here hT' fun d' VW s' c' h'=> ?_⟩
  ·omega
  ·omega
  ·rw[px q ha,t2,u2]
   exact vT _ _ fun s0 l0 x0 a b c0=>by
    cases a;cases c0
    rintro ⟨p,z,SP,Nd⟩;exact mL ⟨p,z,b.trans SP,Nd⟩
  ·obtain⟨a1,a2,a3,a4,a5⟩:=mJ hR h' hr
   rcases(h'.tU hg).shape with⟨q',_⟩|⟨q',_⟩|⟨q',_⟩|⟨q',x',y',El⟩
   ·omega
   ·omega
   ·omega
   ·have hl':=dI.left h' q' El
    have CB:=dI.right h' q' El
    have adY:=hl'.fits
    have adZ:=CB.fits
    have K0:=gi x'
    have O7:=gi y'
    have hxx:je x'=je x:=by
     have lb:jQ s.args (i+1)=jQ s'.args (i+1):=by rw[←e4,←a4]
     rw[ha,El]at lb
     simp only[jQ,List.cons.injEq,and_true,true_and]at lb
     omega
    obtain⟨τ',v1,v2,v3,v4⟩:=hT (i+1) (by omega) (by omega) _ _ _ _ hl';obtain⟨σ',w1,w2,w3,w4⟩:=hT (i+1+je x') (by omega) (by omega) _ _ _ _ CB
    rw[t1]at v1;cases v1
    rw[hxx,u1]at w1;cases w1
    have OU:(bI τ).args=[bI p,bI z]:=by rw[dA,hpz];rfl
    have q8:gO (bI z)∧r9 (bI z)≤r9 (bI τ):=by
     rcases t3.cases with⟨_,_⟩|⟨_,a,b,rm,ka,kb,_,ks⟩
     ·rename_i hb _
      exfalso
      obtain⟨bs,av,args⟩:=τ;rw[iy]at t3
      have:args=[p,z]:=hpz
      subst this
      rcases hb with hb|hb
      ·have hb:bs=sE:=hb
       subst hb;cases t3
      ·have hb:bs=sT:=hb
       subst hb;cases t3
     ·rw[hpz]at rm
      simp only[List.cons.injEq,and_true]at rm
      obtain⟨rfl,rfl⟩:=rm;exact⟨kb,by omega⟩
    refine⟨by rw[px q' El,v2,w2];exact vU OU hs,q8.1,?_⟩
    have o6:=q8.2
    rw[uB s',El,dQ,dQ,dQ];omega
set_option maxHeartbeats 8000000 in
theorem A6 (t:cD)(pR:cE.wf t)(hg:ue (ax t) 1 0)(fD:je (ax t)≤200):fC Tryz.prog 125 #[bc t] ([bN t].map aF) (fun v H'=>∃z:cT,v= .tuple #[aP z,.bool (iH (ax t) []).isSome]∧H'=[]):=by
 refine fC.body (args:=[bc t]) 107 Tryz.func125 rfl Tryz.ntmps125 rfl (fun c=> ?_);refine St.cast (H':=[aF (bN t)]) rfl ?_;refine St.sr ?_;refine St.cX (.mk rfl) rfl (fun b1=> ?_);refine St.alloc iA rfl (fun b2=> ?_);refine St.ar ?_;refine St.nn (St.seq ?_);refine St.dup (bN t) ?_;refine St.jD 219 7 ?_;refine St.bB (.slice none 0 0) (show _=([]:List eJ).length from rfl) (show _=rows uU []from rfl) ?_;refine St.rg ?_;refine St.ee (Ev.bH (.mk rfl) fH trivial (by exact cy)) ?_;refine St.call (EW t (-1) [] (.slice none 0 0) rfl pR (by show 0+_≤_;omega)) NB (.cons (.mk rfl) (.cons (.mk rfl) (.cons (.mk rfl) .nil))) rfl ?_;rintro v11 _ ⟨R,ad0,hR,rfl⟩;refine St.ca ?_
 replace hR:R.map oM=qo (ax t) (-1) 0:=hR
 have SR:R.length=je (ax t):=by have:=congrArg List.length hR;rwa[List.length_map,mI]at this
 have mY:=gi (ax t)
 have hU:EV (R.map oM):=by rw[hR];exact A1 _
 refine St.aU v11 uU R rfl rfl (fun _ _=>trivial) ?_;refine St.ar ?_;refine St.nn (St.sr ?_);refine St.mv ?_;refine St.ee (Ev.au (.mk rfl) jy) ?_;refine St.Ld (Rr:=Ic) (g:=gN) (m:=R.length) (sz:=2) rfl (.mk rfl) (.mk rfl) dG bD Df RJ rfl rfl (by omega) rfl rfl (fun nd=> ?_);refine St.hJ gT ?_;refine St.dX bW ?_;refine St.mM [] (.slice none 0 0) rfl [] ?_;refine St.fo (aX bW (List.replicate R.length gN)) [bW gN] (fun ρ h z hz=>by rw[List.eq_of_mem_replicate hz];exact h _ (List.mem_cons_self ..)) ?_;refine St.ar ?_;refine St.nn (St.seq (St.sr ?_));refine St.mv ?_;refine St.ee (Ev.au (.mk rfl) jy) ?_;refine St.ee Ev.s0 ?_;refine St.ar ?_;refine St.nn (St.block ?_);refine St.my (ι:=Nat) (κ:=List cT) (fun j T T=>(6,iv ((j:Nat)-1:Int))::T) (fun j T=>[row (.slice (some ⟨nd,0,none⟩) R.length R.length) 88 2 R.length (rows Ic (T)),aF (aX bW (T)),ae b1 (.cells [iv t.kind,sv t.name,iv t.index,sv t.type.base,t.type.av.1,t.av.1].toArray 91 (0,0)),ae b2 (.cells [sv [],(.slice none 0 0)].toArray 88 (0,0)),aF (sl uU v11 R),aF (aX yI R),aF (bN t)]) (fun j T=>j≤R.length∧T.length=R.length∧∀k,j≤k→k<je (ax t)→qq (ax t) T k) (fun j T=>j) R.length (List.replicate R.length gN) (aE.cons 2 rfl (aE.cons 4 rfl (aE.cons 5 rfl aE.nil))) ⟨Nat.le_refl _,List.length_replicate,fun k h1 h2=>absurd h2 (by omega)⟩ ?_;rintro j T ⟨hj,rf,hT⟩;refine St.seq (St.sr ?_);refine St.mv ?_;refine St.ee Ev.ra ?_;refine St.nn ?_;refine St.cond _ rfl (fun gP=> ?_) (fun gP=> ?_)
 ·try simp only[aC]at gP
  obtain⟨i,rfl⟩:∃i,j=i+1:=⟨j-1,by omega⟩
  obtain⟨r,hr⟩:=aQ (show i<R.length by omega);refine St.cC yI R (x:=r) (List.mem_of_getElem? hr) ?_;refine St.fo (bW r.mX) [yI r] (fun ρ h=>(h _ (List.mem_cons_self ..)).1) ?_;refine St.fo (sl aK r.kv.1 r.kids) [yI r] (fun ρ h=>(h _ (List.mem_cons_self ..)).2) ?_
  have Wh:i<je (ax t):=by omega
  have hTi:∀k,i<k→k<je (ax t)→qq (ax t) T k:=fun k h1 h2=>hT k (by omega) h2
  refine St.skip (St.aA (St.seq (St.block (St.sr ?_))));refine St.mv ?_;refine St.mv ?_;refine St.ee (Ev.aR (k:=i) (.mk rfl) (.mk rfl) jy la (by omega) (by omega)) ?_;refine St.ee (Ev.fg (.mk rfl) hr Tryz.underlying219 trivial la en.eq) ?_;refine St.slot 25 (.agg [iv r.kind,sv r.name,sv r.mX.base,r.mX.av.1,iv r.index,r.kv.1,iv r.up].toArray) rfl rfl ?_;refine St.alloc N9 rfl (fun b7=> ?_);refine St.sA (.mk rfl) (.mk rfl) la ?_ (h1:=(by simp only[List.all_cons,List.all_nil,Bool.and_true,Bool.and_eq_true];exact⟨rfl,rfl,rfl,r.mX.av.2,rfl,r.kv.2,rfl⟩));refine St.nn (St.sr ?_);refine St.ee (Ev.aD (.mk rfl) Cz) ?_;refine St.ee (Ev.l0 (.mk rfl) bP) ?_;refine St.nn (St.block (St.sr ?_));refine St.ee Ev.fa ?_;refine St.ar ?_;refine St.nn ?_;refine St.cond _ rfl (fun s8=> ?_) (fun s8=> ?_)
  ·try simp only[aC]at s8
   have uZ:=fun(hl:i<T.length)=>Ie hg hR hr s8 hl
   refine St.rg ?_;refine St.mv ?_;refine St.mv ?_;refine St.ee (Ev.aD (.mk rfl) xy) ?_;refine St.ee (Ev.gy 2 (.mk rfl) bX trivial bD rfl rfl) ?_;refine St.slot 33 (aP r.mX) rfl rfl ?_;refine St.ee (Ev.kF (k:=i) rfl (.mk rfl) (.mk rfl) dG bD (by omega) (by omega)) ?_;refine St.sI (g:=r.mX) (.mk rfl) (.mk rfl) bD (by omega) ?_;refine St.fo (aX bW (T.set i r.mX)) [aX bW T,bW r.mX] (fun ρ h z hz=>by rcases List.mem_or_eq_of_mem_set hz with hz|rfl;exact(show(aX bW T).f ρ from h _ (by simp)) z hz;exact h _ (by simp)) ?_;refine St.nil (St.aO (St.aO (St.aA (St.rg ?_))));refine St.mv ?_;refine St.ee Ev.s0 ?_;refine St.ar ?_;refine St.nn ?_;refine St.slot 6 (iv ((i:Nat)-1:Int)) rfl (congrArg iv (by omega)) ?_;refine St.ji i (T.set i r.mX) ⟨by omega,by rw[List.length_set];exact rf,fun k h1 h2=>by rcases Nat.lt_or_ge i k with h|h;exact(hT k (by omega) h2).ne (by omega);rw[show k=i by omega];exact uZ (by omega)⟩
  ·try simp only[aC]at s8
   refine St.sr ?_;refine St.ee Ev.fa ?_;refine St.ar ?_;refine St.nn ?_;refine St.cond _ rfl (fun yH=> ?_) (fun yH=> ?_)
   ·try simp only[aC]at yH
    obtain⟨Wf,bj,q,MA,hq,uZ⟩:=Pe hg hR hr yH Wh;refine St.cC yI R (x:=q) (List.mem_of_getElem? hq) ?_;refine St.fo (bW q.mX) [yI q] (fun ρ h=>(h _ (List.mem_cons_self ..)).1) ?_
    have hbl:=cG hq
    have hii:((i+1:Nat):Int)-1=(i:Nat):=by omega
    refine St.slot 6 (iv ((i:Nat):Int)) rfl (congrArg iv hii) ?_;refine St.rg ?_;refine St.mv ?_;refine St.mv ?_;refine St.mv ?_;refine St.mv ?_;refine St.mv ?_;refine St.ee (Ev.call (A5 v11 R hU (by omega) i r hr Wf) VD (.cons (.mk rfl) (.cons (.mk rfl) .nil))) ?_;refine St.slot 42 (iv ((bj:Nat):Int)) rfl (congrArg iv MA) ?_;refine St.ee (Ev.aR (k:=bj) (.mk rfl) (.mk rfl) jy la (by omega) (by omega)) ?_;refine St.ee (Ev.eR (.mk rfl) (by omega) xy) ?_;refine St.ee (Ev.abR (Rr:=uU) (sz:=2) (off:=2) (.mk rfl) hq bX trivial bD (by decide) (by decide)) ?_;refine St.slot 45 (aP q.mX) rfl rfl ?_;refine St.ee (Ev.kF (k:=i) rfl (.mk rfl) (.mk rfl) dG bD (by omega) (by omega)) ?_;refine St.sI (g:=q.mX) (.mk rfl) (.mk rfl) bD (by omega) ?_;refine St.fo (aX bW (T.set i q.mX)) [aX bW T,bW q.mX] (fun ρ h z hz=>by rcases List.mem_or_eq_of_mem_set hz with hz|rfl;exact(show(aX bW T).f ρ from h _ (by simp)) z hz;exact h _ (by simp)) ?_;refine St.nil (St.aO (St.aO (St.aA (St.rg ?_))));refine St.mv ?_;refine St.ee Ev.s0 ?_;refine St.ar ?_;refine St.nn ?_;refine St.slot 6 (iv ((i:Nat)-1:Int)) rfl (congrArg iv (by omega)) ?_;refine St.ji i (T.set i q.mX) ⟨by omega,by rw[List.length_set];exact rf,fun k h1 h2=>by rcases Nat.lt_or_ge i k with h|h;exact(hT k (by omega) h2).ne (by omega);rw[show k=i by omega];exact uZ T (by omega)⟩
   ·try simp only[aC]at yH
    refine St.sr ?_;refine St.ee Ev.fa ?_;refine St.ar ?_;refine St.nn ?_;refine St.cond _ rfl (fun Ma=> ?_) (fun Ma=> ?_)
    ·try simp only[aC]at Ma
     obtain⟨τ,Ig,Lg,QH,hr3,uZ⟩:=Pf hg hR hr Ma Wh hTi;refine St.cC bW T (x:=τ) (List.mem_of_getElem? Lg) ?_;refine St.ya r.mX (aP r.mX) rfl rfl (D5 hr3) ?_;refine St.ya τ (aP τ) rfl rfl (D5 QH) ?_
     have abT:=cG Lg
     refine St.eK [row (.slice (some ⟨nd,0,none⟩) R.length R.length) 88 2 R.length (rows Ic (T))] mixed (fun np ns=> ?_);refine SW.dd 0 rfl (fun _=>Ev.move (.mk rfl)) ?_;refine SW.dd 1 rfl (fun _=>Ev.move (.mk rfl)) ?_;refine SW.dd 2 rfl (fun _=>Ev.aD (.mk rfl) xy) ?_;refine SW.dd 3 rfl (fun _=>Ev.gy 2 (.mk rfl) bX trivial bD rfl rfl) ?_;refine SW.slot 52 (aP r.mX) rfl rfl ?_;refine SW.dd 4 rfl (fun _=>Ev.move (.mk rfl)) ?_;refine SW.dd 5 rfl (fun _=>Ev.aD (.mk rfl) pk) ?_;refine SW.dd 6 rfl (fun _=>Ev.cS (.mk rfl) bE trivial (by rfl)) ?_;refine SW.dd 7 rfl (fun _=>Ev.aR (k:=0) (.mk rfl) (.mk rfl) bE cr rfl (by rw[Ig];simp)) ?_;refine SW.dd 8 rfl (fun _=>Ev.fL (.mk rfl) (show r.kids[0]?=some ((i+1:Nat):Int) by rw[Ig];rfl) bP trivial rfl) ?_;refine SW.dd 9 rfl (fun _=>Ev.kF (k:=(i+1)) rfl (.mk rfl) (.mk rfl) dG bD (by omega) (by omega)) ?_;refine SW.bG (i:=10) (by kernel_rfl) rfl ?_;refine St.ee (Ev.qm (R:=Ic) (l:=T) (g:=τ) (.mk rfl) Lg bX trivial bD (by omega)) ?_;refine St.slot 59 (aP τ) rfl rfl ?_;refine St.nn ?_;refine SW.go ?_;refine SW.bG (i:=11) (by kernel_rfl) rfl ?_;refine St.ay (LP (aP r.mX) (aP τ) (bI r.mX) (bI τ)) VE (.cons (.mk rfl) (.cons (.mk rfl) .nil)) rfl ?_;rintro v60 _ rfl;refine St.bK ?_;refine St.aw (.mk [] [bI r.mX,bI τ]) v60 (fun w hw=> ?_);obtain⟨zY,hwE,W0⟩:=hw;subst zY;refine St.nn ?_;refine SW.go ?_;refine SW.dd 12 rfl (fun _=>Ev.kF (k:=i) rfl (.mk rfl) (.mk rfl) dG bD (by omega) (by omega)) ?_;refine SW.bG (i:=13) (by kernel_rfl) rfl ?_;refine St.sI (g:=w) (.mk rfl) (.mk rfl) bD (by omega) ?_;refine St.fo (aX bW (T.set i w)) [aX bW T,bW w] (fun ρ h z hz=>by rcases List.mem_or_eq_of_mem_set hz with hz|rfl;exact(show(aX bW T).f ρ from h _ (by simp)) z hz;exact h _ (by simp)) ?_;refine St.nn ?_;refine SW.go ?_;refine SW.done (by kernel_rfl) ?_;refine St.aO (St.aO (St.aA (St.rg ?_)));refine St.mv ?_;refine St.ee Ev.s0 ?_;refine St.ar ?_;refine St.nn ?_;refine St.slot 6 (iv ((i:Nat)-1:Int)) rfl (congrArg iv (by omega)) ?_;refine St.ji i (T.set i w) ⟨by omega,by rw[List.length_set];exact rf,fun k h1 h2=>by rcases Nat.lt_or_ge i k with h|h;exact(hT k (by omega) h2).ne (by omega);rw[show k=i by omega];exact uZ w hwE (by omega)⟩
    ·try simp only[aC]at Ma
     refine St.sr ?_;refine St.ee Ev.fa ?_;refine St.ar ?_;refine St.nn ?_;refine St.cond _ rfl (fun ox=> ?_) (fun ox=> ?_)
     ·try simp only[aC]at ox
      obtain⟨m,τ,σ,Ig,wV,qJ,Lg,hs1,QH,hs3,YN,MP,NF,uZ⟩:=Pg hg hR hr ox Wh fD hTi;refine St.cC bW T (x:=τ) (List.mem_of_getElem? Lg) ?_;refine St.cC bW T (x:=σ) (List.mem_of_getElem? hs1) ?_;refine St.jb τ ?_
      have abT:=cG Lg
      have Np:=cG hs1
      obtain⟨p,hp⟩:∃p,p=τ.args.getD 0 gN:=⟨_,rfl⟩
      obtain⟨q,hq⟩:∃q,q=τ.args.getD 1 gN:=⟨_,rfl⟩
      refine St.hJ gT ?_;refine St.dX bW ?_;refine St.mM [] (.slice none 0 0) rfl [] ?_;refine St.fo (bW p) [aX bW τ.args,bW gN] (fun ρ h=>by rw[hp,List.getD_eq_getElem?_getD];cases e:τ.args[0]? with|none=>exact h (bW gN) (by simp)|some x=>exact(show(aX bW τ.args).f ρ from h _ (by simp)) x (List.mem_of_getElem? e)) ?_;refine St.fo (bW q) [aX bW τ.args,bW gN] (fun ρ h=>by rw[hq,List.getD_eq_getElem?_getD];cases e:τ.args[1]? with|none=>exact h (bW gN) (by simp)|some x=>exact(show(aX bW τ.args).f ρ from h _ (by simp)) x (List.mem_of_getElem? e)) ?_;refine St.seq ?_;refine St.yS [] mixed (fun np ns=> ?_);refine SW.dd 0 rfl (fun _=>Ev.move (.mk rfl)) ?_;refine SW.dd 1 rfl (fun _=>Ev.aD (.mk rfl) pk) ?_;refine SW.dd 2 rfl (fun _=>Ev.cS (.mk rfl) bE trivial (by rfl)) ?_;refine SW.dd 3 rfl (fun _=>Ev.aR (k:=0) (.mk rfl) (.mk rfl) bE cr rfl (by rw[Ig];simp)) ?_;refine SW.dd 4 rfl (fun _=>Ev.fL (.mk rfl) (show r.kids[0]?=some ((i+1:Nat):Int) by rw[Ig];rfl) bP trivial rfl) ?_;refine SW.dd 5 rfl (fun _=>Ev.kF (k:=(i+1)) rfl (.mk rfl) (.mk rfl) dG bD (by omega) (by omega)) ?_;refine SW.dd 6 rfl (fun _=>Ev.qm (R:=Ic) (l:=T) (g:=τ) (.mk rfl) Lg bX trivial bD (by omega)) ?_;refine SW.slot 70 (aP τ) rfl rfl ?_;refine SW.dd 7 rfl (fun _=>Ev.move (.mk rfl)) ?_;refine SW.dd 8 rfl (fun _=>Ev.aD (.mk rfl) pk) ?_;refine SW.dd 9 rfl (fun _=>Ev.cS (.mk rfl) bE trivial (by rfl)) ?_;refine SW.dd 10 rfl (fun _=>Ev.aR (k:=1) (.mk rfl) (.mk rfl) bE cr rfl (by rw[Ig];simp)) ?_;refine SW.dd 11 rfl (fun _=>Ev.fL (.mk rfl) (show r.kids[1]?=some ((m:Nat):Int) by rw[Ig];rfl) bP trivial rfl) ?_;refine SW.dd 12 rfl (fun _=>Ev.kF (k:=m) rfl (.mk rfl) (.mk rfl) dG bD (by omega) (by omega)) ?_;refine SW.dd 13 rfl (fun _=>Ev.qm (R:=Ic) (l:=T) (g:=σ) (.mk rfl) hs1 bX trivial bD (by omega)) ?_;refine SW.slot 77 (aP σ) rfl rfl ?_;refine SW.NX 14 15 (by kernel_rfl) rfl rfl (by kernel_rfl) (by kernel_rfl) iA iA rfl rfl rfl (fun b8 b9=> ?_);refine SW.bG (i:=16) (by kernel_rfl) rfl ?_;refine St.sA (.mk rfl) (.mk rfl) bD ?_ (h1:=(by simp only[List.all_cons,List.all_nil,Bool.and_true,Bool.and_eq_true];exact⟨rfl,τ.av.2⟩));refine St.nn ?_;refine SW.go ?_;refine SW.bG (i:=17) (by kernel_rfl) rfl ?_;refine St.sA (.mk rfl) (.mk rfl) bD ?_ (h1:=(by simp only[List.all_cons,List.all_nil,Bool.and_true,Bool.and_eq_true];exact⟨rfl,σ.av.2⟩));refine St.nn ?_;refine SW.go ?_;refine SW.done (by kernel_rfl) ?_;refine St.aA (St.seq (St.seq ?_));refine St.yS [] mixed (fun np ns=> ?_);refine SW.dd 0 rfl (fun _=>Ev.aD (.mk rfl) ij) ?_;refine SW.dd 1 rfl (fun _=>Ev.cS (.mk rfl) eG trivial (by rfl)) ?_;refine SW.dd 2 rfl (fun _=>Ev.oz (.mk rfl) (.mk rfl)) ?_;refine SW.dd 3 rfl (fun _=>Ev.move (.mk rfl)) ?_;refine SW.gf 4 _ np ns rfl rfl rfl (fun R hg=>Ev.aD (.mk rfl) eY) (by kernel_rfl) rfl ?_;refine SW.gf 5 _ np ns rfl rfl rfl (fun R hg=>Ev.cS (aL.gv rfl hg) dG trivial (by rfl)) (by kernel_rfl) rfl ?_;refine SW.gf 6 _ np ns rfl rfl rfl (fun R hg=>Ev.au (aL.gv rfl hg) dG) (by kernel_rfl) rfl ?_;refine SW.gf 7 _ np ns rfl rfl rfl (fun R hg=>Ev.neq (aL.gv rfl hg) (.mk rfl)) (by kernel_rfl) rfl ?_;refine SW.dd 8 rfl (fun _=>Ev.o0) ?_;refine SW.dd 9 rfl (fun _=>Ev.move (.mk rfl)) ?_;refine SW.split 87 _ rfl (fun xP=> ?_) (fun xP=> ?_)
      ·simp only[aC]at xP
       have mL:iH (ax t) []=none:=NF (by rintro ⟨p,q,xQ,_⟩;rcases QH.cases with⟨hb,_⟩|⟨hb,a,b,rm,_⟩;rw[dA]at xQ;have hl:=congrArg List.length xQ;rw[List.length_map]at hl;(have:=QH;exact y8 QH hb hl);rcases xP with h|h;exact h hb;exact h (by rw[rm];rfl))
       refine SW.gf 10 undef np ns rfl rfl rfl (fun R hg=>by cases hg) (by kernel_rfl) rfl ?_;refine SW.slot 88 undef rfl (ag rfl _) ?_;refine SW.gf 11 undef np ns rfl rfl rfl (fun R hg=>by cases hg) (by kernel_rfl) rfl ?_;refine SW.slot 89 undef rfl (ag rfl _) ?_;refine SW.gf 12 undef np ns rfl rfl rfl (fun R hg=>by cases hg) (by kernel_rfl) rfl ?_;refine SW.slot 90 undef rfl (ag rfl _) ?_;refine SW.gf 13 undef np ns rfl rfl rfl (fun R hg=>by cases hg) (by kernel_rfl) rfl ?_;refine SW.slot 91 undef rfl (ag rfl _) ?_;refine SW.gf 14 undef np ns rfl rfl rfl (fun R hg=>by cases hg) (by kernel_rfl) rfl ?_;refine SW.slot 92 undef rfl (ag rfl _) ?_;refine SW.gf 15 undef np ns rfl rfl rfl (fun R hg=>by cases hg) (by kernel_rfl) rfl ?_;refine SW.slot 93 undef rfl (ag rfl _) ?_;refine SW.gf 16 undef np ns rfl rfl rfl (fun R hg=>by cases hg) (by kernel_rfl) rfl ?_;refine SW.slot 94 undef rfl (ag rfl _) ?_;refine SW.dd 17 rfl (fun _=>Ev.er (.mk rfl) rfl (.mk rfl)) ?_;refine SW.done (by kernel_rfl) ?_;refine St.aA ?_;refine St.Lm _ rfl rfl ?_;refine St.sr ?_;refine St.ee (Ev.build (ps:=[]) (aV.nil) (fun w=>qS w)) ?_;refine St.sA (.mk rfl) (.mk rfl) bD ?_;refine St.ar ?_;refine St.nn (St.ab (St.aB (St.aN (St.aN (St.aB (St.aB (St.aN (St.aB ?_))))))));refine St.rT [_,_] [] Tryz.results125 ⟨⟨_,_,_,_,rfl,jm.mem,.inl ⟨⟨_,bX⟩,bD,rfl⟩⟩,⟨rfl,trivial⟩⟩ ?_;exact⟨gN,by rw[mL];rfl,rfl⟩
      ·simp only[aC]at xP
       have xQ:τ.args=[p,q]:=by obtain⟨a,b,rm⟩:=n8 (show τ.args.length=2 by omega);rw[hp,hq,rm];rfl
       have abU:=Lf QH xQ
       refine SW.gf 10 _ np ns rfl rfl rfl (fun R _=>Ev.aD (.mk rfl) eY) (by kernel_rfl) rfl ?_;refine SW.slot 88 _ rfl (an rfl _) ?_;refine SW.gf 11 _ np ns rfl rfl rfl (fun R _=>Ev.cS (.mk rfl) dG trivial (by rfl)) (by kernel_rfl) rfl ?_;refine SW.slot 89 _ rfl (an rfl _) ?_;refine SW.gf 12 _ np ns rfl rfl rfl (fun R _=>Ev.aR (k:=0) (.mk rfl) (.mk rfl) dG bD (by omega) (by rw[xQ];simp)) (by kernel_rfl) rfl ?_;refine SW.slot 90 _ rfl (an rfl _) ?_;refine SW.gf 13 _ np ns rfl rfl rfl (fun R _=>Ev.fg (.mk rfl) (show τ.args[0]?=some p by rw[xQ];rfl) bX trivial bD en.eq) (by kernel_rfl) rfl ?_;refine SW.slot 91 _ rfl (an rfl _) ?_;refine SW.gf 14 _ np ns rfl rfl rfl (fun R _=>Ev.bH (.mk rfl) bX trivial (by exact bD)) (by kernel_rfl) rfl ?_;refine SW.slot 92 _ rfl (an rfl _) ?_;refine SW.gf 15 _ np ns rfl rfl rfl (fun R _=>Ev.call (Bp p σ abU.1 hs3 (by omega) (by omega)) VF (.cons (.mk rfl) (.cons (.mk rfl) .nil))) (by kernel_rfl) rfl ?_;refine SW.slot 93 _ rfl (an rfl _) ?_;refine SW.gf 16 _ np ns rfl rfl rfl (fun R _=>Ev.not (.mk rfl)) (by kernel_rfl) rfl ?_;refine SW.slot 94 _ rfl (an rfl _) ?_;refine SW.dd 17 rfl (fun _=>Ev.iM (.mk rfl) rfl (.mk rfl)) ?_;refine SW.done (by kernel_rfl) ?_;refine St.aA ?_;refine St.cond _ rfl (fun qW=> ?_) (fun qW=> ?_)
       ·try simp only[aC]at qW
        have mL:iH (ax t) []=none:=NF (by rintro ⟨p2,q2,Ph,Wi⟩;rw[dA,xQ]at Ph;simp only[List.map_cons,List.map_nil,List.cons.injEq,and_true]at Ph;rw[←Ph.1]at Wi;rw[Wi]at qW;cases qW)
        refine St.sr ?_;refine St.ee (Ev.build (ps:=[]) (aV.nil) (fun w=>qS w)) ?_;refine St.sA (.mk rfl) (.mk rfl) bD ?_;refine St.ar ?_;refine St.nn (St.ab (St.aB (St.aN (St.aN (St.aB (St.aB (St.aN (St.aB ?_))))))));refine St.rT [_,_] [] Tryz.results125 ⟨⟨_,_,_,_,rfl,jm.mem,.inl ⟨⟨_,bX⟩,bD,rfl⟩⟩,⟨rfl,trivial⟩⟩ ?_;exact⟨gN,by rw[mL];rfl,rfl⟩
       ·try simp only[aC]at qW
        have Wi:fZ (bI p) (bI σ)=true:=by simpa using qW
        have abV:=uZ p q xQ Wi
        refine St.skip (St.aA (St.rg ?_));refine St.mv ?_;refine St.mv ?_;refine St.ee (Ev.aD (.mk rfl) eY) ?_;refine St.ee (Ev.l0 (.mk rfl) dG) ?_;refine St.ee (Ev.aR (k:=1) (.mk rfl) (.mk rfl) dG bD (by omega) (by rw[xQ];simp)) ?_;refine St.ee (Ev.fg (.mk rfl) (show τ.args[1]?=some q by rw[xQ];rfl) bX trivial bD en.eq) ?_;refine St.ee (Ev.kF (k:=i) rfl (.mk rfl) (.mk rfl) dG bD (by omega) (by omega)) ?_;refine St.sI (g:=q) (.mk rfl) (.mk rfl) bD (by omega) ?_;refine St.fo (aX bW (T.set i q)) [aX bW T,bW q] (fun ρ h z hz=>by rcases List.mem_or_eq_of_mem_set hz with hz|rfl;exact(show(aX bW T).f ρ from h _ (by simp)) z hz;exact h _ (by simp)) ?_;refine St.nil (St.aO (St.aO (St.aA (St.rg ?_))));refine St.mv ?_;refine St.ee Ev.s0 ?_;refine St.ar ?_;refine St.nn ?_;refine St.slot 6 (iv ((i:Nat)-1:Int)) rfl (congrArg iv (by omega)) ?_;refine St.ji i (T.set i q) ⟨by omega,by rw[List.length_set];exact rf,fun k h1 h2=>by rcases Nat.lt_or_ge i k with h|h;exact(hT k (by omega) h2).ne (by omega);rw[show k=i by omega];exact abV (by omega)⟩
     ·try simp only[aC]at ox
      obtain⟨d0,up0,s0,c0,h0⟩:=dI.at_ hg Wh
      have e1:=(mJ hR h0 hr).1
      exfalso
      rcases(h0.tU hg).shape with⟨q,_⟩|⟨q,_⟩|⟨q,_⟩|⟨q,_⟩<;>omega
 ·try simp only[aC]at gP
  obtain rfl:j=0:=by omega
  obtain⟨τ,Lg,ht2,_⟩:=hT 0 (Nat.le_refl _) (by omega) _ _ _ _ dI.root;refine St.exit (St.aI (St.aI (St.bM (St.aA (St.sr ?_)))));refine St.mv ?_;refine St.ee (Ev.cN (k:=0) (.mk rfl) (.mk rfl) dG bD (by omega) (by omega)) ?_;refine St.ee (Ev.qm (R:=Ic) (l:=T) (g:=τ) (.mk rfl) Lg bX trivial bD (by omega)) ?_;refine St.slot 106 (aP τ) rfl rfl ?_;refine St.sA (.mk rfl) (.mk rfl) bD ?_ (h1:=(by simp only[List.all_cons,List.all_nil,Bool.and_true,Bool.and_eq_true];exact⟨rfl,τ.av.2⟩));refine St.ar ?_;refine St.nn (St.ab ?_);refine St.rT [_,_] [] Tryz.results125 ⟨⟨_,_,_,_,rfl,jm.mem,.inl ⟨⟨_,bX⟩,bD,rfl⟩⟩,⟨rfl,trivial⟩⟩ ?_;exact⟨τ,by rw[ht2];rfl,rfl⟩
theorem Bu (t:cD)(pR:cE.wf t):cz Tryz.prog 101 #[bc t] [bN t] (fv (gu (ax t))):=zy (fun t a b c=>A6 t a b c) t pR
theorem uG (t:cD)(pR:cE.wf t):cz Tryz.prog 76 #[bc t] [bN t] (fv (gu (ax t))):=by
 refine cz.iL (args:=[bc t]) 5 Tryz.func76 rfl Tryz.ntmps76 rfl (fun c=> ?_);refine St.sr ?_;refine St.cX (.mk rfl) rfl (fun b1=> ?_);refine St.alloc dC rfl (fun b2=> ?_);refine St.nn (St.sr ?_);refine St.ee (Ev.bH (.mk rfl) fH trivial (by exact cy)) ?_;refine St.ee (Ev.call (Bu t pR) VG (.cons (.mk rfl) .nil)) ?_;refine St.sA (.mk rfl) (.mk rfl) bC ?_;refine St.nn (St.ab ?_);refine St.rU [_] [] Tryz.results76 ?_;rfl
end Go.Proofs.YtolmidffiegkaaaGreatDoor
namespace Go.J
open Go
theorem Sq.slot {n:Nat}{F:Fr}{T:Act→Prop}{v:Value}(k:Nat)(v':Value)(hk:look F k=some v)(h:v=v')(hT:Sq n ((k,v')::F) T):Sq n F T:=by
 subst h
 refine fun a ha=>hT a ⟨ha.size,ha.defers,fun t u hu=> ?_⟩
 simp only[look]at hu
 cases hb:Nat.beq t k with
 |true=>
  have e:=Nat.eq_of_beq_eq_true hb
  subst e
  simp only[hb,cond_true,Option.some.injEq]at hu
  subst hu;exact ha.slot _ _ hk
 |false=>
  simp only[hb,cond_false]at hu
  exact ha.slot _ _ hu
theorem Ev.Ih {P:Program}{n:Nat}{F:Fr}{A:World→Prop}{ty:TypeId}{x:Operand}{a:Addr}(hx:aL F x (.pointer (some a))):Ev P n F A (.nilCheck x) ty (.pointer (some a)):= .of_run fun ac w ha _=>by simp[execOp,hx.eval ha]
end Go.J
namespace Go.Proofs.YtolmidffiegkaaaGreatDoor
open Go Go.J
theorem EX {G:gx}{kids:Int}{k:Nat}(hk:k<4)(h:decide (0≤AG G k)≠decide ((k:Int)≤kids)):kR G kids=false:=by
 unfold kR;rw[List.all_eq_false];exact⟨k,List.mem_range.2 hk,by simpa using h⟩
theorem A7 {G:gx}{kids:Int}{k:Nat}(h0:(List.range k).all (fun k=>decide (0≤AG G k)==decide ((k:Int)≤kids))=true)(h:¬decide (0≤AG G k)≠decide ((k:Int)≤kids)):(List.range (k+1)).all (fun k=>decide (0≤AG G k)==decide ((k:Int)≤kids))=true:=by
 rw[List.range_succ,List.all_append,h0]
 simpa using h
set_option maxHeartbeats 2000000 in
theorem Bv (tv xv:cm)(ts:List ja)(fs:List eC)(x:bV)(hT:gz (ts.map bh))(hF:∀f∈fs,0≤f.mm∧f.mm<ts.length∧0≤f.value∧f.value<ts.length)(hw:cA.wf x):cz Tryz.prog 37 #[.agg #[tv.1,xv.1],lQ x] [sl du tv.1 ts,aX ek ts,sl bx xv.1 fs,cO x] (iv (kT (ts.map bh) (fs.map dL) (lq x))):=by
 unfold cz;refine fC.body (args:=[.agg #[tv.1,xv.1],lQ x]) 52 Tryz.func37 rfl Tryz.ntmps37 rfl (fun c=> ?_);refine St.cast (H':=[aF (sl du tv.1 ts),aF (aX ek ts),aF (sl bx xv.1 fs),aF (cO x)]) rfl ?_;refine St.seq ?_
 refine St.fI (cO x) (fun _:Unit=>CH x) (fun ρ h=>⟨(),h⟩) fun _=> ?_
 refine St.cast (H':=[aF (bU x.graph),aF (bN x.cg),aF (sl du tv.1 ts),aF (aX ek ts),aF (sl bx xv.1 fs),aF (cO x)]) rfl ?_
 have jO:=zf (ts.map bh) (fs.map dL) x
 obtain⟨zY,hwk,hwg,Ot⟩:=hw;refine St.rg ?_;refine St.cX (.mk rfl) rfl (fun b2=> ?_);refine St.cX (.mk rfl) rfl (fun b3=> ?_);refine St.ar ?_;refine St.nn (St.seq (St.sr ?_));refine St.ee (Ev.aD (.mk rfl) nG) ?_;refine St.ee (Ev.l0 (.mk rfl) bP) ?_;refine St.ee Ev.dz ?_;refine St.mv ?_;refine St.gf _ rfl rfl (fun hg=>Ev.aD (.mk rfl) nG) rfl ?_;refine St.gf _ rfl rfl (fun hg=>Ev.cS (aL.gv rfl hg) bP trivial (by rfl)) rfl ?_;refine St.gf _ rfl rfl (fun hg=>Ev.gtr (aL.gv rfl hg) (.mk rfl)) rfl ?_;refine St.ee Ev.o0 ?_;refine St.mv ?_;refine St.gf _ rfl rfl (fun hg=>Ev.aD (.mk rfl) xZ) rfl ?_;refine St.gf _ rfl rfl (fun hg=>Ev.cS (aL.gv rfl hg) bP trivial (by rfl)) rfl ?_;refine St.gf _ rfl rfl (fun hg=>Ev.lss (aL.gv rfl hg) (.mk rfl)) rfl ?_;refine St.ee Ev.o0 ?_;refine St.mv ?_;refine St.gf _ rfl rfl (fun hg=>Ev.aD (.mk rfl) xZ) rfl ?_;refine St.gf _ rfl rfl (fun hg=>Ev.cS (aL.gv rfl hg) bP trivial (by rfl)) rfl ?_;refine St.gf _ rfl rfl (fun hg=>Ev.gtr (aL.gv rfl hg) (.mk rfl)) rfl ?_;refine St.ee Ev.o0 ?_;refine St.nn ?_;refine St.cond _ rfl (fun ob=> ?_) (fun ob=> ?_)
 ·try simp only[aC]at ob
  rw[if_pos (by omega)]at jO;refine St.sr ?_;refine St.ar ?_;refine St.nn (St.ab (St.aB ?_));refine St.rU [_] [] Tryz.results37 ?_;exact ie jO.symm
 ·try simp only[aC]at ob
  rw[if_neg (by omega)]at jO;refine St.skip (St.aA (St.seq (St.sr ?_)));refine St.ee (Ev.bH (.mk rfl) mz trivial (by exact lV)) ?_;refine St.ee (Ev.aD (.mk rfl) xc) ?_;refine St.ee (Ev.gy 1 (.mk rfl) oW trivial n5 rfl rfl) ?_;refine St.slot 27 (dJ x.graph) rfl rfl ?_;refine St.ee (Ev.call (nN tv xv ts fs x.graph hT hF) PG (.cons (.mk rfl) (.cons (.mk rfl) .nil))) ?_;refine St.alloc dC rfl (fun b5=> ?_);refine St.sA (.mk rfl) (.mk rfl) bC ?_;refine St.nn (St.sr ?_);refine St.ee (Ev.aD (.mk rfl) cb) ?_;refine St.ee (Ev.l0 (.mk rfl) bP) ?_;refine St.ee Ev.jj ?_;refine St.nn ?_;refine St.cond _ rfl (fun kE=> ?_) (fun kE=> ?_)
  ·skip
   have hb:(cU (ts.map bh) (fs.map dL) (dH x.graph)).1≠0:=by simpa using kE
   rw[if_pos hb]at jO;refine St.sr ?_;refine St.ee (Ev.aD (.mk rfl) cb) ?_;refine St.ee (Ev.l0 (.mk rfl) bP) ?_;refine St.ar ?_;refine St.nn (St.ab (St.aB ?_));refine St.rU [_] [] Tryz.results37 ?_;exact ie jO.symm
  ·skip
   have hb:¬(cU (ts.map bh) (fs.map dL) (dH x.graph)).1≠0:=by simpa using kE
   rw[if_neg hb]at jO
   have QR:0<x.graph.nodes.length:=by have:=(nE (pd (Decidable.not_not.1 hb))).1;rw[ke]at this;exact this
   refine St.skip (St.aA (St.seq (St.sr ?_)));refine St.mv ?_;refine St.nn (St.block ?_);refine St.lS (ι:=Nat) (fun k T=>(34,iv k)::T) (fun k=>k≤4∧(List.range k).all (fun k=>decide (0≤AG (dH x.graph) k)==decide ((k:Int)≤x.kids))=true) (fun k=>4-k) 0 (aE.cons 3 rfl aE.nil) ⟨Nat.zero_le _,rfl⟩ ?_;intro k dK;obtain⟨Sh,fE⟩:=dK;refine St.sr ?_;refine St.ee Ev.dz ?_;refine St.nn (St.seq ?_);refine St.cond _ rfl (fun yH=> ?_) (fun yH=> ?_)
   ·try simp only[aC]at yH
    refine St.skip (St.aA (St.seq (St.block (St.sr ?_))));refine St.mv ?_;refine St.ar ?_;refine St.nn (St.seq ?_);refine St.rq mixed (by kernel_rfl) (Mm.drawn _ _) ?_;refine Sq.ee (Ev.aD (.mk rfl) xc) ?_;refine Sq.ee (Ev.gy 1 (.mk rfl) oW trivial n5 rfl rfl) ?_;refine Sq.slot 38 (dJ x.graph) rfl rfl ?_;refine Sq.ee (Ev.move (.mk rfl)) ?_;refine Sq.ee (Ev.call (y0 x.graph k QR) abA (.cons (.mk rfl) (.cons (.mk rfl) (.cons (.mk rfl) .nil)))) ?_;refine Sq.ee Ev.ra ?_;refine Sq.ee (Ev.move (.mk rfl)) ?_;refine Sq.ee (Ev.aD (.mk rfl) nG) ?_;refine Sq.ee (Ev.l0 (.mk rfl) bP) ?_;refine Sq.ee Ev.Iw ?_;refine Sq.ee (Ev.rr (.mk rfl) (.mk rfl) uP) ?_;refine Sq.nil ?_;refine St.aA ?_;refine St.cond _ rfl (fun mV=> ?_) (fun mV=> ?_)
    ·skip
     have Pj:decide (0≤AG (dH x.graph) k)≠decide ((k:Int)≤x.kids):=by simpa using mV
     rw[if_pos (EX (by omega) Pj)]at jO;refine St.sr ?_;refine St.ar ?_;refine St.nn (St.ab (St.aN (St.aB (St.aB (St.aN (St.aB ?_))))));refine St.rU [_] [] Tryz.results37 ?_;exact ie jO.symm
    ·skip
     have Pj:¬decide (0≤AG (dH x.graph) k)≠decide ((k:Int)≤x.kids):=by simpa using mV
     refine St.skip (St.aO (St.aA (St.rg ?_)));refine St.ee Ev.a0 ?_;refine St.mv ?_;refine St.nn ?_;refine St.aS (k+1) ⟨by omega,A7 fE Pj⟩
   ·try simp only[aC]at yH
    rw[show k=4 by omega]at fE;rw[if_neg (by rw[show kR (dH x.graph) x.kids=true from fE];decide)]at jO;refine St.exit (St.aI (St.aI (St.bM (St.aA (St.sr ?_)))));refine St.ee (Ev.aD (.mk rfl) Gf) ?_;refine St.ee (Ev.gy 6 (.mk rfl) fH trivial cy rfl rfl) ?_;refine St.slot 49 (bc x.cg) rfl rfl ?_;refine St.ee (Ev.call (uG x.cg Ot) VH (.cons (.mk rfl) .nil)) ?_;refine St.ee (Ev.mf (.mk rfl) gF rfl (by first|rw[bP]|(dsimp only;rw[bP])|kernel_rfl) rfl) ?_;refine St.ar ?_;refine St.nn (St.ab ?_);refine St.rU [_] [] Tryz.results37 ?_;exact ie jO.symm
set_option maxHeartbeats 2000000 in
theorem EY (tv xv:cm)(ts:List ja)(fs:List eC)(x:cq)(hT:gz (ts.map bh))(hF:∀f∈fs,0≤f.mm∧f.mm<ts.length∧0≤f.value∧f.value<ts.length)(hw:cI.wf x):cz Tryz.prog 38 #[.agg #[tv.1,xv.1],FO x] [sl du tv.1 ts,aX ek ts,sl bx xv.1 fs,dT x] (iv (pC (ts.map bh) (fs.map dL) (jh x))):=by
 unfold cz;refine fC.body (args:=[.agg #[tv.1,xv.1],FO x]) 31 Tryz.func38 rfl Tryz.ntmps38 rfl (fun c=> ?_);refine St.cast (H':=[aF (sl du tv.1 ts),aF (aX ek ts),aF (sl bx xv.1 fs),aF (dT x)]) rfl ?_;refine St.seq ?_
 refine St.fI (dT x) (fun _:Unit=>JN x) (fun ρ h=>⟨(),h⟩) fun _=> ?_
 refine St.cast (H':=[aF (bU x.graph),aF (bN x.cg),aF (sl du tv.1 ts),aF (aX ek ts),aF (sl bx xv.1 fs),aF (dT x)]) rfl ?_
 have jO:=Co (ts.map bh) (fs.map dL) x
 obtain⟨zY,Om,Ot⟩:=hw
 replace zY:x.word.length≤140737488351232:=zY
 refine St.rg ?_;refine St.cX (.mk rfl) rfl (fun b2=> ?_);refine St.cX (.mk rfl) rfl (fun b3=> ?_);refine St.ar ?_;refine St.nn (St.seq (St.sr ?_));refine St.ee (Ev.aD (.mk rfl) xX) ?_;refine St.ee (Ev.l0 (.mk rfl) eG) ?_;refine St.ee (Ev.call (Bq x.word (by omega)) abB (.cons (.mk rfl) .nil)) ?_;refine St.ee (Ev.not (.mk rfl)) ?_;refine St.nn ?_;refine St.cond _ rfl (fun h9=> ?_) (fun h9=> ?_)
 ·skip
  rw[if_pos (by simpa using h9)]at jO;refine St.sr ?_;refine St.ar ?_;refine St.nn (St.ab (St.aB ?_));refine St.rU [_] [] Tryz.results38 ?_;exact ie jO.symm
 ·skip
  rw[if_neg (by simpa using h9)]at jO;refine St.skip (St.aA (St.seq (St.sr ?_)));refine St.ee (Ev.aD (.mk rfl) xY) ?_;refine St.ee (Ev.l0 (.mk rfl) bP) ?_;refine St.ee Ev.dz ?_;refine St.mv ?_;refine St.gf _ rfl rfl (fun hg=>Ev.aD (.mk rfl) xY) rfl ?_;refine St.gf _ rfl rfl (fun hg=>Ev.cS (aL.gv rfl hg) bP trivial (by rfl)) rfl ?_;refine St.gf _ rfl rfl (fun hg=>Ev.gtr (aL.gv rfl hg) (.mk rfl)) rfl ?_;refine St.ee Ev.o0 ?_;refine St.nn ?_;refine St.cond _ rfl (fun mW=> ?_) (fun mW=> ?_)
  ·try simp only[aC]at mW
   rw[if_pos (by omega)]at jO;refine St.sr ?_;refine St.ar ?_;refine St.nn (St.ab (St.aB ?_));refine St.rU [_] [] Tryz.results38 ?_;exact ie jO.symm
  ·try simp only[aC]at mW
   rw[if_neg (by omega)]at jO;refine St.skip (St.aA (St.seq (St.sr ?_)));refine St.ee (Ev.bH (.mk rfl) mz trivial (by exact lV)) ?_;refine St.ee (Ev.aD (.mk rfl) Gd) ?_;refine St.ee (Ev.gy 1 (.mk rfl) oW trivial n5 rfl rfl) ?_;refine St.slot 20 (dJ x.graph) rfl rfl ?_;refine St.ee (Ev.call (nN tv xv ts fs x.graph hT hF) PG (.cons (.mk rfl) (.cons (.mk rfl) .nil))) ?_;refine St.alloc dC rfl (fun b5=> ?_);refine St.sA (.mk rfl) (.mk rfl) bC ?_;refine St.nn (St.sr ?_);refine St.ee (Ev.aD (.mk rfl) cb) ?_;refine St.ee (Ev.l0 (.mk rfl) bP) ?_;refine St.ee Ev.jj ?_;refine St.nn ?_;refine St.cond _ rfl (fun ob=> ?_) (fun ob=> ?_)
   ·skip
    have hb:(cU (ts.map bh) (fs.map dL) (dH x.graph)).1≠0:=by simpa using ob
    rw[if_pos hb]at jO;refine St.sr ?_;refine St.ee (Ev.aD (.mk rfl) cb) ?_;refine St.ee (Ev.l0 (.mk rfl) bP) ?_;refine St.ar ?_;refine St.nn (St.ab (St.aB ?_));refine St.rU [_] [] Tryz.results38 ?_;exact ie jO.symm
   ·skip
    have hb:¬(cU (ts.map bh) (fs.map dL) (dH x.graph)).1≠0:=by simpa using ob
    rw[if_neg hb]at jO;refine St.skip (St.aA (St.sr ?_));refine St.ee (Ev.aD (.mk rfl) Ge) ?_;refine St.ee (Ev.gy 6 (.mk rfl) fH trivial cy rfl rfl) ?_;refine St.slot 28 (bc x.cg) rfl rfl ?_;refine St.ee (Ev.call (uG x.cg Ot) VH (.cons (.mk rfl) .nil)) ?_;refine St.ee (Ev.mf (.mk rfl) gF rfl (by first|rw[bP]|(dsimp only;rw[bP])|kernel_rfl) rfl) ?_;refine St.ar ?_;refine St.nn (St.ab ?_);refine St.rU [_] [] Tryz.results38 ?_;exact ie jO.symm
set_option maxHeartbeats 4000000 in
theorem EZ (g:iG):cz Tryz.prog 10 #[gm g] [dv g] (fv (oV (fG g))):=by
 unfold cz;refine fC.body (args:=[gm g]) 108 Tryz.func10 rfl Tryz.ntmps10 rfl (fun c=> ?_);refine St.cast (H':=[aF (dv g)]) rfl ?_;refine St.seq ?_
 refine St.fI (dv g) (fun _:Unit=>yX g) (fun ρ h=>⟨(),h⟩) fun _=> ?_
 refine St.cast (H':=[aF (sl du g.tv.1 g.types),aF (aX ek g.types),aF (sl bx g.fv.1 g.bb),aF (sl cA g.rv.1 g.rules),aF (aX cO g.rules),aF (sl cI g.xv.1 g.bA),aF (aX dT g.bA),aF (bU g.start),aF (dv g)]) rfl ?_
 have lE:=Cp g
 have rf:(g.types.map bh).length=g.types.length:=List.length_map ..
 have E1:(g.bb.map dL).length=g.bb.length:=List.length_map ..
 have SR:(g.rules.map lq).length=g.rules.length:=List.length_map ..
 have Q6:(g.bA.map jh).length=g.bA.length:=List.length_map ..
 refine St.wf g.rv.1 (fun MY Q1=> ?_);refine St.wf g.xv.1 (fun lX sO=> ?_);refine St.rg ?_;refine St.cX (.mk rfl) rfl (fun b1=> ?_);refine St.alloc dC rfl (fun b2=> ?_);refine St.nn (St.seq (St.sr ?_));refine St.ee (Ev.aD (.mk rfl) oX) ?_;refine St.ee (Ev.gy 2 (.mk rfl) mz trivial lV rfl rfl) ?_;refine St.slot 14 (.agg #[g.tv.1,g.fv.1]) rfl rfl ?_;refine St.ee (Ev.call (Bn g.tv g.fv g.types g.bb) abC (.cons (.mk rfl) .nil)) ?_;refine St.alloc dC rfl (fun b3=> ?_);refine St.sA (.mk rfl) (.mk rfl) bC ?_;refine St.nn (St.sr ?_);refine St.ee (Ev.aD (.mk rfl) cb) ?_;refine St.ee (Ev.l0 (.mk rfl) bP) ?_;refine St.ee Ev.jj ?_;refine St.nn ?_;refine St.cond _ rfl (fun fM=> ?_) (fun fM=> ?_)
 ·skip
  have hb:(fP (g.types.map bh) (g.bb.map dL)).1≠0:=by simpa using fM
  rw[if_pos hb]at lE;refine St.sr ?_;refine St.ee (Ev.bH (.mk rfl) gF trivial (by exact bC)) ?_;refine St.sA (.mk rfl) (.mk rfl) bC ?_;refine St.nn (St.ab (St.aB ?_));refine St.rU [_] [] Tryz.results10 ?_;exact congrArg fv lE.symm
 ·skip
  have hb:¬(fP (g.types.map bh) (g.bb.map dL)).1≠0:=by simpa using fM
  rw[if_neg hb]at lE;obtain⟨_,hT,Yk,Yl⟩:=Ce (Decidable.not_not.1 hb)
  have hF:∀f∈g.bb,0≤f.mm∧f.mm<g.types.length∧0≤f.value∧f.value<g.types.length:=fun f hf=>by have:=Yl (dL f) (List.mem_map_of_mem hf);rw[rf]at this;exact this
  refine St.skip (St.aA (St.seq (St.sr ?_)));refine St.ee (Ev.aD (.mk rfl) oX) ?_;refine St.ee (Ev.wQ (.mk rfl) jK) ?_;refine St.ee (Ev.l0 (.mk rfl) ib) ?_;refine St.ee (Ev.au (.mk rfl) ib) ?_;refine St.ee Ev.Iw ?_;refine St.nn ?_;refine St.cond _ rfl (fun ob=> ?_) (fun ob=> ?_)
  ·try simp only[aC]at ob
   rw[if_pos (by omega)]at lE;refine St.sr ?_;refine St.ee (Ev.build (ps:=[(0,(.const (.int .i64 9))),(1,(.const (.int .i64 (-1))))]) (aV.cons (aL.mk rfl) (aV.cons (aL.mk rfl) aV.nil)) (fun w=>bO rfl rfl w)) ?_;refine St.sA (.mk rfl) (.mk rfl) bC ?_;refine St.nn (St.ab (St.aB ?_));refine St.rU [_] [] Tryz.results10 ?_;exact congrArg fv lE.symm
  ·try simp only[aC]at ob
   rw[if_neg (by omega)]at lE;refine St.skip (St.aA (St.seq (St.sr ?_)));refine St.ee (Ev.aD (.mk rfl) jM) ?_;refine St.ee (Ev.l0 (.mk rfl) ic) ?_;refine St.ee (Ev.au (.mk rfl) ic) ?_;refine St.ee Ev.s5 ?_;refine St.mv ?_;refine St.gf _ rfl rfl (fun hg=>Ev.aD (.mk rfl) jL) rfl ?_;refine St.gf _ rfl rfl (fun hg=>Ev.cS (aL.gv rfl hg) ig trivial (by rfl)) rfl ?_;refine St.gf _ rfl rfl (fun hg=>Ev.au (aL.gv rfl hg) ig) rfl ?_;refine St.gf _ rfl rfl (fun hg=>Ev.gtr (aL.gv rfl hg) (.mk rfl)) rfl ?_;refine St.ee Ev.o0 ?_;refine St.nn ?_;refine St.cond _ rfl (fun yH=> ?_) (fun yH=> ?_)
   ·try simp only[aC]at yH
    rw[if_pos (by omega)]at lE;refine St.sr ?_;refine St.ee (Ev.build (ps:=[(0,(.const (.int .i64 2))),(1,(.const (.int .i64 (-1))))]) (aV.cons (aL.mk rfl) (aV.cons (aL.mk rfl) aV.nil)) (fun w=>bO rfl rfl w)) ?_;refine St.sA (.mk rfl) (.mk rfl) bC ?_;refine St.nn (St.ab (St.aB ?_));refine St.rU [_] [] Tryz.results10 ?_;exact congrArg fv lE.symm
   ·try simp only[aC]at yH
    rw[if_neg (by omega)]at lE;refine St.skip (St.aA (St.seq (St.sr ?_)));refine St.ee (Ev.aD (.mk rfl) jM) ?_;refine St.ee (Ev.l0 (.mk rfl) ic) ?_;refine St.ee (Ev.au (.mk rfl) ic) ?_;refine St.mv ?_;refine St.nn (St.block ?_);refine St.lH (ι:=Nat) (fun k T=>(40,iv k)::T) (fun k=>[ae b1 (.cells [g.tv.1,g.fv.1,g.rv.1,g.xv.1,g.start.nv.1].toArray 32 (0,0)),ae b2 (.cells [iv 0,iv 0].toArray 42 (0,0)),aF (sl du g.tv.1 g.types),aF (aX ek g.types),aF (sl bx g.fv.1 g.bb),aF (sl cA g.rv.1 g.rules),aF (aX cO g.rules),aF (sl cI g.xv.1 g.bA),aF (aX dT g.bA),aF (bU g.start)]) (fun k=>k≤g.rules.length∧ft (g.types.map bh) (g.bb.map dL) [] 0 (g.rules.map lq)=ft (g.types.map bh) (g.bb.map dL) ((g.rules.take k).map bV.name) k ((g.rules.map lq).drop k)) (fun k=>g.rules.length-k) 0 (aE.cons 1 rfl (aE.cons 2 rfl (aE.cons 38 rfl (aE.cons 39 rfl aE.nil)))) ⟨Nat.zero_le _,rfl⟩ ?_;intro k dK;obtain⟨hk,hv⟩:=dK;refine St.sr ?_;refine St.ee Ev.dz ?_;refine St.nn (St.seq ?_);refine St.cond _ rfl (fun o6=> ?_) (fun o6=> ?_)
    ·try simp only[aC]at o6
     obtain⟨t,ht⟩:=aQ (show k<g.rules.length by omega)
     have lg:=List.mem_of_getElem? ht
     have cQ:=rJ (T:=(g.types.map bh)) (Fs:=(g.bb.map dL)) (l:=g.rules.map lq) (k:=k) (t:=lq t) (by rw[List.getElem?_map,ht];rfl) ((g.rules.take k).map bV.name)
     have yu:t.name.length≤9223372036854775807:=by have:=(MY t lg).1;simp only[hP]at this;omega
     refine St.cC cO g.rules (x:=t) lg ?_;refine St.skip (St.aA (St.seq (St.block (St.sr ?_))));refine St.mv ?_;refine St.ee (Ev.aR (k:=k) (.mk rfl) (.mk rfl) ic n7 (by omega) (by omega)) ?_;refine St.ee (Ev.fg (.mk rfl) ht Fl trivial n7 en.eq) ?_;refine St.alloc Fm rfl (fun b5=> ?_);refine St.ar ?_;refine St.sA (.mk rfl) (.mk rfl) n7 ?_ (h1:=(by simp only[List.all_cons,List.all_nil,Bool.and_true,Bool.and_eq_true];exact⟨rfl,t.graph.nv.2,rfl,rfl,rfl,rfl,rfl,rfl,t.cg.type.av.2,t.cg.av.2⟩));refine St.nn (St.seq (St.sr ?_));refine St.ee (Ev.aD (.mk rfl) nH) ?_;refine St.ee (Ev.l0 (.mk rfl) eG) ?_;refine St.ee (Ev.call (ot t.name yu) PF (.cons (.mk rfl) .nil)) ?_;refine St.ee (Ev.not (.mk rfl)) ?_;refine St.nn ?_;refine St.cond _ rfl (fun pc=> ?_) (fun pc=> ?_)
     ·try simp only[aC]at pc
      rw[if_pos (show isName (lq t).name=false from(by simpa using pc:isName t.name=false))]at cQ;refine St.sr ?_;refine St.mv ?_;refine St.ee (Ev.build (ps:=[(0,(.const (.int .i64 10))),(1,(.tmp 49))]) (aV.cons (aL.mk rfl) (aV.cons (aL.mk rfl) aV.nil)) (fun w=>bO rfl rfl w)) ?_;refine St.sA (.mk rfl) (.mk rfl) bC ?_;refine St.nn (St.ab (St.aB (St.aN (St.aB (St.aB (St.aN (St.aB ?_)))))));refine St.rU [_] [] Tryz.results10 ?_;exact congrArg fv (gg lE (hv.trans cQ) (by decide)).symm
     ·try simp only[aC]at pc
      rw[if_neg (show ¬isName (lq t).name=false from(by simpa using pc:¬isName t.name=false))]at cQ;refine St.skip (St.aA (St.seq (St.sr ?_)));refine St.ee (Ev.aD (.mk rfl) jM) ?_;refine St.ee (Ev.l0 (.mk rfl) ic) ?_;refine St.mv ?_;refine St.ee (Ev.nR (h:=k) (.mk rfl) (.mk rfl) ic n7 (by omega) (by omega)) ?_;refine St.part (Rr:=cA) (xs:=g.rules) g.rv.1 0 k (Nat.zero_le _) (by omega) ?_;refine St.fo (sl cA (ou g.rv.1 cA.size 0 k) (g.rules.take k)) [sl cA (ou g.rv.1 cA.size 0 k) ((g.rules.drop 0).take (k-0))] (fun ρ h=>by simpa using h _ (List.mem_cons_self ..)) ?_
      have uN:(g.rules.take k).length=k:=by rw[List.length_take];omega
      refine St.ee (Ev.au (.mk rfl) ic) ?_;refine St.mv ?_;refine St.nn (St.block ?_);refine St.lH (ι:=Nat) (fun q T=>(56,iv q)::T) (fun q=>[aF (sl cA (ou g.rv.1 cA.size 0 k) (g.rules.take k)),ae b5 (.cells [sv t.name,t.graph.nv.1,iv t.kids,iv t.weight,iv t.cg.kind,sv t.cg.name,iv t.cg.index,sv t.cg.type.base,t.cg.type.av.1,t.cg.av.1].toArray 93 (0,0)),aF (cO t),ae b1 (.cells [g.tv.1,g.fv.1,g.rv.1,g.xv.1,g.start.nv.1].toArray 32 (0,0)),ae b2 (.cells [iv 0,iv 0].toArray 42 (0,0)),aF (sl du g.tv.1 g.types),aF (aX ek g.types),aF (sl bx g.fv.1 g.bb),aF (sl cA g.rv.1 g.rules),aF (aX cO g.rules),aF (sl cI g.xv.1 g.bA),aF (aX dT g.bA),aF (bU g.start)]) (fun q=>q≤k∧t.name∉(g.rules.take q).map bV.name) (fun q=>k-q) 0 (aE.cons 1 rfl (aE.cons 2 rfl (aE.cons 4 rfl (aE.cons 5 rfl (aE.cons 38 rfl (aE.cons 39 rfl (aE.cons 40 rfl (aE.cons 54 rfl (aE.cons 55 rfl aE.nil))))))))) ⟨Nat.zero_le _,by simp⟩ ?_;intro q dK;obtain⟨hq,mL⟩:=dK;refine St.sr ?_;refine St.ee Ev.dz ?_;refine St.nn (St.seq ?_);refine St.cond _ rfl (fun h57=> ?_) (fun h57=> ?_)
      ·try simp only[aC]at h57
       obtain⟨y,hy⟩:=aQ (show q<g.rules.length by omega);refine St.skip (St.aA (St.seq (St.block (St.sr ?_))));refine St.ee (Ev.aR (k:=q) (.mk rfl) (.mk rfl) ic n7 (by omega) (by omega)) ?_;refine St.ee (Ev.fg (.mk rfl) (po hy (show q<k by omega)) Fl trivial n7 en.eq) ?_;refine St.alloc Fm rfl (fun b7=> ?_);refine St.sA (.mk rfl) (.mk rfl) n7 ?_ (h1:=(by simp only[List.all_cons,List.all_nil,Bool.and_true,Bool.and_eq_true];exact⟨rfl,y.graph.nv.2,rfl,rfl,rfl,rfl,rfl,rfl,y.cg.type.av.2,y.cg.av.2⟩));refine St.nn (St.sr ?_);refine St.ee (Ev.aD (.mk rfl) nH) ?_;refine St.ee (Ev.l0 (.mk rfl) eG) ?_;refine St.ee (Ev.aD (.mk rfl) nH) ?_;refine St.ee (Ev.l0 (.mk rfl) eG) ?_;refine St.ee (Ev.j1 (.mk rfl) (.mk rfl)) ?_;refine St.nn ?_;refine St.cond _ rfl (fun sB=> ?_) (fun sB=> ?_)
       ·try simp only[aC]at sB
        have ux:=mG bV.name hy (show q<k by omega)
        rw[sB]at ux;rw[if_pos (show(lq t).name∈(g.rules.take k).map bV.name from ux)]at cQ;refine St.sr ?_;refine St.mv ?_;refine St.ee (Ev.build (ps:=[(0,(.const (.int .i64 7))),(1,(.tmp 65))]) (aV.cons (aL.mk rfl) (aV.cons (aL.mk rfl) aV.nil)) (fun w=>bO rfl rfl w)) ?_;refine St.sA (.mk rfl) (.mk rfl) bC ?_;refine St.nn (St.ab (St.aN (St.aB (St.aB (St.aN (St.aB (St.aN (St.aB (St.aB (St.aN (St.aB ?_)))))))))));refine St.rU [_] [] Tryz.results10 ?_;exact congrArg fv (gg lE (hv.trans cQ) (by decide)).symm
       ·try simp only[aC]at sB
        refine St.skip (St.aO (St.aA (St.rg ?_)));refine St.ee Ev.a0 ?_;refine St.mv ?_;refine St.nn ?_;refine St.aH (q+1) ⟨by omega,by rw[cF bV.name hy];exact u7 mL sB⟩
      ·try simp only[aC]at h57
       rw[show q=k by omega]at mL;rw[if_neg (show ¬(lq t).name∈(g.rules.take k).map bV.name from mL)]at cQ;refine St.exit (St.aI (St.aI (St.bM (St.aA (St.sr ?_)))));refine St.ee (Ev.aD (.mk rfl) oX) ?_;refine St.ee (Ev.gy 2 (.mk rfl) mz trivial lV rfl rfl) ?_;refine St.slot 69 (.agg #[g.tv.1,g.fv.1]) rfl rfl ?_;refine St.ee (Ev.bH (.mk rfl) Fl trivial (by exact n7)) ?_;refine St.slot 70 (lQ t) rfl rfl ?_;refine St.ee (Ev.call (Bv g.tv g.fv g.types g.bb t hT hF (MY t lg)) abD (.cons (.mk rfl) (.cons (.mk rfl) .nil))) ?_;refine St.ar ?_;refine St.nn (St.sr ?_);refine St.mv ?_;refine St.ee Ev.jj ?_;refine St.nn ?_;refine St.cond _ rfl (fun zT=> ?_) (fun zT=> ?_)
       ·skip
        have uo:kT (g.types.map bh) (g.bb.map dL) (lq t)≠0:=by simpa using zT
        rw[if_pos uo]at cQ;refine St.sr ?_;refine St.mv ?_;refine St.mv ?_;refine St.ee (Ev.build (ps:=[(0,(.tmp 74)),(1,(.tmp 75))]) (aV.cons (aL.mk rfl) (aV.cons (aL.mk rfl) aV.nil)) (fun w=>bO rfl rfl w)) ?_;refine St.sA (.mk rfl) (.mk rfl) bC ?_;refine St.nn (St.ab (St.aN (St.aB (St.aB (St.aN (St.aB ?_))))));refine St.rU [_] [] Tryz.results10 ?_;exact congrArg fv (gg lE (hv.trans cQ) uo).symm
       ·skip
        have uo:¬kT (g.types.map bh) (g.bb.map dL) (lq t)≠0:=by simpa using zT
        rw[if_neg uo]at cQ;refine St.skip (St.aO (St.aA (St.rg ?_)));refine St.ee Ev.a0 ?_;refine St.mv ?_;refine St.nn ?_;refine St.aH (k+1) ⟨by omega,by rw[hv,cQ,cF bV.name ht];rfl⟩
    ·try simp only[aC]at o6
     rw[tf (by omega)]at hv
     replace lE:=pe lE hv
     refine St.exit (St.aI (St.aI (St.bM (St.aA (St.seq (St.sr ?_))))));refine St.ee (Ev.aD (.mk rfl) jL) ?_;refine St.ee (Ev.l0 (.mk rfl) ig) ?_;refine St.ee (Ev.au (.mk rfl) ig) ?_;refine St.mv ?_;refine St.nn (St.block ?_);refine St.lH (ι:=Nat) (fun q T=>(81,iv q)::T) (fun q=>[ae b1 (.cells [g.tv.1,g.fv.1,g.rv.1,g.xv.1,g.start.nv.1].toArray 32 (0,0)),ae b2 (.cells [iv 0,iv 0].toArray 42 (0,0)),aF (sl du g.tv.1 g.types),aF (aX ek g.types),aF (sl bx g.fv.1 g.bb),aF (sl cA g.rv.1 g.rules),aF (aX cO g.rules),aF (sl cI g.xv.1 g.bA),aF (aX dT g.bA),aF (bU g.start)]) (fun q=>q≤g.bA.length∧fw (g.types.map bh) (g.bb.map dL) 0 (g.bA.map jh)=fw (g.types.map bh) (g.bb.map dL) q ((g.bA.map jh).drop q)) (fun q=>g.bA.length-q) 0 (aE.cons 1 rfl (aE.cons 2 rfl (aE.cons 79 rfl (aE.cons 80 rfl aE.nil)))) ⟨Nat.zero_le _,rfl⟩ ?_;rintro q ⟨hq,ng⟩;refine St.sr ?_;refine St.ee Ev.dz ?_;refine St.nn (St.seq ?_);refine St.cond _ rfl (fun PT=> ?_) (fun PT=> ?_)
     ·try simp only[aC]at PT
      obtain⟨x,hx⟩:=aQ (show q<g.bA.length by omega)
      have E2:=List.mem_of_getElem? hx
      have cQ:=rK (T:=(g.types.map bh)) (Fs:=(g.bb.map dL)) (l:=g.bA.map jh) (k:=q) (t:=jh x) (by rw[List.getElem?_map,hx];rfl)
      refine St.cC dT g.bA (x:=x) E2 ?_;refine St.skip (St.aA (St.seq (St.block (St.sr ?_))));refine St.mv ?_;refine St.ee (Ev.aR (k:=q) (.mk rfl) (.mk rfl) ig o4 (by omega) (by omega)) ?_;refine St.ee (Ev.fg (.mk rfl) hx Jr trivial o4 en.eq) ?_;refine St.alloc O1 rfl (fun jT=> ?_);refine St.ar ?_;refine St.sA (.mk rfl) (.mk rfl) o4 ?_ (h1:=(by simp only[List.all_cons,List.all_nil,Bool.and_true,Bool.and_eq_true];exact⟨rfl,x.graph.nv.2,rfl,rfl,rfl,rfl,rfl,x.cg.type.av.2,x.cg.av.2⟩));refine St.nn (St.sr ?_);refine St.ee (Ev.aD (.mk rfl) oX) ?_;refine St.ee (Ev.gy 2 (.mk rfl) mz trivial lV rfl rfl) ?_;refine St.slot 87 (.agg #[g.tv.1,g.fv.1]) rfl rfl ?_;refine St.ee (Ev.bH (.mk rfl) Jr trivial (by exact o4)) ?_;refine St.slot 88 (FO x) rfl rfl ?_;refine St.ee (Ev.call (EY g.tv g.fv g.types g.bb x hT hF (lX x E2)) abE (.cons (.mk rfl) (.cons (.mk rfl) .nil))) ?_;refine St.ar ?_;refine St.nn (St.sr ?_);refine St.mv ?_;refine St.ee Ev.jj ?_;refine St.nn ?_;refine St.cond _ rfl (fun h91=> ?_) (fun h91=> ?_)
      ·skip
       have uo:pC (g.types.map bh) (g.bb.map dL) (jh x)≠0:=by simpa using h91
       rw[if_pos uo]at cQ;refine St.sr ?_;refine St.mv ?_;refine St.mv ?_;refine St.ee (Ev.build (ps:=[(0,(.tmp 92)),(1,(.tmp 93))]) (aV.cons (aL.mk rfl) (aV.cons (aL.mk rfl) aV.nil)) (fun w=>bO rfl rfl w)) ?_;refine St.sA (.mk rfl) (.mk rfl) bC ?_;refine St.nn (St.ab (St.aN (St.aB (St.aB (St.aN (St.aB ?_))))));refine St.rU [_] [] Tryz.results10 ?_;exact congrArg fv (gg lE (ng.trans cQ) uo).symm
      ·skip
       have uo:¬pC (g.types.map bh) (g.bb.map dL) (jh x)≠0:=by simpa using h91
       rw[if_neg uo]at cQ;refine St.skip (St.aO (St.aA (St.rg ?_)));refine St.ee Ev.a0 ?_;refine St.mv ?_;refine St.nn ?_;refine St.aH (q+1) ⟨by omega,ng.trans cQ⟩
     ·try simp only[aC]at PT
      rw[tg (by omega)]at ng
      replace lE:=pe lE ng
      refine St.exit (St.aI (St.aI (St.bM (St.aA (St.seq (St.sr ?_))))));refine St.ee (Ev.aD (.mk rfl) oX) ?_;refine St.ee (Ev.gy 2 (.mk rfl) mz trivial lV rfl rfl) ?_;refine St.slot 97 (.agg #[g.tv.1,g.fv.1]) rfl rfl ?_;refine St.ee (Ev.aD (.mk rfl) Aq) ?_;refine St.ee (Ev.gy 1 (.mk rfl) oW trivial n5 rfl rfl) ?_;refine St.slot 99 (dJ g.start) rfl rfl ?_;refine St.ee (Ev.call (nN g.tv g.fv g.types g.bb g.start hT hF) PG (.cons (.mk rfl) (.cons (.mk rfl) .nil))) ?_;refine St.alloc dC rfl (fun B6=> ?_);refine St.sA (.mk rfl) (.mk rfl) bC ?_;refine St.nn (St.sr ?_);refine St.ee (Ev.aD (.mk rfl) cb) ?_;refine St.ee (Ev.l0 (.mk rfl) bP) ?_;refine St.ee Ev.jj ?_;refine St.nn ?_;refine St.cond _ rfl (fun BG=> ?_) (fun BG=> ?_)
      ·skip
       have Ow:(cU (g.types.map bh) (g.bb.map dL) (dH g.start)).1≠0:=by simpa using BG
       rw[if_pos Ow]at lE;refine St.sr ?_;refine St.ee (Ev.aD (.mk rfl) cb) ?_;refine St.ee (Ev.l0 (.mk rfl) bP) ?_;refine St.ee (Ev.build (ps:=[(0,(.tmp 105)),(1,(.const (.int .i64 (-1))))]) (aV.cons (aL.mk rfl) (aV.cons (aL.mk rfl) aV.nil)) (fun w=>bO rfl rfl w)) ?_;refine St.sA (.mk rfl) (.mk rfl) bC ?_;refine St.nn (St.ab (St.aB ?_));refine St.rU [_] [] Tryz.results10 ?_;exact congrArg fv lE.symm
      ·skip
       have Ow:¬(cU (g.types.map bh) (g.bb.map dL) (dH g.start)).1≠0:=by simpa using BG
       rw[if_neg Ow]at lE;refine St.skip (St.aA (St.sr ?_));refine St.ee (Ev.build (ps:=[]) (aV.nil) (fun w=>fB w)) ?_;refine St.sA (.mk rfl) (.mk rfl) bC ?_;refine St.nn (St.ab ?_);refine St.rU [_] [] Tryz.results10 ?_;exact congrArg fv lE.symm
set_option maxHeartbeats 4000000 in
theorem uH (bn bl:Nat)(g:iG)(Ig:∀r∈g.rules,1≤r.kids):∀(x:br) (d ch:Nat) (s:yY),dY.wf x→d≤100→ch≤100→s.nodes≤200→s.leaves≤s.nodes→fC Tryz.prog 40 #[gm g,eW x,iv (d:Nat),iv (ch:Nat),Value.pointer (some ⟨bn,0,none⟩),Value.pointer (some ⟨bl,0,none⟩)] [aF (dv g),aF (cB x),ae bn (.cells [iv ((s.nodes:Nat):Int)].toArray 3 (0,0)),ae bl (.cells [iv ((s.leaves:Nat):Int)].toArray 3 (0,0))] (fun v H'=>v=fv (iT (g.rules.map bV.kids) g.bA.length (ah x) d ch s).2∧∃n' l':Nat,H'=[ae bn (.cells [iv ((n':Nat):Int)].toArray 3 (0,0)),ae bl (.cells [iv ((l':Nat):Int)].toArray 3 (0,0))]∧((iT (g.rules.map bV.kids) g.bA.length (ah x) d ch s).2.1=0→n'=(iT (g.rules.map bV.kids) g.bA.length (ah x) d ch s).1.nodes∧l'=(iT (g.rules.map bV.kids) g.bA.length (ah x) d ch s).1.leaves)):=by
 intro x
 induction x using br.ind
 rename_i x ih
 intro d ch s hw hd hch SD uO;refine fC.body (args:=[gm g,eW x,iv (d:Nat),iv (ch:Nat),Value.pointer (some ⟨bn,0,none⟩),Value.pointer (some ⟨bl,0,none⟩)]) 129 Tryz.func40 rfl Tryz.ntmps40 rfl (fun c=> ?_);refine St.seq ?_
 have cp:=MS (g.rules.map bV.kids) g.bA.length x d ch s
 have qc:(g.rules.map bV.kids).length=g.rules.length:=List.length_map ..
 refine St.fI (dv g) (fun _:Unit=>yX g) (fun ρ h=>⟨(),h⟩) fun _=> ?_
 refine St.cast (H':=[aF (sl du g.tv.1 g.types),aF (aX ek g.types),aF (sl bx g.fv.1 g.bb),aF (sl cA g.rv.1 g.rules),aF (aX cO g.rules),aF (sl cI g.xv.1 g.bA),aF (aX dT g.bA),aF (bU g.start),aF (dv g),aF (cB x),ae bn (.cells [iv ((s.nodes:Nat):Int)].toArray 3 (0,0)),ae bl (.cells [iv ((s.leaves:Nat):Int)].toArray 3 (0,0))]) rfl ?_;refine St.mo x ?_;refine St.wf x.kv.1 (fun lX sO=> ?_);obtain⟨sn,qB⟩:=s
 dsimp only at cp SD uO⊢
 refine St.wf g.rv.1 (fun _ SE=> ?_);refine St.wf g.xv.1 (fun _ SF=> ?_)
 generalize z6:(if 0≤x.eD then(g.rules.map bV.kids).getD x.eD.toNat 0 else 0)=kn at cp
 generalize J0:(if 0≤x.eD then qB else qB+1)=lv at cp
 generalize uW:(if x.kids.length=1 then ch+1 else 0)=c2 at cp
 refine St.rg ?_;refine St.cX (.mk rfl) rfl (fun b6=> ?_);refine St.cX (.mk rfl) rfl (fun b7=> ?_);refine St.alloc dC rfl (fun B6=> ?_);refine St.nn (St.sr ?_);refine St.mv ?_;refine St.ee (Ev.Ih (.mk rfl)) ?_;refine St.ee (Ev.l0 (.mk rfl) bP) ?_;refine St.ar ?_;refine St.nn (St.sr ?_);refine St.mv ?_;refine St.mv ?_;refine St.ee Ev.a0 ?_;refine St.ee (Ev.Ih (.mk rfl)) ?_;refine St.cR (.mk rfl) (.mk rfl) cr rfl (by rfl) ?_;refine St.gS bn (L':=[iv ((sn+1:Nat):Int)]) rfl ?_;refine St.nn (St.seq (St.sr ?_));refine St.mv ?_;refine St.ee (Ev.Ih (.mk rfl)) ?_;refine St.ee (Ev.l0 (.mk rfl) bP) ?_;refine St.ee Ev.s5 ?_;refine St.mv ?_;refine St.gf _ rfl rfl (fun hg=>Ev.move (.mk rfl)) rfl ?_;refine St.gf _ rfl rfl (fun hg=>Ev.gtr (aL.gv rfl hg) (.mk rfl)) rfl ?_;refine St.ee Ev.o0 ?_;refine St.nn ?_;refine St.cond _ rfl (fun sF=> ?_) (fun sF=> ?_)
 ·try simp only[aC]at sF
  rw[if_pos (by omega)]at cp;refine St.sr ?_;refine St.mv ?_;refine St.ee (Ev.build (ps:=[(0,(.const (.int .i64 1))),(1,(.tmp 33))]) (aV.cons (aL.mk rfl) (aV.cons (aL.mk rfl) aV.nil)) (fun w=>bO rfl rfl w)) ?_;refine St.sA (.mk rfl) (.mk rfl) bC ?_;refine St.nn (St.ab (St.aB ?_));refine St.rU [_] [ae bn (.cells [iv ((sn+1:Nat):Int)].toArray 3 (0,0)),ae bl (.cells [iv ((qB:Nat):Int)].toArray 3 (0,0))] Tryz.results40 ?_;rw[cp];exact⟨rfl,sn+1,qB,rfl,fun h=>absurd h (by simp)⟩
 ·try simp only[aC]at sF
  rw[if_neg (by omega)]at cp;refine St.skip (St.aA (St.seq (St.sr ?_)));refine St.ee (Ev.aD (.mk rfl) gD) ?_;refine St.ee (Ev.l0 (.mk rfl) bP) ?_;refine St.ee Ev.dz ?_;refine St.mv ?_;refine St.gf _ rfl rfl (fun hg=>Ev.aD (.mk rfl) gD) rfl ?_;refine St.gf _ rfl rfl (fun hg=>Ev.cS (aL.gv rfl hg) bP trivial (by rfl)) rfl ?_;refine St.gf _ rfl rfl (fun hg=>Ev.aD (.mk rfl) jM) rfl ?_;refine St.gf _ rfl rfl (fun hg=>Ev.cS (aL.gv rfl hg) ic trivial (by rfl)) rfl ?_;refine St.gf _ rfl rfl (fun hg=>Ev.au (aL.gv rfl hg) ic) rfl ?_;refine St.gf _ rfl rfl (fun hg=>Ev.geq (aL.gv rfl hg) (aL.gv rfl hg)) rfl ?_;refine St.ee Ev.o0 ?_;refine St.mv ?_;refine St.gf _ rfl rfl (fun hg=>Ev.aD (.mk rfl) gD) rfl ?_;refine St.gf _ rfl rfl (fun hg=>Ev.cS (aL.gv rfl hg) bP trivial (by rfl)) rfl ?_;refine St.gf _ rfl rfl (fun hg=>Ev.eql (aL.gv rfl hg) (.mk rfl)) rfl ?_;refine St.gf _ rfl rfl (fun hg=>Ev.move (aL.gv rfl hg)) rfl ?_;refine St.yD _ rfl rfl (fun hg=>Ev.aD (.mk rfl) nJ) rfl ?_;refine St.yD _ rfl rfl (fun hg=>Ev.cS (aL.gv rfl hg) bP trivial (by rfl)) rfl ?_;refine St.yD _ rfl rfl (fun hg=>Ev.lss (aL.gv rfl hg) (.mk rfl)) rfl ?_;refine St.yD _ rfl rfl (fun hg=>Ev.move (aL.gv rfl hg)) rfl ?_;refine St.ny _ rfl rfl (fun hg=>Ev.aD (.mk rfl) nJ) rfl ?_;refine St.ny _ rfl rfl (fun hg=>Ev.cS (aL.gv rfl hg) bP trivial (by rfl)) rfl ?_;refine St.ny _ rfl rfl (fun hg=>Ev.aD (.mk rfl) jL) rfl ?_;refine St.ny _ rfl rfl (fun hg=>Ev.cS (aL.gv rfl hg) ig trivial (by rfl)) rfl ?_;refine St.ny _ rfl rfl (fun hg=>Ev.au (aL.gv rfl hg) ig) rfl ?_;refine St.ny _ rfl rfl (fun hg=>Ev.geq (aL.gv rfl hg) (aL.gv rfl hg)) rfl ?_;refine St.yD _ rfl rfl (fun hg=>Ev.or (aL.gv rfl hg) (fun hp=>aL.gv rfl (kH hg hp))) rfl ?_;refine St.gf _ rfl rfl (fun hg=>Ev.and (aL.gv rfl hg) (fun hp=>aL.gv rfl (kH hg hp))) rfl ?_;refine St.ee Ev.o0 ?_;refine St.nn ?_;refine St.cond _ rfl (fun CA=> ?_) (fun CA=> ?_)
  ·try simp only[aC]at CA
   rw[if_pos (by omega)]at cp;refine St.sr ?_;refine St.mv ?_;refine St.ee (Ev.build (ps:=[(0,(.const (.int .i64 3))),(1,(.tmp 64))]) (aV.cons (aL.mk rfl) (aV.cons (aL.mk rfl) aV.nil)) (fun w=>bO rfl rfl w)) ?_;refine St.sA (.mk rfl) (.mk rfl) bC ?_;refine St.nn (St.ab (St.aB ?_));refine St.rU [_] [ae bn (.cells [iv ((sn+1:Nat):Int)].toArray 3 (0,0)),ae bl (.cells [iv ((qB:Nat):Int)].toArray 3 (0,0))] Tryz.results40 ?_;rw[cp];exact⟨rfl,sn+1,qB,rfl,fun h=>absurd h (by simp)⟩
  ·try simp only[aC]at CA
   rw[if_neg (by omega)]at cp;refine St.skip (St.aA (St.seq (St.sr ?_)));refine St.ee (Ev.aD (.mk rfl) gD) ?_;refine St.ee (Ev.l0 (.mk rfl) bP) ?_;refine St.ee Ev.ra ?_;refine St.mv ?_;refine St.gt _ rfl rfl (fun hg=>Ev.aD (.mk rfl) nJ) rfl ?_;refine St.gt _ rfl rfl (fun hg=>Ev.cS (aL.gv rfl hg) bP trivial (by rfl)) rfl ?_;refine St.gt _ rfl rfl (fun hg=>Ev.neq (aL.gv rfl hg) (.mk rfl)) rfl ?_;refine St.ee Ev.n0 ?_;refine St.nn ?_;refine St.cond _ rfl (fun zT=> ?_) (fun zT=> ?_)
   ·try simp only[aC]at zT
    rw[if_pos (by omega)]at cp;refine St.sr ?_;refine St.mv ?_;refine St.ee (Ev.build (ps:=[(0,(.const (.int .i64 5))),(1,(.tmp 74))]) (aV.cons (aL.mk rfl) (aV.cons (aL.mk rfl) aV.nil)) (fun w=>bO rfl rfl w)) ?_;refine St.sA (.mk rfl) (.mk rfl) bC ?_;refine St.nn (St.ab (St.aB ?_));refine St.rU [_] [ae bn (.cells [iv ((sn+1:Nat):Int)].toArray 3 (0,0)),ae bl (.cells [iv ((qB:Nat):Int)].toArray 3 (0,0))] Tryz.results40 ?_;rw[cp];exact⟨rfl,sn+1,qB,rfl,fun h=>absurd h (by simp)⟩
   ·try simp only[aC]at zT
    rw[if_neg (by omega)]at cp;refine St.skip (St.aA (St.sr ?_));refine St.ar ?_;refine St.nn ?_;refine St.join (ι:=Unit) (fun u T=>(14,iv kn)::T) (fun u=>[ae b7 (.cells (js x).toArray 39 (0,0)),ae B6 (.cells [iv 0,iv 0].toArray 42 (0,0)),ae b6 (.cells [g.tv.1,g.fv.1,g.rv.1,g.xv.1,g.start.nv.1].toArray 32 (0,0)),ae bn (.cells [iv ((sn+1:Nat):Int)].toArray 3 (0,0)),ae bl (.cells [iv ((qB:Nat):Int)].toArray 3 (0,0)),aF (sl dY x.kv.1 x.kids),aF (aX cB x.kids),aF (sl cA g.rv.1 g.rules),aF (sl cI g.xv.1 g.bA),aF (dv g)]) (fun u=>(iT (g.rules.map bV.kids) g.bA.length (ah x) d ch ⟨sn,qB⟩=if(x.kids.length:Int)≠kn then(⟨sn+1,lv⟩,9,(sn:Int))else if 3<c2 then(⟨sn+1,lv⟩,14,(sn:Int))else iI (g.rules.map bV.kids) g.bA.length (x.kids.map ah) (d+1) c2 ⟨sn+1,lv⟩)∧sn+1≤200∧d≤48∧(kn=0↔x.eD<0)) (aE.cons 2 rfl (aE.cons 3 rfl (aE.cons 4 rfl (aE.cons 5 rfl (aE.cons 6 rfl (aE.cons 7 rfl (aE.cons 12 rfl (aE.cons 13 rfl aE.nil)))))))) ?_ ?_
    ·refine St.sr ?_
     refine St.ee (Ev.aD (.mk rfl) gD) ?_;refine St.ee (Ev.l0 (.mk rfl) bP) ?_;refine St.ee Ev.ra ?_;refine St.nn ?_;refine St.cond _ rfl (fun zH=> ?_) (fun zH=> ?_)
     ·try simp only[aC]at zH
      obtain⟨ru,AK⟩:=aQ (show x.eD.toNat<g.rules.length by omega)
      have Gk:kn=ru.kids:=by rw[←z6,if_pos (by omega),List.getD_eq_getElem?_getD,List.getElem?_map,AK];rfl
      have lb:=Ig ru (List.mem_of_getElem? AK)
      refine St.rg ?_;refine St.ee (Ev.aD (.mk rfl) jM) ?_;refine St.ee (Ev.l0 (.mk rfl) ic) ?_;refine St.ee (Ev.aD (.mk rfl) gD) ?_;refine St.ee (Ev.l0 (.mk rfl) bP) ?_;refine St.ee (Ev.aR (k:=x.eD.toNat) (.mk rfl) (.mk rfl) ic n7 (by omega) (by omega)) ?_;refine St.ee (Ev.eR (.mk rfl) (by omega) nG) ?_;refine St.ee (Ev.fL (.mk rfl) AK bP trivial rfl) ?_;refine St.slot 85 (iv kn) rfl (congrArg iv Gk.symm) ?_;refine St.ar ?_;refine St.nn ?_;refine St.mE () ⟨cp,by omega,by omega,by omega⟩
     ·try simp only[aC]at zH
      have Gk:kn=0:=by rw[←z6,if_neg (by omega)]
      refine St.skip (St.aA ?_);refine St.slot 14 (iv kn) rfl (congrArg iv Gk.symm) ?_;refine St.mE () ⟨cp,by omega,by omega,by omega⟩
    ·rintro _ ⟨cp,YJ,YK,Od⟩
     refine St.seq (St.sr ?_);refine St.ee (Ev.aD (.mk rfl) lD) ?_;refine St.ee (Ev.l0 (.mk rfl) jJ) ?_;refine St.ee (Ev.au (.mk rfl) jJ) ?_;refine St.mv ?_;refine St.ee Ev.jj ?_;refine St.nn ?_;refine St.cond _ rfl (fun h90=> ?_) (fun h90=> ?_)
     ·try simp only[aC]at h90
      rw[if_pos (by omega)]at cp;refine St.sr ?_;refine St.mv ?_;refine St.ee (Ev.build (ps:=[(0,(.const (.int .i64 9))),(1,(.tmp 91))]) (aV.cons (aL.mk rfl) (aV.cons (aL.mk rfl) aV.nil)) (fun w=>bO rfl rfl w)) ?_;refine St.sA (.mk rfl) (.mk rfl) bC ?_;refine St.nn (St.ab (St.aB ?_));refine St.rU [_] [ae bn (.cells [iv ((sn+1:Nat):Int)].toArray 3 (0,0)),ae bl (.cells [iv ((qB:Nat):Int)].toArray 3 (0,0))] Tryz.results40 ?_;rw[cp];exact⟨rfl,sn+1,qB,rfl,fun h=>absurd h (by simp)⟩
     ·try simp only[aC]at h90
      rw[if_neg (by omega)]at cp;refine St.skip (St.aA ?_);refine St.join (ι:=Unit) (fun u T=>(3,iv ((c2:Nat):Int))::T) (fun u=>[ae b7 (.cells (js x).toArray 39 (0,0)),ae B6 (.cells [iv 0,iv 0].toArray 42 (0,0)),ae b6 (.cells [g.tv.1,g.fv.1,g.rv.1,g.xv.1,g.start.nv.1].toArray 32 (0,0)),ae bn (.cells [iv ((sn+1:Nat):Int)].toArray 3 (0,0)),ae bl (.cells [iv ((qB:Nat):Int)].toArray 3 (0,0)),aF (sl dY x.kv.1 x.kids),aF (aX cB x.kids),aF (sl cA g.rv.1 g.rules),aF (sl cI g.xv.1 g.bA),aF (dv g)]) (fun u=>True) (aE.cons 2 rfl (aE.cons 4 rfl (aE.cons 5 rfl (aE.cons 6 rfl (aE.cons 7 rfl (aE.cons 12 rfl (aE.cons 13 rfl (aE.cons 14 rfl aE.nil)))))))) ?_ ?_
      ·refine St.sr ?_
       refine St.mv ?_;refine St.ee Ev.fa ?_;refine St.nn ?_;refine St.cond _ rfl (fun OZ=> ?_) (fun OZ=> ?_)
       ·try simp only[aC]at OZ
        have KJ:c2=ch+1:=by rw[←uW,if_pos (by omega)]
        refine St.rg ?_;refine St.mv ?_;refine St.ee Ev.a0 ?_;refine St.ar ?_;refine St.nn ?_;refine St.slot 3 (iv ((c2:Nat):Int)) rfl (congrArg iv (by omega)) ?_;refine St.mE () trivial
       ·try simp only[aC]at OZ
        have KJ:c2=0:=by rw[←uW,if_neg (by omega)]
        refine St.rg ?_;refine St.ar ?_;refine St.nn ?_;refine St.slot 3 (iv ((c2:Nat):Int)) rfl (congrArg iv (by omega)) ?_;refine St.mE () trivial
      ·intro _ _
       refine St.seq (St.sr ?_);refine St.mv ?_;refine St.ee Ev.s5 ?_;refine St.nn ?_;refine St.cond _ rfl (fun h98=> ?_) (fun h98=> ?_)
       ·try simp only[aC]at h98
        rw[if_pos (by omega)]at cp;refine St.sr ?_;refine St.mv ?_;refine St.ee (Ev.build (ps:=[(0,(.const (.int .i64 14))),(1,(.tmp 99))]) (aV.cons (aL.mk rfl) (aV.cons (aL.mk rfl) aV.nil)) (fun w=>bO rfl rfl w)) ?_;refine St.sA (.mk rfl) (.mk rfl) bC ?_;refine St.nn (St.ab (St.aB ?_));refine St.rU [_] [ae bn (.cells [iv ((sn+1:Nat):Int)].toArray 3 (0,0)),ae bl (.cells [iv ((qB:Nat):Int)].toArray 3 (0,0))] Tryz.results40 ?_;rw[cp];exact⟨rfl,sn+1,qB,rfl,fun h=>absurd h (by simp)⟩
       ·try simp only[aC]at h98
        rw[if_neg (by omega)]at cp;refine St.skip (St.aA ?_);refine St.join (ι:=Unit) (fun u T=>T) (fun u=>[ae b7 (.cells (js x).toArray 39 (0,0)),ae B6 (.cells [iv 0,iv 0].toArray 42 (0,0)),ae b6 (.cells [g.tv.1,g.fv.1,g.rv.1,g.xv.1,g.start.nv.1].toArray 32 (0,0)),ae bn (.cells [iv ((sn+1:Nat):Int)].toArray 3 (0,0)),ae bl (.cells [iv ((lv:Nat):Int)].toArray 3 (0,0)),aF (sl dY x.kv.1 x.kids),aF (aX cB x.kids),aF (sl cA g.rv.1 g.rules),aF (sl cI g.xv.1 g.bA),aF (dv g)]) (fun u=>True) (aE.cons 2 rfl (aE.cons 3 rfl (aE.cons 4 rfl (aE.cons 5 rfl (aE.cons 6 rfl (aE.cons 7 rfl (aE.cons 12 rfl aE.nil))))))) ?_ ?_
        ·refine St.sr ?_
         refine St.mv ?_;refine St.ee Ev.fa ?_;refine St.nn ?_;refine St.cond _ rfl (fun Pk=> ?_) (fun Pk=> ?_)
         ·try simp only[aC]at Pk
          have Iz:lv=qB+1:=by rw[←J0,if_neg (by omega)]
          refine St.rg ?_;refine St.mv ?_;refine St.ee (Ev.Ih (.mk rfl)) ?_;refine St.ee (Ev.l0 (.mk rfl) bP) ?_;refine St.ee Ev.a0 ?_;refine St.ee (Ev.Ih (.mk rfl)) ?_;refine St.cR (.mk rfl) (.mk rfl) cr rfl (by rfl) ?_;refine St.gS bl (L':=[iv ((lv:Nat):Int)]) (by rw[Iz];rfl) ?_;refine St.nn ?_;refine St.mE () trivial
         ·try simp only[aC]at Pk
          have Iz:lv=qB:=by rw[←J0,if_pos (by omega)]
          refine St.skip (St.aA ?_);refine St.gS bl (L':=[iv ((lv:Nat):Int)]) (by rw[Iz]) ?_;refine St.mE () trivial
        ·intro _ _
         refine St.seq (St.sr ?_);refine St.ee (Ev.aD (.mk rfl) lD) ?_;refine St.ee (Ev.l0 (.mk rfl) jJ) ?_;refine St.ee (Ev.au (.mk rfl) jJ) ?_;refine St.mv ?_;refine St.nn (St.block ?_);refine St.my (ι:=Nat) (κ:=yY) (fun k z T=>(111,iv k)::T) (fun k z=>[ae B6 (.cells [iv 0,iv 0].toArray 42 (0,0)),ae b6 (.cells [g.tv.1,g.fv.1,g.rv.1,g.xv.1,g.start.nv.1].toArray 32 (0,0)),ae bn (.cells [iv ((z.nodes:Nat):Int)].toArray 3 (0,0)),ae bl (.cells [iv ((z.leaves:Nat):Int)].toArray 3 (0,0)),aF (sl dY x.kv.1 x.kids),aF (aX cB x.kids),aF (sl cA g.rv.1 g.rules),aF (sl cI g.xv.1 g.bA),aF (dv g)]) (fun k z=>k≤x.kids.length∧iT (g.rules.map bV.kids) g.bA.length (ah x) d ch ⟨sn,qB⟩=iI (g.rules.map bV.kids) g.bA.length ((x.kids.map ah).drop k) (d+1) c2 z∧z.nodes≤200∧z.leaves≤z.nodes) (fun k z=>x.kids.length-k) 0 ⟨sn+1,lv⟩ (aE.cons 2 rfl (aE.cons 3 rfl (aE.cons 4 rfl (aE.cons 5 rfl (aE.cons 6 rfl (aE.cons 12 rfl (aE.cons 109 rfl (aE.cons 110 rfl aE.nil)))))))) ⟨Nat.zero_le _,cp,by dsimp only;omega,by dsimp only;rw[←J0];split<;>omega⟩ ?_;rintro k ⟨zn,zl⟩ ⟨hk,E8,SG,J8⟩
         dsimp only at SG J8⊢
         refine St.sr ?_;refine St.ee Ev.dz ?_;refine St.nn (St.seq ?_);refine St.cond _ rfl (fun Pl=> ?_) (fun Pl=> ?_)
         ·try simp only[aC]at Pl
          obtain⟨y,hy⟩:=aQ (show k<x.kids.length by omega)
          have lY:=List.mem_of_getElem? hy
          refine St.cC cB x.kids (x:=y) lY ?_
          have jB:=vt (rk:=(g.rules.map bV.kids)) (nl:=g.bA.length) hy (d+1) c2 ⟨zn,zl⟩
          refine St.skip (St.aA (St.seq (St.block (St.sr ?_))));refine St.ee (Ev.aR (k:=k) (.mk rfl) (.mk rfl) jJ gH (by omega) (by omega)) ?_;refine St.ee (Ev.fg (.mk rfl) hy l8 trivial gH en.eq) ?_;refine St.alloc zR rfl (fun KM=> ?_);refine St.sA (.mk rfl) (.mk rfl) gH ?_ (h1:=(by simp only[List.all_cons,List.all_nil,Bool.and_true,Bool.and_eq_true];exact⟨rfl,rfl,y.kv.2⟩));refine St.nn (St.seq ?_);refine St.dup (dv g) ?_;refine St.rg ?_;refine St.ee (Ev.bH (.mk rfl) qR trivial (by exact pL)) ?_;refine St.slot 115 (gm g) rfl rfl ?_;refine St.ee (Ev.bH (.mk rfl) l8 trivial (by exact gH)) ?_;refine St.mv ?_;refine St.ee Ev.a0 ?_;refine St.slot 118 (iv ((d+1:Nat):Int)) rfl rfl ?_;refine St.mv ?_;refine St.mv ?_;refine St.mv ?_;refine St.call (ih y lY (d+1) c2 ⟨zn,zl⟩ (lX y lY) (by omega) (by omega) SG J8) VI (.cons (.mk rfl) (.cons (.mk rfl) (.cons (.mk rfl) (.cons (.mk rfl) (.cons (.mk rfl) (.cons (.mk rfl) .nil)))))) rfl ?_;rintro Tp _ ⟨rfl,n2,l2,rfl,MP⟩;refine St.ca ?_;refine St.alloc dC rfl (fun MT=> ?_);refine St.sA (.mk rfl) (.mk rfl) bC ?_;refine St.nn (St.sr ?_);refine St.ee (Ev.aD (.mk rfl) cb) ?_;refine St.ee (Ev.l0 (.mk rfl) bP) ?_;refine St.ee Ev.jj ?_;refine St.nn ?_;refine St.cond _ rfl (fun Pm=> ?_) (fun Pm=> ?_)
          ·skip
           have qg:(iT (g.rules.map bV.kids) g.bA.length (ah y) (d+1) c2 ⟨zn,zl⟩).2.1≠0:=by simpa using Pm
           rw[if_pos qg]at jB;rw[jB]at E8;refine St.sr ?_;refine St.ee (Ev.bH (.mk rfl) gF trivial (by exact bC)) ?_;refine St.sA (.mk rfl) (.mk rfl) bC ?_;refine St.nn (St.ab (St.aN (St.aB (St.aB (St.aN (St.aB ?_))))));refine St.rU [_] [ae bn (.cells [iv ((n2:Nat):Int)].toArray 3 (0,0)),ae bl (.cells [iv ((l2:Nat):Int)].toArray 3 (0,0))] Tryz.results40 ?_;rw[E8];exact⟨rfl,n2,l2,rfl,fun h=>absurd h qg⟩
          ·skip
           have qg:¬(iT (g.rules.map bV.kids) g.bA.length (ah y) (d+1) c2 ⟨zn,zl⟩).2.1≠0:=by simpa using Pm
           rw[if_neg qg]at jB
           have fD:=xh (ah y) (d+1) c2 ⟨zn,zl⟩ (Decidable.not_not.1 qg) J8
           obtain⟨rfl,rfl⟩:=MP (Decidable.not_not.1 qg);refine St.skip (St.aO (St.aA (St.rg ?_)));refine St.ee Ev.a0 ?_;refine St.mv ?_;refine St.nn ?_;refine St.ji (k+1) (iT (g.rules.map bV.kids) g.bA.length (ah y) (d+1) c2 ⟨zn,zl⟩).1 ⟨by omega,E8.trans jB,fD.1,fD.2⟩
         ·try simp only[aC]at Pl
          rw[zS (by omega)]at E8;refine St.exit (St.aI (St.aI (St.bM (St.aA (St.sr ?_)))));refine St.ee (Ev.build (ps:=[]) (aV.nil) (fun w=>fB w)) ?_;refine St.sA (.mk rfl) (.mk rfl) bC ?_;refine St.nn (St.ab ?_);refine St.rU [_] [ae bn (.cells [iv ((zn:Nat):Int)].toArray 3 (0,0)),ae bl (.cells [iv ((zl:Nat):Int)].toArray 3 (0,0))] Tryz.results40 ?_;rw[E8];exact⟨rfl,zn,zl,rfl,fun _=>⟨rfl,rfl⟩⟩
set_option maxHeartbeats 2000000 in
theorem Bw (g:iG)(t:br)(hw:dY.wf t)(Ig:∀r∈g.rules,1≤r.kids):cz Tryz.prog 11 #[gm g,eW t] [dv g,cB t] (fv (ju (fG g) (ah t))):=by
 unfold cz;refine fC.body (args:=[gm g,eW t]) 20 Tryz.func11 rfl Tryz.ntmps11 rfl (fun c=> ?_);refine St.cast (H':=[aF (dv g),aF (cB t)]) rfl ?_;refine St.seq ?_;refine St.cast (H':=[aF (dv g),aF (cB t)]) rfl ?_
 have cp:=Ch g t
 refine St.rg ?_;refine St.cX (.mk rfl) rfl (fun b2=> ?_);refine St.cX (.mk rfl) rfl (fun b3=> ?_);refine St.alloc dC rfl (fun b4=> ?_);refine St.nn (St.sr ?_);refine St.alloc MH rfl (fun b5=> ?_);refine St.alloc MH rfl (fun b6=> ?_);refine St.cR (.mk rfl) (.mk rfl) cr rfl (by rfl) ?_;refine St.gS b5 (L':=[iv ((0:Nat):Int)]) rfl ?_;refine St.cR (.mk rfl) (.mk rfl) cr rfl (by rfl) ?_;refine St.gS b6 (L':=[iv ((0:Nat):Int)]) rfl ?_;refine St.nn (St.sr ?_);refine St.ee (Ev.bH (.mk rfl) qR trivial (by exact pL)) ?_;refine St.slot 8 (gm g) rfl rfl ?_;refine St.ee (Ev.bH (.mk rfl) l8 trivial (by exact gH)) ?_;refine St.call (uH b5 b6 g Ig t 1 0 ⟨0,0⟩ hw (by omega) (by omega) (by simp) (by simp)) VI (.cons (.mk rfl) (.cons (.mk rfl) (.cons (.mk rfl) (.cons (.mk rfl) (.cons (.mk rfl) (.cons (.mk rfl) .nil)))))) rfl ?_;rintro v10 _ ⟨rfl,n2,l2,rfl,MP⟩;refine St.ca ?_;refine St.alloc dC rfl (fun b7=> ?_);refine St.sA (.mk rfl) (.mk rfl) bC ?_;refine St.nn (St.seq (St.sr ?_));refine St.ee (Ev.aD (.mk rfl) cb) ?_;refine St.ee (Ev.l0 (.mk rfl) bP) ?_;refine St.ee Ev.fa ?_;refine St.mv ?_;refine St.gt _ rfl rfl (fun hg=>Ev.cS (.mk rfl) bP trivial (by rfl)) rfl ?_;refine St.gt _ rfl rfl (fun hg=>Ev.gtr (aL.gv rfl hg) (.mk rfl)) rfl ?_;refine St.ee Ev.n0 ?_;refine St.nn ?_;refine St.cond _ rfl (fun mW=> ?_) (fun mW=> ?_)
 ·skip
  simp only[Bool.and_eq_true,decide_eq_true_eq]at mW
  have qg:(iT (g.rules.map bV.kids) g.bA.length (ah t) 1 0 ⟨0,0⟩).2.1=0:=mW.1
  obtain⟨_,rfl⟩:=MP qg;rw[if_neg (by simpa using qg),if_pos (by omega)]at cp;refine St.sr ?_;refine St.ee (Ev.build (ps:=[(0,(.const (.int .i64 2))),(1,(.const (.int .i64 (-2))))]) (aV.cons (aL.mk rfl) (aV.cons (aL.mk rfl) aV.nil)) (fun w=>bO rfl rfl w)) ?_;refine St.sA (.mk rfl) (.mk rfl) bC ?_;refine St.nn (St.ab (St.aB ?_));refine St.rU [_] [] Tryz.results11 ?_;exact congrArg fv cp.symm
 ·skip
  have od:ju (fG g) (ah t)=(iT (g.rules.map bV.kids) g.bA.length (ah t) 1 0 ⟨0,0⟩).2:=by rw[cp];by_cases qg:(iT (g.rules.map bV.kids) g.bA.length (ah t) 1 0 ⟨0,0⟩).2.1=0;(obtain⟨_,rfl⟩:=MP qg;rw[if_neg (by simpa using qg),if_neg (by intro h;simp only[Bool.and_eq_false_iff,decide_eq_false_iff_not]at mW;rcases mW with mW|mW;exact mW qg;omega),Gj _ _ _ _ qg]);rw[if_pos qg]
  refine St.skip (St.aA (St.sr ?_));refine St.ee (Ev.bH (.mk rfl) gF trivial (by exact bC)) ?_;refine St.sA (.mk rfl) (.mk rfl) bC ?_;refine St.nn (St.ab ?_);refine St.rU [_] [] Tryz.results11 ?_;exact congrArg fv od.symm
set_option maxHeartbeats 1000000 in
theorem rS (nr nl:Nat):∀x:br,dY.wf x→gU nr nl (ah x)→mN (ah x)≤200→cz Tryz.prog 42 #[eW x] [cB x] (iv (mN (ah x):Nat)):=by
 intro x
 induction x using br.ind
 rename_i x ih
 intro hw hg J0;refine cz.iL (args:=[eW x]) 24 Tryz.func42 rfl Tryz.ntmps42 rfl (fun c=> ?_);refine St.seq ?_;refine St.cast (H':=[aF (cB x)]) rfl ?_
 have EA:=Gn x
 obtain⟨Q1,hle,Q2⟩:=xi x hg;refine St.mo x ?_;refine St.wf x.kv.1 (fun lX sO=> ?_);refine St.rg ?_;refine St.cX (.mk rfl) rfl (fun b1=> ?_);refine St.ar ?_;refine St.nn (St.seq (St.sr ?_));refine St.ee (Ev.aD (.mk rfl) gD) ?_;refine St.ee (Ev.l0 (.mk rfl) bP) ?_;refine St.ee Ev.dz ?_;refine St.nn ?_;refine St.cond _ rfl (fun h7=> ?_) (fun h7=> ?_)
 ·try simp only[aC]at h7
  obtain⟨Od,_⟩:=hle h7;rw[if_pos (by omega),Od,List.map_nil,j6]at EA;refine St.sr ?_;refine St.ar ?_;refine St.nn (St.ab (St.aB ?_));refine St.rU [_] [] Tryz.results42 ?_;exact congrArg iv (by omega)
 ·try simp only[aC]at h7
  rw[if_neg (by omega),Nat.zero_add]at EA;refine St.skip (St.aA (St.sr ?_));refine St.ar ?_;refine St.nn (St.seq (St.sr ?_));refine St.ar ?_;refine St.nn (St.block ?_);refine St.slot 3 (iv ((j6 ((x.kids.map ah).take 0):Nat):Int)) rfl (congrArg iv (by rw[List.take_zero,j6];rfl)) ?_;refine St.lH (ι:=Nat) (fun k T=>(4,iv k)::(3,iv ((j6 ((x.kids.map ah).take k):Nat):Int))::T) (fun k=>[ae b1 (.cells (js x).toArray 39 (0,0)),aF (sl dY x.kv.1 x.kids),aF (aX cB x.kids)]) (fun k=>k≤x.kids.length) (fun k=>x.kids.length-k) 0 (aE.cons 1 rfl (aE.cons 2 rfl aE.nil)) (Nat.zero_le _) ?_;intro k hk;refine St.seq (St.sr ?_);refine St.mv ?_;refine St.ee (Ev.aD (.mk rfl) lD) ?_;refine St.ee (Ev.l0 (.mk rfl) jJ) ?_;refine St.ee (Ev.au (.mk rfl) jJ) ?_;refine St.ee Ev.dz ?_;refine St.nn ?_;refine St.cond _ rfl (fun PS=> ?_) (fun PS=> ?_)
  ·try simp only[aC]at PS
   obtain⟨y,hy⟩:=aQ (show k<x.kids.length by omega)
   have lY:=List.mem_of_getElem? hy
   have pb:(x.kids.map ah)[k]?=some (ah y):=by rw[List.getElem?_map,hy];rfl
   refine St.cC cB x.kids (x:=y) lY ?_;obtain⟨J2,Py⟩:=tZ pb;refine St.skip (St.aA (St.seq (St.block (St.rg ?_))));refine St.mv ?_;refine St.ee (Ev.aD (.mk rfl) lD) ?_;refine St.ee (Ev.l0 (.mk rfl) jJ) ?_;refine St.mv ?_;refine St.ee (Ev.aR (k:=k) (.mk rfl) (.mk rfl) jJ gH (by omega) (by omega)) ?_;refine St.ee (Ev.fg (.mk rfl) hy l8 trivial gH en.eq) ?_;refine St.slot 20 (eW y) rfl rfl ?_;refine St.ee (Ev.call (ih y lY (lX y lY) (Q2 y lY) (by omega)) PH (.cons (.mk rfl) .nil)) ?_;refine St.ee Ev.a0 ?_;refine St.ar ?_;refine St.nil (St.aO (St.aA (St.rg ?_)));refine St.mv ?_;refine St.ee Ev.a0 ?_;refine St.ar ?_;refine St.nn ?_;refine St.slot 3 (iv ((j6 ((x.kids.map ah).take (k+1)):Nat):Int)) rfl (congrArg iv (by rw[J2];omega)) ?_;refine St.aH (k+1) (by omega)
  ·try simp only[aC]at PS
   have qc:(x.kids.map ah).length≤k:=by rw[List.length_map];omega
   rw[List.take_of_length_le qc];refine St.exit (St.aI (St.aI (St.bM (St.aA (St.sr ?_)))));refine St.mv ?_;refine St.ar ?_;refine St.nn (St.ab ?_);refine St.rU [_] [] Tryz.results42 ?_;exact congrArg iv (by omega)
structure J5 where
 path:List Int
 leaf:Bool
 label:cV
 ov:Int
 qTo:Int
mutual
def D6 (g:iw):fF→List Int→Nat→List J5
 | .mk r x l,p,w=>⟨p,decide (r<0),rZ g r x,w,((w+((if r<0 then 1 else 0)+j6 l):Nat):Int)⟩::wM g l p 0 w
def wM (g:iw):List fF→List Int→Nat→Nat→List J5
 | [],_,_,_=>[]
 |x::l,p,i,w=>D6 g x (p++ [(i:Int)]) w++wM g l p (i+1) (w+mN x)
end
mutual
def D7 (g:iw):fF→List Int→Nat→Int→Nat→List (Nq×J5)
 | .mk r x l,p,k,up,w=>(⟨k,decide (r<0),rZ g r x,up,k+(1+ld l),w,w+((if r<0 then 1 else 0)+j6 l)⟩,⟨p,decide (r<0),rZ g r x,w,((w+((if r<0 then 1 else 0)+j6 l):Nat):Int)⟩)::AP g l p 0 (k+1) k w
def AP (g:iw):List fF→List Int→Nat→Nat→Int→Nat→List (Nq×J5)
 | [],_,_,_,_,_=>[]
 |x::l,p,i,k,up,w=>D7 g x (p++ [(i:Int)]) k up w++AP g l p (i+1) (k+o3 x) up (w+mN x)
end
mutual
theorem D8 (g:iw):∀(t:fF) (p:List Int) (k:Nat) (up:Int) (w:Nat),(D7 g t p k up w).map Prod.snd=D6 g t p w
 | .mk r x l,p,k,up,w=>by rw[D7,D6,List.map_cons,D9 g l]
theorem D9 (g:iw):∀(l:List fF) (p:List Int) (i k:Nat) (up:Int) (w:Nat),(AP g l p i k up w).map Prod.snd=wM g l p i w
 | [],_,_,_,_,_=>by rw[AP,wM];rfl
 |x::l,p,i,k,up,w=>by rw[AP,wM,List.map_append,D8 g x,D9 g l]
end
mutual
theorem DA {nr nl:Nat}(g:iw):∀(t:fF) (p:List Int) (k:Nat) (up:Int) (w:Nat),gU nr nl t→(D7 g t p k up w).map Prod.fst=kG g t k up w
 | .mk r x l,p,k,up,w,h=>by
  rw[gU]at h
  by_cases hr:r<0
  ·rw[(h.2.1 hr).1,D7,kG,AP,ow];rfl
  ·rw[D7,kG,List.map_cons,DB g l _ _ _ _ _ h.2.2.2,if_neg hr];rfl
theorem DB {nr nl:Nat}(g:iw):∀(l:List fF) (p:List Int) (i k:Nat) (up:Int) (w:Nat),lR nr nl l→(AP g l p i k up w).map Prod.fst=ow g l k up w
 | [],_,_,_,_,_,_=>by rw[AP,ow];rfl
 |x::l,p,i,k,up,w,h=>by
  rw[lR]at h;rw[AP,ow,List.map_append,DA g x _ _ _ _ h.1,DB g l _ _ _ _ _ h.2]
end
mutual
theorem y9 (g:iw):∀(t:fF) (p:List Int) (k:Nat) (up:Int) (w:Nat),∀z∈D7 g t p k up w,z.2.leaf=z.1.leaf∧z.2.label=z.1.label∧z.2.ov=z.1.ov∧z.2.qTo=z.1.«to»
 | .mk r x l,p,k,up,w,z,h=>by
  rw[D7]at h
  rcases List.mem_cons.1 h with rfl|h
  ·exact⟨rfl,rfl,rfl,rfl⟩
  ·exact A8 g l _ _ _ _ _ z h
theorem A8 (g:iw):∀(l:List fF) (p:List Int) (i k:Nat) (up:Int) (w:Nat),∀z∈AP g l p i k up w,z.2.leaf=z.1.leaf∧z.2.label=z.1.label∧z.2.ov=z.1.ov∧z.2.qTo=z.1.«to»
 | [],_,_,_,_,_,z,h=>by rw[AP]at h;cases h
 |x::l,p,i,k,up,w,z,h=>by
  rw[AP]at h
  rcases List.mem_append.1 h with h|h
  ·exact y9 g x _ _ _ _ z h
  ·exact A8 g l _ _ _ _ _ z h
end
def Rel (x y:Nq×J5):Prop:=((x.1.no≤y.1.no∧y.1.no<x.1.fin)↔x.2.path<+:y.2.path)∧(y.1.up=(x.1.no:Int)↔(x.2.path<+:y.2.path∧y.2.path.length=x.2.path.length+1))
structure PrT (p:List Int)(k n:Nat)(up:Int)(L:List (Nq×J5)):Prop where
 DC:∀z∈L,p<+:z.2.path∧k≤z.1.no∧z.1.no<z.1.fin∧z.1.fin≤k+n
 top:∀z∈L,(z.1.no=k∧z.2.path=p∧z.1.up=up)∨(p.length<z.2.path.length∧k<z.1.no∧(k:Int)≤z.1.up∧z.1.up<z.1.no∧∃y∈L,z.1.up=(y.1.no:Int))
 rel:∀x∈L,∀y∈L,Rel x y
structure PrL (p:List Int)(i k n:Nat)(up:Int)(L:List (Nq×J5)):Prop where
 DC:∀z∈L,(∃j:Nat,i≤j∧(p++ [(j:Int)])<+:z.2.path)∧k≤z.1.no∧z.1.no<z.1.fin∧z.1.fin≤k+n
 top:∀z∈L,(z.2.path.length=p.length+1∧z.1.up=up)∨(p.length+1<z.2.path.length∧(k:Int)≤z.1.up∧z.1.up<z.1.no∧∃y∈L,z.1.up=(y.1.no:Int))
 rel:∀x∈L,∀y∈L,Rel x y
theorem DD {p q:List Int}{i j:Int}(h1:(p++ [i])<+:q)(h2:(p++ [j])<+:q):i=j:=by
 obtain⟨a,ha⟩:=h1;obtain⟨b,hb⟩:=h2;rw[←hb,List.append_assoc,List.append_assoc]at ha
 have:=List.append_cancel_left ha
 simp only[List.cons_append,List.nil_append,List.cons.injEq]at this
 exact this.1
theorem sK {p q:List Int}(h:p<+:q):p.length≤q.length:=h.length_le
mutual
theorem Ii (g:iw):∀(t:fF) (p:List Int) (k:Nat) (up:Int) (w:Nat),up<k→PrT p k (o3 t) up (D7 g t p k up w)
 | .mk r x l,p,k,up,w,Qm=>by
  have ih:=Ij g l p 0 (k+1) k w (by omega)
  rw[D7,o3]
  constructor
  ·intro z hz
   rcases List.mem_cons.1 hz with rfl|hz
   ·exact⟨List.prefix_refl _,Nat.le_refl _,by dsimp only;omega,Nat.le_refl _⟩
   ·obtain⟨⟨j,_,h1⟩,h2,h3,h4⟩:=ih.DC z hz
    exact⟨(List.prefix_append _ _).trans h1,by omega,h3,by omega⟩
  ·intro z hz
   rcases List.mem_cons.1 hz with rfl|hz
   ·exact .inl ⟨rfl,rfl,rfl⟩
   ·obtain⟨_,h2,h3,h4⟩:=ih.DC z hz
    rcases ih.top z hz with⟨a,b⟩|⟨a,b,c,y,hy,d⟩
    ·exact .inr ⟨by omega,by omega,by omega,by omega,_,List.mem_cons_self ..,b⟩
    ·exact .inr ⟨by omega,by omega,by omega,c,y,List.mem_cons_of_mem _ hy,d⟩
  ·intro x' hx y' hy
   rcases List.mem_cons.1 hx with rfl|hx
   ·rcases List.mem_cons.1 hy with rfl|hy
    ·exact⟨⟨fun _=>List.prefix_refl _,fun _=>⟨Nat.le_refl _,by dsimp only;omega⟩⟩,⟨fun h=>by dsimp only at h;omega,fun h=>by have:=h.2;dsimp only at this;omega⟩⟩
    ·obtain⟨⟨j,_,h1⟩,h2,h3,h4⟩:=ih.DC y' hy
     have hp:=(List.prefix_append p [(j:Int)]).trans h1
     refine⟨⟨fun _=>hp,fun _=>⟨by dsimp only;omega,by dsimp only;omega⟩⟩,?_⟩
     rcases ih.top y' hy with⟨a,b⟩|⟨a,b,c,_⟩
     ·exact⟨fun _=>⟨hp,a⟩,fun _=>b⟩
     ·exact⟨fun h=>by dsimp only at h;omega,fun h=>by have:=h.2;dsimp only at this;omega⟩
   ·rcases List.mem_cons.1 hy with rfl|hy
    ·obtain⟨⟨j,_,h1⟩,h2,h3,h4⟩:=ih.DC x' hx
     have hl:=sK h1
     rw[List.length_append]at hl
     simp only[List.length_cons,List.length_nil]at hl
     refine⟨⟨fun h=> ?_,fun h=> ?_⟩,⟨fun h=> ?_,fun h=> ?_⟩⟩
     ·have:=h.1;dsimp only at this;omega
     ·have:=sK h;dsimp only at this;omega
     ·dsimp only at h;omega
     ·have:=sK h.1;dsimp only at this;omega
    ·exact ih.rel x' hx y' hy
theorem Ij (g:iw):∀(l:List fF) (p:List Int) (i k:Nat) (up:Int) (w:Nat),up<k→PrL p i k (ld l) up (AP g l p i k up w)
 | [],_,_,_,_,_,_=>by
  rw[AP];exact⟨(fun z h=>by cases h),(fun z h=>by cases h),(fun z h=>by cases h)⟩
 |x::l,p,i,k,up,w,Qm=>by
  have h1:=Ii g x (p++ [(i:Int)]) k up w Qm
  have h2:=Ij g l p (i+1) (k+o3 x) up (w+mN x) (by omega)
  have hlen:(p++ [(i:Int)]).length=p.length+1:=by rw[List.length_append];rfl
  rw[AP,ld]
  have low:∀a∈D7 g x (p++ [(i:Int)]) k up w,a.1.up<((k+o3 x:Nat):Int):=fun a ha=>by
   obtain⟨_,a1,a2,a3⟩:=h1.DC a ha
   rcases h1.top a ha with⟨_,_,b⟩|⟨_,_,_,b,_⟩<;>omega
  have high:∀b∈AP g l p (i+1) (k+o3 x) up (w+mN x),b.1.up<k∨((k+o3 x:Nat):Int)≤b.1.up:=fun b hb=>by
   rcases h2.top b hb with⟨_,c⟩|⟨_,c,_⟩<;>omega
  constructor
  ·intro z hz
   rcases List.mem_append.1 hz with hz|hz
   ·obtain⟨a,b,c,d⟩:=h1.DC z hz
    exact⟨⟨i,Nat.le_refl _,a⟩,b,c,by omega⟩
   ·obtain⟨⟨j,hj,a⟩,b,c,d⟩:=h2.DC z hz
    exact⟨⟨j,by omega,a⟩,by omega,c,by omega⟩
  ·intro z hz
   rcases List.mem_append.1 hz with hz|hz
   ·rcases h1.top z hz with⟨a,b,c⟩|⟨a,b,c,d,y,hy,e⟩
    ·exact .inl ⟨by rw[b,hlen],c⟩
    ·exact .inr ⟨by omega,c,d,y,List.mem_append_left _ hy,e⟩
   ·rcases h2.top z hz with⟨a,b⟩|⟨a,b,c,y,hy,d⟩
    ·exact .inl ⟨a,b⟩
    ·exact .inr ⟨a,by omega,c,y,List.mem_append_right _ hy,d⟩
  ·intro x' hx y' hy
   rcases List.mem_append.1 hx with hx|hx<;>rcases List.mem_append.1 hy with hy|hy
   ·exact h1.rel x' hx y' hy
   ·obtain⟨a,b,c,d⟩:=h1.DC x' hx
    obtain⟨⟨j,hj,a'⟩,b',c',d'⟩:=h2.DC y' hy
    have mL:¬x'.2.path<+:y'.2.path:=fun h=>by have:=DD (a.trans h) a';omega
    refine⟨⟨fun h=>by omega,fun h=>absurd h mL⟩,⟨fun h=> ?_,fun h=>absurd h.1 mL⟩⟩
    rcases high y' hy with h'|h'<;>omega
   ·obtain⟨a,b,c,d⟩:=h1.DC y' hy
    obtain⟨⟨j,hj,a'⟩,b',c',d'⟩:=h2.DC x' hx
    have mL:¬x'.2.path<+:y'.2.path:=fun h=>by have:=DD (a'.trans h) a;omega
    refine⟨⟨fun h=>by omega,fun h=>absurd h mL⟩,⟨fun h=> ?_,fun h=>absurd h.1 mL⟩⟩
    have:=low y' hy
    omega
   ·exact h2.rel x' hx y' hy
end
def qs (q p:List Int):Bool:=decide (p<+:q)
def qt (k:Int)(a b:J5):Bool:=
 if k=1 then decide (b.path.length=a.path.length+1)&&qs b.path a.path else if k=2 then decide (a.path.length<b.path.length)&&qs b.path a.path
 else if k=3 then decide (a.qTo≤b.ov)else if k=4 then decide (a.qTo=b.ov)
 else decide (a.path.length=b.path.length)&&(decide (0<a.path.length)&&(qs b.path (a.path.take (a.path.length-1))&&decide (a.path.getD (a.path.length-1) 0≠b.path.getD (a.path.length-1) 0)))
def Wj:J5:=⟨[],false,[],0,0⟩
theorem DE {nr nl:Nat}(g:iw){t:fF}(h:gU nr nl t){i:Nat}(hi:i<(kG g t 0 (-1) 0).length):∃z,z∈D7 g t [] 0 (-1) 0∧z.1=(kG g t 0 (-1) 0).getD i so∧z.2=(D6 g t [] 0).getD i Wj∧z.1.no=i:=by
 have h1:=DA g t [] 0 (-1) 0 h
 have h2:=D8 g t [] 0 (-1) 0
 have hl:i<(D7 g t [] 0 (-1) 0).length:=by rw[←h1,List.length_map]at hi;exact hi
 refine⟨_,List.getElem_mem hl,?_,?_,?_⟩
 ·rw[←h1,List.getD_eq_getElem?_getD,List.getElem?_map,List.getElem?_eq_getElem hl];rfl
 ·rw[←h2,List.getD_eq_getElem?_getD,List.getElem?_map,List.getElem?_eq_getElem hl];rfl
 ·have:=Ao g t 0 (-1) 0 i (D7 g t [] 0 (-1) 0)[i].1 (by rw[←h1,List.getElem?_map,List.getElem?_eq_getElem hl];rfl)
  omega
theorem uI {a:List Int}(h:0<a.length):a=a.take (a.length-1)++ [a.getD (a.length-1) 0]:=by
 have:=bJ (show a[a.length-1]?=some (a.getD (a.length-1) 0) by rw[List.getD_eq_getElem?_getD,List.getElem?_eq_getElem (by omega)];rfl)
 rw[←this,show a.length-1+1=a.length by omega,List.take_length]
theorem Ik {nr nl:Nat}(g:iw){t:fF}(h:gU nr nl t){i j:Nat}(hi:i<(kG g t 0 (-1) 0).length)(hj:j<(kG g t 0 (-1) 0).length)(k:Int):qt k ((D6 g t [] 0).getD i Wj) ((D6 g t [] 0).getD j Wj)=j7 (kG g t 0 (-1) 0) k i j:=by
 obtain⟨x,hx,e1,e2,e3⟩:=DE g h hi;obtain⟨y,hy,f1,f2,f3⟩:=DE g h hj
 have ok:=Ii g t [] 0 (-1) 0 (by omega)
 obtain⟨_,_,SO,Ok⟩:=y9 g _ _ _ _ _ x hx;obtain⟨_,_,hy3,hy4⟩:=y9 g _ _ _ _ _ y hy;obtain⟨r1,r2⟩:=ok.rel x hx y hy;obtain⟨_,i1,i2,i3⟩:=ok.DC x hx;obtain⟨_,i4,i5,i6⟩:=ok.DC y hy;rw[←e2,←f2];unfold qt j7 qs;rw[←e1,←f1]
 by_cases k1:k=1
 ·rw[if_pos k1,if_pos k1]
  rw[←e3,Bool.eq_iff_iff,Bool.and_eq_true,decide_eq_true_iff,decide_eq_true_iff,decide_eq_true_iff,r2,And.comm]
 rw[if_neg k1,if_neg k1]
 by_cases k2:k=2
 ·rw[if_pos k2,if_pos k2,Bool.eq_iff_iff,Bool.and_eq_true,Bool.and_eq_true,decide_eq_true_iff,decide_eq_true_iff,decide_eq_true_iff,decide_eq_true_iff,←r1]
  subst e3 f3;refine⟨fun⟨a,b,c⟩=>⟨?_,c⟩,fun⟨a,b⟩=>⟨?_,by omega,b⟩⟩
  ·rcases Nat.lt_or_ge x.1.no y.1.no with q|q
   ·exact q
   ·exfalso
    obtain⟨s1,_⟩:=ok.rel y hy x hx
    have:=sK (s1.1 ⟨q,by omega⟩)
    omega
  ·have hp:=r1.1 ⟨by omega,b⟩
   rcases Nat.lt_or_ge x.2.path.length y.2.path.length with q|q
   ·exact q
   ·exfalso
    have he:=hp.eq_of_length_le q
    obtain⟨s1,_⟩:=ok.rel y hy x hx
    have:=s1.2 (by rw[he];exact List.prefix_refl _)
    omega
 rw[if_neg k2,if_neg k2]
 by_cases k3:k=3
 ·rw[if_pos k3,if_pos k3,Ok,hy3,Bool.eq_iff_iff,decide_eq_true_iff,decide_eq_true_iff];omega
 rw[if_neg k3,if_neg k3]
 by_cases k4:k=4
 ·rw[if_pos k4,if_pos k4,Ok,hy3,Bool.eq_iff_iff,decide_eq_true_iff,decide_eq_true_iff];omega
 rw[if_neg k4,if_neg k4,Bool.eq_iff_iff]
 simp only[Bool.and_eq_true,decide_eq_true_iff]
 subst e3 f3
 constructor
 ·rintro ⟨a,b,c,d⟩
  refine⟨fun e=>d ?_,?_⟩
  ·obtain⟨s1,_⟩:=ok.rel x hx y hy
   have hp:=s1.1 ⟨by omega,by omega⟩
   rw[hp.eq_of_length_le (by omega)]
  ·rcases ok.top x hx with⟨_,q,_⟩|⟨_,_,_,_,z,hz,q⟩
   ·rw[q]at b;exact absurd b (by simp)
   ·have QI:=(ok.rel z hz x hx).2.1 q
    have hzt:z.2.path=x.2.path.take (x.2.path.length-1):=by
     rw[List.prefix_iff_eq_take.1 QI.1,QI.2]
     simp
    have:=(ok.rel z hz y hy).2.2 ⟨by rw[hzt];exact c,by rw[←a,QI.2]⟩
    rw[q,this]
 ·rintro ⟨a,b⟩
  rcases ok.top x hx with⟨q1,q2,q3⟩|⟨_,_,_,_,z,hz,q⟩
  ·exfalso
   rcases ok.top y hy with⟨p1,_⟩|⟨_,_,p1,_⟩<;>omega
  ·obtain⟨u1,u2⟩:=(ok.rel z hz x hx).2.1 q
   obtain⟨w1,w2⟩:=(ok.rel z hz y hy).2.1 (by rw[←b];exact q)
   have QI:z.2.path=x.2.path.take (x.2.path.length-1):=by rw[List.prefix_iff_eq_take.1 u1,u2];simp
   have hzy:z.2.path=y.2.path.take (y.2.path.length-1):=by rw[List.prefix_iff_eq_take.1 w1,w2];simp
   refine⟨by omega,by omega,by rw[←QI];exact w1,fun e=>a ?_⟩
   have hxy:x.2.path=y.2.path:=by
    rw[uI (a:=x.2.path) (by omega),uI (a:=y.2.path) (by omega),←QI,←hzy,e,show x.2.path.length=y.2.path.length by omega]
   have s1:=(ok.rel x hx y hy).1.2 (by rw[hxy];exact List.prefix_refl _)
   have s2:=(ok.rel y hy x hx).1.2 (by rw[hxy];exact List.prefix_refl _)
   omega
end Go.Proofs.YtolmidffiegkaaaGreatDoor
