/-
  Laws of walks through programs, and facts on grammars, trees and queries.
  Conditions: none.
-/
import Derived.Test.YtolmidffiegkaaaGreatDoorGB9
import Derived.Test.YtolmidffiegkaaaGreatDoorGB7
import Derived.Test.YtolmidffiegkaaaGreatDoorGB4
import Derived.Test.YtolmidffiegkaaaGreatDoorGB1
import Derived.Test.YtolmidffiegkaaaGreatDoorGB5
import Derived.Test.YtolmidffiegkaaaGreatDoorGB8
set_option maxRecDepth 20000
set_option linter.unusedSimpArgs false
set_option linter.unusedVariables false
namespace Go.Proofs.YtolmidffiegkaaaGreatDoor
open Go Go.J
structure cw where
 pv:cm
 path:List Int
 leaf:Bool
 label:cV
 ov:Int
 yA:Int
def NG (x:cw):List Value:=[x.pv.1,.bool x.leaf,sv x.label,iv x.ov,iv x.yA]
theorem DF (x:cw)(u:Value)(h:u∈NG x):u.oneCell'=true:=by
 simp only[NG,List.mem_cons,List.not_mem_nil,or_false]at h
 rcases h with rfl|rfl|rfl|rfl|rfl
 ·exact x.pv.2
 ·rfl
 ·rfl
 ·rfl
 ·rfl
abbrev qD:Rp cw:=⟨5,by decide,NG,fun _=>True,fun _=>rfl,DF⟩
instance (x:cw):en qD x (NG x):=⟨rfl⟩
def wN (x:cw):df:=⟨fun ρ=>(sl aK x.pv.1 x.path).f ρ,fun ρ iK h k=>(sl aK x.pv.1 x.path).mono _ _ h k⟩
def AQ (x:cw):J5:=⟨x.path,x.leaf,x.label,x.ov,x.yA⟩
theorem Vc (G:iw)(x:br)(p:List Int)(w:Nat):D6 G (ah x) p w=⟨p,decide (x.eD<0),rZ G x.eD x.lex,w,((w+mN (ah x):Nat):Int)⟩::wM G (x.kids.map ah) p 0 w:=by
 cases x;rw[ah,gl,D6,mN];rfl
theorem A9 (G:iw):∀(l:List fF) (y:fF) (p:List Int) (i w:Nat),wM G (l++ [y]) p i w=wM G l p i w++D6 G y (p++ [((i+l.length:Nat):Int)]) (w+j6 l)
 | [],y,p,i,w=>by rw[List.nil_append,wM,wM,wM,j6,List.append_nil];rfl
 |x::l,y,p,i,w=>by rw[List.cons_append,wM,A9 G l,wM,j6,List.append_assoc,List.length_cons,show i+1+l.length=i+(l.length+1) by omega,show w+mN x+j6 l=w+(mN x+j6 l) by omega]
theorem Lh (x:fF):0<o3 x:=by cases x;rw[o3];omega
theorem Il:∀l:List fF,l.length≤ld l
 | []=>Nat.zero_le _
 |x::l=>by have:=Il l;have:=Lh x;rw[ld,List.length_cons];omega
theorem Vd (L W:List cw)(N:cw):(rows qD (L++N::W))[L.length*5+3]?=some (iv N.ov):=by
 have:=jn qD (L++N::W) L.length 3 N (by simp) (by decide)
 exact this
theorem Pn (L W:List cw)(N:cw)(z:Int):(rows qD (L++N::W)).set (L.length*5+4) (iv z)=rows qD (L++{N with yA:=z}::W):=by
 have e:∀(A B:List cw) (x:cw),rows qD (A++x::B)=rows qD A++(NG x++rows qD B):=fun A B x=>by simp[rows]
 rw[e,e,List.set_append_right _ _ (by rw[dw];show L.length*5≤_;omega),dw];rw[show L.length*5+4-L.length*qD.size=4 by show _-L.length*5=4;omega];rfl
mutual
theorem AA (G:iw):∀(t:fF) (p:List Int) (w:Nat),(D6 G t p w).length=o3 t
 | .mk r x l,p,w=>by rw[D6,List.length_cons,yB G l,o3];omega
theorem yB (G:iw):∀(l:List fF) (p:List Int) (i w:Nat),(wM G l p i w).length=ld l
 | [],_,_,_=>by rw[wM,ld];rfl
 |x::l,p,i,w=>by rw[wM,List.length_append,AA G x,yB G l,ld]
end
mutual
theorem AB (G:iw):∀(t:fF) (p:List Int) (w:Nat),∀z∈D6 G t p w,z.path.length≤p.length+o3 t
 | .mk r x l,p,w,z,h=>by
  rw[D6]at h
  rcases List.mem_cons.1 h with rfl|h
  ·exact Nat.le_add_right _ _
  ·have:=AD G l p 0 w z h;rw[o3];omega
theorem AD (G:iw):∀(l:List fF) (p:List Int) (i w:Nat),∀z∈wM G l p i w,z.path.length≤p.length+1+ld l
 | [],_,_,_,z,h=>by rw[wM]at h;cases h
 |x::l,p,i,w,z,h=>by
  rw[wM]at h;rw[ld]
  rcases List.mem_append.1 h with h|h
  ·have:=AB G x _ _ z h;rw[List.length_append,List.length_singleton]at this;omega
  ·have:=AD G l _ _ _ z h;omega
end
set_option maxHeartbeats 4000000 in
theorem Bx (g:iG):∀(x:br) (p:List Int) (pv:Value) (w:Nat) (L:List cw) (vl:Value),vl.oneCell'=true→dY.wf x→gU g.rules.length g.bA.length (ah x)→(∀z∈p,0≤z∧z≤1000000)→L.length+o3 (ah x)≤200→w+mN (ah x)≤200→p.length+o3 (ah x)≤200→fC Tryz.prog 13 #[vl,gm g,eW x,pv,iv (w:Nat)] [aF (dv g),aF (cB x),aF (sl aK pv p),row vl 60 5 (L).length (rows qD (L))] (fun v H'=>∃W:List cw,v.oneCell'=true∧W.map AQ=D6 (fG g) (ah x) p w∧H'=[row v 60 5 (L++W).length (rows qD (L++W)),aF (aX wN W)]):=by
 intro x
 induction x using br.ind
 rename_i x ih
 intro p pv w L vl zX hw hg hp fD cp AJ;refine fC.body (args:=[vl,gm g,eW x,pv,iv (w:Nat)]) 116 Tryz.func13 rfl Tryz.ntmps13 rfl (fun c=> ?_);refine St.seq ?_
 have hE:=Vc (fG g) x p w
 obtain⟨Q1,hle,Q2⟩:=xi x hg;rw[Gm]at fD AJ
 have abW:=Il (x.kids.map ah)
 rw[List.length_map]at abW
 have EA:=Gn x
 refine St.fI (dv g) (fun _:Unit=>yX g) (fun ρ h=>⟨(),h⟩) fun _=> ?_
 refine St.cast (H':=[aF (sl du g.tv.1 g.types),aF (aX ek g.types),aF (sl bx g.fv.1 g.bb),aF (sl cA g.rv.1 g.rules),aF (aX cO g.rules),aF (sl cI g.xv.1 g.bA),aF (aX dT g.bA),aF (bU g.start),aF (dv g),aF (cB x),aF (sl aK pv p),row vl 60 5 (L).length (rows qD (L))]) rfl ?_;refine St.dup (cB x) ?_;refine St.mo x ?_;refine St.wf x.kv.1 (fun lX sO=> ?_);refine St.wf g.rv.1 (fun _ SE=> ?_);refine St.wf g.xv.1 (fun _ SF=> ?_)
 obtain⟨lf,Ob⟩:∃lf,lf=decide (x.eD<0):=⟨_,rfl⟩
 obtain⟨jU,BI⟩:∃jU,jU=rZ (fG g) x.eD x.lex:=⟨_,rfl⟩
 rw[←Ob,←BI]at hE;refine St.rg ?_;refine St.cX (.mk rfl) rfl (fun b6=> ?_);refine St.cX (.mk rfl) rfl (fun b7=> ?_);refine St.ar ?_;refine St.nn (St.sr ?_);refine St.mv ?_;refine St.ee (Ev.fl (.mk rfl) xF) ?_;refine St.ar ?_;refine St.nn (St.sr ?_);refine St.mv ?_;refine St.ee (Ev.build (ps:=[(3,(.tmp 19))]) (aV.cons (aL.mk rfl) aV.nil) (fun w=>LC rfl w)) ?_;refine St.alloc VJ rfl (fun B6=> ?_);refine St.sA (.mk rfl) (.mk rfl) uy ?_;refine St.nn (St.seq (St.seq ?_));refine St.jD 3 1 ?_;refine St.bB (.slice none 0 0) (show _=(p.take 0).length from rfl) (show _=rows aK (p.take 0)from rfl) ?_;refine St.rg ?_;refine St.ar ?_;refine St.nn (St.block ?_);refine St.my (ι:=Nat) (κ:=cm) (fun k z T=>(13,iv k)::T) (fun k z=>[ae B6 (.cells [z.1,.bool false,sv [],iv ((w:Nat):Int),iv 0].toArray 60 (0,0)),row z.1 3 1 (p.take k).length (rows aK (p.take k)),ae b6 (.cells [g.tv.1,g.fv.1,g.rv.1,g.xv.1,g.start.nv.1].toArray 32 (0,0)),ae b7 (.cells (js x).toArray 39 (0,0)),aF (sl dY x.kv.1 x.kids),aF (aX cB x.kids),aF (sl cA g.rv.1 g.rules),aF (sl cI g.xv.1 g.bA),aF (dv g),aF (sl aK pv p),aF (cB x),row vl 60 5 (L).length (rows qD (L))]) (fun k z=>k≤p.length) (fun k z=>p.length-k) 0 fQ (aE.cons 0 rfl (aE.cons 3 rfl (aE.cons 4 rfl (aE.cons 6 rfl (aE.cons 7 rfl (aE.cons 10 rfl (aE.cons 11 rfl (aE.cons 12 rfl aE.nil)))))))) (Nat.zero_le _) ?_;rintro k z hk;refine St.seq (St.sr ?_);refine St.mv ?_;refine St.mv ?_;refine St.ee (Ev.au (.mk rfl) bE) ?_;refine St.ee Ev.dz ?_;refine St.nn ?_;refine St.cond _ rfl (fun ob=> ?_) (fun ob=> ?_)
 ·try simp only[aC]at ob
  obtain⟨y,hy⟩:=aQ (show k<p.length by omega)
  have qc:(p.take k).length=k:=by rw[List.length_take];omega
  refine St.skip (St.aA (St.seq (St.block ?_)));refine St.eK [ae B6 (.cells [z.1,.bool false,sv [],iv ((w:Nat):Int),iv 0].toArray 60 (0,0)),row z.1 3 1 (p.take k).length (rows aK (p.take k))] mixed (fun np ns=> ?_);refine SW.dd 0 rfl (fun _=>Ev.aD (.mk rfl) ir) ?_;refine SW.dd 2 rfl (fun _=>Ev.move (.mk rfl)) ?_;refine SW.dd 3 rfl (fun _=>Ev.move (.mk rfl)) ?_;refine SW.dd 4 rfl (fun _=>Ev.aR (k:=k) (.mk rfl) (.mk rfl) bE cr (by omega) (by omega)) ?_;refine SW.dd 5 rfl (fun _=>Ev.fL (.mk rfl) hy bP trivial rfl) ?_;refine SW.iP (i:=1) (j:=6) (by kernel_rfl) rfl rfl ?_ ?_
  ·refine St.ee (Ev.l0 (.mk rfl) bE) ?_
   refine St.nn ?_;refine SW.go ?_;refine SW.bG (i:=6) (by kernel_rfl) rfl ?_;refine St.cn rfl (.cons (.mk rfl) .nil) bE cr eE rfl rfl (by simp[Value.cells]) rfl rfl (fun WE=> ?_);refine St.nn ?_;refine SW.go ?_;refine SW.bG (i:=7) (by kernel_rfl) rfl ?_;refine St.cL (.mk rfl) (.mk rfl) bE cr eE Ix (by simp[Value.oneCell',Value.cells]) (by omega) (by omega) rfl rfl rfl rfl (fun Kb abX=> ?_);refine St.bB Kb (show _=(p.take (k+1)).length by rw[bJ hy,List.length_append];rfl) (show _=rows aK (p.take (k+1)) by rw[bJ hy,cl];rfl) ?_;refine St.dm Kb (fun Bc _=> ?_);refine St.nn ?_;refine SW.go ?_;refine SW.dd 8 rfl (fun _=>Ev.aD (.mk rfl) ir) ?_;refine SW.bG (i:=9) (by kernel_rfl) rfl ?_;refine St.cR (.mk rfl) (.mk rfl) e7 Bc (by rfl) ?_;refine St.nn ?_;refine SW.go ?_;refine SW.done (by kernel_rfl) ?_;refine St.aO (St.aA (St.rg ?_));refine St.mv ?_;refine St.ee Ev.a0 ?_;refine St.ar ?_;refine St.nn ?_;refine St.ji (k+1) ⟨Kb,Bc⟩ (by omega)
  ·refine St.cn rfl (.cons (.mk rfl) .nil) bE cr eE rfl rfl (by simp[Value.cells]) rfl rfl (fun WE=> ?_)
   refine St.nn ?_;refine SW.go ?_;refine SW.bG (i:=1) (by kernel_rfl) rfl ?_;refine St.ee (Ev.l0 (.mk rfl) bE) ?_;refine St.nn ?_;refine SW.go ?_;refine SW.bG (i:=7) (by kernel_rfl) rfl ?_;refine St.cL (.mk rfl) (.mk rfl) bE cr eE Ix (by simp[Value.oneCell',Value.cells]) (by omega) (by omega) rfl rfl rfl rfl (fun Kb abX=> ?_);refine St.bB Kb (show _=(p.take (k+1)).length by rw[bJ hy,List.length_append];rfl) (show _=rows aK (p.take (k+1)) by rw[bJ hy,cl];rfl) ?_;refine St.dm Kb (fun Bc _=> ?_);refine St.nn ?_;refine SW.go ?_;refine SW.dd 8 rfl (fun _=>Ev.aD (.mk rfl) ir) ?_;refine SW.bG (i:=9) (by kernel_rfl) rfl ?_;refine St.cR (.mk rfl) (.mk rfl) e7 Bc (by rfl) ?_;refine St.nn ?_;refine SW.go ?_;refine SW.done (by kernel_rfl) ?_;refine St.aO (St.aA (St.rg ?_));refine St.mv ?_;refine St.ee Ev.a0 ?_;refine St.ar ?_;refine St.nn ?_;refine St.ji (k+1) ⟨Kb,Bc⟩ (by omega)
 ·try simp only[aC]at ob
  obtain rfl:k=p.length:=by omega
  rw[List.take_length];refine St.aU z.1 aK p rfl rfl (fun y hy=>by have:=hp y hy;show bF y;unfold bF;omega) ?_;refine St.exit (St.aI (St.aI (St.bM (St.aA ?_))));refine St.join (ι:=Unit) (fun u T=>T) (fun u=>[ae B6 (.cells [z.1,.bool lf,sv jU,iv ((w:Nat):Int),iv 0].toArray 60 (0,0)),aF (sl aK z.1 p),ae b6 (.cells [g.tv.1,g.fv.1,g.rv.1,g.xv.1,g.start.nv.1].toArray 32 (0,0)),ae b7 (.cells (js x).toArray 39 (0,0)),aF (sl dY x.kv.1 x.kids),aF (aX cB x.kids),aF (sl cA g.rv.1 g.rules),aF (sl cI g.xv.1 g.bA),aF (dv g),aF (sl aK pv p),aF (cB x),row vl 60 5 (L).length (rows qD (L))]) (fun u=>True) (aE.cons 0 rfl (aE.cons 3 rfl (aE.cons 4 rfl (aE.cons 6 rfl (aE.cons 7 rfl (aE.cons 10 rfl (aE.cons 11 rfl (aE.cons 12 rfl aE.nil)))))))) ?_ ?_
  ·refine St.sr ?_
   refine St.ee (Ev.aD (.mk rfl) gD) ?_;refine St.ee (Ev.l0 (.mk rfl) bP) ?_;refine St.ee Ev.dz ?_;refine St.nn ?_;refine St.cond _ rfl (fun s9=> ?_) (fun s9=> ?_)
   ·try simp only[aC]at s9
    obtain⟨Od,Pw,Q3⟩:=hle s9;obtain⟨lx,jO⟩:=aQ (show x.lex.toNat<g.bA.length by omega)
    have BJ:lf=true:=by rw[Ob];exact decide_eq_true s9
    have J1:jU=lx.word:=by rw[BI,rZ,if_pos s9,List.getD_eq_getElem?_getD,show(fG g).bA=g.bA.map jh from rfl,List.getElem?_map,jO];rfl
    subst BJ;subst J1
    refine St.sr ?_;refine St.ee (Ev.aD (.mk rfl) PI) ?_;refine St.cR (.mk rfl) (.mk rfl) q9 rfl (by rfl) ?_;refine St.nn (St.rg ?_);refine St.ee (Ev.aD (.mk rfl) jL) ?_;refine St.ee (Ev.l0 (.mk rfl) ig) ?_;refine St.ee (Ev.aD (.mk rfl) nJ) ?_;refine St.ee (Ev.l0 (.mk rfl) bP) ?_;refine St.ee (Ev.aR (k:=x.lex.toNat) (.mk rfl) (.mk rfl) ig o4 (by omega) (by omega)) ?_;refine St.ee (Ev.eR (.mk rfl) (by omega) xX) ?_;refine St.ee (Ev.fL (.mk rfl) jO eG trivial rfl) ?_;refine St.ee (Ev.aD (.mk rfl) I3) ?_;refine St.cR (.mk rfl) (.mk rfl) Dh rfl (by rfl) ?_;refine St.nn ?_;refine St.mE () trivial
   ·try simp only[aC]at s9
    obtain⟨ru,AK⟩:=aQ (show x.eD.toNat<g.rules.length by omega)
    have BJ:lf=false:=by rw[Ob];exact decide_eq_false (by omega)
    have J1:jU=ru.name:=by rw[BI,rZ,if_neg (by omega),List.getD_eq_getElem?_getD,show(fG g).rules=g.rules.map lq from rfl,List.getElem?_map,AK];rfl
    subst BJ;subst J1
    refine St.rg ?_;refine St.ee (Ev.aD (.mk rfl) jM) ?_;refine St.ee (Ev.l0 (.mk rfl) ic) ?_;refine St.ee (Ev.aD (.mk rfl) gD) ?_;refine St.ee (Ev.l0 (.mk rfl) bP) ?_;refine St.ee (Ev.aR (k:=x.eD.toNat) (.mk rfl) (.mk rfl) ic n7 (by omega) (by omega)) ?_;refine St.ee (Ev.eR (.mk rfl) (by omega) nH) ?_;refine St.ee (Ev.fL (.mk rfl) AK eG trivial rfl) ?_;refine St.ee (Ev.aD (.mk rfl) I3) ?_;refine St.cR (.mk rfl) (.mk rfl) Dh rfl (by rfl) ?_;refine St.nn ?_;refine St.mE () trivial
  ·intro _ _
   refine St.sr ?_;refine St.mv ?_;refine St.ee (Ev.bH (.mk rfl) Tryz.underlying60 trivial (by exact uy)) ?_;refine St.slot 57 (.agg (NG (⟨z,p,lf,jU,(w:Nat),0⟩:cw)).toArray) rfl rfl ?_;refine St.cn rfl (.cons (.mk rfl) .nil) xF uy VK rfl rfl (by simp[Value.cells,NG]) rfl rfl (fun b58=> ?_);refine St.cL (.mk rfl) (.mk rfl) xF uy VK abG (fun u hu=>DF (⟨z,p,lf,jU,(w:Nat),0⟩:cw) u (by rw[List.flatMap_cons,List.flatMap_nil,List.append_nil]at hu;exact hu)) (by omega) (by omega) rfl rfl rfl rfl (fun v59 ad1=> ?_);refine St.bB v59 (show _=(L++(⟨z,p,lf,jU,(w:Nat),0⟩:cw)::[]).length by rw[List.length_append];rfl) (show _=rows qD (L++(⟨z,p,lf,jU,(w:Nat),0⟩:cw)::[]) by rw[show rows qD (L++(⟨z,p,lf,jU,(w:Nat),0⟩:cw)::[])=rows qD L++NG (⟨z,p,lf,jU,(w:Nat),0⟩:cw) by simp[rows]];rfl) ?_;refine St.dm v59 (fun Rf _=> ?_);refine St.fact (aX wN []) (fun _ _ _=>fun z hz=>by cases hz) ?_;refine St.ar ?_;refine St.nn (St.seq (St.sr ?_));refine St.ar ?_;refine St.nn (St.block ?_);refine St.slot 4 (iv ((w+j6 ((x.kids.map ah).take 0):Nat):Int)) rfl (congrArg iv (by rw[List.take_zero,j6];rfl)) ?_;refine St.my (ι:=Nat) (κ:=Value×List cw) (fun k q T=>(14,iv k)::(0,q.1)::(4,iv ((w+j6 ((x.kids.map ah).take k):Nat):Int))::T) (fun k q=>[row q.1 60 5 (L++(⟨z,p,lf,jU,(w:Nat),0⟩:cw)::q.2).length (rows qD (L++(⟨z,p,lf,jU,(w:Nat),0⟩:cw)::q.2)),aF (aX wN q.2),aF (sl aK z.1 p),ae b6 (.cells [g.tv.1,g.fv.1,g.rv.1,g.xv.1,g.start.nv.1].toArray 32 (0,0)),ae b7 (.cells (js x).toArray 39 (0,0)),aF (sl dY x.kv.1 x.kids),aF (aX cB x.kids),aF (sl cA g.rv.1 g.rules),aF (sl cI g.xv.1 g.bA),aF (dv g),aF (sl aK pv p),aF (cB x)]) (fun k q=>k≤x.kids.length∧q.1.oneCell'=true∧q.2.map AQ=wM (fG g) ((x.kids.map ah).take k) p 0 w) (fun k q=>x.kids.length-k) 0 (v59,[]) (aE.cons 3 rfl (aE.cons 6 rfl (aE.cons 7 rfl (aE.cons 10 rfl (aE.cons 11 rfl aE.nil))))) ⟨Nat.zero_le _,Rf,rfl⟩ ?_;rintro k ⟨vz,W⟩ ⟨hk,Pc,hW⟩
   dsimp only at Pc hW⊢
   have QG:W.length=ld ((x.kids.map ah).take k):=by have:=congrArg List.length hW;rwa[List.length_map,yB]at this
   refine St.seq (St.sr ?_);refine St.mv ?_;refine St.ee (Ev.aD (.mk rfl) lD) ?_;refine St.ee (Ev.l0 (.mk rfl) jJ) ?_;refine St.ee (Ev.au (.mk rfl) jJ) ?_;refine St.ee Ev.dz ?_;refine St.nn ?_;refine St.cond _ rfl (fun sB=> ?_) (fun sB=> ?_)
   ·try simp only[aC]at sB
    obtain⟨y,hy⟩:=aQ (show k<x.kids.length by omega)
    have lY:=List.mem_of_getElem? hy
    have pb:(x.kids.map ah)[k]?=some (ah y):=by rw[List.getElem?_map,hy];rfl
    have uN:=bJ pb
    have hnt:=zW pb
    obtain⟨J2,Py⟩:=tZ pb
    have abY:((x.kids.map ah).take k).length=k:=by rw[List.length_take,List.length_map];omega
    refine St.cC cB x.kids (x:=y) lY ?_;refine St.skip (St.aA (St.seq (St.block (St.sr ?_))));refine St.cn rfl (.nil) bE cr eE rfl rfl (by simp[Value.cells]) rfl rfl (fun QB=> ?_);refine St.ar ?_;refine St.nn (St.seq (St.seq ?_));refine St.bB (.slice (some ⟨QB,0,none⟩) 0 0) (show _=(p.take 0).length from rfl) (show _=rows aK (p.take 0)from rfl) ?_;refine St.rg ?_;refine St.ar ?_;refine St.nn (St.block ?_);refine St.my (ι:=Nat) (κ:=cm) (fun j u T=>(16,iv j)::(15,u.1)::T) (fun j u=>[row u.1 3 1 (p.take j).length (rows aK (p.take j)),row vz 60 5 (L++(⟨z,p,lf,jU,(w:Nat),0⟩:cw)::W).length (rows qD (L++(⟨z,p,lf,jU,(w:Nat),0⟩:cw)::W)),aF (aX wN W),aF (cB y),aF (sl aK z.1 p),ae b6 (.cells [g.tv.1,g.fv.1,g.rv.1,g.xv.1,g.start.nv.1].toArray 32 (0,0)),ae b7 (.cells (js x).toArray 39 (0,0)),aF (sl dY x.kv.1 x.kids),aF (aX cB x.kids),aF (sl cA g.rv.1 g.rules),aF (sl cI g.xv.1 g.bA),aF (dv g),aF (sl aK pv p),aF (cB x)]) (fun j u=>j≤p.length) (fun j u=>p.length-j) 0 ⟨(.slice (some ⟨QB,0,none⟩) 0 0),rfl⟩ (aE.cons 0 rfl (aE.cons 3 rfl (aE.cons 4 rfl (aE.cons 6 rfl (aE.cons 7 rfl (aE.cons 10 rfl (aE.cons 11 rfl (aE.cons 14 rfl aE.nil)))))))) (Nat.zero_le _) ?_;rintro j u hj;refine St.seq (St.sr ?_);refine St.mv ?_;refine St.mv ?_;refine St.ee (Ev.au (.mk rfl) bE) ?_;refine St.ee Ev.dz ?_;refine St.nn ?_;refine St.cond _ rfl (fun h71=> ?_) (fun h71=> ?_)
    ·try simp only[aC]at h71
     obtain⟨s,hs⟩:=aQ (show j<p.length by omega)
     have DQ:(p.take j).length=j:=by rw[List.length_take];omega
     refine St.skip (St.aA (St.seq (St.block (St.rg ?_))));refine St.mv ?_;refine St.mv ?_;refine St.mv ?_;refine St.ee (Ev.aR (k:=j) (.mk rfl) (.mk rfl) bE cr (by omega) (by omega)) ?_;refine St.ee (Ev.fL (.mk rfl) hs bP trivial rfl) ?_;refine St.cn rfl (.cons (.mk rfl) .nil) bE cr eE rfl rfl (by simp[Value.cells]) rfl rfl (fun b79=> ?_);refine St.cL (.mk rfl) (.mk rfl) bE cr eE Ix (by simp[Value.oneCell',Value.cells]) (by omega) (by omega) rfl rfl rfl rfl (fun v80 ad2=> ?_);refine St.bB v80 (show _=(p.take (j+1)).length by rw[bJ hs,List.length_append];rfl) (show _=rows aK (p.take (j+1)) by rw[bJ hs,cl];rfl) ?_;refine St.dm v80 (fun h80 _=> ?_);refine St.ar ?_;refine St.nil (St.aO (St.aA (St.rg ?_)));refine St.mv ?_;refine St.ee Ev.a0 ?_;refine St.ar ?_;refine St.nn ?_;refine St.ji (j+1) ⟨v80,h80⟩ (by omega)
    ·try simp only[aC]at h71
     obtain rfl:j=p.length:=by omega
     rw[List.take_length];refine St.exit (St.aI (St.aI (St.bM (St.aA (St.sr ?_)))));refine St.mv ?_;refine St.mv ?_;refine St.cn rfl (.cons (.mk rfl) .nil) bE cr eE rfl rfl (by simp[Value.cells]) rfl rfl (fun b83=> ?_);refine St.cL (.mk rfl) (.mk rfl) bE cr eE Ix (by simp[Value.oneCell',Value.cells]) (by omega) (by omega) rfl rfl rfl rfl (fun v84 ad3=> ?_);refine St.bB v84 (show _=(p++ [((k:Nat):Int)]).length by rw[List.length_append];rfl) (show _=rows aK (p++ [((k:Nat):Int)]) by rw[cl];rfl) ?_;refine St.dm v84 (fun uQ _=> ?_)
     have Iy:∀z∈p++ [((k:Nat):Int)],0≤z∧z≤1000000:=fun z hz=>by rcases List.mem_append.1 hz with hz|hz;exact hp z hz;rw[List.mem_singleton.1 hz];omega
     refine St.aU v84 aK (p++ [((k:Nat):Int)]) rfl rfl (fun y hy=>by have:=Iy y hy;show bF y;unfold bF;omega) ?_;refine St.ar ?_;refine St.nn (St.seq ?_);refine St.dup (dv g) ?_;refine St.dup (cB y) ?_;refine St.eK [row vz 60 5 (L++(⟨z,p,lf,jU,(w:Nat),0⟩:cw)::W).length (rows qD (L++(⟨z,p,lf,jU,(w:Nat),0⟩:cw)::W)),aF (dv g),aF (cB y),aF (sl aK v84 (p++ [((k:Nat):Int)]))] mixed (fun np ns=> ?_);refine SW.dd 0 rfl (fun _=>Ev.move (.mk rfl)) ?_;refine SW.dd 1 rfl (fun _=>Ev.bH (.mk rfl) qR trivial (by exact pL)) ?_;refine SW.slot 86 (gm g) rfl rfl ?_;refine SW.dd 2 rfl (fun _=>Ev.aD (.mk rfl) lD) ?_;refine SW.dd 3 rfl (fun _=>Ev.cS (.mk rfl) jJ trivial (by rfl)) ?_;refine SW.dd 4 rfl (fun _=>Ev.move (.mk rfl)) ?_;refine SW.dd 5 rfl (fun _=>Ev.aR (k:=k) (.mk rfl) (.mk rfl) jJ gH (by omega) (by omega)) ?_;refine SW.dd 6 rfl (fun _=>Ev.fg (.mk rfl) hy l8 trivial gH en.eq) ?_;refine SW.slot 91 (eW y) rfl rfl ?_;refine SW.dd 7 rfl (fun _=>Ev.move (.mk rfl)) ?_;refine SW.dd 8 rfl (fun _=>Ev.move (.mk rfl)) ?_;refine SW.bG (i:=9) (by kernel_rfl) rfl ?_;refine St.call (ih y lY (p++ [((k:Nat):Int)]) v84 (w+j6 ((x.kids.map ah).take k)) (L++(⟨z,p,lf,jU,(w:Nat),0⟩:cw)::W) vz Pc (lX y lY) (Q2 y lY) Iy (by rw[List.length_append,List.length_cons,QG];omega) (by omega) (by rw[List.length_append,List.length_singleton];omega)) VL (.cons (.mk rfl) (.cons (.mk rfl) (.cons (.mk rfl) (.cons (.mk rfl) (.cons (.mk rfl) .nil))))) rfl ?_;rintro v94 _ ⟨W2,ng,hW2,rfl⟩;refine St.ca ?_;refine St.nn ?_;refine SW.go ?_;refine SW.dd 10 rfl (fun _=>Ev.assign (.mk rfl)) ?_;refine SW.done (by kernel_rfl) ?_;refine St.aA (St.rg ?_);refine St.mv ?_;refine St.ee (Ev.aD (.mk rfl) lD) ?_;refine St.ee (Ev.l0 (.mk rfl) jJ) ?_;refine St.mv ?_;refine St.ee (Ev.aR (k:=k) (.mk rfl) (.mk rfl) jJ gH (by omega) (by omega)) ?_;refine St.ee (Ev.fg (.mk rfl) hy l8 trivial gH en.eq) ?_;refine St.slot 100 (eW y) rfl rfl ?_;refine St.ee (Ev.call (rS g.rules.length g.bA.length y (lX y lY) (Q2 y lY) (by omega)) PH (.cons (.mk rfl) .nil)) ?_;refine St.ee Ev.a0 ?_;refine St.slot 102 (iv ((w+j6 ((x.kids.map ah).take (k+1)):Nat):Int)) rfl (congrArg iv (by rw[J2];omega)) ?_;refine St.ar ?_;refine St.nil (St.aO (St.aA (St.rg ?_)));refine St.mv ?_;refine St.ee Ev.a0 ?_;refine St.ar ?_;refine St.nn ?_;refine St.bB v94 (show _=(L++(⟨z,p,lf,jU,(w:Nat),0⟩:cw)::(W++W2)).length by simp only[List.append_assoc,List.cons_append]) (show _=rows qD (L++(⟨z,p,lf,jU,(w:Nat),0⟩:cw)::(W++W2)) by simp only[List.append_assoc,List.cons_append]) ?_;refine St.fo (aX wN (W++W2)) [aX wN W,aX wN W2] (fun ρ h z hz=>by rcases List.mem_append.1 hz with hz|hz;exact(show(aX wN W).f ρ from h _ (by simp)) z hz;exact(show(aX wN W2).f ρ from h _ (by simp)) z hz) ?_;refine St.ji (k+1) (v94,W++W2) ⟨by omega,ng,by rw[List.map_append,hW,hW2,uN,A9,abY,Nat.zero_add]⟩
   ·try simp only[aC]at sB
    have Gk:(x.kids.map ah).length≤k:=by rw[List.length_map];omega
    rw[List.take_of_length_le Gk]at hW;refine St.fo (aX wN ((⟨z,p,lf,jU,(w:Nat),((w+mN (ah x):Nat):Int)⟩:cw)::W)) [aX wN W,sl aK z.1 p] (fun ρ h y hy=>by rcases List.mem_cons.1 hy with rfl|hy;exact h (sl aK z.1 p) (by simp);exact(show(aX wN W).f ρ from h _ (by simp)) y hy) ?_
    have hLW:(L++(⟨z,p,lf,jU,(w:Nat),0⟩:cw)::W).length=L.length+1+W.length:=by rw[List.length_append,List.length_cons];omega
    refine St.sU vz (by omega) (fun bs cs sD=> ?_);refine St.exit (St.aI (St.aI (St.bM (St.aA (St.seq ?_)))));refine St.eK [row vz 60 5 (L++(⟨z,p,lf,jU,(w:Nat),0⟩:cw)::W).length (rows qD (L++(⟨z,p,lf,jU,(w:Nat),0⟩:cw)::W))] mixed (fun np ns=> ?_);refine SW.dd 0 rfl (fun _=>Ev.move (.mk rfl)) ?_;refine SW.dd 1 rfl (fun _=>Ev.move (.mk rfl)) ?_;refine SW.dd 2 rfl (fun _=>Ev.move (.mk rfl)) ?_;refine SW.dd 3 rfl (fun _=>Ev.move (.mk rfl)) ?_;refine SW.dd 4 rfl (fun _=>Ev.kF (k:=L.length) sD (.mk rfl) (.mk rfl) xF uy (by omega) (by omega)) ?_;refine SW.dd 5 rfl (fun _=>Ev.BH sD (.mk rfl) Bf) ?_;refine SW.dd 7 rfl (fun _=>Ev.bH (.mk rfl) l8 trivial (by exact gH)) ?_;refine SW.slot 110 (eW x) rfl rfl ?_;refine SW.dd 8 rfl (fun _=>Ev.call (rS g.rules.length g.bA.length x hw hg (by omega)) PH (.cons (.mk rfl) .nil)) ?_;refine SW.bG (i:=6) (by kernel_rfl) rfl ?_;refine St.ee (Ev.j2 (.mk rfl) bP trivial (by omega) (Vd L W (⟨z,p,lf,jU,(w:Nat),0⟩:cw))) ?_;refine St.slot 109 (iv ((w:Nat):Int)) rfl rfl ?_;refine St.nn ?_;refine SW.go ?_;refine SW.dd 9 rfl (fun _=>Ev.a0) ?_;refine SW.slot 112 (iv ((w+mN (ah x):Nat):Int)) rfl rfl ?_;refine SW.dd 10 rfl (fun _=>Ev.kF (k:=L.length) sD (.mk rfl) (.mk rfl) xF uy (by omega) (by omega)) ?_;refine SW.dd 11 rfl (fun _=>Ev.BH sD (.mk rfl) Bg) ?_;refine SW.bG (i:=12) (by kernel_rfl) rfl ?_;refine St.dM (.mk rfl) (.mk rfl) cr rfl (by omega) (by decide) ?_;refine St.bB vz (show _=(L++(⟨z,p,lf,jU,(w:Nat),((w+mN (ah x):Nat):Int)⟩:cw)::W).length by rw[List.length_append,List.length_append];rfl) (show _=rows qD (L++(⟨z,p,lf,jU,(w:Nat),((w+mN (ah x):Nat):Int)⟩:cw)::W)from Pn L W (⟨z,p,lf,jU,(w:Nat),0⟩:cw) _) ?_;refine St.nn ?_;refine SW.go ?_;refine SW.done (by kernel_rfl) ?_;refine St.aA (St.sr ?_);refine St.mv ?_;refine St.ar ?_;refine St.nn (St.ab ?_);refine St.rU [_] [row vz 60 5 (L++(⟨z,p,lf,jU,(w:Nat),((w+mN (ah x):Nat):Int)⟩:cw)::W).length (rows qD (L++(⟨z,p,lf,jU,(w:Nat),((w+mN (ah x):Nat):Int)⟩:cw)::W)),aF (aX wN ((⟨z,p,lf,jU,(w:Nat),((w+mN (ah x):Nat):Int)⟩:cw)::W))] Tryz.results13 ?_;exact⟨(⟨z,p,lf,jU,(w:Nat),((w+mN (ah x):Nat):Int)⟩:cw)::W,Pc,by rw[List.map_cons,hW,hE];rfl,rfl⟩
def yC (N:Nat):Nat→List (List Nat)
 |0=>[[]]
 |v+1=>(yC N v).flatMap fun p=>(List.range N).map fun i=>p++ [i]
theorem py (N:Nat):∀v,∀p∈yC N v,p.length=v
 |0,p,h=>by rw[List.mem_singleton.1 h];rfl
 |v+1,p,h=>by
  rw[yC]at h;obtain⟨q,hq,h⟩:=List.mem_flatMap.1 h;obtain⟨i,_,rfl⟩:=List.mem_map.1 h
  rw[List.length_append,py N v q hq];rfl
theorem DG (N:Nat):∀v,∀p∈yC N v,∀i∈p,i<N
 |0,p,h,i,hi=>by rw[List.mem_singleton.1 h]at hi;cases hi
 |v+1,p,h,i,hi=>by
  rw[yC]at h;obtain⟨q,hq,h⟩:=List.mem_flatMap.1 h;obtain⟨j,hj,rfl⟩:=List.mem_map.1 h
  rcases List.mem_append.1 hi with hi|hi
  ·exact DG N v q hq i hi
  ·rw[List.mem_singleton.1 hi];exact List.mem_range.1 hj
def v0:dP:=⟨[],0,[]⟩
def Bz (L:List Nq)(vs:List dP)(q:List Nat):Bool:=(List.range q.length).all fun j=>mu (vs.getD j v0) (L.getD (q.getD j 0) so)
def C0 (L:List Nq)(ks:List eL)(q:List Nat):Bool:=ks.all fun x=> !decide (max x.a x.b<(q.length:Int))||j7 L x.kind (q.getD x.a.toNat 0) (q.getD x.b.toNat 0)
def kk (L:List Nq)(ks:List eL)(vs:List dP)(q:List Nat):Bool:=Bz L vs q&&C0 L ks q
theorem qu (p:List Nat)(i j:Nat)(h:j<p.length):(p++ [i]).getD j 0=p.getD j 0:=by
 rw[List.getD_eq_getElem?_getD,List.getD_eq_getElem?_getD,List.getElem?_append_left h]
theorem C1 (p:List Nat)(i:Nat):(p++ [i]).getD p.length 0=i:=by
 rw[List.getD_eq_getElem?_getD,List.getElem?_append_right (Nat.le_refl _),Nat.sub_self];rfl
theorem DH {α:Type}{f g h:α→Bool}:∀{l:List α},(∀a∈l,f a=(g a&&h a))→l.all f=(l.all g&&l.all h)
 | [],_=>rfl
 |a::l,H=>by
  rw[List.all_cons,List.all_cons,List.all_cons,H a (by simp),DH fun b hb=>H b (by simp[hb])]
  cases g a<;>cases h a<;>cases l.all g<;>cases l.all h<;>rfl
theorem AE {α:Type}{f g:α→Bool}:∀{l:List α},(∀a∈l,f a=g a)→l.all f=l.all g
 | [],_=>rfl
 |a::l,H=>by rw[List.all_cons,List.all_cons,H a (by simp),AE fun b hb=>H b (by simp[hb])]
theorem Ea (L:List Nq)(vs:List dP)(v:dP)(p:List Nat)(i:Nat)(hv:vs[p.length]?=some v):Bz L vs (p++ [i])=(Bz L vs p&&mu v (L.getD i so)):=by
 unfold Bz;rw[List.length_append,List.length_singleton,List.range_succ,List.all_append,List.all_cons,List.all_nil,Bool.and_true,C1,List.getD_eq_getElem?_getD (l:=vs),hv]
 congr 1
 exact AE fun j hj=>by rw[qu p i j (List.mem_range.1 hj)]
theorem Eb (L:List Nq)(ks:List eL)(p:List Nat)(i:Nat)(hk:∀x∈ks,0≤x.a∧0≤x.b):C0 L ks (p++ [i])=(C0 L ks p&&okB L ks (p++ [i])):=by
 unfold C0 okB
 refine DH fun x hx=> ?_
 obtain⟨h1,h2⟩:=hk x hx;unfold pI;rw[List.length_append,List.length_singleton]
 by_cases c:max x.a x.b<(p.length:Int)
 ·rw[decide_eq_true (show max x.a x.b<((p.length+1:Nat):Int) by omega),decide_eq_true c,decide_eq_false (show ¬max x.a x.b=((p.length+1:Nat):Int)-1 by omega),qu p i _ (by omega),qu p i _ (by omega)]
  simp
 ·by_cases c2:max x.a x.b<((p.length+1:Nat):Int)
  ·rw[decide_eq_true c2,decide_eq_false c,decide_eq_true (show max x.a x.b=((p.length+1:Nat):Int)-1 by omega)]
   simp
  ·rw[decide_eq_false c2,decide_eq_false c,decide_eq_false (show ¬max x.a x.b=((p.length+1:Nat):Int)-1 by omega)]
   simp
theorem uJ (L:List Nq)(ks:List eL)(vs:List dP)(v:dP)(p:List Nat)(i:Nat)(hv:vs[p.length]?=some v)(hk:∀x∈ks,0≤x.a∧0≤x.b):kk L ks vs (p++ [i])=(kk L ks vs p&&Em L ks v p i):=by
 unfold kk Em;rw[Ea L vs v p i hv,Eb L ks p i hk]
 cases Bz L vs p<;>cases C0 L ks p<;>cases mu v (L.getD i so)<;>cases okB L ks (p++ [i])<;>rfl
theorem rV {α β:Type}(f:α→List β)(q:β→Bool):∀l:List α,(l.flatMap f).filter q=l.flatMap fun a=>(f a).filter q
 | []=>rfl
 |a::l=>by rw[List.flatMap_cons,List.filter_append,rV f q l,List.flatMap_cons]
theorem mR {α β γ:Type}(f:α→β)(q:β→Bool)(e:β→List γ):∀l:List α,((l.map f).filter q).flatMap e=l.flatMap fun a=>if q (f a)then e (f a)else []
 | []=>rfl
 |a::l=>by
  rw[List.map_cons,List.flatMap_cons,←mR f q e l]
  by_cases h:q (f a)=true
  ·rw[List.filter_cons_of_pos h,List.flatMap_cons,if_pos h]
  ·rw[List.filter_cons_of_neg h,if_neg h,List.nil_append]
theorem uK (L:List Nq)(ks:List eL)(vs:List dP)(hk:∀x∈ks,0≤x.a∧0≤x.b):∀m,m≤vs.length→((yC L.length m).filter (kk L ks vs)).flatMap (lT L ks (vs.drop m))=lT L ks vs []
 |0,_=>by
  have h:kk L ks vs []=true:=by
   unfold kk Bz C0;rw[Bool.and_eq_true];refine⟨rfl,List.all_eq_true.2 fun x hx=> ?_⟩
   have:=hk x hx
   rw[decide_eq_false (by show ¬max x.a x.b<(([]:List Nat).length:Int);rw[List.length_nil];omega)];rfl
  show(List.filter (kk L ks vs) [[]]).flatMap _=_
  rw[List.filter_cons_of_pos h,List.filter_nil,List.flatMap_cons,List.flatMap_nil,List.append_nil,List.drop_zero]
 |m+1,hm=>by
  have ih:=uK L ks vs hk m (by omega)
  have hv:vs[m]?=some vs[m]:=List.getElem?_eq_getElem (by omega)
  rw[←ih,bf hv,yC,rV,List.flatMap_assoc]
  have gen:∀l:List (List Nat),(∀p∈l,p.length=m)→l.flatMap (fun p=>(((List.range L.length).map fun i=>p++ [i]).filter (kk L ks vs)).flatMap (lT L ks (vs.drop (m+1))))=(l.filter (kk L ks vs)).flatMap (lT L ks (vs[m]::vs.drop (m+1))):=by
   intro l
   induction l with
   |nil=>intro _;rfl
   |cons p l xK=>
    intro hl
    have hp:=hl p (by simp)
    rw[List.flatMap_cons,xK fun q hq=>hl q (by simp[hq]),mR]
    by_cases hg:kk L ks vs p=true
    ·rw[List.filter_cons_of_pos hg,List.flatMap_cons]
     congr 1
     rw[lT]
     refine pJ fun i _=> ?_
     rw[uJ L ks vs vs[m] p i (by rw[hp];exact hv) hk,hg,Bool.true_and]
    ·rw[List.filter_cons_of_neg hg]
     have:(List.range L.length).flatMap (fun i=>if kk L ks vs (p++ [i])=true then lT L ks (vs.drop (m+1)) (p++ [i])else [])=[]:=by
      rw[List.flatMap_eq_nil_iff];intro i _
      rw[uJ L ks vs vs[m] p i (by rw[hp];exact hv) hk,Bool.eq_false_iff.2 hg,Bool.false_and];rfl
     rw[this,List.nil_append]
  exact gen _ (py _ m)
theorem uL (L:List Nq)(ks:List eL)(vs:List dP)(hk:∀x∈ks,0≤x.a∧0≤x.b):lT L ks vs []=(yC L.length vs.length).filter (kk L ks vs):=by
 rw[←uK L ks vs hk vs.length (Nat.le_refl _),List.drop_length]
 show _=_
 induction (yC L.length vs.length).filter (kk L ks vs)with
 |nil=>rfl
 |cons p l ih=>rw[List.flatMap_cons,ih,lT];rfl
theorem DI {p:List Nat}{N j:Nat}(hp:∀i∈p,i<N)(hj:j<p.length):p.getD j 0<N:=by
 rw[List.getD_eq_getElem?_getD,List.getElem?_eq_getElem hj];exact hp _ (List.getElem_mem hj)
theorem C5 (g:iw)(t:fF){vs:List dP}{ks:List eL}{l:eL}(h1:rG vs ks)(h2:rG vs (ks++ [l])):ep g vs (ks++ [l]) t=(ep g vs ks t).filter fun p=>j7 (kG g t 0 (-1) 0) l.kind (p.getD l.a.toNat 0) (p.getD l.b.toNat 0):=by
 unfold ep;rw[uL _ _ _ (fun x hx=>by have:=h2.link x hx;omega),uL _ _ _ (fun x hx=>by have:=h1.link x hx;omega),List.filter_filter]
 refine List.filter_congr fun p hp=> ?_
 have hn:=py _ _ p hp
 have:=h2.link l (by simp)
 unfold kk C0;rw[List.all_append,List.all_cons,List.all_nil,Bool.and_true,decide_eq_true (show max l.a l.b<(p.length:Int) by omega),Bool.not_true,Bool.false_or]
 cases Bz (kG g t 0 (-1) 0) vs p<;>simp[Bool.and_comm]
theorem Ec (g:iw)(t:fF){vs:List dP}{ks:List eL}(h1:rG vs ks):∀p∈ep g vs ks t,p.length=vs.length∧∀i∈p,i<(kG g t 0 (-1) 0).length:=by
 unfold ep;rw[uL _ _ _ (fun x hx=>by have:=h1.link x hx;omega)];intro p hp
 have:=(List.mem_filter.1 hp).1
 exact⟨py _ _ p this,DG _ _ p this⟩
theorem Po {p q:List Int}{k:Nat}{y z:Int}(h:q<+:p)(hy:q[k]?=some y)(hz:p[k]?=some z):z=y:=by
 have hl:=cG hy
 rw[List.prefix_iff_eq_take.1 h,List.getElem?_take,if_pos hl,hz]at hy;exact Option.some.inj hy
theorem Li {p q:List Int}{k:Nat}(hk:q.length≤k)(h:q.take k=p.take k)(hq:q.length≤p.length):q<+:p:=by
 rw[List.take_of_length_le hk]at h
 rw[h];exact List.take_prefix _ _
theorem nQ (u v:Value)(p q:List Int):cz Tryz.prog 43 #[u,v] [sl aK u p,sl aK v q] (.bool (qs p q)):=by
 refine cz.o7 (args:=[u,v]) 26 Tryz.func43 rfl Tryz.ntmps43 rfl (fun c=> ?_);refine St.seq ?_;refine St.wf u (fun _ Eo=> ?_);refine St.wf v (fun _ zX=> ?_);refine St.rg ?_;refine St.ar ?_;refine St.nn (St.seq (St.sr ?_));refine St.mv ?_;refine St.ee (Ev.au (.mk rfl) bE) ?_;refine St.mv ?_;refine St.ee (Ev.au (.mk rfl) bE) ?_;refine St.ee Ev.s5 ?_;refine St.nn ?_;refine St.cond _ rfl (fun uR=> ?_) (fun uR=> ?_)
 ·try simp only[aC]at uR
  refine St.sr ?_;refine St.ar ?_;refine St.nn (St.ab (St.aB ?_));refine St.rU [_] [] Tryz.results43 ?_;exact be (by unfold qs;rw[decide_eq_false (fun h=>by have:=h.length_le;omega)])
 ·try simp only[aC]at uR
  refine St.skip (St.aA (St.seq (St.sr ?_)));refine St.ar ?_;refine St.nn (St.block ?_);refine St.lS (ι:=Nat) (fun k T=>(5,iv k)::T) (fun k=>k≤q.length∧q.take k=p.take k) (fun k=>q.length-k) 0 (aE.cons 0 rfl (aE.cons 1 rfl aE.nil)) ⟨Nat.zero_le _,rfl⟩ ?_;rintro k ⟨hk,hqp⟩;refine St.seq (St.sr ?_);refine St.mv ?_;refine St.mv ?_;refine St.ee (Ev.au (.mk rfl) bE) ?_;refine St.ee Ev.dz ?_;refine St.nn ?_;refine St.cond _ rfl (fun qX=> ?_) (fun qX=> ?_)
  ·try simp only[aC]at qX
   obtain⟨y,hy⟩:=aQ (show k<q.length by omega);obtain⟨z,hz⟩:=aQ (show k<p.length by omega);refine St.skip (St.aA (St.seq (St.block (St.seq ?_))));refine St.rq mixed (by kernel_rfl) (Mm.drawn _ _) ?_;refine Sq.ee (Ev.move (.mk rfl)) ?_;refine Sq.ee (Ev.move (.mk rfl)) ?_;refine Sq.ee (Ev.aR (k:=k) (.mk rfl) (.mk rfl) bE cr (by omega) (by omega)) ?_;refine Sq.ee (Ev.fL (.mk rfl) hz bP trivial rfl) ?_;refine Sq.ee (Ev.move (.mk rfl)) ?_;refine Sq.ee (Ev.move (.mk rfl)) ?_;refine Sq.ee (Ev.aR (k:=k) (.mk rfl) (.mk rfl) bE cr (by omega) (by omega)) ?_;refine Sq.ee (Ev.fL (.mk rfl) hy bP trivial rfl) ?_;refine Sq.ee Ev.jj ?_;refine Sq.nil ?_;refine St.aA ?_;refine St.cond _ rfl (fun oJ=> ?_) (fun oJ=> ?_)
   ·try simp only[aC]at oJ
    refine St.sr ?_;refine St.ar ?_;refine St.nn (St.ab (St.aN (St.aB (St.aB (St.aN (St.aB ?_))))));refine St.rU [_] [] Tryz.results43 ?_;exact be (by unfold qs;rw[decide_eq_false (fun h=>by have:=Po h hy hz;omega)])
   ·try simp only[aC]at oJ
    refine St.skip (St.aO (St.aA (St.rg ?_)));refine St.mv ?_;refine St.ee Ev.a0 ?_;refine St.ar ?_;refine St.nn ?_;refine St.aS (k+1) ⟨by omega,by rw[bJ hy,bJ hz,hqp];congr 2;omega⟩
  ·try simp only[aC]at qX
   refine St.exit (St.aI (St.aI (St.bM (St.aA (St.sr ?_)))));refine St.ar ?_;refine St.nn (St.ab ?_);refine St.rU [_] [] Tryz.results43 ?_;exact be (by unfold qs;rw[decide_eq_true (Li (by omega) hqp (by omega))])
set_option maxHeartbeats 2000000 in
theorem rn (k:Int)(x y:cw)(Q9:x.path.length≤1000000):cz Tryz.prog 15 #[iv k,.agg #[x.pv.1,.bool x.leaf,sv x.label,iv x.ov,iv x.yA],.agg #[y.pv.1,.bool y.leaf,sv y.label,iv y.ov,iv y.yA]] [wN x,wN y] (.bool (qt k (AQ x) (AQ y))):=by
 refine cz.o7 (args:=[iv k,.agg #[x.pv.1,.bool x.leaf,sv x.label,iv x.ov,iv x.yA],.agg #[y.pv.1,.bool y.leaf,sv y.label,iv y.ov,iv y.yA]]) 86 Tryz.func15 rfl Tryz.ntmps15 rfl (fun c=> ?_);refine St.seq ?_;refine St.fo (sl aK x.pv.1 x.path) [wN x] (fun ρ h=>h _ (List.mem_cons_self ..)) ?_;refine St.fo (sl aK y.pv.1 y.path) [wN y] (fun ρ h=>h _ (List.mem_cons_self ..)) ?_;refine St.wf x.pv.1 (fun _ sO=> ?_);refine St.wf y.pv.1 (fun _ hyl=> ?_);refine St.rg ?_;refine St.cX (.mk rfl) rfl (fun b4=> ?_);refine St.cX (.mk rfl) rfl (fun b5=> ?_);refine St.ar ?_;refine St.nn (St.seq ?_);refine St.rq mixed (by kernel_rfl) (Mm.drawn _ _) ?_;refine Sq.ee (Ev.aD (.mk rfl) ir) ?_;refine Sq.ee (Ev.l0 (.mk rfl) bE) ?_;refine Sq.ee (Ev.au (.mk rfl) bE) ?_;refine Sq.ee (Ev.aD (.mk rfl) ir) ?_;refine Sq.ee (Ev.l0 (.mk rfl) bE) ?_;refine Sq.ee (Ev.au (.mk rfl) bE) ?_;refine Sq.ee (Ev.assign (.mk rfl)) ?_;refine Sq.ee (Ev.assign (.mk rfl)) ?_;refine Sq.nil ?_;refine St.aA (St.seq (St.sr ?_));refine St.mv ?_;refine St.ee Ev.fa ?_;refine St.nn ?_;refine St.cond _ rfl (fun pY=> ?_) (fun pY=> ?_)
 ·try simp only[aC]at pY
  refine St.sr ?_;refine St.mv ?_;refine St.mv ?_;refine St.ee Ev.a0 ?_;refine St.ee Ev.fa ?_;refine St.mv ?_;refine St.gt _ rfl rfl (fun hg=>Ev.aD (.mk rfl) ir) rfl ?_;refine St.gt _ rfl rfl (fun hg=>Ev.cS (aL.gv rfl hg) bE trivial (by rfl)) rfl ?_;refine St.gt _ rfl rfl (fun hg=>Ev.aD (.mk rfl) ir) rfl ?_;refine St.gt _ rfl rfl (fun hg=>Ev.cS (aL.gv rfl hg) bE trivial (by rfl)) rfl ?_;refine St.gt _ rfl rfl (fun hg=>Ev.call (nQ y.pv.1 x.pv.1 y.path x.path) PJ (.cons (aL.gv rfl hg) (.cons (aL.gv rfl hg) .nil))) rfl ?_;refine St.ee Ev.n0 ?_;refine St.ar ?_;refine St.nn (St.ab (St.aB ?_));refine St.rU [_] [] Tryz.results15 ?_;exact be (by unfold qt;rw[if_pos pY];congr 1;exact decide_eq_decide.2 (by dsimp only[AQ];omega))
 ·try simp only[aC]at pY
  refine St.skip (St.aA (St.seq (St.sr ?_)));refine St.mv ?_;refine St.ee Ev.fa ?_;refine St.nn ?_;refine St.cond _ rfl (fun y7=> ?_) (fun y7=> ?_)
  ·try simp only[aC]at y7
   refine St.sr ?_;refine St.mv ?_;refine St.mv ?_;refine St.ee Ev.s5 ?_;refine St.mv ?_;refine St.gt _ rfl rfl (fun hg=>Ev.aD (.mk rfl) ir) rfl ?_;refine St.gt _ rfl rfl (fun hg=>Ev.cS (aL.gv rfl hg) bE trivial (by rfl)) rfl ?_;refine St.gt _ rfl rfl (fun hg=>Ev.aD (.mk rfl) ir) rfl ?_;refine St.gt _ rfl rfl (fun hg=>Ev.cS (aL.gv rfl hg) bE trivial (by rfl)) rfl ?_;refine St.gt _ rfl rfl (fun hg=>Ev.call (nQ y.pv.1 x.pv.1 y.path x.path) PJ (.cons (aL.gv rfl hg) (.cons (aL.gv rfl hg) .nil))) rfl ?_;refine St.ee Ev.n0 ?_;refine St.ar ?_;refine St.nn (St.ab (St.aB ?_));refine St.rU [_] [] Tryz.results15 ?_;exact be (by unfold qt;rw[if_neg pY,if_pos y7];congr 1;exact decide_eq_decide.2 (by dsimp only[AQ];omega))
  ·try simp only[aC]at y7
   refine St.skip (St.aA (St.seq (St.sr ?_)));refine St.mv ?_;refine St.ee Ev.fa ?_;refine St.nn ?_;refine St.cond _ rfl (fun o6=> ?_) (fun o6=> ?_)
   ·try simp only[aC]at o6
    refine St.sr ?_;refine St.ee (Ev.aD (.mk rfl) Bg) ?_;refine St.ee (Ev.l0 (.mk rfl) bP) ?_;refine St.ee (Ev.aD (.mk rfl) Bf) ?_;refine St.ee (Ev.l0 (.mk rfl) bP) ?_;refine St.ee Ev.Iw ?_;refine St.ar ?_;refine St.nn (St.ab (St.aB ?_));refine St.rU [_] [] Tryz.results15 ?_;exact be (by unfold qt;rw[if_neg pY,if_neg y7,if_pos o6];rfl)
   ·try simp only[aC]at o6
    refine St.skip (St.aA (St.seq (St.sr ?_)));refine St.mv ?_;refine St.ee Ev.fa ?_;refine St.nn ?_;refine St.cond _ rfl (fun pc=> ?_) (fun pc=> ?_)
    ·try simp only[aC]at pc
     refine St.sr ?_;refine St.ee (Ev.aD (.mk rfl) Bg) ?_;refine St.ee (Ev.l0 (.mk rfl) bP) ?_;refine St.ee (Ev.aD (.mk rfl) Bf) ?_;refine St.ee (Ev.l0 (.mk rfl) bP) ?_;refine St.ee Ev.fa ?_;refine St.ar ?_;refine St.nn (St.ab (St.aB ?_));refine St.rU [_] [] Tryz.results15 ?_;exact be (by unfold qt;rw[if_neg pY,if_neg y7,if_neg o6,if_pos pc];rfl)
    ·try simp only[aC]at pc
     refine St.skip (St.aA (St.seq ?_));refine St.part (Rr:=aK) (xs:=x.path) x.pv.1 0 (x.path.length-1) (by omega) (by omega) ?_;rw[show aK.size=1 from rfl];refine St.fo (sl aK (ou x.pv.1 1 0 (x.path.length-1)) (x.path.take (x.path.length-1))) [sl aK (ou x.pv.1 1 0 (x.path.length-1)) ((x.path.drop 0).take (x.path.length-1-0))] (fun ρ h=>h _ (List.mem_cons_self ..)) ?_;refine St.eK [] mixed (fun np ns=> ?_);refine SW.dd 0 rfl (fun _=>Ev.move (.mk rfl)) ?_;refine SW.dd 1 rfl (fun _=>Ev.move (.mk rfl)) ?_;refine SW.dd 2 rfl (fun _=>Ev.fa) ?_;refine SW.dd 3 rfl (fun _=>Ev.move (.mk rfl)) ?_;refine SW.gt 4 _ np ns rfl rfl rfl (fun R hg=>Ev.move (.mk rfl)) (by kernel_rfl) rfl ?_;refine SW.gt 5 _ np ns rfl rfl rfl (fun R hg=>Ev.gtr (aL.gv rfl hg) (.mk rfl)) (by kernel_rfl) rfl ?_;refine SW.dd 6 rfl (fun _=>Ev.n0) ?_;refine SW.split 60 _ rfl (fun Im=> ?_) (fun Im=> ?_)
     ·simp only[Bool.and_eq_true,decide_eq_true_eq]at Im
      obtain⟨K0,O7⟩:=Im;obtain⟨w,hw⟩:=aQ (show x.path.length-1<x.path.length by omega);obtain⟨z,hz⟩:=aQ (show x.path.length-1<y.path.length by omega);refine SW.dd 7 rfl (fun _=>Ev.move (.mk rfl)) ?_;refine SW.slot 61 (.bool true) rfl (congrArg Value.bool rfl) ?_;refine SW.gt 8 _ np ns rfl rfl rfl (fun R _=>Ev.aD (.mk rfl) ir) (by kernel_rfl) rfl ?_;refine SW.slot 62 _ rfl (an rfl _) ?_;refine SW.gt 9 _ np ns rfl rfl rfl (fun R _=>Ev.cS (.mk rfl) bE trivial (by rfl)) (by kernel_rfl) rfl ?_;refine SW.slot 63 _ rfl (an rfl _) ?_;refine SW.gt 10 _ np ns rfl rfl rfl (fun R _=>Ev.aD (.mk rfl) ir) (by kernel_rfl) rfl ?_;refine SW.slot 64 _ rfl (an rfl _) ?_;refine SW.gt 11 _ np ns rfl rfl rfl (fun R _=>Ev.cS (.mk rfl) bE trivial (by rfl)) (by kernel_rfl) rfl ?_;refine SW.slot 65 _ rfl (an rfl _) ?_;refine SW.gt 12 _ np ns rfl rfl rfl (fun R _=>Ev.move (.mk rfl)) (by kernel_rfl) rfl ?_;refine SW.slot 66 _ rfl (an rfl _) ?_;refine SW.gt 13 _ np ns rfl rfl rfl (fun R _=>Ev.s0) (by kernel_rfl) rfl ?_;refine SW.slot 67 _ rfl (an rfl _) ?_;refine SW.gt 14 _ np ns rfl rfl rfl (fun R _=>Ev.nR (h:=(x.path.length-1)) (.mk rfl) (.mk rfl) bE cr (by omega) (by omega)) (by kernel_rfl) rfl ?_;refine SW.slot 68 _ rfl (an rfl _) ?_;refine SW.gt 15 _ np ns rfl rfl rfl (fun R _=>Ev.call (nQ y.pv.1 (ou x.pv.1 1 0 (x.path.length-1)) y.path (x.path.take (x.path.length-1))) PJ (.cons (.mk rfl) (.cons (.mk rfl) .nil))) (by kernel_rfl) rfl ?_;refine SW.slot 69 _ rfl (an rfl _) ?_;refine SW.dd 16 rfl (fun _=>Ev.er (.mk rfl) rfl (.mk rfl)) ?_;refine SW.split 70 _ rfl (fun Pp=> ?_) (fun Pp=> ?_)
      ·refine SW.dd 17 rfl (fun _=>Ev.move (.mk rfl)) ?_
       refine SW.slot 71 (.bool true) rfl (congrArg Value.bool rfl) ?_;refine SW.gt 18 _ np ns rfl rfl rfl (fun R _=>Ev.aD (.mk rfl) ir) (by kernel_rfl) rfl ?_;refine SW.slot 72 _ rfl (an rfl _) ?_;refine SW.gt 19 _ np ns rfl rfl rfl (fun R _=>Ev.cS (.mk rfl) bE trivial (by rfl)) (by kernel_rfl) rfl ?_;refine SW.slot 73 _ rfl (an rfl _) ?_;refine SW.gt 20 _ np ns rfl rfl rfl (fun R _=>Ev.move (.mk rfl)) (by kernel_rfl) rfl ?_;refine SW.slot 74 _ rfl (an rfl _) ?_;refine SW.gt 21 _ np ns rfl rfl rfl (fun R _=>Ev.s0) (by kernel_rfl) rfl ?_;refine SW.slot 75 _ rfl (an rfl _) ?_;refine SW.gt 22 _ np ns rfl rfl rfl (fun R _=>Ev.aR (k:=(x.path.length-1)) (.mk rfl) (.mk rfl) bE cr (by omega) (by omega)) (by kernel_rfl) rfl ?_;refine SW.slot 76 _ rfl (an rfl _) ?_;refine SW.gt 23 _ np ns rfl rfl rfl (fun R _=>Ev.fL (.mk rfl) hw bP trivial rfl) (by kernel_rfl) rfl ?_;refine SW.slot 77 _ rfl (an rfl _) ?_;refine SW.gt 24 _ np ns rfl rfl rfl (fun R _=>Ev.aD (.mk rfl) ir) (by kernel_rfl) rfl ?_;refine SW.slot 78 _ rfl (an rfl _) ?_;refine SW.gt 25 _ np ns rfl rfl rfl (fun R _=>Ev.cS (.mk rfl) bE trivial (by rfl)) (by kernel_rfl) rfl ?_;refine SW.slot 79 _ rfl (an rfl _) ?_;refine SW.gt 26 _ np ns rfl rfl rfl (fun R _=>Ev.move (.mk rfl)) (by kernel_rfl) rfl ?_;refine SW.slot 80 _ rfl (an rfl _) ?_;refine SW.gt 27 _ np ns rfl rfl rfl (fun R _=>Ev.s0) (by kernel_rfl) rfl ?_;refine SW.slot 81 _ rfl (an rfl _) ?_;refine SW.gt 28 _ np ns rfl rfl rfl (fun R _=>Ev.aR (k:=(x.path.length-1)) (.mk rfl) (.mk rfl) bE cr (by omega) (by omega)) (by kernel_rfl) rfl ?_;refine SW.slot 82 _ rfl (an rfl _) ?_;refine SW.gt 29 _ np ns rfl rfl rfl (fun R _=>Ev.fL (.mk rfl) hz bP trivial rfl) (by kernel_rfl) rfl ?_;refine SW.slot 83 _ rfl (an rfl _) ?_;refine SW.gt 30 _ np ns rfl rfl rfl (fun R _=>Ev.jj) (by kernel_rfl) rfl ?_;refine SW.slot 84 _ rfl (an rfl _) ?_;refine SW.dd 31 rfl (fun _=>Ev.er (.mk rfl) rfl (.mk rfl)) ?_;refine SW.dd 32 rfl (fun _=>Ev.assign (.mk rfl)) ?_;refine SW.done (by kernel_rfl) ?_;refine St.aA (St.ab ?_);refine St.rU [_] [] Tryz.results15 ?_
       have uO:qt k (AQ x) (AQ y)=(!decide (w=z)):=by unfold qt;rw[if_neg pY,if_neg y7,if_neg o6,if_neg pc];show(decide (x.path.length=y.path.length)&&(decide (0<x.path.length)&&(qs y.path (x.path.take (x.path.length-1))&&decide (x.path.getD (x.path.length-1) 0≠y.path.getD (x.path.length-1) 0))))=_;rw[decide_eq_true (by omega),decide_eq_true (by omega),show qs y.path (x.path.take (x.path.length-1))=true from Pp,List.getD_eq_getElem?_getD,List.getD_eq_getElem?_getD,hw,hz];simp
       exact be (by rw[uO])
      ·refine SW.dd 17 rfl (fun _=>Ev.move (.mk rfl)) ?_
       refine SW.slot 71 (.bool false) rfl (congrArg Value.bool rfl) ?_;refine SW.gt 18 undef np ns rfl rfl rfl (fun R hg=>by cases hg) (by kernel_rfl) rfl ?_;refine SW.slot 72 undef rfl (ag rfl _) ?_;refine SW.gt 19 undef np ns rfl rfl rfl (fun R hg=>by cases hg) (by kernel_rfl) rfl ?_;refine SW.slot 73 undef rfl (ag rfl _) ?_;refine SW.gt 20 undef np ns rfl rfl rfl (fun R hg=>by cases hg) (by kernel_rfl) rfl ?_;refine SW.slot 74 undef rfl (ag rfl _) ?_;refine SW.gt 21 undef np ns rfl rfl rfl (fun R hg=>by cases hg) (by kernel_rfl) rfl ?_;refine SW.slot 75 undef rfl (ag rfl _) ?_;refine SW.gt 22 undef np ns rfl rfl rfl (fun R hg=>by cases hg) (by kernel_rfl) rfl ?_;refine SW.slot 76 undef rfl (ag rfl _) ?_;refine SW.gt 23 undef np ns rfl rfl rfl (fun R hg=>by cases hg) (by kernel_rfl) rfl ?_;refine SW.slot 77 undef rfl (ag rfl _) ?_;refine SW.gt 24 undef np ns rfl rfl rfl (fun R hg=>by cases hg) (by kernel_rfl) rfl ?_;refine SW.slot 78 undef rfl (ag rfl _) ?_;refine SW.gt 25 undef np ns rfl rfl rfl (fun R hg=>by cases hg) (by kernel_rfl) rfl ?_;refine SW.slot 79 undef rfl (ag rfl _) ?_;refine SW.gt 26 undef np ns rfl rfl rfl (fun R hg=>by cases hg) (by kernel_rfl) rfl ?_;refine SW.slot 80 undef rfl (ag rfl _) ?_;refine SW.gt 27 undef np ns rfl rfl rfl (fun R hg=>by cases hg) (by kernel_rfl) rfl ?_;refine SW.slot 81 undef rfl (ag rfl _) ?_;refine SW.gt 28 undef np ns rfl rfl rfl (fun R hg=>by cases hg) (by kernel_rfl) rfl ?_;refine SW.slot 82 undef rfl (ag rfl _) ?_;refine SW.gt 29 undef np ns rfl rfl rfl (fun R hg=>by cases hg) (by kernel_rfl) rfl ?_;refine SW.slot 83 undef rfl (ag rfl _) ?_;refine SW.gt 30 undef np ns rfl rfl rfl (fun R hg=>by cases hg) (by kernel_rfl) rfl ?_;refine SW.slot 84 undef rfl (ag rfl _) ?_;refine SW.dd 31 rfl (fun _=>Ev.iM (.mk rfl) rfl (.mk rfl)) ?_;refine SW.dd 32 rfl (fun _=>Ev.assign (.mk rfl)) ?_;refine SW.done (by kernel_rfl) ?_;refine St.aA (St.ab ?_);refine St.rU [_] [] Tryz.results15 ?_
       have uO:qt k (AQ x) (AQ y)=false:=by unfold qt;rw[if_neg pY,if_neg y7,if_neg o6,if_neg pc];show(decide (x.path.length=y.path.length)&&(decide (0<x.path.length)&&(qs y.path (x.path.take (x.path.length-1))&&decide (x.path.getD (x.path.length-1) 0≠y.path.getD (x.path.length-1) 0))))=_;rw[show qs y.path (x.path.take (x.path.length-1))=false from Pp,Bool.false_and,Bool.and_false,Bool.and_false]
       exact be (by rw[uO])
     ·have Nd:¬(x.path.length=y.path.length∧0<x.path.length):=fun h=>by rw[show(decide ((x.path.length:Int)=(y.path.length:Int))&&decide ((0:Int)<(x.path.length:Int)))=true by rw[decide_eq_true (by omega),decide_eq_true (by omega)];rfl]at Im;cases Im
      refine SW.dd 7 rfl (fun _=>Ev.move (.mk rfl)) ?_;refine SW.slot 61 (.bool false) rfl (congrArg Value.bool rfl) ?_;refine SW.gt 8 undef np ns rfl rfl rfl (fun R hg=>by cases hg) (by kernel_rfl) rfl ?_;refine SW.slot 62 undef rfl (ag rfl _) ?_;refine SW.gt 9 undef np ns rfl rfl rfl (fun R hg=>by cases hg) (by kernel_rfl) rfl ?_;refine SW.slot 63 undef rfl (ag rfl _) ?_;refine SW.gt 10 undef np ns rfl rfl rfl (fun R hg=>by cases hg) (by kernel_rfl) rfl ?_;refine SW.slot 64 undef rfl (ag rfl _) ?_;refine SW.gt 11 undef np ns rfl rfl rfl (fun R hg=>by cases hg) (by kernel_rfl) rfl ?_;refine SW.slot 65 undef rfl (ag rfl _) ?_;refine SW.gt 12 undef np ns rfl rfl rfl (fun R hg=>by cases hg) (by kernel_rfl) rfl ?_;refine SW.slot 66 undef rfl (ag rfl _) ?_;refine SW.gt 13 undef np ns rfl rfl rfl (fun R hg=>by cases hg) (by kernel_rfl) rfl ?_;refine SW.slot 67 undef rfl (ag rfl _) ?_;refine SW.gt 14 undef np ns rfl rfl rfl (fun R hg=>by cases hg) (by kernel_rfl) rfl ?_;refine SW.slot 68 undef rfl (ag rfl _) ?_;refine SW.gt 15 undef np ns rfl rfl rfl (fun R hg=>by cases hg) (by kernel_rfl) rfl ?_;refine SW.slot 69 undef rfl (ag rfl _) ?_;refine SW.dd 16 rfl (fun _=>Ev.iM (.mk rfl) rfl (.mk rfl)) ?_;refine SW.dd 17 rfl (fun _=>Ev.move (.mk rfl)) ?_;refine SW.slot 71 (.bool false) rfl (congrArg Value.bool rfl) ?_;refine SW.gt 18 undef np ns rfl rfl rfl (fun R hg=>by cases hg) (by kernel_rfl) rfl ?_;refine SW.slot 72 undef rfl (ag rfl _) ?_;refine SW.gt 19 undef np ns rfl rfl rfl (fun R hg=>by cases hg) (by kernel_rfl) rfl ?_;refine SW.slot 73 undef rfl (ag rfl _) ?_;refine SW.gt 20 undef np ns rfl rfl rfl (fun R hg=>by cases hg) (by kernel_rfl) rfl ?_;refine SW.slot 74 undef rfl (ag rfl _) ?_;refine SW.gt 21 undef np ns rfl rfl rfl (fun R hg=>by cases hg) (by kernel_rfl) rfl ?_;refine SW.slot 75 undef rfl (ag rfl _) ?_;refine SW.gt 22 undef np ns rfl rfl rfl (fun R hg=>by cases hg) (by kernel_rfl) rfl ?_;refine SW.slot 76 undef rfl (ag rfl _) ?_;refine SW.gt 23 undef np ns rfl rfl rfl (fun R hg=>by cases hg) (by kernel_rfl) rfl ?_;refine SW.slot 77 undef rfl (ag rfl _) ?_;refine SW.gt 24 undef np ns rfl rfl rfl (fun R hg=>by cases hg) (by kernel_rfl) rfl ?_;refine SW.slot 78 undef rfl (ag rfl _) ?_;refine SW.gt 25 undef np ns rfl rfl rfl (fun R hg=>by cases hg) (by kernel_rfl) rfl ?_;refine SW.slot 79 undef rfl (ag rfl _) ?_;refine SW.gt 26 undef np ns rfl rfl rfl (fun R hg=>by cases hg) (by kernel_rfl) rfl ?_;refine SW.slot 80 undef rfl (ag rfl _) ?_;refine SW.gt 27 undef np ns rfl rfl rfl (fun R hg=>by cases hg) (by kernel_rfl) rfl ?_;refine SW.slot 81 undef rfl (ag rfl _) ?_;refine SW.gt 28 undef np ns rfl rfl rfl (fun R hg=>by cases hg) (by kernel_rfl) rfl ?_;refine SW.slot 82 undef rfl (ag rfl _) ?_;refine SW.gt 29 undef np ns rfl rfl rfl (fun R hg=>by cases hg) (by kernel_rfl) rfl ?_;refine SW.slot 83 undef rfl (ag rfl _) ?_;refine SW.gt 30 undef np ns rfl rfl rfl (fun R hg=>by cases hg) (by kernel_rfl) rfl ?_;refine SW.slot 84 undef rfl (ag rfl _) ?_;refine SW.dd 31 rfl (fun _=>Ev.iM (.mk rfl) rfl (.mk rfl)) ?_;refine SW.dd 32 rfl (fun _=>Ev.assign (.mk rfl)) ?_;refine SW.done (by kernel_rfl) ?_;refine St.aA (St.ab ?_);refine St.rU [_] [] Tryz.results15 ?_
      have uO:qt k (AQ x) (AQ y)=false:=by unfold qt;rw[if_neg pY,if_neg y7,if_neg o6,if_neg pc];show(decide (x.path.length=y.path.length)&&(decide (0<x.path.length)&&(qs y.path (x.path.take (x.path.length-1))&&decide (x.path.getD (x.path.length-1) 0≠y.path.getD (x.path.length-1) 0))))=_;by_cases h1:x.path.length=y.path.length;(rw[decide_eq_false (show ¬0<x.path.length from fun h=>Nd ⟨h1,h⟩),Bool.false_and,Bool.and_false]);rw[decide_eq_false h1,Bool.false_and]
      exact be (by rw[uO])
theorem wO {S:List cw}{i:Nat}{x:cw}(h:S[i]?=some x):(S.map AQ).getD i Wj=AQ x:=by rw[List.getD_eq_getElem?_getD,List.getElem?_map,h];rfl
theorem ints_at {D:List Nat}{j:Nat}(h:j<D.length):(ints D)[j]?=some ((D.getD j 0:Nat):Int):=by
 rw[ints,List.getElem?_map,List.getD_eq_getElem?_getD,List.getElem?_eq_getElem h];rfl
theorem Lj {g:iG}(h:(oV (fG g)).1=0):∀r∈g.rules,1≤r.kids:=fun r hr=>((Cf h).eD (lq r) (List.mem_map_of_mem hr)).1
theorem Ip {g:iw}{vs:List dP}{ks:List eL}{t:fF}(h:(oe g vs ks t).2.1=0):(oV g).1=0∧(jw vs ks).1=0∧(ju g t).1=0∧oe g vs ks t=(ep g vs ks t,(0,0))∧(ep g vs ks t).length≤500:=by
 unfold oe at h⊢
 by_cases h1:(oV g).1≠0
 ·rw[if_pos h1]at h;exact absurd h h1
 rw[if_neg h1]at h⊢
 by_cases h2:(jw vs ks).1≠0
 ·rw[if_pos h2]at h;exact absurd h h2
 rw[if_neg h2]at h⊢
 by_cases h3:(ju g t).1≠0
 ·rw[if_pos h3]at h;exact absurd h h3
 rw[if_neg h3]at h⊢
 by_cases h4:500<(ep g vs ks t).length
 ·rw[if_pos h4]at h;exact absurd h (by simp)
 rw[if_neg h4];exact⟨Decidable.not_not.1 h1,Decidable.not_not.1 h2,Decidable.not_not.1 h3,rfl,by omega⟩
theorem Ed {α:Type}(p:α→Bool){l:List α}{i:Nat}{a:α}(h:l[i]?=some a)(hp:p a=true):(l.filter p)[((l.take i).filter p).length]?=some a:=by
 have e:l.filter p=(l.take i).filter p++a::(l.drop (i+1)).filter p:=by
  conv=>lhs;rw[←List.take_append_drop i l,bf h]
  rw[List.filter_append,List.filter_cons_of_pos hp]
 rw[e,List.getElem?_append_right (Nat.le_refl _),Nat.sub_self];rfl
theorem Ee {α:Type}(p:α→Bool){l:List α}{i:Nat}{a:α}(h:l[i]?=some a):((l.take (i+1)).filter p).length=((l.take i).filter p).length+if p a=true then 1 else 0:=by
 rw[bJ h,List.filter_append,List.length_append]
 by_cases hp:p a=true
 ·rw[if_pos hp,List.filter_cons_of_pos hp];rfl
 ·rw[if_neg hp,List.filter_cons_of_neg hp];rfl
set_option maxHeartbeats 8000000 in
theorem Ef (g:iG)(q:eS)(l:eL)(t:br)(pR:dY.wf t)(hlw:gM.wf l)(fD:q.aY.length*24≤140737488351232):gj Tryz.prog 4 #[gm g,jx q,.agg #[iv l.kind,iv l.a,iv l.b],eW t] [dv g,dy q,cB t,tz,u8,AO] (.bool true):=by
 refine gj.body (args:=[gm g,jx q,.agg #[iv l.kind,iv l.a,iv l.b],eW t]) (ds:=[dv g,dy q,cB t,tz,u8,AO]) 196 Tryz.func4 rfl Tryz.ntmps4 rfl (fun c jB=> ?_);refine St.cast (H':=[aF (dv g),aF (dy q),aF (cB t),aF (tz),aF (u8),aF (AO)]) rfl ?_;refine St.seq ?_
 refine St.fI (dy q) (fun _:Unit=>qQ q) (fun ρ h=>⟨(),h⟩) fun _=> ?_
 refine St.cast (H':=[aF (sl jH q.vv.1 q.vars),aF (sl gM q.kv.1 q.aY),aF (dv g),aF (dy q),aF (cB t),aF (tz),aF (u8),aF (AO)]) rfl ?_;refine St.wf q.kv.1 (fun KB qc=> ?_);refine St.rg ?_;refine St.cX (.mk rfl) rfl (fun b4=> ?_);refine St.cX (.mk rfl) rfl (fun b5=> ?_);refine St.cX (.mk rfl) rfl (fun b6=> ?_);refine St.cX (.mk rfl) rfl (fun b7=> ?_);refine St.ar ?_;refine St.nn (St.seq (St.sr ?_));refine St.ee (Ev.jo jB Be cb6 (.nil)) ?_;refine St.ee (Ev.not (.mk rfl)) ?_;refine St.nn ?_;refine St.oy _ rfl rfl ?_;refine St.skip (St.aA (St.sr ?_));refine St.ee (Ev.aD (.mk rfl) im) ?_;refine St.ee (Ev.l0 (.mk rfl) iJ) ?_;refine St.ee (Ev.build (ps:=[(0,(.tmp 23))]) (aV.cons (aL.mk rfl) aV.nil) (fun w=>LD q.vv.2 w)) ?_;refine St.alloc KX rfl (fun b9=> ?_);refine St.sA (.mk rfl) (.mk rfl) tX ?_ (h1:=(by simp only[List.all_cons,List.all_nil,Bool.and_true,Bool.and_eq_true];exact⟨q.vv.2,rfl⟩));refine St.nn (St.seq (St.sr ?_));refine St.ar ?_;refine St.nn (St.block ?_);refine St.jD 56 3 ?_;refine St.bB (.slice none 0 0) (show _=(q.aY.take 0).length from rfl) (show _=rows gM (q.aY.take 0)from rfl) ?_;refine St.my (ι:=Nat) (κ:=Value) (fun k z T=>(10,iv k)::T) (fun k z=>[ae b9 (.cells [q.vv.1,z].toArray 36 (0,0)),row z 56 3 (q.aY.take k).length (rows gM (q.aY.take k)),ae b4 (.cells (Nh g).toArray 32 (0,0)),ae b5 (.cells [q.vv.1,q.kv.1].toArray 36 (0,0)),ae b6 (.cells [iv l.kind,iv l.a,iv l.b].toArray 56 (0,0)),ae b7 (.cells (js t).toArray 39 (0,0)),aF (sl jH q.vv.1 q.vars),aF (sl gM q.kv.1 q.aY),aF (dv g),aF (dy q),aF (cB t),aF tz,aF u8,aF AO]) (fun k z=>k≤q.aY.length∧z.oneCell'=true) (fun k z=>q.aY.length-k) 0 (.slice none 0 0) (aE.cons 4 rfl (aE.cons 5 rfl (aE.cons 6 rfl (aE.cons 7 rfl (aE.cons 8 rfl (aE.cons 9 rfl aE.nil)))))) ⟨Nat.zero_le _,rfl⟩ ?_;rintro k z ⟨hk,hz⟩;refine St.seq (St.sr ?_);refine St.mv ?_;refine St.ee (Ev.aD (.mk rfl) kB) ?_;refine St.ee (Ev.l0 (.mk rfl) jI) ?_;refine St.ee (Ev.au (.mk rfl) jI) ?_;refine St.ee Ev.dz ?_;refine St.nn ?_;refine St.cond _ rfl (fun y7=> ?_) (fun y7=> ?_)
 ·try simp only[aC]at y7
  obtain⟨x,hx⟩:=aQ (show k<q.aY.length by omega)
  have Q1:(q.aY.take k).length=k:=by rw[List.length_take];omega
  have Wk:=bJ hx
  refine St.skip (St.aA (St.seq (St.block ?_)));refine St.eK [ae b9 (.cells [q.vv.1,z].toArray 36 (0,0)),row z 56 3 (q.aY.take k).length (rows gM (q.aY.take k))] mixed (fun np ns=> ?_);refine SW.dd 0 rfl (fun _=>Ev.aD (.mk rfl) kB) ?_;refine SW.dd 2 rfl (fun _=>Ev.aD (.mk rfl) kB) ?_;refine SW.dd 3 rfl (fun _=>Ev.cS (.mk rfl) jI trivial (by rfl)) ?_;refine SW.dd 4 rfl (fun _=>Ev.move (.mk rfl)) ?_;refine SW.dd 5 rfl (fun _=>Ev.aR (k:=k) (.mk rfl) (.mk rfl) jI mA (by omega) (by omega)) ?_;refine SW.dd 6 rfl (fun _=>Ev.fg (.mk rfl) hx Fk trivial mA en.eq) ?_;refine SW.slot 38 (.agg #[iv x.kind,iv x.a,iv x.b]) rfl rfl ?_;refine SW.iP (i:=1) (j:=7) (by kernel_rfl) rfl rfl ?_ ?_
  ·refine St.ee (Ev.l0 (.mk rfl) jI) ?_
   refine St.nn ?_;refine SW.go ?_;refine SW.bG (i:=7) (by kernel_rfl) rfl ?_;refine St.cn rfl (.cons (.mk rfl) .nil) jI mA BR rfl rfl (by simp[Value.cells]) rfl rfl (fun b39=> ?_);refine St.nn ?_;refine SW.go ?_;refine SW.bG (i:=8) (by kernel_rfl) rfl ?_;refine St.cL (.mk rfl) (.mk rfl) jI mA BR PK (by simp[Value.oneCell',Value.cells]) (by omega) (by omega) rfl rfl rfl rfl (fun v40 VZ=> ?_);refine St.bB v40 (show _=(q.aY.take (k+1)).length by rw[Wk];exact eg) (show _=rows gM (q.aY.take (k+1)) by rw[Wk,cl];rfl) ?_;refine St.dm v40 (fun rF _=> ?_);refine St.nn ?_;refine SW.go ?_;refine SW.dd 9 rfl (fun _=>Ev.aD (.mk rfl) kB) ?_;refine SW.bG (i:=10) (by kernel_rfl) rfl ?_;refine St.cR (.mk rfl) (.mk rfl) PL rF (by rfl) ?_;refine St.nn ?_;refine SW.go ?_;refine SW.done (by kernel_rfl) ?_;refine St.aO (St.aA (St.rg ?_));refine St.mv ?_;refine St.ee Ev.a0 ?_;refine St.ar ?_;refine St.nn ?_;refine St.ji (k+1) v40 ⟨by omega,rF⟩
  ·refine St.cn rfl (.cons (.mk rfl) .nil) jI mA BR rfl rfl (by simp[Value.cells]) rfl rfl (fun b39=> ?_)
   refine St.nn ?_;refine SW.go ?_;refine SW.bG (i:=1) (by kernel_rfl) rfl ?_;refine St.ee (Ev.l0 (.mk rfl) jI) ?_;refine St.nn ?_;refine SW.go ?_;refine SW.bG (i:=8) (by kernel_rfl) rfl ?_;refine St.cL (.mk rfl) (.mk rfl) jI mA BR PK (by simp[Value.oneCell',Value.cells]) (by omega) (by omega) rfl rfl rfl rfl (fun v40 VZ=> ?_);refine St.bB v40 (show _=(q.aY.take (k+1)).length by rw[Wk];exact eg) (show _=rows gM (q.aY.take (k+1)) by rw[Wk,cl];rfl) ?_;refine St.dm v40 (fun rF _=> ?_);refine St.nn ?_;refine SW.go ?_;refine SW.dd 9 rfl (fun _=>Ev.aD (.mk rfl) kB) ?_;refine SW.bG (i:=10) (by kernel_rfl) rfl ?_;refine St.cR (.mk rfl) (.mk rfl) PL rF (by rfl) ?_;refine St.nn ?_;refine SW.go ?_;refine SW.done (by kernel_rfl) ?_;refine St.aO (St.aA (St.rg ?_));refine St.mv ?_;refine St.ee Ev.a0 ?_;refine St.ar ?_;refine St.nn ?_;refine St.ji (k+1) v40 ⟨by omega,rF⟩
 ·try simp only[aC]at y7
  rw[List.take_of_length_le (show q.aY.length≤k by omega)];refine St.exit (St.aI (St.aI (St.bM (St.aA (St.sr ?_)))));refine St.ee (Ev.aD (.mk rfl) kB) ?_;refine St.ee (Ev.l0 (.mk rfl) jI) ?_;refine St.ee (Ev.bH (.mk rfl) Fk trivial (by exact mA)) ?_;refine St.slot 44 (.agg #[iv l.kind,iv l.a,iv l.b]) rfl rfl ?_;refine St.cn rfl (.cons (.mk rfl) .nil) jI mA BR rfl rfl (by simp[Value.cells]) rfl rfl (fun ZK=> ?_);refine St.cL (.mk rfl) (.mk rfl) jI mA BR PK (by simp[Value.oneCell',Value.cells]) (by omega) (by omega) rfl rfl rfl rfl (fun v46 ad4=> ?_);refine St.bB v46 (show _=(q.aY++ [l]).length by rw[List.length_append];rfl) (show _=rows gM (q.aY++ [l]) by rw[cl];rfl) ?_;refine St.dm v46 (fun mV _=> ?_);refine St.ee (Ev.aD (.mk rfl) kB) ?_;refine St.cR (.mk rfl) (.mk rfl) PL mV (by rfl) ?_;refine St.aU v46 gM (q.aY++ [l]) rfl rfl (fun x hx=>by rcases List.mem_append.1 hx with h|h;exact KB x h;rw[List.mem_singleton.1 h];exact hlw) ?_;refine St.fo (dy (⟨q.vv,q.vars,⟨v46,mV⟩,q.aY++ [l]⟩:eS)) [sl jH q.vv.1 q.vars,sl gM v46 (q.aY++ [l])] (fun ρ h=>h) ?_;refine St.nn (St.sr ?_);refine St.ee (Ev.bH (.mk rfl) qR trivial (by exact pL)) ?_;refine St.slot 49 (gm g) rfl rfl ?_;refine St.ee (Ev.bH (.mk rfl) xE trivial (by exact tX)) ?_;refine St.slot 50 (jx q) rfl rfl ?_;refine St.ee (Ev.bH (.mk rfl) l8 trivial (by exact gH)) ?_;refine St.slot 51 (eW t) rfl rfl ?_;refine St.qH jB (iq g q t pR) Q8 (.cons (.mk rfl) (.cons (.mk rfl) (.cons (.mk rfl) .nil))) rfl ?_;rintro v52 _ ⟨vo1,rfl,ad5,rfl⟩;refine St.bK ?_
  obtain⟨M1,hM1⟩:∃M,M=oe (fG g) q.vars q.aY (ah t):=⟨_,rfl⟩
  rw[show oe (fG g) q.vars q.aY (ah t)=M1 from hM1.symm];refine St.mv ?_;refine St.ee (Ev.extract (.mk rfl) rfl) ?_;refine St.ee (Ev.extract (.mk rfl) rfl) ?_;refine St.alloc dC rfl (fun B6=> ?_);refine St.ar ?_;refine St.sA (.mk rfl) (.mk rfl) bC ?_;refine St.nn (St.sr ?_);refine St.ee (Ev.bH (.mk rfl) qR trivial (by exact pL)) ?_;refine St.slot 56 (gm g) rfl rfl ?_;refine St.ee (Ev.bH (.mk rfl) xE trivial (by exact tX)) ?_;refine St.slot 57 (jx (⟨q.vv,q.vars,⟨v46,mV⟩,q.aY++ [l]⟩:eS)) rfl rfl ?_;refine St.ee (Ev.bH (.mk rfl) l8 trivial (by exact gH)) ?_;refine St.slot 58 (eW t) rfl rfl ?_;refine St.qH jB (iq g (⟨q.vv,q.vars,⟨v46,mV⟩,q.aY++ [l]⟩:eS) t pR) Q8 (.cons (.mk rfl) (.cons (.mk rfl) (.cons (.mk rfl) .nil))) rfl ?_;rintro v59 _ ⟨P0,rfl,Sb,rfl⟩;refine St.bK ?_
  obtain⟨M2,hM2⟩:∃M,M=oe (fG g) q.vars (q.aY++ [l]) (ah t):=⟨_,rfl⟩
  rw[show oe (fG g) (⟨q.vv,q.vars,⟨v46,mV⟩,q.aY++ [l]⟩:eS).vars (⟨q.vv,q.vars,⟨v46,mV⟩,q.aY++ [l]⟩:eS).aY (ah t)=M2 from hM2.symm];refine St.mv ?_;refine St.ee (Ev.extract (.mk rfl) rfl) ?_;refine St.ee (Ev.extract (.mk rfl) rfl) ?_;refine St.alloc dC rfl (fun nd=> ?_);refine St.ar ?_;refine St.sA (.mk rfl) (.mk rfl) bC ?_;refine St.nn (St.seq (St.sr ?_));refine St.ee (Ev.aD (.mk rfl) cb) ?_;refine St.ee (Ev.l0 (.mk rfl) bP) ?_;refine St.ee Ev.jj ?_;refine St.mv ?_;refine St.gf _ rfl rfl (fun hg=>Ev.aD (.mk rfl) cb) rfl ?_;refine St.gf _ rfl rfl (fun hg=>Ev.cS (aL.gv rfl hg) bP trivial (by rfl)) rfl ?_;refine St.gf _ rfl rfl (fun hg=>Ev.neq (aL.gv rfl hg) (.mk rfl)) rfl ?_;refine St.ee Ev.o0 ?_;refine St.nn ?_;refine St.cond _ rfl (fun H5=> ?_) (fun H5=> ?_)
  ·try simp only[aC]at H5
   refine St.sr ?_;refine St.ar ?_;refine St.nn (St.ab (St.aB ?_));refine St.rU [_] [] Tryz.results4 ?_;exact be rfl
  ·try simp only[aC]at H5
   obtain⟨z1,z2⟩:=H5;obtain⟨JA,K0,ht0,wV,J2⟩:=Ip (by rw[←hM1];exact z1);obtain⟨_,O7,_,qJ,Py⟩:=Ip (by rw[←hM2];exact z2)
   have hqa:=(sC K0).2
   have hqb:=(sC O7).2
   have Ve:=C5 (fG g) (ah t) hqa hqb
   rw[Ve]at qJ;rw[←hM1]at wV;rw[←hM2]at qJ;subst wV;subst qJ;obtain⟨EG,SZ,Yo⟩:=zQ JA ht0;rw[show(fG g).rules.length=g.rules.length from List.length_map _,show(fG g).bA.length=g.bA.length from List.length_map _]at EG;obtain⟨zM,ad6,ad7,ad8,ad9,aeA,_⟩:=hqb.link l (by simp)
   have hv4:=hqa.Rx
   refine St.skip (St.aA (St.seq (St.sr ?_)));refine St.ee (Ev.bH (.mk rfl) qR trivial (by exact pL)) ?_;refine St.slot 70 (gm g) rfl rfl ?_;refine St.ee (Ev.call (EZ g) abI (.cons (.mk rfl) .nil)) ?_;refine St.ee (Ev.mf (.mk rfl) gF rfl (by first|rw[bP]|(dsimp only;rw[bP])|kernel_rfl) rfl) ?_;refine St.ee Ev.jj ?_;refine St.mv ?_;refine St.known 74 _ false rfl (by simp[fv,JA]) ?_;refine St.bz rfl rfl ?_;refine St.ee (Ev.bH (.mk rfl) qR trivial (by exact pL)) ?_;refine St.slot 75 (gm g) rfl rfl ?_;refine St.bz rfl rfl ?_;refine St.ee (Ev.bH (.mk rfl) l8 trivial (by exact gH)) ?_;refine St.slot 76 (eW t) rfl rfl ?_;refine St.bz rfl rfl ?_;refine St.ee (Ev.call (Bw g t pR (Lj JA)) abJ (.cons (.mk rfl) (.cons (.mk rfl) .nil))) ?_;refine St.bz rfl rfl ?_;refine St.ee (Ev.mf (.mk rfl) gF rfl (by first|rw[bP]|(dsimp only;rw[bP])|kernel_rfl) rfl) ?_;refine St.bz rfl rfl ?_;refine St.ee Ev.jj ?_;refine St.ee (Ev.iM (.mk rfl) rfl (.mk rfl)) ?_;refine St.nn ?_;refine St.oy _ rfl (by simp[ht0]) ?_;refine St.skip (St.aA (St.seq ?_))
   have hnp:0<o3 (ah t):=by rw[Gm];omega
   refine St.jD 60 5 ?_;refine St.bB (.slice none 0 0) (show _=([]:List cw).length from rfl) (show _=rows qD []from rfl) ?_;refine St.hJ aK ?_;refine St.dup (dv g) ?_;refine St.dup (cB t) ?_;refine St.rg ?_;refine St.ee (Ev.bH (.mk rfl) qR trivial (by exact pL)) ?_;refine St.slot 81 (gm g) rfl rfl ?_;refine St.ee (Ev.bH (.mk rfl) l8 trivial (by exact gH)) ?_;refine St.slot 82 (eW t) rfl rfl ?_;refine St.call (Bx g t [] (.slice none 0 0) 0 [] (.slice none 0 0) rfl pR EG (fun z hz=>by cases hz) (by simp only[List.length_nil];omega) (by omega) (by simp only[List.length_nil];omega)) VL (.cons (.mk rfl) (.cons (.mk rfl) (.cons (.mk rfl) (.cons (.mk rfl) (.cons (.mk rfl) .nil))))) rfl ?_;rintro v83 _ ⟨W,aeB,hW,rfl⟩;refine St.ca ?_;refine St.bB v83 (show _=W.length from rfl) (show _=rows qD W from rfl) ?_;refine St.aU v83 qD W rfl rfl (fun _ _=>trivial) ?_
   have QG:W.length=o3 (ah t):=by have:=congrArg List.length hW;rwa[List.length_map,AA]at this
   have hWp:∀x∈W,x.path.length≤1000000:=fun x hx=>by have:=AB (fG g) (ah t) [] 0 (AQ x) (by rw[←hW];exact List.mem_map_of_mem hx);simp only[List.length_nil]at this;have e:(AQ x).path=x.path:=rfl;rw[e]at this;omega
   have aeC:(kG (fG g) (ah t) 0 (-1) 0).length=W.length:=by rw[pH,QG]
   refine St.oT vo1 (fun Wl zN=> ?_);refine St.oT P0 (fun Wm ng=> ?_);rw[List.length_map]at zN ng
   dsimp only at zN ng
   refine St.ar ?_;refine St.nn (St.sr ?_);refine St.ar ?_;refine St.nn (St.seq (St.sr ?_));refine St.ar ?_;refine St.nn (St.block ?_);refine St.my (ι:=Nat) (κ:=Nat) (fun i k T=>(17,iv i)::(16,iv ((k:Nat):Int))::T) (fun i k=>[ae b4 (.cells (Nh g).toArray 32 (0,0)),ae b5 (.cells [q.vv.1,q.kv.1].toArray 36 (0,0)),ae b6 (.cells [iv l.kind,iv l.a,iv l.b].toArray 56 (0,0)),ae b7 (.cells (js t).toArray 39 (0,0)),aF (sl cK vo1 Wl),aF (ku aK Wl ((ep (fG g) q.vars q.aY (ah t)).map ints)),aF (sl cK P0 Wm),aF (ku aK Wm (((ep (fG g) q.vars q.aY (ah t)).filter (fun p=>j7 (kG (fG g) (ah t) 0 (-1) 0) l.kind (p.getD l.a.toNat 0) (p.getD l.b.toNat 0))).map ints)),aF (sl qD v83 W),aF (aX wN W),aF (dy q),aF (sl jH q.vv.1 q.vars),aF (sl gM q.kv.1 q.aY)]) (fun i k=>i≤(ep (fG g) q.vars q.aY (ah t)).length∧k=(((ep (fG g) q.vars q.aY (ah t)).take i).filter (fun p=>j7 (kG (fG g) (ah t) 0 (-1) 0) l.kind (p.getD l.a.toNat 0) (p.getD l.b.toNat 0))).length) (fun i k=>(ep (fG g) q.vars q.aY (ah t)).length-i) 0 0 (aE.cons 5 rfl (aE.cons 6 rfl (aE.cons 11 rfl (aE.cons 13 rfl (aE.cons 15 rfl aE.nil))))) ⟨Nat.zero_le _,rfl⟩ ?_;rintro i k ⟨hi,hk⟩;refine St.seq (St.sr ?_);refine St.mv ?_;refine St.mv ?_;refine St.ee (Ev.au (.mk rfl) dB) ?_;refine St.ee Ev.dz ?_;refine St.nn ?_;refine St.cond _ rfl (fun xS=> ?_) (fun xS=> ?_)
   ·try simp only[aC]at xS
    obtain⟨p,hp⟩:=aQ (show i<(ep (fG g) q.vars q.aY (ah t)).length by omega);obtain⟨AJ,Og⟩:=Ec (fG g) (ah t) hqa p (List.mem_of_getElem? hp);obtain⟨u,hu⟩:=aQ (show i<Wl.length by omega);refine St.ku (vs:=Wl) (l:=ints p) i hu (by rw[List.getElem?_map,hp];rfl) ?_
    have FN:(ints p).length=p.length:=rH p
    have ha:=DI Og (show l.a.toNat<p.length by omega)
    have hb:=DI Og (show l.b.toNat<p.length by omega)
    obtain⟨x,hx⟩:=aQ (show p.getD l.a.toNat 0<W.length by omega);obtain⟨y,hy⟩:=aQ (show p.getD l.b.toNat 0<W.length by omega)
    have xV:=Ik (fG g) EG ha hb l.kind
    rw[←hW,wO hx,wO hy]at xV
    have MV:=Ee (fun p=>j7 (kG (fG g) (ah t) 0 (-1) 0) l.kind (p.getD l.a.toNat 0) (p.getD l.b.toNat 0)) hp
    have hkb:k≤500:=by rw[hk];exact Nat.le_trans (List.length_filter_le ..) (by rw[List.length_take];omega)
    refine St.cC wN W (x:=x) (List.mem_of_getElem? hx) ?_;refine St.cC wN W (x:=y) (List.mem_of_getElem? hy) ?_;refine St.skip (St.aA (St.seq (St.block (St.seq (St.seq ?_)))));refine St.eK [] mixed (fun np ns=> ?_);refine SW.dd 0 rfl (fun _=>Ev.move (.mk rfl)) ?_;refine SW.dd 1 rfl (fun _=>Ev.move (.mk rfl)) ?_;refine SW.dd 2 rfl (fun _=>Ev.aR (k:=i) (.mk rfl) (.mk rfl) dB e7 (by omega) (by omega)) ?_;refine SW.dd 3 rfl (fun _=>Ev.fL (.mk rfl) hu bE trivial rfl) ?_;refine SW.dd 4 rfl (fun _=>Ev.au (.mk rfl) bE) ?_;refine SW.dd 5 rfl (fun _=>Ev.aD (.mk rfl) im) ?_;refine SW.dd 6 rfl (fun _=>Ev.cS (.mk rfl) iJ trivial (by rfl)) ?_;refine SW.dd 7 rfl (fun _=>Ev.au (.mk rfl) iJ) ?_;refine SW.dd 8 rfl (fun _=>Ev.jj) ?_;refine SW.dd 9 rfl (fun _=>Ev.move (.mk rfl)) ?_;refine SW.slot 99 (.bool false) rfl (congrArg Value.bool (by simp[FN,AJ])) ?_;refine SW.gf 10 _ np ns rfl rfl rfl (fun R _=>Ev.aD (.mk rfl) mB) (by kernel_rfl) rfl ?_;refine SW.slot 100 _ rfl (an rfl _) ?_;refine SW.gf 11 _ np ns rfl rfl rfl (fun R _=>Ev.cS (.mk rfl) bP trivial (by rfl)) (by kernel_rfl) rfl ?_;refine SW.slot 101 _ rfl (an rfl _) ?_;refine SW.gf 12 _ np ns rfl rfl rfl (fun R _=>Ev.dz) (by kernel_rfl) rfl ?_;refine SW.slot 102 _ rfl (an rfl _) ?_;refine SW.dd 13 rfl (fun _=>Ev.iM (.mk rfl) rfl (.mk rfl)) ?_;refine SW.dd 14 rfl (fun _=>Ev.move (.mk rfl)) ?_;refine SW.slot 104 (.bool false) rfl (congrArg Value.bool (decide_eq_false (by omega))) ?_;refine SW.gf 15 _ np ns rfl rfl rfl (fun R _=>Ev.aD (.mk rfl) mB) (by kernel_rfl) rfl ?_;refine SW.slot 105 _ rfl (an rfl _) ?_;refine SW.gf 16 _ np ns rfl rfl rfl (fun R _=>Ev.cS (.mk rfl) bP trivial (by rfl)) (by kernel_rfl) rfl ?_;refine SW.slot 106 _ rfl (an rfl _) ?_;refine SW.gf 17 _ np ns rfl rfl rfl (fun R _=>Ev.move (.mk rfl)) (by kernel_rfl) rfl ?_;refine SW.slot 107 _ rfl (an rfl _) ?_;refine SW.gf 18 _ np ns rfl rfl rfl (fun R _=>Ev.move (.mk rfl)) (by kernel_rfl) rfl ?_;refine SW.slot 108 _ rfl (an rfl _) ?_;refine SW.gf 19 _ np ns rfl rfl rfl (fun R _=>Ev.aR (k:=i) (.mk rfl) (.mk rfl) dB e7 (by omega) (by omega)) (by kernel_rfl) rfl ?_;refine SW.slot 109 _ rfl (an rfl _) ?_;refine SW.gf 20 _ np ns rfl rfl rfl (fun R _=>Ev.fL (.mk rfl) hu bE trivial rfl) (by kernel_rfl) rfl ?_;refine SW.slot 110 _ rfl (an rfl _) ?_;refine SW.gf 21 _ np ns rfl rfl rfl (fun R _=>Ev.au (.mk rfl) bE) (by kernel_rfl) rfl ?_;refine SW.slot 111 _ rfl (an rfl _) ?_;refine SW.gf 22 _ np ns rfl rfl rfl (fun R _=>Ev.ra) (by kernel_rfl) rfl ?_;refine SW.slot 112 _ rfl (an rfl _) ?_;refine SW.dd 23 rfl (fun _=>Ev.iM (.mk rfl) rfl (.mk rfl)) ?_;refine SW.dd 24 rfl (fun _=>Ev.move (.mk rfl)) ?_;refine SW.slot 114 (.bool false) rfl (congrArg Value.bool (decide_eq_false (by omega))) ?_;refine SW.gf 25 _ np ns rfl rfl rfl (fun R _=>Ev.aD (.mk rfl) mC) (by kernel_rfl) rfl ?_;refine SW.slot 115 _ rfl (an rfl _) ?_;refine SW.gf 26 _ np ns rfl rfl rfl (fun R _=>Ev.cS (.mk rfl) bP trivial (by rfl)) (by kernel_rfl) rfl ?_;refine SW.slot 116 _ rfl (an rfl _) ?_;refine SW.gf 27 _ np ns rfl rfl rfl (fun R _=>Ev.dz) (by kernel_rfl) rfl ?_;refine SW.slot 117 _ rfl (an rfl _) ?_;refine SW.dd 28 rfl (fun _=>Ev.iM (.mk rfl) rfl (.mk rfl)) ?_;refine SW.dd 29 rfl (fun _=>Ev.move (.mk rfl)) ?_;refine SW.slot 119 (.bool false) rfl (congrArg Value.bool (decide_eq_false (by omega))) ?_;refine SW.gf 30 _ np ns rfl rfl rfl (fun R _=>Ev.aD (.mk rfl) mC) (by kernel_rfl) rfl ?_;refine SW.slot 120 _ rfl (an rfl _) ?_;refine SW.gf 31 _ np ns rfl rfl rfl (fun R _=>Ev.cS (.mk rfl) bP trivial (by rfl)) (by kernel_rfl) rfl ?_;refine SW.slot 121 _ rfl (an rfl _) ?_;refine SW.gf 32 _ np ns rfl rfl rfl (fun R _=>Ev.move (.mk rfl)) (by kernel_rfl) rfl ?_;refine SW.slot 122 _ rfl (an rfl _) ?_;refine SW.gf 33 _ np ns rfl rfl rfl (fun R _=>Ev.move (.mk rfl)) (by kernel_rfl) rfl ?_;refine SW.slot 123 _ rfl (an rfl _) ?_;refine SW.gf 34 _ np ns rfl rfl rfl (fun R _=>Ev.aR (k:=i) (.mk rfl) (.mk rfl) dB e7 (by omega) (by omega)) (by kernel_rfl) rfl ?_;refine SW.slot 124 _ rfl (an rfl _) ?_;refine SW.gf 35 _ np ns rfl rfl rfl (fun R _=>Ev.fL (.mk rfl) hu bE trivial rfl) (by kernel_rfl) rfl ?_;refine SW.slot 125 _ rfl (an rfl _) ?_;refine SW.gf 36 _ np ns rfl rfl rfl (fun R _=>Ev.au (.mk rfl) bE) (by kernel_rfl) rfl ?_;refine SW.slot 126 _ rfl (an rfl _) ?_;refine SW.gf 37 _ np ns rfl rfl rfl (fun R _=>Ev.ra) (by kernel_rfl) rfl ?_;refine SW.slot 127 _ rfl (an rfl _) ?_;refine SW.dd 38 rfl (fun _=>Ev.iM (.mk rfl) rfl (.mk rfl)) ?_;refine SW.done (by kernel_rfl) ?_;refine St.aA ?_;refine St.oy _ rfl (decide_eq_false (by omega)) ?_;refine St.skip (St.aA (St.seq ?_));refine St.eK [] mixed (fun np ns=> ?_);refine SW.dd 0 rfl (fun _=>Ev.move (.mk rfl)) ?_;refine SW.dd 1 rfl (fun _=>Ev.move (.mk rfl)) ?_;refine SW.dd 2 rfl (fun _=>Ev.aR (k:=i) (.mk rfl) (.mk rfl) dB e7 (by omega) (by omega)) ?_;refine SW.dd 3 rfl (fun _=>Ev.fL (.mk rfl) hu bE trivial rfl) ?_;refine SW.dd 4 rfl (fun _=>Ev.aD (.mk rfl) mB) ?_;refine SW.dd 5 rfl (fun _=>Ev.cS (.mk rfl) bP trivial (by rfl)) ?_;refine SW.dd 6 rfl (fun _=>Ev.aR (k:=l.a.toNat) (.mk rfl) (.mk rfl) bE cr (by omega) (by omega)) ?_;refine SW.dd 7 rfl (fun _=>Ev.fL (.mk rfl) (ints_at (show l.a.toNat<p.length by omega)) bP trivial rfl) ?_;refine SW.dd 8 rfl (fun _=>Ev.move (.mk rfl)) ?_;refine SW.dd 9 rfl (fun _=>Ev.move (.mk rfl)) ?_;refine SW.dd 10 rfl (fun _=>Ev.aR (k:=i) (.mk rfl) (.mk rfl) dB e7 (by omega) (by omega)) ?_;refine SW.dd 11 rfl (fun _=>Ev.fL (.mk rfl) hu bE trivial rfl) ?_;refine SW.dd 12 rfl (fun _=>Ev.aD (.mk rfl) mC) ?_;refine SW.dd 13 rfl (fun _=>Ev.cS (.mk rfl) bP trivial (by rfl)) ?_;refine SW.dd 14 rfl (fun _=>Ev.aR (k:=l.b.toNat) (.mk rfl) (.mk rfl) bE cr (by omega) (by omega)) ?_;refine SW.dd 15 rfl (fun _=>Ev.fL (.mk rfl) (ints_at (show l.b.toNat<p.length by omega)) bP trivial rfl) ?_;refine SW.dd 16 rfl (fun _=>Ev.assign (.mk rfl)) ?_;refine SW.dd 17 rfl (fun _=>Ev.assign (.mk rfl)) ?_;refine SW.done (by kernel_rfl) ?_;refine St.aA (St.seq (St.sr ?_));refine St.mv ?_;refine St.ee Ev.dz ?_;refine St.mv ?_;refine St.known 147 _ false rfl (decide_eq_false (by omega)) ?_;refine St.bz rfl rfl ?_;refine St.mv ?_;refine St.bz rfl rfl ?_;refine St.mv ?_;refine St.bz rfl rfl ?_;refine St.ee (Ev.au (.mk rfl) xF) ?_;refine St.bz rfl rfl ?_;refine St.ee Ev.ra ?_;refine St.ee (Ev.iM (.mk rfl) rfl (.mk rfl)) ?_;refine St.mv ?_;refine St.known 153 _ false rfl (decide_eq_false (by omega)) ?_;refine St.bz rfl rfl ?_;refine St.mv ?_;refine St.bz rfl rfl ?_;refine St.ee Ev.dz ?_;refine St.ee (Ev.iM (.mk rfl) rfl (.mk rfl)) ?_;refine St.mv ?_;refine St.known 157 _ false rfl (decide_eq_false (by omega)) ?_;refine St.bz rfl rfl ?_;refine St.mv ?_;refine St.bz rfl rfl ?_;refine St.mv ?_;refine St.bz rfl rfl ?_;refine St.ee (Ev.au (.mk rfl) xF) ?_;refine St.bz rfl rfl ?_;refine St.ee Ev.ra ?_;refine St.ee (Ev.iM (.mk rfl) rfl (.mk rfl)) ?_;refine St.nn ?_;refine St.oy _ rfl (decide_eq_false (by omega)) ?_;refine St.skip (St.aA (St.seq ?_));refine St.eK [] mixed (fun np ns=> ?_);refine SW.dd 0 rfl (fun _=>Ev.aD (.mk rfl) tW) ?_;refine SW.dd 1 rfl (fun _=>Ev.cS (.mk rfl) bP trivial (by rfl)) ?_;refine SW.dd 2 rfl (fun _=>Ev.move (.mk rfl)) ?_;refine SW.dd 3 rfl (fun _=>Ev.move (.mk rfl)) ?_;refine SW.dd 4 rfl (fun _=>Ev.aR (k:=p.getD l.a.toNat 0) (.mk rfl) (.mk rfl) xF uy (by omega) (by omega)) ?_;refine SW.dd 5 rfl (fun _=>Ev.fg (.mk rfl) hx Tryz.underlying60 trivial uy en.eq) ?_;refine SW.slot 168 (.agg #[x.pv.1,.bool x.leaf,sv x.label,iv x.ov,iv x.yA]) rfl rfl ?_;refine SW.dd 6 rfl (fun _=>Ev.move (.mk rfl)) ?_;refine SW.dd 7 rfl (fun _=>Ev.move (.mk rfl)) ?_;refine SW.dd 8 rfl (fun _=>Ev.aR (k:=p.getD l.b.toNat 0) (.mk rfl) (.mk rfl) xF uy (by omega) (by omega)) ?_;refine SW.dd 9 rfl (fun _=>Ev.fg (.mk rfl) hy Tryz.underlying60 trivial uy en.eq) ?_;refine SW.slot 172 (.agg #[y.pv.1,.bool y.leaf,sv y.label,iv y.ov,iv y.yA]) rfl rfl ?_;refine SW.dd 10 rfl (fun _=>Ev.call (rn l.kind x y (hWp x (List.mem_of_getElem? hx))) abH (.cons (.mk rfl) (.cons (.mk rfl) (.cons (.mk rfl) .nil)))) ?_;refine SW.done (by kernel_rfl) ?_;refine St.aA ?_;refine St.cond _ rfl (fun Lk=> ?_) (fun Lk=> ?_)
    ·skip
     have Ka:(fun p=>j7 (kG (fG g) (ah t) 0 (-1) 0) l.kind (p.getD l.a.toNat 0) (p.getD l.b.toNat 0)) p=true:=xV.symm.trans Lk
     rw[if_pos Ka]at MV
     have hB:=Ed (fun p=>j7 (kG (fG g) (ah t) 0 (-1) 0) l.kind (p.getD l.a.toNat 0) (p.getD l.b.toNat 0)) hp Ka
     rw[←hk]at hB
     have hkB:=cG hB
     obtain⟨w,hw⟩:=aQ (show k<Wm.length by omega);refine St.ku (vs:=Wm) (l:=ints p) k hw (by rw[List.getElem?_map,hB];rfl) ?_;refine St.seq (St.seq ?_);refine St.eK [] mixed (fun np ns=> ?_);refine SW.dd 0 rfl (fun _=>Ev.move (.mk rfl)) ?_;refine SW.dd 1 rfl (fun _=>Ev.move (.mk rfl)) ?_;refine SW.dd 2 rfl (fun _=>Ev.au (.mk rfl) dB) ?_;refine SW.dd 3 rfl (fun _=>Ev.ra) ?_;refine SW.dd 4 rfl (fun _=>Ev.move (.mk rfl)) ?_;refine SW.slot 178 (.bool false) rfl (congrArg Value.bool (decide_eq_false (by omega))) ?_;refine SW.gf 5 _ np ns rfl rfl rfl (fun R _=>Ev.move (.mk rfl)) (by kernel_rfl) rfl ?_;refine SW.slot 179 _ rfl (an rfl _) ?_;refine SW.gf 6 _ np ns rfl rfl rfl (fun R _=>Ev.move (.mk rfl)) (by kernel_rfl) rfl ?_;refine SW.slot 180 _ rfl (an rfl _) ?_;refine SW.gf 7 _ np ns rfl rfl rfl (fun R _=>Ev.aR (k:=k) (.mk rfl) (.mk rfl) dB e7 (by omega) (by omega)) (by kernel_rfl) rfl ?_;refine SW.slot 181 _ rfl (an rfl _) ?_;refine SW.gf 8 _ np ns rfl rfl rfl (fun R _=>Ev.fL (.mk rfl) hw bE trivial rfl) (by kernel_rfl) rfl ?_;refine SW.slot 182 _ rfl (an rfl _) ?_;refine SW.gf 9 _ np ns rfl rfl rfl (fun R _=>Ev.move (.mk rfl)) (by kernel_rfl) rfl ?_;refine SW.slot 183 _ rfl (an rfl _) ?_;refine SW.gf 10 _ np ns rfl rfl rfl (fun R _=>Ev.move (.mk rfl)) (by kernel_rfl) rfl ?_;refine SW.slot 184 _ rfl (an rfl _) ?_;refine SW.gf 11 _ np ns rfl rfl rfl (fun R _=>Ev.aR (k:=i) (.mk rfl) (.mk rfl) dB e7 (by omega) (by omega)) (by kernel_rfl) rfl ?_;refine SW.slot 185 _ rfl (an rfl _) ?_;refine SW.gf 12 _ np ns rfl rfl rfl (fun R _=>Ev.fL (.mk rfl) hu bE trivial rfl) (by kernel_rfl) rfl ?_;refine SW.slot 186 _ rfl (an rfl _) ?_;refine SW.gf 13 _ np ns rfl rfl rfl (fun R _=>Ev.call (gY w.1 u.1 (ints p) (ints p)) Gi (.cons (.mk rfl) (.cons (.mk rfl) .nil))) (by kernel_rfl) rfl ?_;refine SW.slot 187 _ rfl (an rfl _) ?_;refine SW.gf 14 _ np ns rfl rfl rfl (fun R _=>Ev.not (.mk rfl)) (by kernel_rfl) rfl ?_;refine SW.slot 188 _ rfl (an rfl _) ?_;refine SW.dd 15 rfl (fun _=>Ev.iM (.mk rfl) rfl (.mk rfl)) ?_;refine SW.done (by kernel_rfl) ?_;refine St.aA ?_;refine St.oy _ rfl (by simp) ?_;refine St.skip (St.aA (St.rg ?_));refine St.mv ?_;refine St.ee Ev.a0 ?_;refine St.ar ?_;refine St.nil (St.aO (St.aA (St.rg ?_)));refine St.mv ?_;refine St.ee Ev.a0 ?_;refine St.ar ?_;refine St.nn ?_;refine St.ji (i+1) (k+1) ⟨by omega,by rw[MV,hk]⟩
    ·skip
     have Ka:¬(fun p=>j7 (kG (fG g) (ah t) 0 (-1) 0) l.kind (p.getD l.a.toNat 0) (p.getD l.b.toNat 0)) p=true:=fun h=>by rw[xV.trans h]at Lk;cases Lk
     rw[if_neg Ka]at MV;refine St.skip (St.aO (St.aA (St.rg ?_)));refine St.mv ?_;refine St.ee Ev.a0 ?_;refine St.ar ?_;refine St.nn ?_;refine St.ji (i+1) k ⟨by omega,by rw[MV,hk];rfl⟩
   ·try simp only[aC]at xS
    refine St.exit (St.aI (St.aI (St.bM (St.aA (St.sr ?_)))));refine St.mv ?_;refine St.mv ?_;refine St.ee (Ev.au (.mk rfl) dB) ?_;refine St.ee Ev.fa ?_;refine St.ar ?_;refine St.nn (St.ab ?_);refine St.rU [_] [] Tryz.results4 ?_;exact be (by rw[ng];exact decide_eq_true (by rw[hk,List.take_of_length_le (by omega)]))
end Go.Proofs.YtolmidffiegkaaaGreatDoor
