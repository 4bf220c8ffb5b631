/-
  Laws of walks through programs, and facts on grammars, trees and queries.
  Conditions: none.
-/
import Derived.Test.YtolmidffiegkaaaGreatDoorGA4
import Derived.Test.YtolmidffiegkaaaGreatDoorGA2
import Derived.Shelf.Strings.IndexAnyAll
import Derived.Lib.OthersKept
import Derived.Shelf.Small.Utf8
import Derived.Laws.RangeAny
import Derived.Laws.Cover4
import Derived.Scope
import Derived.Handy
import Derived.Shelf.RegionOpen
import Derived.Shelf.RegionOpenPlain
import Derived.Shelf.Utf8.RuneCount
import Derived.Shelf.Unicode.ValidAny
import Derived.Test.YtolmidffiegkaaaGreatDoorChecked
import Derived.Test.YtolmidffiegkaaaGreatDoorGA1
import Derived.Lib.Join
import Derived.Shelf.Strings.OnBuilder
set_option maxRecDepth 20000
set_option linter.unusedSimpArgs false
set_option linter.unusedVariables false
namespace Go.Proofs.YtolmidffiegkaaaGreatDoor
open Go Go.J
theorem qB {W:List Int}{k:Nat}{x:Int}(h:W[k]?=some x):(rows aK W)[k*1+0]?=some (iv x):=by
 rw[kH,Nat.mul_one,Nat.add_zero,List.getElem?_map,h];rfl
theorem AR (n:Nat):List.replicate n (iv 0)=rows aK (List.replicate n 0):=by rw[kH,List.map_replicate]
theorem qC {l:List Nat}(h:∀i∈l,i≤9223372036854775807):∀x∈ints l,aK.wf x:=by
 intro x hx;obtain⟨i,hi,rfl⟩:=List.mem_map.1 hx
 have:=h i hi
 show bD (i:Int)
 unfold bD;omega
def mi (L:List Nq)(ks:List eH)(v:cj)(vs:List cj)(p:List Nat)(O:List (List Nat))(i:Nat):List (List Nat):=if 500<O.length then O else if Fu L ks v p i then vO L ks vs (p++ [i]) O else O
theorem F7 (L:List Nq)(ks:List eH)(v:cj)(vs:List cj)(p:List Nat)(O:List (List Nat)):vO L ks (v::vs) p O=(List.range L.length).foldl (mi L ks v vs p) O:=rfl
theorem fold_succ {α:Type}(f:α→Nat→α)(O:α)(i:Nat):(List.range (i+1)).foldl f O=f ((List.range i).foldl f O) i:=by rw[List.range_succ,List.foldl_append];rfl
theorem wy {L:List Nq}{ks:List eH}{v:cj}{vs:List cj}{p:List Nat}{O:List (List Nat)}{i:Nat}(h:500<((List.range i).foldl (mi L ks v vs p) O).length):∀m,(List.range (i+m)).foldl (mi L ks v vs p) O=(List.range i).foldl (mi L ks v vs p) O
 |0=>rfl
 |m+1=>by
  have ih:=wy h m
  rw[show i+(m+1)=(i+m)+1 by omega,fold_succ,ih]
  unfold mi;rw[if_pos];exact h
theorem Hj (L:List Nq)(ks:List eH)(vs:List cj)(p:List Nat)(O:List (List Nat))(h:O.length≤501)(h2:vs=[]→O.length≤500):(vO L ks vs p O).length≤501:=by
 rw[y1 L ks vs p O h h2,List.length_take];omega
theorem Dd {B:List Int}{r:List Nat}{m j:Nat}(h:B.take m=ints r)(hm:r.length=m)(hj:j<m):B[j]?=some ((r.getD j 0:Nat):Int):=by
 have h1:(B.take m)[j]?=B[j]?:=by rw[List.getElem?_take,if_pos hj]
 rw[←h1,h,ints,List.getElem?_map,List.getD_eq_getElem?_getD,List.getElem?_eq_getElem (by omega)];rfl
theorem take_set {A:List Int}{p:List Nat}{i:Nat}(h:A.take p.length=ints p)(hl:p.length<A.length):(A.set p.length (i:Int)).take (p.length+1)=ints (p++ [i]):=by
 have h0:(A.set p.length (i:Int))[p.length]?=some (i:Int):=by rw[List.getElem?_set_self hl]
 rw[bI h0,List.take_set,h,ints,ints,List.map_append,List.set_eq_of_length_le (by rw[List.length_map];exact Nat.le_refl _)];rfl
theorem xA {A B:List Int}{p:List Nat}{i:Nat}(h:A.take (p++ [i]).length=ints (p++ [i])):A.take p.length=ints p:=by
 have h1:(A.take (p++ [i]).length).take p.length=A.take p.length:=by rw[List.take_take,List.length_append];congr 1;simp only[List.length_cons,List.length_nil];omega
 rw[←h1,h,ints,ints,List.map_append,List.take_left' (by simp)]
theorem AU {p:List Nat}{n j:Nat}(h:∀y∈p,y<n)(hj:j<p.length):p.getD j 0<n:=by
 rw[List.getD_eq_getElem?_getD,List.getElem?_eq_getElem hj];exact h _ (List.getElem_mem hj)
theorem drop_cons {α:Type}{l:List α}{k:Nat}{v:α}{vs:List α}(h:l.drop k=v::vs):l[k]?=some v∧l.drop (k+1)=vs:=by
 have h1:l[k]?=some v:=by
  have:=congrArg (fun m=>m[0]?) h
  rw[List.getElem?_drop,Nat.add_zero]at this;exact this
 refine⟨h1,?_⟩
 have h2:=bz h1
 rw[h,List.cons.injEq]at h2;exact h2.2.symm
set_option maxHeartbeats 4000000 in
theorem yY (ba bo bl bq bt:Nat)(va vl:Value)(L:List Nq)(q:eu)(hq:uF q.vars q.aZ):∀(m:Nat) (vs:List cj) (p:List Nat) (O:List (List Nat)) (A:List Int) (vo:Value) (us:List ck) (T:List (List Nat)),vs.length=m→T=vO L q.aZ vs p O→q.vars.drop p.length=vs→p.length+vs.length=q.vars.length→A.length=q.vars.length→A.take p.length=ints p→(∀y∈p,y<L.length)→vo.oneCell'=true→us.length=O.length→O.length≤501→(vs=[]→O.length≤500)→
 fF Tryz.prog 32 ([iv ((p.length:Nat):Int)]++ [Value.pointer (some ⟨ba,0,none⟩),Value.pointer (some ⟨bo,0,none⟩),Value.pointer (some ⟨bl,0,none⟩),Value.pointer (some ⟨bq,0,none⟩),Value.pointer (some ⟨bt,0,none⟩)]).toArray [ae ba (.cells [va].toArray 57 (0,0)),row va 3 1 q.vars.length (rows aK (A)),ae bo (.cells [vo].toArray 44 (0,0)),row vo 57 1 (O).length (rows cC (us)),aG (jx aK (us) ((O).map ints)),ae bl (.cells [vl].toArray 78 (0,0)),ae bq (.cells [q.vv.1,q.kv.1].toArray 36 (0,0)),ae bt (.cells [(.func (.func 32) #[] [Value.pointer (some ⟨ba,0,none⟩),Value.pointer (some ⟨bo,0,none⟩),Value.pointer (some ⟨bl,0,none⟩),Value.pointer (some ⟨bq,0,none⟩),Value.pointer (some ⟨bt,0,none⟩)].toArray)].toArray 80 (0,0)),aG (sl gi vl L),aG (sl gz q.vv.1 q.vars),aG (sl iH q.kv.1 q.aZ)] (fun v H'=>∃A' ZH ZI,A'.length=q.vars.length∧A'.take p.length=ints p∧ZH.oneCell'=true∧ZI.length=T.length∧H'=[ae ba (.cells [va].toArray 57 (0,0)),row va 3 1 q.vars.length (rows aK (A')),ae bo (.cells [ZH].toArray 44 (0,0)),row ZH 57 1 (T).length (rows cC (ZI)),aG (jx aK (ZI) ((T).map ints)),ae bl (.cells [vl].toArray 78 (0,0)),ae bq (.cells [q.vv.1,q.kv.1].toArray 36 (0,0)),ae bt (.cells [(.func (.func 32) #[] [Value.pointer (some ⟨ba,0,none⟩),Value.pointer (some ⟨bo,0,none⟩),Value.pointer (some ⟨bl,0,none⟩),Value.pointer (some ⟨bq,0,none⟩),Value.pointer (some ⟨bt,0,none⟩)].toArray)].toArray 80 (0,0))]):=by
 intro m
 induction m using Nat.strongRecOn
 rename_i m ih
 intro vs p O A vo us T hm hT TQ hlen hA Qy XD NS DR hO hO0;refine fF.body (args:=[iv ((p.length:Nat):Int)]++ [Value.pointer (some ⟨ba,0,none⟩),Value.pointer (some ⟨bo,0,none⟩),Value.pointer (some ⟨bl,0,none⟩),Value.pointer (some ⟨bq,0,none⟩),Value.pointer (some ⟨bt,0,none⟩)]) 82 Tryz.func32 rfl Tryz.ntmps32 rfl (fun c=> ?_);refine St.seq (St.seq ?_);refine St.wf vl (fun _ Jp=> ?_);refine St.wf q.vv.1 (fun TR _=> ?_)
 have hN4:=hq.Sz
 have hN0:=hq.pos
 have hK8:=hq.aZ
 refine St.rg ?_;refine St.mv ?_;refine St.ee (Ev.l0 (.mk rfl) bE) ?_;refine St.ee (Ev.fS (.mk rfl) bE) ?_;refine St.ee Ev.ey ?_;refine St.nn ?_;refine St.cond _ rfl (fun pF=> ?_) (fun pF=> ?_)
 ·try simp only[aC]at pF
  have Fw:vs=[]:=List.eq_nil_of_length_eq_zero (by omega)
  have ZJ:A=ints p:=by rw[←Qy,List.take_of_length_le (by omega)]
  have hO5:=hO0 Fw
  have Fx:T=O++ [p]:=by rw[hT,Fw];rfl
  have DL:(ints p).length=p.length:=ri p
  refine St.seq ?_;refine St.eV [ae bo (.cells [vo].toArray 44 (0,0)),row vo 57 1 (O).length (rows cC (us))] mixed (fun np ns=> ?_);refine SW.dd 2 rfl (fun _=>Ev.cN (.mk rfl) bE trivial (by rfl)) ?_;refine SW.jC (i:=0) (j:=1) (by kernel_rfl) rfl rfl ?_ ?_
  ·refine St.ee (Ev.l0 (.mk rfl) dE) ?_
   refine St.nn ?_;refine SW.go ?_;refine SW.bG (i:=1) (by kernel_rfl) rfl ?_;refine St.cn rfl (.nil) bE cr eJ rfl rfl (by simp[Value.cells]) rfl rfl (fun LI=> ?_);refine St.nn ?_;refine SW.go ?_;refine SW.bG (i:=3) (by kernel_rfl) rfl ?_;refine St.pI (.mk rfl) (.mk rfl) bE cr eJ Gh (tF _ _) (by omega) (by omega) rfl rfl (by omega) rfl (fun iD F5=> ?_);refine St.bB iD (show _=(ints p).length by rw[DL];omega) (show _=rows aK (ints p) by rw[ZJ];rfl) ?_;refine St.eG iD (fun fN _=> ?_);refine St.aV iD aK (ints p) rfl rfl (qC fun i hi=>by have:=XD i hi;omega) ?_;refine St.nn ?_;refine SW.go ?_;refine SW.bG (i:=4) (by kernel_rfl) rfl ?_;refine St.cn rfl (.cons (.mk rfl) .nil) dE eI fU rfl rfl (by simp[J.aI fN]) rfl rfl (fun ZK=> ?_);refine St.nn ?_;refine SW.go ?_;refine SW.bG (i:=5) (by kernel_rfl) rfl ?_;refine St.cS (.mk rfl) (.mk rfl) dE eI fU Hc (by simp[J.aI fN,fN]) (by omega) (by omega) rfl rfl rfl rfl (fun v20 Pg=> ?_);refine St.bB v20 (show _=T.length by rw[Fx,List.length_append];rfl) (show _=rows cC (us++ [⟨iD,fN⟩]) by rw[cz];simp[J.aI fN];rfl) ?_;refine St.eG v20 (fun oW _=> ?_);refine St.nn ?_;refine SW.go ?_;refine SW.bG (i:=6) (by kernel_rfl) rfl ?_;refine St.cW (.mk rfl) (.mk rfl) LB oW (by rfl) ?_;refine St.nn ?_;refine SW.go ?_;refine SW.done (by kernel_rfl) ?_;refine St.aA (St.aX (St.aB ?_));refine St.nw us ⟨iD,fN⟩ (by rw[List.length_map];exact DR) ?_;rw[show O.map ints++ [ints p]=T.map ints by rw[Fx,List.map_append];rfl];refine St.rT [] [ae ba (.cells [va].toArray 57 (0,0)),row va 3 1 q.vars.length (rows aK (A)),ae bo (.cells [v20].toArray 44 (0,0)),row v20 57 1 (T).length (rows cC (us++ [⟨iD,fN⟩])),aG (jx aK (us++ [⟨iD,fN⟩]) ((T).map ints)),ae bl (.cells [vl].toArray 78 (0,0)),ae bq (.cells [q.vv.1,q.kv.1].toArray 36 (0,0)),ae bt (.cells [(.func (.func 32) #[] [Value.pointer (some ⟨ba,0,none⟩),Value.pointer (some ⟨bo,0,none⟩),Value.pointer (some ⟨bl,0,none⟩),Value.pointer (some ⟨bq,0,none⟩),Value.pointer (some ⟨bt,0,none⟩)].toArray)].toArray 80 (0,0))] Tryz.results32 trivial ?_;exact⟨A,v20,us++ [⟨iD,fN⟩],hA,Qy,oW,by rw[Fx,List.length_append,List.length_append,DR];rfl,rfl⟩
  ·refine St.cn rfl (.nil) bE cr eJ rfl rfl (by simp[Value.cells]) rfl rfl (fun LI=> ?_)
   refine St.nn ?_;refine SW.go ?_;refine SW.jC (i:=0) (j:=3) (by kernel_rfl) rfl rfl ?_ ?_
   ·refine St.ee (Ev.l0 (.mk rfl) dE) ?_
    refine St.nn ?_;refine SW.go ?_;refine SW.bG (i:=3) (by kernel_rfl) rfl ?_;refine St.pI (.mk rfl) (.mk rfl) bE cr eJ Gh (tF _ _) (by omega) (by omega) rfl rfl (by omega) rfl (fun iD F5=> ?_);refine St.bB iD (show _=(ints p).length by rw[DL];omega) (show _=rows aK (ints p) by rw[ZJ];rfl) ?_;refine St.eG iD (fun fN _=> ?_);refine St.aV iD aK (ints p) rfl rfl (qC fun i hi=>by have:=XD i hi;omega) ?_;refine St.nn ?_;refine SW.go ?_;refine SW.bG (i:=4) (by kernel_rfl) rfl ?_;refine St.cn rfl (.cons (.mk rfl) .nil) dE eI fU rfl rfl (by simp[J.aI fN]) rfl rfl (fun ZK=> ?_);refine St.nn ?_;refine SW.go ?_;refine SW.bG (i:=5) (by kernel_rfl) rfl ?_;refine St.cS (.mk rfl) (.mk rfl) dE eI fU Hc (by simp[J.aI fN,fN]) (by omega) (by omega) rfl rfl rfl rfl (fun v20 Pg=> ?_);refine St.bB v20 (show _=T.length by rw[Fx,List.length_append];rfl) (show _=rows cC (us++ [⟨iD,fN⟩]) by rw[cz];simp[J.aI fN];rfl) ?_;refine St.eG v20 (fun oW _=> ?_);refine St.nn ?_;refine SW.go ?_;refine SW.bG (i:=6) (by kernel_rfl) rfl ?_;refine St.cW (.mk rfl) (.mk rfl) LB oW (by rfl) ?_;refine St.nn ?_;refine SW.go ?_;refine SW.done (by kernel_rfl) ?_;refine St.aA (St.aX (St.aB ?_));refine St.nw us ⟨iD,fN⟩ (by rw[List.length_map];exact DR) ?_;rw[show O.map ints++ [ints p]=T.map ints by rw[Fx,List.map_append];rfl];refine St.rT [] [ae ba (.cells [va].toArray 57 (0,0)),row va 3 1 q.vars.length (rows aK (A)),ae bo (.cells [v20].toArray 44 (0,0)),row v20 57 1 (T).length (rows cC (us++ [⟨iD,fN⟩])),aG (jx aK (us++ [⟨iD,fN⟩]) ((T).map ints)),ae bl (.cells [vl].toArray 78 (0,0)),ae bq (.cells [q.vv.1,q.kv.1].toArray 36 (0,0)),ae bt (.cells [(.func (.func 32) #[] [Value.pointer (some ⟨ba,0,none⟩),Value.pointer (some ⟨bo,0,none⟩),Value.pointer (some ⟨bl,0,none⟩),Value.pointer (some ⟨bq,0,none⟩),Value.pointer (some ⟨bt,0,none⟩)].toArray)].toArray 80 (0,0))] Tryz.results32 trivial ?_;exact⟨A,v20,us++ [⟨iD,fN⟩],hA,Qy,oW,by rw[Fx,List.length_append,List.length_append,DR];rfl,rfl⟩
   ·refine St.pI (.mk rfl) (.mk rfl) bE cr eJ Gh (tF _ _) (by omega) (by omega) rfl rfl (by omega) rfl (fun iD F5=> ?_)
    refine St.bB iD (show _=(ints p).length by rw[DL];omega) (show _=rows aK (ints p) by rw[ZJ];rfl) ?_;refine St.eG iD (fun fN _=> ?_);refine St.aV iD aK (ints p) rfl rfl (qC fun i hi=>by have:=XD i hi;omega) ?_;refine St.nn ?_;refine SW.go ?_;refine SW.jC (i:=0) (j:=4) (by kernel_rfl) rfl rfl ?_ ?_
    ·refine St.ee (Ev.l0 (.mk rfl) dE) ?_
     refine St.nn ?_;refine SW.go ?_;refine SW.bG (i:=4) (by kernel_rfl) rfl ?_;refine St.cn rfl (.cons (.mk rfl) .nil) dE eI fU rfl rfl (by simp[J.aI fN]) rfl rfl (fun ZK=> ?_);refine St.nn ?_;refine SW.go ?_;refine SW.bG (i:=5) (by kernel_rfl) rfl ?_;refine St.cS (.mk rfl) (.mk rfl) dE eI fU Hc (by simp[J.aI fN,fN]) (by omega) (by omega) rfl rfl rfl rfl (fun v20 Pg=> ?_);refine St.bB v20 (show _=T.length by rw[Fx,List.length_append];rfl) (show _=rows cC (us++ [⟨iD,fN⟩]) by rw[cz];simp[J.aI fN];rfl) ?_;refine St.eG v20 (fun oW _=> ?_);refine St.nn ?_;refine SW.go ?_;refine SW.bG (i:=6) (by kernel_rfl) rfl ?_;refine St.cW (.mk rfl) (.mk rfl) LB oW (by rfl) ?_;refine St.nn ?_;refine SW.go ?_;refine SW.done (by kernel_rfl) ?_;refine St.aA (St.aX (St.aB ?_));refine St.nw us ⟨iD,fN⟩ (by rw[List.length_map];exact DR) ?_;rw[show O.map ints++ [ints p]=T.map ints by rw[Fx,List.map_append];rfl];refine St.rT [] [ae ba (.cells [va].toArray 57 (0,0)),row va 3 1 q.vars.length (rows aK (A)),ae bo (.cells [v20].toArray 44 (0,0)),row v20 57 1 (T).length (rows cC (us++ [⟨iD,fN⟩])),aG (jx aK (us++ [⟨iD,fN⟩]) ((T).map ints)),ae bl (.cells [vl].toArray 78 (0,0)),ae bq (.cells [q.vv.1,q.kv.1].toArray 36 (0,0)),ae bt (.cells [(.func (.func 32) #[] [Value.pointer (some ⟨ba,0,none⟩),Value.pointer (some ⟨bo,0,none⟩),Value.pointer (some ⟨bl,0,none⟩),Value.pointer (some ⟨bq,0,none⟩),Value.pointer (some ⟨bt,0,none⟩)].toArray)].toArray 80 (0,0))] Tryz.results32 trivial ?_;exact⟨A,v20,us++ [⟨iD,fN⟩],hA,Qy,oW,by rw[Fx,List.length_append,List.length_append,DR];rfl,rfl⟩
    ·refine St.cn rfl (.cons (.mk rfl) .nil) dE eI fU rfl rfl (by simp[J.aI fN]) rfl rfl (fun ZK=> ?_)
     refine St.nn ?_;refine SW.go ?_;refine SW.bG (i:=0) (by kernel_rfl) rfl ?_;refine St.ee (Ev.l0 (.mk rfl) dE) ?_;refine St.nn ?_;refine SW.go ?_;refine SW.bG (i:=5) (by kernel_rfl) rfl ?_;refine St.cS (.mk rfl) (.mk rfl) dE eI fU Hc (by simp[J.aI fN,fN]) (by omega) (by omega) rfl rfl rfl rfl (fun v20 Pg=> ?_);refine St.bB v20 (show _=T.length by rw[Fx,List.length_append];rfl) (show _=rows cC (us++ [⟨iD,fN⟩]) by rw[cz];simp[J.aI fN];rfl) ?_;refine St.eG v20 (fun oW _=> ?_);refine St.nn ?_;refine SW.go ?_;refine SW.bG (i:=6) (by kernel_rfl) rfl ?_;refine St.cW (.mk rfl) (.mk rfl) LB oW (by rfl) ?_;refine St.nn ?_;refine SW.go ?_;refine SW.done (by kernel_rfl) ?_;refine St.aA (St.aX (St.aB ?_));refine St.nw us ⟨iD,fN⟩ (by rw[List.length_map];exact DR) ?_;rw[show O.map ints++ [ints p]=T.map ints by rw[Fx,List.map_append];rfl];refine St.rT [] [ae ba (.cells [va].toArray 57 (0,0)),row va 3 1 q.vars.length (rows aK (A)),ae bo (.cells [v20].toArray 44 (0,0)),row v20 57 1 (T).length (rows cC (us++ [⟨iD,fN⟩])),aG (jx aK (us++ [⟨iD,fN⟩]) ((T).map ints)),ae bl (.cells [vl].toArray 78 (0,0)),ae bq (.cells [q.vv.1,q.kv.1].toArray 36 (0,0)),ae bt (.cells [(.func (.func 32) #[] [Value.pointer (some ⟨ba,0,none⟩),Value.pointer (some ⟨bo,0,none⟩),Value.pointer (some ⟨bl,0,none⟩),Value.pointer (some ⟨bq,0,none⟩),Value.pointer (some ⟨bt,0,none⟩)].toArray)].toArray 80 (0,0))] Tryz.results32 trivial ?_;exact⟨A,v20,us++ [⟨iD,fN⟩],hA,Qy,oW,by rw[Fx,List.length_append,List.length_append,DR];rfl,rfl⟩
 ·try simp only[aC]at pF
  obtain⟨vr,ws,Fw⟩:=List.exists_cons_of_length_pos (show 0<vs.length by omega);subst Fw;rw[F7]at hT;obtain⟨hvr,jJ⟩:=drop_cons TQ;rw[List.length_cons]at hlen hm;refine St.skip (St.aA (St.sr ?_));refine St.ee (Ev.l0 (.mk rfl) hG) ?_;refine St.ee (Ev.ao (.mk rfl) hG) ?_;refine St.mv ?_;refine St.nn (St.block ?_);refine St.mf (ι:=Nat) (κ:=List Int×Value×List ck×List (List Nat)) (fun i z T=>(23,iv i)::T) (fun i z=>[ae ba (.cells [va].toArray 57 (0,0)),row va 3 1 q.vars.length (rows aK (z.1)),ae bo (.cells [z.2.1].toArray 44 (0,0)),row z.2.1 57 1 (z.2.2.2).length (rows cC (z.2.2.1)),aG (jx aK (z.2.2.1) ((z.2.2.2).map ints)),ae bl (.cells [vl].toArray 78 (0,0)),ae bq (.cells [q.vv.1,q.kv.1].toArray 36 (0,0)),ae bt (.cells [(.func (.func 32) #[] [Value.pointer (some ⟨ba,0,none⟩),Value.pointer (some ⟨bo,0,none⟩),Value.pointer (some ⟨bl,0,none⟩),Value.pointer (some ⟨bq,0,none⟩),Value.pointer (some ⟨bt,0,none⟩)].toArray)].toArray 80 (0,0)),aG (sl gi vl L),aG (sl gz q.vv.1 q.vars),aG (sl iH q.kv.1 q.aZ)]) (fun i z=>i≤L.length∧z.1.length=q.vars.length∧z.1.take p.length=ints p∧z.2.1.oneCell'=true∧z.2.2.1.length=z.2.2.2.length∧z.2.2.2.length≤501∧z.2.2.2=(List.range i).foldl (mi L q.aZ vr ws p) O) (fun i z=>L.length-i) 0 (A,vo,us,O) (aE.cons 0 rfl (aE.cons 1 rfl (aE.cons 2 rfl (aE.cons 3 rfl (aE.cons 4 rfl (aE.cons 5 rfl (aE.cons 22 rfl aE.nil))))))) ⟨Nat.zero_le _,hA,Qy,NS,DR,hO,rfl⟩ ?_;rintro i ⟨B,wo,Hk,Oc⟩ ⟨hi,hB,TT,Qz,NT,Hl,Ph⟩
  dsimp only at hB TT Qz NT Hl Ph⊢
  refine St.sr ?_;refine St.ee Ev.dn ?_;refine St.nn (St.seq ?_);refine St.cond _ rfl (fun pE=> ?_) (fun pE=> ?_)
  ·try simp only[aC]at pE
   obtain⟨nq,hnq⟩:=aO (show i<L.length by omega)
   have Ok:L.getD i se=nq:=by rw[List.getD_eq_getElem?_getD,hnq];rfl
   have Pj:∀y∈p++ [i],y<L.length:=fun y hy=>by rcases List.mem_append.1 hy with h|h;exact XD y h;rw[List.mem_singleton.1 h];omega
   refine St.skip (St.aA (St.seq (St.block (St.sr ?_))));refine St.mv ?_;refine St.ak ?_;refine St.nn (St.seq (St.sr ?_));refine St.ee (Ev.l0 (.mk rfl) dE) ?_;refine St.ee (Ev.fS (.mk rfl) dE) ?_;refine St.ee Ev.qn ?_;refine St.nn ?_;refine St.cond _ rfl (fun qX=> ?_) (fun qX=> ?_)
   ·try simp only[aC]at qX
    have ZL:Oc=T:=by rw[hT,show L.length=i+(L.length-i) by omega,wy (by rw[←Ph];omega),Ph]
    subst ZL;refine St.aX (St.aB (St.aM (St.aB (St.aB (St.aM ?_)))));refine St.rT [] [ae ba (.cells [va].toArray 57 (0,0)),row va 3 1 q.vars.length (rows aK (B)),ae bo (.cells [wo].toArray 44 (0,0)),row wo 57 1 (Oc).length (rows cC (Hk)),aG (jx aK (Hk) ((Oc).map ints)),ae bl (.cells [vl].toArray 78 (0,0)),ae bq (.cells [q.vv.1,q.kv.1].toArray 36 (0,0)),ae bt (.cells [(.func (.func 32) #[] [Value.pointer (some ⟨ba,0,none⟩),Value.pointer (some ⟨bo,0,none⟩),Value.pointer (some ⟨bl,0,none⟩),Value.pointer (some ⟨bq,0,none⟩),Value.pointer (some ⟨bt,0,none⟩)].toArray)].toArray 80 (0,0))] Tryz.results32 trivial ?_;exact⟨B,wo,Hk,hB,TT,Qz,NT,rfl⟩
   ·try simp only[aC]at qX
    refine St.skip (St.aA (St.seq (St.seq ?_)));refine St.rq mixed (by kernel_rfl) (Mm.drawn _ _) ?_;refine Sq.ee (Ev.aD (.mk rfl) eg) ?_;refine Sq.ee (Ev.l0 (.mk rfl) eX) ?_;refine Sq.ee (Ev.move (.mk rfl)) ?_;refine Sq.ee (Ev.aR (k:=p.length) (.mk rfl) (.mk rfl) eX nX (by omega) (by omega)) ?_;refine Sq.ee (Ev.fg (.mk rfl) hvr Ge trivial nX ei.eq) ?_;refine Sq.ee (Ev.l0 (.mk rfl) hG) ?_;refine Sq.ee (Ev.move (.mk rfl)) ?_;refine Sq.ee (Ev.aR (k:=i) (.mk rfl) (.mk rfl) hG nZ (by omega) (by omega)) ?_;refine Sq.ee (Ev.fg (.mk rfl) hnq Tryz.underlying83 trivial nZ ei.eq) ?_;refine Sq.ee (Ev.call (F6 vr nq) Z3 (.cons (.mk rfl) (.cons (.mk rfl) .nil))) ?_;refine Sq.ee (Ev.not (.mk rfl)) ?_;refine Sq.nil ?_;refine St.aA ?_;refine St.cond _ rfl (fun A8=> ?_) (fun A8=> ?_)
    ·skip
     have ZM:lh vr nq=false:=by simpa using A8
     have TU:Fu L q.aZ vr p i=false:=by unfold Fu;rw[Ok,ZM];rfl
     have cE:Oc=(List.range (i+1)).foldl (mi L q.aZ vr ws p) O:=by rw[fold_succ,←Ph,mi,if_neg (by omega),TU];rfl
     refine St.exit (St.aF (St.bH (St.aA (St.rg ?_))));refine St.ee Ev.a0 ?_;refine St.mv ?_;refine St.nn ?_;refine St.jb (i+1) (B,wo,Hk,Oc) ⟨by omega,hB,TT,Qz,NT,Hl,cE⟩
    ·skip
     have ZM:lh vr nq=true:=by simpa using A8
     refine St.skip (St.aA (St.sr ?_));refine St.ee (Ev.l0 (.mk rfl) bE) ?_;refine St.mv ?_;refine St.mv ?_;refine St.ee (Ev.cK (k:=p.length) (.mk rfl) (.mk rfl) bE cr (by omega) (by omega)) ?_;refine St.dH (.mk rfl) (.mk rfl) cr rfl (by omega) (by decide) ?_;refine St.Mw va (AL _ _ _) ?_
     have hC:=take_set (i:=i) TT (by omega)
     have ZN:(B.set p.length (i:Int)).length=q.vars.length:=by rw[List.length_set];exact hB
     generalize hBC:B.set p.length (i:Int)=C at hC ZN⊢
     have LJ:(p++ [i]).length=p.length+1:=by rw[List.length_append];rfl
     refine St.nn (St.sr ?_);refine St.ak ?_;refine St.nn (St.seq (St.sr ?_));refine St.ee (Ev.aD (.mk rfl) kJ) ?_;refine St.ee (Ev.l0 (.mk rfl) jG) ?_;refine St.ee (Ev.ao (.mk rfl) jG) ?_;refine St.mv ?_;refine St.nn (St.block ?_);refine St.lH (ι:=Nat) (fun j T=>(47,iv j)::(8,.bool true)::T) (fun j=>[ae ba (.cells [va].toArray 57 (0,0)),row va 3 1 q.vars.length (rows aK (C)),ae bo (.cells [wo].toArray 44 (0,0)),row wo 57 1 (Oc).length (rows cC (Hk)),aG (jx aK (Hk) ((Oc).map ints)),ae bl (.cells [vl].toArray 78 (0,0)),ae bq (.cells [q.vv.1,q.kv.1].toArray 36 (0,0)),ae bt (.cells [(.func (.func 32) #[] [Value.pointer (some ⟨ba,0,none⟩),Value.pointer (some ⟨bo,0,none⟩),Value.pointer (some ⟨bl,0,none⟩),Value.pointer (some ⟨bq,0,none⟩),Value.pointer (some ⟨bt,0,none⟩)].toArray)].toArray 80 (0,0)),aG (sl gi vl L),aG (sl gz q.vv.1 q.vars),aG (sl iH q.kv.1 q.aZ)]) (fun j=>j≤q.aZ.length∧∀x∈q.aZ.take j,pe L (p++ [i]) x=true) (fun j=>q.aZ.length-j) 0 (aE.cons 0 rfl (aE.cons 1 rfl (aE.cons 2 rfl (aE.cons 3 rfl (aE.cons 4 rfl (aE.cons 5 rfl (aE.cons 22 rfl (aE.cons 23 rfl (aE.cons 45 rfl (aE.cons 46 rfl aE.nil)))))))))) ⟨Nat.zero_le _,fun x hx=>by simp at hx⟩ ?_;rintro j ⟨hj,eP⟩;refine St.sr ?_;refine St.ee Ev.dn ?_;refine St.nn (St.seq ?_);refine St.cond _ rfl (fun qD=> ?_) (fun qD=> ?_)
     ·try simp only[aC]at qD
      obtain⟨x,hx⟩:=aO (show j<q.aZ.length by omega)
      have Eu:=List.mem_of_getElem? hx
      obtain⟨Pe,TV,R0,NU,hx5,hx6,hx7⟩:=hq.link x Eu;refine St.skip (St.aA (St.seq (St.block (St.sr ?_))));refine St.ee (Ev.aR (k:=j) (.mk rfl) (.mk rfl) jG oV (by omega) (by omega)) ?_;refine St.ee (Ev.fg (.mk rfl) hx Km trivial oV ei.eq) ?_;refine St.alloc HZ rfl (fun jc=> ?_);refine St.sA (.mk rfl) (.mk rfl) oV ?_ (h1:=(by simp only[List.all_cons,List.all_nil,Bool.and_true,Bool.and_eq_true];exact⟨rfl,rfl,rfl⟩));refine St.nn (St.seq ?_);refine St.eV [] mixed (fun np ns=> ?_);refine SW.dd 0 rfl (fun _=>Ev.aD (.mk rfl) lL) ?_;refine SW.dd 1 rfl (fun _=>Ev.cN (.mk rfl) bP trivial (by rfl)) ?_;refine SW.dd 2 rfl (fun _=>Ev.aD (.mk rfl) lM) ?_;refine SW.dd 3 rfl (fun _=>Ev.cN (.mk rfl) bP trivial (by rfl)) ?_;refine SW.dd 4 rfl (fun _=>Ev.ZF (.mk rfl) (.mk rfl)) ?_;refine SW.dd 5 rfl (fun _=>Ev.move (.mk rfl)) ?_;refine SW.dd 6 rfl (fun _=>Ev.ey) ?_;refine SW.split 57 _ rfl (fun Hm=> ?_) (fun Hm=> ?_)
      ·have hmx:max x.a x.b=((p++ [i]).length:Int)-1:=by rw[LJ];simp only[decide_eq_true_eq,beq_iff_eq]at Hm;split at Hm<;>omega
       have XE:x.a.toNat<p.length+1:=by omega
       have XF:x.b.toNat<p.length+1:=by omega
       have hra:=Dd hC LJ XE
       have vc:=Dd hC LJ XF
       have XG:=AU Pj (show x.a.toNat<(p++ [i]).length by omega)
       have Jr:=AU Pj (show x.b.toNat<(p++ [i]).length by omega)
       refine SW.dd 7 rfl (fun _=>Ev.move (.mk rfl)) ?_;refine SW.slot 58 (.bool true) rfl (congrArg Value.bool rfl) ?_;refine SW.gt 8 _ np ns rfl rfl rfl (fun R _=>Ev.cN (.mk rfl) hG trivial (by rfl)) (by kernel_rfl) rfl ?_;refine SW.slot 59 _ rfl (bM rfl _) ?_;refine SW.gt 9 _ np ns rfl rfl rfl (fun R _=>Ev.aD (.mk rfl) pH) (by kernel_rfl) rfl ?_;refine SW.slot 60 _ rfl (bM rfl _) ?_;refine SW.gt 10 _ np ns rfl rfl rfl (fun R _=>Ev.cN (.mk rfl) bP trivial (by rfl)) (by kernel_rfl) rfl ?_;refine SW.slot 61 _ rfl (bM rfl _) ?_;refine SW.gt 11 _ np ns rfl rfl rfl (fun R _=>Ev.cN (.mk rfl) bE trivial (by rfl)) (by kernel_rfl) rfl ?_;refine SW.slot 62 _ rfl (bM rfl _) ?_;refine SW.gt 12 _ np ns rfl rfl rfl (fun R _=>Ev.aD (.mk rfl) lL) (by kernel_rfl) rfl ?_;refine SW.slot 63 _ rfl (bM rfl _) ?_;refine SW.gt 13 _ np ns rfl rfl rfl (fun R _=>Ev.cN (.mk rfl) bP trivial (by rfl)) (by kernel_rfl) rfl ?_;refine SW.slot 64 _ rfl (bM rfl _) ?_;refine SW.gt 14 _ np ns rfl rfl rfl (fun R _=>Ev.cK (k:=x.a.toNat) (.mk rfl) (.mk rfl) bE cr (by omega) (by omega)) (by kernel_rfl) rfl ?_;refine SW.slot 65 _ rfl (bM rfl _) ?_;refine SW.gt 15 _ np ns rfl rfl rfl (fun R _=>Ev.hS (.mk rfl) bP trivial (by omega) (qB hra)) (by kernel_rfl) rfl ?_;refine SW.slot 66 _ rfl (bM rfl _) ?_;refine SW.gt 16 _ np ns rfl rfl rfl (fun R _=>Ev.cN (.mk rfl) bE trivial (by rfl)) (by kernel_rfl) rfl ?_;refine SW.slot 67 _ rfl (bM rfl _) ?_;refine SW.gt 17 _ np ns rfl rfl rfl (fun R _=>Ev.aD (.mk rfl) lM) (by kernel_rfl) rfl ?_;refine SW.slot 68 _ rfl (bM rfl _) ?_;refine SW.gt 18 _ np ns rfl rfl rfl (fun R _=>Ev.cN (.mk rfl) bP trivial (by rfl)) (by kernel_rfl) rfl ?_;refine SW.slot 69 _ rfl (bM rfl _) ?_;refine SW.gt 19 _ np ns rfl rfl rfl (fun R _=>Ev.cK (k:=x.b.toNat) (.mk rfl) (.mk rfl) bE cr (by omega) (by omega)) (by kernel_rfl) rfl ?_;refine SW.slot 70 _ rfl (bM rfl _) ?_;refine SW.gt 20 _ np ns rfl rfl rfl (fun R _=>Ev.hS (.mk rfl) bP trivial (by omega) (qB vc)) (by kernel_rfl) rfl ?_;refine SW.slot 71 _ rfl (bM rfl _) ?_;refine SW.gt 21 _ np ns rfl rfl rfl (fun R _=>Ev.call (AQ vl L x.kind _ _ XG Jr) Z4 (.cons (.mk rfl) (.cons (.mk rfl) (.cons (.mk rfl) (.cons (.mk rfl) .nil))))) (by kernel_rfl) rfl ?_;refine SW.slot 72 _ rfl (bM rfl _) ?_;refine SW.gt 22 _ np ns rfl rfl rfl (fun R _=>Ev.not (.mk rfl)) (by kernel_rfl) rfl ?_;refine SW.slot 73 _ rfl (bM rfl _) ?_;refine SW.dd 23 rfl (fun _=>Ev.fB (.mk rfl) rfl (.mk rfl)) ?_;refine SW.done (by kernel_rfl) ?_;refine St.aA ?_;refine St.cond _ rfl (fun BG=> ?_) (fun BG=> ?_)
       ·skip
        have TW:pe L (p++ [i]) x=false:=by unfold pe;rw[decide_eq_true hmx];simpa using BG
        have pP:okB L q.aZ (p++ [i])=false:=by unfold okB;rw[List.all_eq_false];exact⟨x,Eu,by rw[TW];decide⟩
        have TU:Fu L q.aZ vr p i=false:=by unfold Fu;rw[pP,Bool.and_false]
        have cE:Oc=(List.range (i+1)).foldl (mi L q.aZ vr ws p) O:=by rw[fold_succ,←Ph,mi,if_neg (by omega),TU];rfl
        refine St.sr ?_;refine St.ak ?_;refine St.nn (St.exit (St.Jy rfl (St.aF (St.aF (St.bH (St.aA (St.sr ?_)))))));refine St.mv ?_;refine St.nn ?_;refine St.zA _ rfl rfl ?_;refine St.skip (St.aN (St.aA (St.rg ?_)));refine St.ee Ev.a0 ?_;refine St.mv ?_;refine St.nn ?_;refine St.jb (i+1) (C,wo,Hk,Oc) ⟨by omega,ZN,xA (B:=C) (i:=i) (by rw[LJ];exact hC),Qz,NT,Hl,cE⟩
       ·skip
        have LH:pe L (p++ [i]) x=true:=by unfold pe;rw[decide_eq_true hmx];simpa using BG
        refine St.skip (St.aN (St.aA (St.rg ?_)));refine St.ee Ev.a0 ?_;refine St.mv ?_;refine St.nn ?_;refine St.aH (j+1) ⟨by omega,fun z hz=>by rw[bI hx]at hz;rcases List.mem_append.1 hz with h|h;exact eP z h;rw[List.mem_singleton.1 h];exact LH⟩
      ·have LH:pe L (p++ [i]) x=true:=by unfold pe;rw[decide_eq_false (by rw[LJ];simp only[decide_eq_false_iff_not,beq_eq_false_iff_ne]at Hm;split at Hm<;>omega)];rfl
       refine SW.dd 7 rfl (fun _=>Ev.move (.mk rfl)) ?_;refine SW.slot 58 (.bool false) rfl (congrArg Value.bool rfl) ?_;refine SW.gt 8 undef np ns rfl rfl rfl (fun R hg=>by cases hg) (by kernel_rfl) rfl ?_;refine SW.slot 59 undef rfl (ag rfl _) ?_;refine SW.gt 9 undef np ns rfl rfl rfl (fun R hg=>by cases hg) (by kernel_rfl) rfl ?_;refine SW.slot 60 undef rfl (ag rfl _) ?_;refine SW.gt 10 undef np ns rfl rfl rfl (fun R hg=>by cases hg) (by kernel_rfl) rfl ?_;refine SW.slot 61 undef rfl (ag rfl _) ?_;refine SW.gt 11 undef np ns rfl rfl rfl (fun R hg=>by cases hg) (by kernel_rfl) rfl ?_;refine SW.slot 62 undef rfl (ag rfl _) ?_;refine SW.gt 12 undef np ns rfl rfl rfl (fun R hg=>by cases hg) (by kernel_rfl) rfl ?_;refine SW.slot 63 undef rfl (ag rfl _) ?_;refine SW.gt 13 undef np ns rfl rfl rfl (fun R hg=>by cases hg) (by kernel_rfl) rfl ?_;refine SW.slot 64 undef rfl (ag rfl _) ?_;refine SW.gt 14 undef np ns rfl rfl rfl (fun R hg=>by cases hg) (by kernel_rfl) rfl ?_;refine SW.slot 65 undef rfl (ag rfl _) ?_;refine SW.gt 15 undef np ns rfl rfl rfl (fun R hg=>by cases hg) (by kernel_rfl) rfl ?_;refine SW.slot 66 undef rfl (ag rfl _) ?_;refine SW.gt 16 undef np ns rfl rfl rfl (fun R hg=>by cases hg) (by kernel_rfl) rfl ?_;refine SW.slot 67 undef rfl (ag rfl _) ?_;refine SW.gt 17 undef np ns rfl rfl rfl (fun R hg=>by cases hg) (by kernel_rfl) rfl ?_;refine SW.slot 68 undef rfl (ag rfl _) ?_;refine SW.gt 18 undef np ns rfl rfl rfl (fun R hg=>by cases hg) (by kernel_rfl) rfl ?_;refine SW.slot 69 undef rfl (ag rfl _) ?_;refine SW.gt 19 undef np ns rfl rfl rfl (fun R hg=>by cases hg) (by kernel_rfl) rfl ?_;refine SW.slot 70 undef rfl (ag rfl _) ?_;refine SW.gt 20 undef np ns rfl rfl rfl (fun R hg=>by cases hg) (by kernel_rfl) rfl ?_;refine SW.slot 71 undef rfl (ag rfl _) ?_;refine SW.gt 21 undef np ns rfl rfl rfl (fun R hg=>by cases hg) (by kernel_rfl) rfl ?_;refine SW.slot 72 undef rfl (ag rfl _) ?_;refine SW.gt 22 undef np ns rfl rfl rfl (fun R hg=>by cases hg) (by kernel_rfl) rfl ?_;refine SW.slot 73 undef rfl (ag rfl _) ?_;refine SW.dd 23 rfl (fun _=>Ev.oc (.mk rfl) rfl (.mk rfl)) ?_;refine SW.done (by kernel_rfl) ?_;refine St.aA ?_;refine St.cond _ rfl (fun BG=> ?_) (fun BG=> ?_)
       ·skip
        cases BG
       ·skip
        refine St.skip (St.aN (St.aA (St.rg ?_)));refine St.ee Ev.a0 ?_;refine St.mv ?_;refine St.nn ?_;refine St.aH (j+1) ⟨by omega,fun z hz=>by rw[bI hx]at hz;rcases List.mem_append.1 hz with h|h;exact eP z h;rw[List.mem_singleton.1 h];exact LH⟩
     ·try simp only[aC]at qD
      have pP:okB L q.aZ (p++ [i])=true:=by unfold okB;rw[List.all_eq_true];intro z hz;exact eP z (by rw[List.take_of_length_le (by omega)];exact hz)
      have TU:Fu L q.aZ vr p i=true:=by unfold Fu;rw[Ok,ZM,pP];rfl
      refine St.exit (St.aF (St.aF (St.bH (St.aA (St.sr ?_)))));refine St.mv ?_;refine St.nn ?_;refine St.Mn _ rfl rfl ?_;refine St.dup (sl gi vl L) ?_;refine St.dup (sl gz q.vv.1 q.vars) ?_;refine St.dup (sl iH q.kv.1 q.aZ) ?_
      obtain⟨T3,ZO⟩:∃T3,T3=vO L q.aZ ws (p++ [i]) Oc:=⟨_,rfl⟩
      refine St.rg ?_;refine St.ee (Ev.l0 (.mk rfl) Tryz.underlying80) ?_;refine St.mv ?_;refine St.ee Ev.a0 ?_;refine St.slot 79 (iv (((p++ [i]).length:Nat):Int)) rfl (congrArg iv (by rw[LJ];rfl)) ?_;refine St.dU (ih ws.length (by omega) ws (p++ [i]) Oc C wo Hk T3 rfl ZO (by rw[LJ];exact jJ) (by rw[LJ];omega) ZN (by rw[LJ];exact hC) Pj Qz NT Hl (fun _=>by omega)) TF (.mk rfl) (.cons (.mk rfl) .nil) rfl ?_;rintro v80 _ ⟨C3,vo3,us3,hC3,ZP,ZQ,ZR,rfl⟩;refine St.TL ?_
      have cE:T3=(List.range (i+1)).foldl (mi L q.aZ vr ws p) O:=by rw[fold_succ,←Ph,mi,if_neg (by omega),TU,ZO];rfl
      have ZS:T3.length≤501:=by rw[ZO];exact Hj _ _ _ _ _ Hl (fun _=>by omega)
      refine St.nil (St.aN (St.aA (St.rg ?_)));refine St.ee Ev.a0 ?_;refine St.mv ?_;refine St.nn ?_;refine St.jb (i+1) (C3,vo3,us3,T3) ⟨by omega,hC3,xA (B:=C3) (i:=i) ZP,ZQ,ZR,ZS,cE⟩
  ·try simp only[aC]at pE
   obtain rfl:i=L.length:=by omega
   have ZL:Oc=T:=by rw[Ph,hT]
   subst ZL;refine St.exit (St.aF (St.aF (St.bH ?_)));refine St.jB ?_;refine St.rT [] [ae ba (.cells [va].toArray 57 (0,0)),row va 3 1 q.vars.length (rows aK (B)),ae bo (.cells [wo].toArray 44 (0,0)),row wo 57 1 (Oc).length (rows cC (Hk)),aG (jx aK (Hk) ((Oc).map ints)),ae bl (.cells [vl].toArray 78 (0,0)),ae bq (.cells [q.vv.1,q.kv.1].toArray 36 (0,0)),ae bt (.cells [(.func (.func 32) #[] [Value.pointer (some ⟨ba,0,none⟩),Value.pointer (some ⟨bo,0,none⟩),Value.pointer (some ⟨bl,0,none⟩),Value.pointer (some ⟨bq,0,none⟩),Value.pointer (some ⟨bt,0,none⟩)].toArray)].toArray 80 (0,0))] Tryz.results32 trivial ?_;exact⟨B,wo,Hk,hB,TT,Qz,NT,rfl⟩
end Go.Proofs.YtolmidffiegkaaaGreatDoor
namespace Go.Proofs
open Go.Shelf Go.RowKit Go.Lib
variable {P:Program}{ρ:Ren}
theorem Hn {r:Int}(h:128≤r):∃(n:Nat) (x:UInt8),(Utf8.encode r).size=n∧2≤n∧n≤4∧(Utf8.encode r).data.toList[n-1]?=some x∧128≤x.toNat:=by
 have key:∀c:Nat,128≤c→c<1114112→∃(n:Nat) (x:UInt8),(if c<0x80 then(⟨#[UInt8.ofNat c]⟩:ByteArray)else if c<0x800 then⟨#[UInt8.ofNat (0xC0+c/64),UInt8.ofNat (0x80+c%64)]⟩
  else if c<0x10000 then⟨#[UInt8.ofNat (0xE0+c/4096),UInt8.ofNat (0x80+c/64%64),UInt8.ofNat (0x80+c%64)]⟩
  else⟨#[UInt8.ofNat (0xF0+c/262144),UInt8.ofNat (0x80+c/4096%64),UInt8.ofNat (0x80+c/64%64),UInt8.ofNat (0x80+c%64)]⟩).size=n∧2≤n∧n≤4∧
  (if c<0x80 then(⟨#[UInt8.ofNat c]⟩:ByteArray)else if c<0x800 then⟨#[UInt8.ofNat (0xC0+c/64),UInt8.ofNat (0x80+c%64)]⟩
  else if c<0x10000 then⟨#[UInt8.ofNat (0xE0+c/4096),UInt8.ofNat (0x80+c/64%64),UInt8.ofNat (0x80+c%64)]⟩
  else⟨#[UInt8.ofNat (0xF0+c/262144),UInt8.ofNat (0x80+c/4096%64),UInt8.ofNat (0x80+c/64%64),UInt8.ofNat (0x80+c%64)]⟩).data.toList[n-1]?=some x∧128≤x.toNat:=by
  intro c h1 h2
  have hx:128≤(UInt8.ofNat (0x80+c%64)).toNat:=by simp[UInt8.toNat_ofNat'];omega
  rw[if_neg (by omega)]
  by_cases k:c<0x800
  ·rw[if_pos k];exact⟨2,_,rfl,by omega,by omega,rfl,hx⟩
  ·rw[if_neg k]
   by_cases k2:c<0x10000
   ·rw[if_pos k2];exact⟨3,_,rfl,by omega,by omega,rfl,hx⟩
   ·rw[if_neg k2];exact⟨4,_,rfl,by omega,by omega,rfl,hx⟩
 unfold Utf8.encode
 by_cases hv:Utf8.valid r=true
 ·simp only[hv,if_true]
  refine key r.toNat (by omega) ?_
  simp[Utf8.valid]at hv
  omega
 ·simp only[hv]
  exact key Utf8.runeError (by decide) (by decide)
theorem r6 {w:World}{s d:TypeId}{k:IntKind}{r:Int}(hs:P.underlying s=some (.int k))(hd:P.underlying d=some .string):(convert s d (.int k r)).run P w= .ok (.string (Utf8.encode r)) w:=by
 simp[convert,run_underlying hs,run_underlying hd,Conv.intToString]
theorem Ho {w:World}{t:TypeId}{s:ByteArray}{i:Int}{k:Nat}{b:UInt8}(ht:P.underlying t=some .string)(hi:i=k)(hb:s.data.toList[k]?=some b):(Instr.index t (.string s) (.int .i64 i)).run P w= .ok (.int .u8 (b.toNat:Int)) w:=by
 subst hi
 have iW:k<s.size:=by have:=(List.getElem?_eq_some_iff.1 hb).1;rwa[←Lib.size_eq]at this
 have h1:s[k]?=some b:=by
  rw[ByteArray.getElem?_lt' _ _ iW]
  have:=(List.getElem?_eq_some_iff.1 hb).2
  simpa[ByteArray.getElem_eq_getElem_data]using this
 simp[Instr.index,asIntOf,run_underlying ht,h1]
theorem vd {l:List UInt8}{c:UInt8}(h:∀x∈l,x≠c):Lib.indexByte l c<0:=by
 have h1:=Lib.contains_iff_indexByte l c
 have h2:l.contains c=false:=by
  rw[Bool.eq_false_iff];intro h3;exact h c (List.contains_iff_mem.1 h3) rfl
 rw[h2]at h1
 have:=of_decide_eq_false h1.symm
 omega
set_option maxHeartbeats 8000000 in
set_option maxRecDepth 1000000 in
theorem Any.uK (L:Lays.n152 P ρ)(s:ByteArray)(r:Int)(w:World)(h0:128≤r)(h1:r≠65533)(hv:Lib.validRune r=true)(hs:∀(j:Nat) b,s.data.toList[j]?=some b→b.toNat<128)(fR:s.size≤100):
 Calls P (ρ.f 152) #[.string s,.int .i32 r] w fun e w'=>e= .returned (.int .i64 (-1))∧∃k,w'=w.drewN k:=by
 have t3:=L.t3;have a3:=L.a3;have z3:=L.z3;have v3:=L.v3
 have t4:=L.t4;have a4:=L.a4;have z4:=L.z4;have v4:=L.v4
 have t5:=L.t5;have a5:=L.a5;have z5:=L.z5;have v5:=L.v5
 have t9:=L.t9;have a9:=L.a9;have z9:=L.z9;have v9:=L.v9
 have t21:=L.t21;have a21:=L.a21;have z21:=L.z21;have v21:=L.v21
 have ZT:∀args w,(callFunc (ρ.f 137) args).run P w= .ok (.enter (ρ.f 137) args) w:=enters_of L.f137 (by kernel_rfl) rfl
 have ZU:∀args w,(callFunc (ρ.f 119) args).run P w= .ok (.enter (ρ.f 119) args) w:=enters_of L.f119 (by kernel_rfl) rfl
 have mixed:=L.mixed
 have d1:decide ((0:Int)≤r)=true:=decide_eq_true (by omega)
 have d2:decide (r<128)=false:=decide_eq_false (by omega)
 have d3:(r==(65533:Int))=false:=beq_eq_false_iff_ne.2 h1
 obtain⟨n,x,hn,hn2,hn4,hx,NV⟩:=Hn h0
 have hc:=fun(w:World)=>r6 (P:=P) (w:=w) (r:=r) t21 t9
 generalize Utf8.encode r=rs at hn hx hc
 subst hn
 go_enter L.f152,Body.n152_ntmps ρ
 go_wp2_with (go_at_fn (ρ.f 119);refine(Any.utf8_ValidRune {L with} _ _).mono ?_;rintro e w' ⟨rfl,hw⟩;rw[hw,hv])
 subst hw;refine wp_scope_straight ?_
 go_wp2
 by_cases hl:rs.size-1<s.size
 ·have hi0:(0:Int)≤(rs.size:Int)-1:=by omega
  have Wm:(rs.size:Int)-1<(s.size:Int):=by omega
  obtain⟨y,hy⟩:∃y:UInt8,s.data.toList[rs.size-1]?=some y:=⟨_,List.getElem?_eq_getElem (by rw[←Lib.size_eq];exact hl)⟩
  have adL:=hs _ _ hy
  refine wp_loop_rounds 1 ?_;rw[rounds_succ]
  go_wp2
  refine wp_scope_straight ?_
  have kx:∀w,(Instr.index (ρ.t 9) (.string rs) (.int .i64 ((rs.size:Int)-1))).run P w= .ok (.int .u8 (x.toNat:Int)) w:=fun w=>Ho t9 (by omega) hx
  have ky:∀w,(Instr.index (ρ.t 9) (.string s) (.int .i64 ((rs.size:Int)-1))).run P w= .ok (.int .u8 (y.toNat:Int)) w:=fun w=>Ho t9 (by omega) hy
  have fz:((y.toNat:Int)==(x.toNat:Int))=false:=beq_eq_false_iff_ne.2 (by omega)
  go_wp2
  go_region_o
  have ZT:∀args w,(callFunc (ρ.f 137) args).run P w= .ok (.enter (ρ.f 137) args) w:=enters_of L.f137 (by kernel_rfl) rfl
  have AP:IntKind.i64.wrap (rs.size:Int)=(rs.size:Int):=by
   simp only[IntKind.wrap,IntKind.bits,IntKind.signed]
   simp
   omega
  have s1:(0:Int)≤(rs.size:Int)-1+1:=by omega
  have s2:(rs.size:Int)-1+1≤(s.size:Int):=by omega
  have s3:(0:Int)≤(rs.size:Int):=by omega
  have s4:(rs.size:Int)≤(s.size:Int):=by omega
  obtain⟨z,hz⟩:∃z,Lib.indexByte (s.extract rs.size s.size).data.toList ((x.toNat:Int).toNat.toUInt8)=z:=⟨_,rfl⟩
  have r5:z<0:=by
   rw[←hz]
   refine vd fun b hb=> ?_
   have Fo:b∈s.data.toList:=by
    have:(s.extract rs.size s.size).data.toList=(s.data.toList.drop rs.size).take (s.size-rs.size):=by simp
    rw[this]at hb;exact List.mem_of_mem_drop (List.mem_of_mem_take hb)
   obtain⟨k,hk⟩:=List.getElem?_of_mem Fo
   have h5:=hs k b hk
   intro e
   have h6:((x.toNat:Int)).toNat.toUInt8=x:=by simp
   rw[h6]at e;rw[e]at h5;omega
  go_wp2
  go_region_with_o (
   go_at_fn (ρ.f 137)
   refine(Any.strings_IndexByte {L with} _ _ _).mono ?_;rintro e w' ⟨rfl,hw⟩
   rw[hw,hz])
  go_wp2
  simp only[Exit.noGoto,Exit.inBlock,Exit.then]
  go_ret
  exact⟨rfl,2,rfl⟩
 ·have Wm:decide ((rs.size:Int)-1<(s.size:Int))=false:=decide_eq_false (by omega)
  refine wp_loop_rounds 1 ?_;rw[rounds_succ]
  go_wp2
  show Exit.inBlock 0 _ Exit.ret _ _
  go_ret
  exact⟨rfl,0,rfl⟩
set_option maxHeartbeats 8000000 in
set_option maxRecDepth 1000000 in
theorem Any.ve (L:Lays.n152 P ρ)(s:ByteArray)(r:Int)(w:World)(h0:128≤r)(h1:r≠65533)(hv:Lib.validRune r=false):
 Calls P (ρ.f 152) #[.string s,.int .i32 r] w fun e w'=>e= .returned (.int .i64 (-1))∧∃k,w'=w.drewN k:=by
 have t3:=L.t3;have a3:=L.a3;have z3:=L.z3;have v3:=L.v3
 have t4:=L.t4;have a4:=L.a4;have z4:=L.z4;have v4:=L.v4
 have t5:=L.t5;have a5:=L.a5;have z5:=L.z5;have v5:=L.v5
 have t9:=L.t9;have a9:=L.a9;have z9:=L.z9;have v9:=L.v9
 have t21:=L.t21;have a21:=L.a21;have z21:=L.z21;have v21:=L.v21
 have ZU:∀args w,(callFunc (ρ.f 119) args).run P w= .ok (.enter (ρ.f 119) args) w:=enters_of L.f119 (by kernel_rfl) rfl
 have d1:decide ((0:Int)≤r)=true:=decide_eq_true (by omega)
 have d2:decide (r<128)=false:=decide_eq_false (by omega)
 have d3:(r==(65533:Int))=false:=beq_eq_false_iff_ne.2 h1
 go_enter L.f152,Body.n152_ntmps ρ
 go_wp2_with (go_at_fn (ρ.f 119);refine(Any.utf8_ValidRune {L with} _ _).mono ?_;rintro e w' ⟨rfl,hw⟩;rw[hw,hv])
 subst hw
 go_ret
 exact⟨rfl,0,rfl⟩
set_option maxHeartbeats 8000000 in
set_option maxRecDepth 1000000 in
theorem Any.sP (L:Lays.n152 P ρ)(s:ByteArray)(w:World)(hs:∀(j:Nat) b,s.data.toList[j]?=some b→b.toNat<128):
 Calls P (ρ.f 152) #[.string s,.int .i32 65533] w fun e w'=>e= .returned (.int .i64 (-1))∧∃pos,w'=w.iter s pos:=by
 have HA:Aside (∀(j:Nat) b,s.data.toList[j]?=some b→b.toNat<128):=hs
 clear hs
 have t3:=L.t3;have a3:=L.a3;have z3:=L.z3;have v3:=L.v3
 have t4:=L.t4;have a4:=L.a4;have z4:=L.z4;have v4:=L.v4
 have t5:=L.t5;have a5:=L.a5;have z5:=L.z5;have v5:=L.v5
 have t9:=L.t9;have a9:=L.a9;have z9:=L.z9;have v9:=L.v9
 have t21:=L.t21;have a21:=L.a21;have z21:=L.z21;have v21:=L.v21
 go_enter L.f152,Body.n152_ntmps ρ
 go_wp2
 go_loopg [5,6] s.size (fun g _ _ wx=>∃i:Nat,i+g=s.size∧wx=w.iter s i)
 case atStart=>exact⟨0,by omega,rfl⟩
 case round=>
  obtain⟨i,hig,rfl⟩:=hrel
  cases gk with
  |zero=>
   obtain rfl:i=s.size:=by omega
   have Pk:=run_next_end (P:=P) w s s.size
   go_wp2
   go_ret
   exact⟨rfl,_,rfl⟩
  |succ g=>
   have hi:i<s.size:=by omega
   obtain⟨x,hx⟩:∃x:UInt8,s[i]'hi=x:=⟨_,rfl⟩
   have tB:s.data.toList[i]?=some x:=by rw[←hx];exact Lib.data_getElem? s i hi
   have NV:x.toNat<128:=HA.out i x tB
   have Pk:=fun ty=>run_next_ascii (P:=P) w s i ty hi (by rw[hx];exact NV)
   rw[hx]at Pk
   have fz:((x.toNat:Int)==(65533:Int))=false:=beq_eq_false_iff_ne.2 (by omega)
   go_wp2
   go_roundg g
   case measure=>omega
   case rel=>exact⟨i+1,by omega,rfl⟩
theorem Any.r7 (L:Lays.n152 P ρ)(s:ByteArray)(r:Int)(w:World)(h0:128≤r)(hs:∀(j:Nat) b,s.data.toList[j]?=some b→b.toNat<128)(fR:s.size≤100):
 Calls P (ρ.f 152) #[.string s,.int .i32 r] w fun e w'=>e= .returned (.int .i64 (-1))∧Below w.heap.size w w':=by
 by_cases h1:r=65533
 ·subst h1
  refine(Any.sP L s w hs).mono ?_;rintro e w' ⟨rfl,pos,rfl⟩;exact⟨rfl,(Below.refl _ w).alloc (Nat.le_refl _) _⟩
 ·cases hv:Lib.validRune r with
  |true=>
   refine(Any.uK L s r w h0 h1 hv hs fR).mono ?_;rintro e w' ⟨rfl,k,rfl⟩;exact⟨rfl,rfl,rfl,rfl,Nat.le_refl _,fun _ _=>rfl⟩
  |false=>
   refine(Any.ve L s r w h0 h1 hv).mono ?_;rintro e w' ⟨rfl,k,rfl⟩;exact⟨rfl,rfl,rfl,rfl,Nat.le_refl _,fun _ _=>rfl⟩
theorem AV {w:World}{k:Nat}{s:ByteArray}{p:Nat}{o:Obj}(h:w.heap[k]?=some o):(w.iterAt k s p).heap[k]?=some (.stringIter s p):=by
 have hk:=(Array.getElem?_eq_some_iff.1 h).1
 show(w.heap.setIfInBounds k _)[k]?=_
 simp[hk]
theorem iterAt_size {w:World}{k:Nat}{s:ByteArray}{p:Nat}:(w.iterAt k s p).heap.size=w.heap.size:=by
 show(w.heap.setIfInBounds k _).size=_
 simp
theorem yZ {w wx:World}{k:Nat}{s:ByteArray}{p:Nat}(h:Below k w wx):Below k w (wx.iterAt k s p):=
 ⟨h.os,h.tape,h.output,by rw[iterAt_size];exact h.size,fun j hj=>by
  show(wx.heap.setIfInBounds k _)[j]?=_
  rw[Array.getElem?_setIfInBounds_ne (by omega)]
  exact h.block j hj⟩
theorem CF {s chars:List UInt8}{i n:Nat}(h:NoAny s chars i)(hc:∀(j:Nat) b,chars[j]?=some b→b.toNat<128)(hb:∀j,j<n→128≤J.bt s (i+j)):NoAny s chars (i+n):=by
 intro j b hj ZV
 by_cases k:j<i
 ·exact h j b k ZV
 ·have h1:=hb (j-i) (by omega)
  rw[show i+(j-i)=j by omega]at h1
  have h2:J.bt s j=b.toNat:=by unfold J.bt;rw[List.getD_eq_getElem?_getD,ZV];rfl
  rw[h2]at h1;rw[Bool.eq_false_iff];intro h3;obtain⟨q,hq⟩:=List.getElem?_of_mem (List.contains_iff_mem.1 h3)
  have:=hc q b hq
  omega
theorem Hp {B:Nat}{w w2 w3:World}(h:Below B w w2)(hB:B≤w2.heap.size)(k:Below w2.heap.size w2 w3):Below B w w3:=
 ⟨k.os.trans h.os,k.tape.trans h.tape,k.output.trans h.output,Nat.le_trans h.size k.size,fun j hj=>(k.block j (by omega)).trans (h.block j hj)⟩
end Go.Proofs
namespace Go.Proofs
open Go.Shelf Go.RowKit Go.Lib
variable {P:Program}{ρ:Ren}
set_option maxHeartbeats 16000000 in
set_option maxRecDepth 1000000 in
theorem Any.pJ (L:Lays.n153 P ρ)(s chars:ByteArray)(w:World)(h2:2≤chars.size)(AW:chars.size≤100)(h8:s.size≤8)(Hq:∀(j:Nat) b,chars.data.toList[j]?=some b→b.toNat<128):
 Calls P (ρ.f 153) #[.string s,.string chars] w fun e w'=>e= .returned (.int .i64 (Lib.indexAny s.data.toList chars.data.toList))∧Below w.heap.size w w':=by
 have HA:Aside (∀(j:Nat) b,chars.data.toList[j]?=some b→b.toNat<128):=Hq
 clear Hq
 have ad1:chars.toList.isEmpty=false:=by
  rw[Lib.toList_data]
  cases h:chars.data.toList with
  |nil=>have:=Lib.size_eq chars;rw[h,List.length_nil]at this;omega
  |cons _ _=>rfl
 have R2:((chars.size:Int)==1)=false:=beq_eq_false_iff_ne.2 (by omega)
 have h8z:decide ((8:Int)<(s.size:Int))=false:=decide_eq_false (by omega)
 have t3:=L.t3;have a3:=L.a3;have z3:=L.z3;have v3:=L.v3
 have t4:=L.t4;have a4:=L.a4;have z4:=L.z4;have v4:=L.v4
 have t5:=L.t5;have a5:=L.a5;have z5:=L.z5;have v5:=L.v5
 have t9:=L.t9;have a9:=L.a9;have z9:=L.z9;have v9:=L.v9
 have t21:=L.t21;have a21:=L.a21;have z21:=L.z21;have v21:=L.v21
 have ad2:∀args w,(callFunc (ρ.f 152) args).run P w= .ok (.enter (ρ.f 152) args) w:=enters_of L.f152 (by kernel_rfl) rfl
 have ad3:∀args w,(callFunc (ρ.f 226) args).run P w= .ok (.enter (ρ.f 226) args) w:=enters_of L.f226 (by kernel_rfl) rfl
 go_enter L.f153,Body.n153_ntmps ρ
 go_wp2_with (go_at_fn (ρ.f 226);refine(Any.strings_shouldUseASCIISet {L with} _ _).mono ?_;rintro e w' ⟨rfl,hw⟩;rw[hw,h8z])
 go_loopg [9,10] s.size (fun g _ _ wx=>∃i:Nat,i+g=s.size∧wx.heap[w.heap.size]?=some (.stringIter s i)∧Below w.heap.size w wx∧Lib.NoAny s.data.toList chars.data.toList i)
 case atStart=>exact⟨0,by omega,World.iter_heap w s 0,(Below.refl _ w).alloc (Nat.le_refl _) _,Lib.NoAny.zero _ _⟩
 case round=>
  obtain⟨i,hig,hk,TX,ma⟩:=hrel
  have HN:Aside (Lib.NoAny s.data.toList chars.data.toList i):=ma
  clear ma
  have HB:Aside (Below w.heap.size w wr):=TX
  clear TX
  cases gk with
  |zero=>
   obtain rfl:i=s.size:=by omega
   have Pk:=fun ty=>run_next_end_at (P:=P) wr w.heap.size s s.size ty hk (by omega)
   go_wp2
   go_ret
   exact⟨by rw[Lib.indexAny_none (by rw[←Lib.size_eq];exact HN.out)];rfl,HB.out⟩
  |succ g=>
   have hi:i<s.size:=by omega
   have KH:i<s.data.toList.length:=by rw[←Lib.size_eq];exact hi
   have Pk:=fun ty=>run_next_any_at (P:=P) wr w.heap.size s i ty hk hi
   obtain⟨b1,b2,b3⟩:=J.iA KH
   have zQ:=decodeL_drop s i
   have fR:=Lib.size_eq s
   rw[zQ]at b1 b2 b3
   obtain⟨r,wd,hd⟩:∃r wd,Utf8.decode s i=(r,wd):=⟨_,_,rfl⟩
   rw[hd]at Pk b1 b2 b3
   simp only at Pk b1 b2 b3
   obtain⟨w2,Pl⟩:∃w2,wr.iterAt w.heap.size s (i+wd)=w2:=⟨_,rfl⟩
   have Fk:w2.heap[w.heap.size]?=some (.stringIter s (i+wd)):=Pl▸AV hk
   have Fo:Below w.heap.size w w2:=Pl▸yZ HB.out
   rw[Pl]at Pk
   clear Pl zQ hd
   have ZW:Aside (w2.heap[w.heap.size]?=some (.stringIter s (i+wd))):=Fk
   have XH:Aside (Below w.heap.size w w2):=Fo
   clear Fk Fo
   rcases b3 with⟨c1,c2⟩|⟨c1,c2⟩
   ·obtain⟨x,tB⟩:∃x,s.data.toList[i]?=some x:=⟨_,List.getElem?_eq_getElem KH⟩
    have hbx:J.bt s.data.toList i=x.toNat:=by unfold J.bt;rw[List.getD_eq_getElem?_getD,tB];rfl
    rw[hbx]at c1 c2;obtain⟨rfl,rfl⟩:=Prod.mk.inj c2
    have Hx:Aside (s.data.toList[i]?=some x):=tB
    clear tB hbx c2
    have F8:=Lib.contains_iff_indexByte chars.data.toList x
    have NW:((x.toNat:Int)).toNat.toUInt8=x:=by simp
    cases oC:chars.data.toList.contains x
    ·rw[oC]at F8
     have iW:¬((0:Int)≤Lib.indexByte chars.data.toList x):=of_decide_eq_false F8.symm
     clear F8
     go_wp2_with (go_at_fn (ρ.f 152);refine(Any.strings_IndexRune_ascii {L with} _ _ _ (by omega) (by omega)).mono ?_;rintro e w' ⟨rfl,rfl⟩;rw[NW];dsimp only)
     go_wp2
     go_roundg g
     case measure=>omega
     case rel=>exact⟨i+1,by omega,ZW.out,XH.out,HN.out.succ Hx.out oC⟩
    ·rw[oC]at F8
     have XI:(0:Int)≤Lib.indexByte chars.data.toList x:=of_decide_eq_true F8.symm
     clear F8
     go_wp2_with (go_at_fn (ρ.f 152);refine(Any.strings_IndexRune_ascii {L with} _ _ _ (by omega) (by omega)).mono ?_;rintro e w' ⟨rfl,rfl⟩;rw[NW];dsimp only)
     go_wp2
     go_ret
     exact⟨by rw[Lib.indexAny_hit HN.out Hx.out oC];rfl,XH.out⟩
   ·have HC:Aside (∀j,j<wd→128≤J.bt s.data.toList (i+j)):=c2
    clear c2
    go_wp2_with (go_at_fn (ρ.f 152);refine(Any.r7 {L with} _ _ _ (by omega) HA.out AW).mono ?_;rintro e w3 ⟨rfl,ZX⟩;dsimp only)
    go_wp2
    go_roundg (s.size-(i+wd))
    case measure=>omega
    case rel=>exact⟨i+wd,by omega,by rw[ZX.block _ (Array.getElem?_eq_some_iff.1 ZW.out).1];exact ZW.out,Hp XH.out XH.out.size ZX,CF HN.out HA.out HC.out⟩
theorem Any.ya (L:Lays.n153 P ρ)(LK:(P.info? (ρ.t 116)).map (fun i=>(i.zero,i.size))=some (some (.agg (Array.replicate 256 (.bool false))),256))(s chars:ByteArray)(w:World)(h2:2≤chars.size)(AW:chars.size≤100)(hs:s.size<4294967281)
 (XJ:∀(j:Nat) b,chars.data.toList[j]?=some b→b.toNat<128):
 Calls P (ρ.f 153) #[.string s,.string chars] w fun e w'=>e= .returned (.int .i64 (Lib.indexAny s.data.toList chars.data.toList))∧Below w.heap.size w w':=by
 by_cases h8:s.size≤8
 ·exact Any.pJ L s chars w h2 AW h8 XJ
 ·refine(Any.strings_IndexAny_long L (zero_of_info LK).1 (zero_of_info LK).2 s chars w (by omega) (by omega) hs (by omega) XJ).mono ?_
  rintro e w' ⟨h3,h4⟩;refine⟨h3,?_⟩;rw[h4];exact((Below.refl _ _).alloc (Nat.le_refl _) _).alloc (by simp) _
set_option maxHeartbeats 4000000 in
theorem Any.sQ (L:Lays.n150 P ρ)(LK:(P.info? (ρ.t 116)).map (fun i=>(i.zero,i.size))=some (some (.agg (Array.replicate 256 (.bool false))),256))(s chars:ByteArray)(w:World)(h2:2≤chars.size)(AW:chars.size≤100)(hs:s.size<4294967281)
 (XJ:∀(j:Nat) b,chars.data.toList[j]?=some b→b.toNat<128):
 Calls P (ρ.f 150) #[.string s,.string chars] w fun e w'=>e= .returned (.bool (Lib.containsAny s.data.toList chars.data.toList))∧Below w.heap.size w w':=by
 have c:=Any.ya {L with} LK s chars w h2 AW hs XJ
 have t3:=L.t3;have a3:=L.a3;have z3:=L.z3;have v3:=L.v3
 have t4:=L.t4;have a4:=L.a4;have z4:=L.z4;have v4:=L.v4
 have t9:=L.t9;have a9:=L.a9;have z9:=L.z9;have v9:=L.v9
 have ad4:∀args w,(callFunc (ρ.f 153) args).run P w= .ok (.enter (ρ.f 153) args) w:=enters_of L.f153 (by kernel_rfl) rfl
 go_enter L.f150,Body.n150_ntmps ρ
 go_wp2_with (go_at_fn (ρ.f 153);refine c.mono ?_;rintro e w' ⟨rfl,hw⟩)
 go_ret
 exact⟨rfl,hw⟩
theorem r8 (s:List UInt8):Lib.containsAny s J.sH=s.any J.dV:=by
 rw[Bool.eq_iff_iff];unfold Lib.containsAny;rw[decide_eq_true_iff,List.any_eq_true]
 constructor
 ·have ZY:∀l:List UInt8,0≤Lib.indexAny l J.sH→∃b,b∈l∧J.dV b=true:=by
   intro l
   induction l with
   |nil=>intro h;exact absurd h (by decide)
   |cons c l ih=>
    intro h;unfold Lib.indexAny at h
    have XI:=Lib.indexAny_ge J.sH l
    split at h
    ·rename_i LD
     exact⟨c,List.mem_cons_self ..,by unfold J.dV;exact LD⟩
    ·split at h
     ·omega
     ·rename_i he
      have fz:Lib.indexAny l J.sH≠ -1:=fun e=>he (by rw[e];rfl)
      obtain⟨b,hb,hc⟩:=ih (by omega);exact⟨b,List.mem_cons_of_mem _ hb,hc⟩
  exact ZY s
 ·rintro ⟨b,hb,hc⟩
  rcases Int.lt_or_le (Lib.indexAny s J.sH) 0 with h|h
  ·exfalso
   have key:∀l:List UInt8,Lib.indexAny l J.sH<0→∀b∈l,J.dV b=false:=by
    intro l
    induction l with
    |nil=>intro _ b hb;cases hb
    |cons c l ih=>
     intro h b hb;unfold Lib.indexAny at h
     have XI:=Lib.indexAny_ge J.sH l
     split at h
     ·omega
     ·rename_i LD
      rcases List.mem_cons.1 hb with rfl|hb
      ·unfold J.dV;simpa using LD
      ·refine ih ?_ b hb
       split at h
       ·rename_i he;rw[beq_iff_eq]at he;omega
       ·rename_i he;omega
   rw[key s h b hb]at hc;cases hc
  ·exact h
end Go.Proofs
namespace Go.Proofs
open Go.Shelf
def Tryz.AX:Go.Shelf.Ren:=⟨fun|195=>61|n=>n,fun|9=>9|3=>3|0=>0|4=>4|n=>n,fun|n=>n⟩
theorem Tryz.LL:Go.Proofs.Lays.n195 Tryz.prog Tryz.AX:={
 mixed:=by kernel_rfl
 f195:=Tryz.func61.trans (congrArg some (by kernel_rfl))
 t0:=S9
 a0:=Tryz.isAgg0
 z0:=Tryz.sizeOf0
 v0:=Tryz.zeroValue0
 t3:=bP
 a3:=Tryz.isAgg3
 z3:=Tryz.sizeOf3
 v3:=Tryz.zeroValue3
 t4:=sJ
 a4:=Tryz.isAgg4
 z4:=Tryz.sizeOf4
 v4:=Tryz.zeroValue4
 t9:=df
 a9:=Tryz.isAgg9
 z9:=Tryz.sizeOf9
 v9:=Tryz.zeroValue9}
def Tryz.nb:Go.Shelf.Ren:=⟨fun|196=>62|259=>90|n=>n,fun|9=>9|4=>4|3=>3|5=>5|12=>12|119=>167|0=>0|46=>171|139=>170|138=>169|53=>175|n=>n,fun|3=>1|4=>2|n=>n⟩
theorem Tryz.LM:Go.Proofs.Lays.n196 Tryz.prog Tryz.nb:={
 mixed:=by kernel_rfl
 f196:=Tryz.func62.trans (congrArg some (by kernel_rfl))
 f259:=Tryz.func90.trans (congrArg some (by kernel_rfl))
 t0:=S9
 a0:=Tryz.isAgg0
 z0:=Tryz.sizeOf0
 v0:=Tryz.zeroValue0
 t3:=bP
 a3:=Tryz.isAgg3
 z3:=Tryz.sizeOf3
 v3:=Tryz.zeroValue3
 t4:=sJ
 a4:=Tryz.isAgg4
 z4:=Tryz.sizeOf4
 v4:=Tryz.zeroValue4
 t5:=DG
 a5:=Tryz.isAgg5
 z5:=Tryz.sizeOf5
 v5:=Tryz.zeroValue5
 t9:=df
 a9:=Tryz.isAgg9
 z9:=Tryz.sizeOf9
 v9:=Tryz.zeroValue9
 t12:=Tryz.underlying12
 a12:=Tryz.isAgg12
 z12:=Tryz.sizeOf12
 v12:=Tryz.zeroValue12
 t46:=zb
 a46:=Tryz.isAgg171
 z46:=Tryz.sizeOf171
 v46:=Tryz.zeroValue171
 t53:=mg
 a53:=Tryz.isAgg175
 z53:=Tryz.sizeOf175
 v53:=Tryz.zeroValue175
 t119:=Tryz.underlying167
 a119:=Tryz.isAgg167
 z119:=Tryz.sizeOf167
 t138:=Tryz.underlying169
 a138:=Tryz.isAgg169
 z138:=Tryz.sizeOf169
 v138:=Tryz.zeroValue169
 t139:=Tryz.underlying170
 a139:=Tryz.isAgg170
 z139:=Tryz.sizeOf170
 v139:=Tryz.zeroValue170
 g3:=by kernel_rfl
 g4:=by kernel_rfl}
def Tryz.rj:Go.Shelf.Ren:=⟨fun|150=>63|153=>91|152=>113|226=>114|227=>87|228=>110|137=>131|119=>132|224=>133|225=>134|217=>144|266=>148|n=>n,fun|9=>9|4=>4|3=>3|5=>5|21=>21|117=>160|116=>159|0=>0|46=>171|124=>163|n=>n,fun|n=>n⟩
theorem Tryz.LN:Go.Proofs.Lays.n150 Tryz.prog Tryz.rj:={
 mixed:=by kernel_rfl
 f119:=Tryz.func132.trans (congrArg some (by kernel_rfl))
 f137:=Tryz.func131.trans (congrArg some (by kernel_rfl))
 f150:=Tryz.func63.trans (congrArg some (by kernel_rfl))
 f152:=Tryz.func113.trans (congrArg some (by kernel_rfl))
 f153:=Tryz.func91.trans (congrArg some (by kernel_rfl))
 f217:=Tryz.func144.trans (congrArg some (by kernel_rfl))
 f224:=Tryz.func133.trans (congrArg some (by kernel_rfl))
 f225:=Tryz.func134.trans (congrArg some (by kernel_rfl))
 f226:=Tryz.func114.trans (congrArg some (by kernel_rfl))
 f227:=Tryz.func87.trans (congrArg some (by kernel_rfl))
 f228:=Tryz.func110.trans (congrArg some (by kernel_rfl))
 f266:=Tryz.func148.trans (congrArg some (by kernel_rfl))
 t0:=S9
 a0:=Tryz.isAgg0
 z0:=Tryz.sizeOf0
 v0:=Tryz.zeroValue0
 t3:=bP
 a3:=Tryz.isAgg3
 z3:=Tryz.sizeOf3
 v3:=Tryz.zeroValue3
 t4:=sJ
 a4:=Tryz.isAgg4
 z4:=Tryz.sizeOf4
 v4:=Tryz.zeroValue4
 t5:=DG
 a5:=Tryz.isAgg5
 z5:=Tryz.sizeOf5
 v5:=Tryz.zeroValue5
 t9:=df
 a9:=Tryz.isAgg9
 z9:=Tryz.sizeOf9
 v9:=Tryz.zeroValue9
 t21:=Tryz.underlying21
 a21:=Tryz.isAgg21
 z21:=Tryz.sizeOf21
 v21:=Tryz.zeroValue21
 t46:=zb
 a46:=Tryz.isAgg171
 z46:=Tryz.sizeOf171
 v46:=Tryz.zeroValue171
 t116:=Tryz.underlying159
 a116:=Tryz.isAgg159
 z116:=Tryz.sizeOf159
 t117:=Tryz.underlying160
 a117:=Tryz.isAgg160
 z117:=Tryz.sizeOf160
 v117:=Tryz.zeroValue160
 t124:=Tryz.underlying163
 a124:=Tryz.isAgg163
 z124:=Tryz.sizeOf163
 v124:=Tryz.zeroValue163}
end Go.Proofs
namespace Go.Proofs.YtolmidffiegkaaaGreatDoor
open Go Go.J
theorem ZZ:aW Tryz.prog 61:=⟨_,Tryz.func61,rfl,by kernel_rfl⟩
theorem Za:aW Tryz.prog 62:=⟨_,Tryz.func62,rfl,by kernel_rfl⟩
theorem Zb:aW Tryz.prog 63:=⟨_,Tryz.func63,rfl,by kernel_rfl⟩
def Pm (w:World):Prop:=Lib.Utf8Tabs (Tryz.nb.g 3) (Tryz.nb.g 4) w
abbrev u8:dm:=dm.of Pm
theorem Pn:(Tryz.prog.info? (Tryz.rj.t 116)).map (fun i=>(i.zero,i.size))=some (some (.agg (Array.replicate 256 (.bool false))),256):=by kernel_rfl
theorem De (s:cQ):(⟨s.toArray⟩:ByteArray).size=s.length:=by simp[ByteArray.size]
theorem LO (s:cQ)(hs:s.length<9223372036854775807):gw Tryz.prog 61 #[sv s] [u8] (iv (Lib.runeCountL s)):=
 gw.n9 fun w _=>by
  refine(Any.utf8_RuneCountInString Tryz.LL ⟨s.toArray⟩ w (by rw[De];exact hs)).mono ?_;rintro e w' ⟨rfl,pos,rfl⟩;exact⟨rfl,(RowKit.Below.refl _ w).alloc (Nat.le_refl _) _⟩
theorem CG (s:cQ)(hs:s.length<9223372036854775807):gw Tryz.prog 62 #[sv s] [u8] (.bool (Lib.validD s)):=
 gw.n9 fun w hw=>Any.utf8_ValidString Tryz.LM ⟨s.toArray⟩ w (by rw[De];omega) hw
theorem Hr (s:cQ)(hs:s.length<4294967281):gw Tryz.prog 63 #[sv s,sv sH] [u8] (.bool (s.any dV)):=
 gw.n9 fun w _=>by
  have:=Any.sQ Tryz.LN Pn ⟨s.toArray⟩ ⟨sH.toArray⟩ w (by decide) (by decide) (by rw[De];exact hs) (fun j b h=>by
   have:∀b∈sH,b.toNat<128:=by decide
   exact this b (List.mem_of_getElem? h))
  rw[←r8];exact this
theorem Hs (s:cQ):s.length≤4*Lib.runeCountL s:=by
 have key:∀(f p:Nat),s.length-p≤f→s.length-p≤4*Lib.runeCountFrom ⟨s.toArray⟩ f p:=by
  intro f
  induction f with
  |zero=>intro p h;omega
  |succ f ih=>
   intro p h
   by_cases hp:p<s.length
   ·have fR:p<(⟨s.toArray⟩:ByteArray).size:=by rw[De];exact hp
    obtain⟨d1,d2,_⟩:=iA hp
    have zQ:=Lib.decodeL_drop ⟨s.toArray⟩ p
    simp only at zQ
    have hw:(Lib.decodeL (s.drop p)).2≤4:=by
     rw[qi]
     rcases qj (n:=s.length-p) (kW s p) (kW s (p+1)) (kW s (p+2)) (kW s (p+3))with⟨_,e⟩|⟨_,_,_,_,e⟩|⟨_,r,_,e⟩|⟨_,r,_,e⟩|⟨_,r,_,e⟩<;>rw[e]<;>simp
    have:=ih (p+(Lib.decodeL (s.drop p)).2) (by omega)
    rw[Lib.runeCountFrom,if_pos fR,←zQ];omega
   ·omega
 have:=key s.length 0 (by omega)
 have e:Lib.runeCountFrom ⟨s.toArray⟩ s.length 0=Lib.runeCountL s:=by unfold Lib.runeCountL Lib.runeCount;congr 1
 rw[e]at this;omega
theorem AY (s:cQ):(((decide ((1:Int)≤(Lib.runeCountL s:Int))&&decide ((Lib.runeCountL s:Int)≤30))&&Lib.validD s)&& !(s.any dV))=isWord s:=by
 rw[la]
 have h1:decide ((1:Int)≤(Lib.runeCountL s:Int))=decide (1≤Lib.runeCountL s):=decide_eq_decide.2 (by omega)
 have h2:decide ((Lib.runeCountL s:Int)≤30)=decide (Lib.runeCountL s≤30):=decide_eq_decide.2 (by omega)
 rw[h1,h2]
theorem xB (s:cQ)(hs:s.length<9223372036854775807):gw Tryz.prog 26 #[sv s] [u8] (.bool (isWord s)):=by
 refine gw.body (args:=[sv s]) (ds:=[u8]) 21 Tryz.func26 rfl Tryz.ntmps26 rfl (fun c jJ=> ?_)
 change St _ _ (Mm c [aG u8]) _
 refine St.sr ?_;refine St.ak ?_;refine St.nn (St.sr ?_);refine St.mv ?_;refine St.ee (Ev.jZ jJ (LO s hs) ZZ (.cons (.mk rfl) .nil)) ?_;refine St.ak ?_;refine St.nn (St.sr ?_);refine St.mv ?_;refine St.ee Ev.qV ?_;refine St.mv ?_;refine St.gt _ rfl rfl (fun hg=>Ev.move (.mk rfl)) rfl ?_;refine St.gt _ rfl rfl (fun hg=>Ev.leq (aL.gv rfl hg) (.mk rfl)) rfl ?_;refine St.ee Ev.n0 ?_;refine St.mv ?_;refine St.gt _ rfl rfl (fun hg=>Ev.move (.mk rfl)) rfl ?_;refine St.gt _ rfl rfl (fun hg=>Ev.jZ jJ (CG s hs) Za (.cons (aL.gv rfl hg) .nil)) rfl ?_;refine St.ee Ev.n0 ?_;refine St.mv ?_;refine St.gt _ rfl rfl (fun hg=>Ev.move (.mk rfl)) rfl ?_;refine St.gt _ rfl rfl (fun hg=>Ev.jZ jJ (Hr s (by have hq:=Hs s;first|omega|(simp only[Bool.and_eq_true,decide_eq_true_eq]at hg;omega)|(simp at hg;omega)|(trace_state;omega))) Zb (.cons (aL.gv rfl hg) (.cons (.mk rfl) .nil))) rfl ?_;refine St.gt _ rfl rfl (fun hg=>Ev.not (aL.gv rfl hg)) rfl ?_;refine St.ee Ev.n0 ?_;refine St.ak ?_;refine St.nn (St.aX ?_);refine St.rU [_] [] Tryz.results26 ?_;exact be (by first|exact AY s|(simp[AY]))
theorem Df (T:List dc)(Fs:List mm)(x:cv):pZ T Fs (jr x)=if isWord x.word=false then 10 else if x.weight<0∨1000000<x.weight then 3 else if(cU T Fs (dN x.graph)).1≠0 then(cU T Fs (dN x.graph)).1 else(iC (ax x.cg)).1:=rfl
theorem AZ (T:List dc)(Fs:List mm)(x:bV):kh T Fs (mH x)=if x.kids<1∨3<x.kids∨x.weight<0∨1000000<x.weight then 3 else if(cU T Fs (dN x.graph)).1≠0 then(cU T Fs (dN x.graph)).1 else if kf (dN x.graph) x.kids=false then 5 else(iC (ax x.cg)).1:=rfl
theorem qE {T:List dc}{Fs:List mm}{G:iE}(h:(cU T Fs G).1=0):(de T.length Fs.length G).1=0:=by
 rcases Decidable.em ((de T.length Fs.length G).1=0)with h1|h1
 ·exact h1
 ·rw[qz h1]at h;exact h
theorem vf {T:List dc}{Fs:List mm}(hFs:Fs.length≤40){g:eM}(h:(cU T Fs (dN g)).1=0):0<g.nodes.length∧∀n∈g.nodes,Asc n.aZ∧n.aZ.length≤1000000:=by
 have h1:=qE h
 obtain⟨h2,_,h3⟩:=nT h1;refine⟨by rw[ku]at h2;exact h2,fun n hn=>⟨wb h1 n hn,?_⟩⟩
 have h4:=(h3 (kX n) (List.mem_map_of_mem hn)).2
 have:=L9 (wb h1 n hn) (nf:=Fs.length) (fun x hx=>by
  have:=h4 (gS x) (List.mem_map_of_mem hx)
  exact⟨this.1,this.2.1⟩)
 omega
set_option maxHeartbeats 2000000 in
theorem CH (tv xv w1 w2:ck)(ts:List jj)(fs:List eF)(x:cv)(hT:iJ (ts.map bf))(hF:∀f∈fs,0≤f.nC∧f.nC<ts.length∧0≤f.value∧f.value<ts.length)(hw:cI.wf x):gw Tryz.prog 68 #[.agg #[tv.1,xv.1],tx w1 w2,GO x] [sl e6 tv.1 ts,sl bu xv.1 fs,sl eD w1.1 (kD (ts.map bf)),sl eD w2.1 (kE (ts.map bf)),dX x,u8] (iv (pZ (ts.map bf) (fs.map dR) (jr x))):=by
 refine gw.body (args:=[.agg #[tv.1,xv.1],tx w1 w2,GO x]) (ds:=[sl e6 tv.1 ts,sl bu xv.1 fs,sl eD w1.1 (kD (ts.map bf)),sl eD w2.1 (kE (ts.map bf)),dX x,u8]) 34 Tryz.func68 rfl Tryz.ntmps68 rfl (fun c jJ=> ?_);refine St.cast (H':=[aG (sl e6 tv.1 ts),aG (sl bu xv.1 fs),aG (sl eD w1.1 (kD (ts.map bf))),aG (sl eD w2.1 (kE (ts.map bf))),aG (dX x),aG (u8)]) rfl ?_;refine St.seq ?_
 refine St.fI (dX x) (fun _:Unit=>KF x) (fun ρ h=>⟨(),h⟩) fun _=> ?_
 refine St.cast (H':=[aG (bU x.graph),aG (bO x.cg),aG (sl e6 tv.1 ts),aG (sl bu xv.1 fs),aG (sl eD w1.1 (kD (ts.map bf))),aG (sl eD w2.1 (kE (ts.map bf))),aG (dX x),aG (u8)]) rfl ?_
 have jU:=Df (ts.map bf) (fs.map dR) x
 obtain⟨AP,Pl,Po⟩:=hw
 replace AP:x.word.length≤140737488351232:=AP
 refine St.rg ?_;refine St.cV (.mk rfl) rfl (fun b3=> ?_);refine St.cV (.mk rfl) rfl (fun b4=> ?_);refine St.cV (.mk rfl) rfl (fun b5=> ?_);refine St.ak ?_;refine St.nn (St.seq (St.sr ?_));refine St.ee (Ev.aD (.mk rfl) yP) ?_;refine St.ee (Ev.l0 (.mk rfl) df) ?_;refine St.ee (Ev.jZ jJ (xB x.word (by omega)) T1 (.cons (.mk rfl) .nil)) ?_;refine St.ee (Ev.not (.mk rfl)) ?_;refine St.nn ?_;refine St.cond _ rfl (fun vE=> ?_) (fun vE=> ?_)
 ·skip
  rw[if_pos (by simpa using vE)]at jU;refine St.sr ?_;refine St.ak ?_;refine St.nn (St.aX (St.aB ?_));refine St.rU [_] [] Tryz.results68 ?_;exact ie jU.symm
 ·skip
  rw[if_neg (by simpa using vE)]at jU;refine St.skip (St.aA (St.seq (St.sr ?_)));refine St.ee (Ev.aD (.mk rfl) yQ) ?_;refine St.ee (Ev.l0 (.mk rfl) bP) ?_;refine St.ee Ev.dn ?_;refine St.mv ?_;refine St.gf _ rfl rfl (fun hg=>Ev.aD (.mk rfl) yQ) rfl ?_;refine St.gf _ rfl rfl (fun hg=>Ev.cN (aL.gv rfl hg) bP trivial (by rfl)) rfl ?_;refine St.gf _ rfl rfl (fun hg=>Ev.gtr (aL.gv rfl hg) (.mk rfl)) rfl ?_;refine St.ee Ev.o0 ?_;refine St.nn ?_;refine St.cond _ rfl (fun gY=> ?_) (fun gY=> ?_)
  ·try simp only[aC]at gY
   rw[if_pos (by omega)]at jU;refine St.sr ?_;refine St.ak ?_;refine St.nn (St.aX (St.aB ?_));refine St.rU [_] [] Tryz.results68 ?_;exact ie jU.symm
  ·try simp only[aC]at gY
   rw[if_neg (by omega)]at jU;refine St.skip (St.aA (St.seq (St.sr ?_)));refine St.ee (Ev.bF (.mk rfl) nI trivial (by exact ln)) ?_;refine St.ee (Ev.bF (.mk rfl) og trivial (by exact iQ)) ?_;refine St.ee (Ev.aD (.mk rfl) HW) ?_;refine St.ee (Ev.iI 1 (.mk rfl) p9 trivial nK rfl rfl) ?_;refine St.slot 23 (dQ x.graph) rfl rfl ?_;refine St.ee (Ev.call (nU tv xv w1 w2 ts fs x.graph hT hF) PY (.cons (.mk rfl) (.cons (.mk rfl) (.cons (.mk rfl) .nil)))) ?_;refine St.alloc dF rfl (fun b7=> ?_);refine St.sA (.mk rfl) (.mk rfl) ay ?_;refine St.nn (St.sr ?_);refine St.ee (Ev.aD (.mk rfl) cX) ?_;refine St.ee (Ev.l0 (.mk rfl) bP) ?_;refine St.ee Ev.k9 ?_;refine St.nn ?_;refine St.cond _ rfl (fun Pp=> ?_) (fun Pp=> ?_)
   ·skip
    have hb:(cU (ts.map bf) (fs.map dR) (dN x.graph)).1≠0:=by simpa using Pp
    rw[if_pos hb]at jU;refine St.sr ?_;refine St.ee (Ev.aD (.mk rfl) cX) ?_;refine St.ee (Ev.l0 (.mk rfl) bP) ?_;refine St.ak ?_;refine St.nn (St.aX (St.aB ?_));refine St.rU [_] [] Tryz.results68 ?_;exact ie jU.symm
   ·skip
    have hb:¬(cU (ts.map bf) (fs.map dR) (dN x.graph)).1≠0:=by simpa using Pp
    rw[if_neg hb]at jU;refine St.skip (St.aA (St.sr ?_));refine St.ee (Ev.aD (.mk rfl) HX) ?_;refine St.ee (Ev.iI 6 (.mk rfl) fO trivial dC rfl rfl) ?_;refine St.slot 31 (bb x.cg) rfl rfl ?_;refine St.ee (Ev.call (pn x.cg Po) T2 (.cons (.mk rfl) .nil)) ?_;refine St.ee (Ev.qh (.mk rfl) fl rfl (by first|rw[bP]|(dsimp only;rw[bP])|kernel_rfl) rfl) ?_;refine St.ak ?_;refine St.nn (St.aX ?_);refine St.rU [_] [] Tryz.results68 ?_;exact ie jU.symm
set_option maxHeartbeats 2000000 in
theorem F9 (tv xv w1 w2:ck)(ts:List jj)(fs:List eF)(x:bV)(hT:iJ (ts.map bf))(hF:∀f∈fs,0≤f.nC∧f.nC<ts.length∧0≤f.value∧f.value<ts.length)(Et:fs.length≤40)(hw:cA.wf x):ct Tryz.prog 67 #[.agg #[tv.1,xv.1],tx w1 w2,ld x] [sl e6 tv.1 ts,sl bu xv.1 fs,sl eD w1.1 (kD (ts.map bf)),sl eD w2.1 (kE (ts.map bf)),cO x] (iv (kh (ts.map bf) (fs.map dR) (mH x))):=by
 unfold ct;refine fF.body (args:=[.agg #[tv.1,xv.1],tx w1 w2,ld x]) 46 Tryz.func67 rfl Tryz.ntmps67 rfl (fun c=> ?_);refine St.cast (H':=[aG (sl e6 tv.1 ts),aG (sl bu xv.1 fs),aG (sl eD w1.1 (kD (ts.map bf))),aG (sl eD w2.1 (kE (ts.map bf))),aG (cO x)]) rfl ?_;refine St.seq ?_
 refine St.fI (cO x) (fun _:Unit=>D6 x) (fun ρ h=>⟨(),h⟩) fun _=> ?_
 refine St.cast (H':=[aG (bU x.graph),aG (bO x.cg),aG (sl e6 tv.1 ts),aG (sl bu xv.1 fs),aG (sl eD w1.1 (kD (ts.map bf))),aG (sl eD w2.1 (kE (ts.map bf))),aG (cO x)]) rfl ?_
 have jU:=AZ (ts.map bf) (fs.map dR) x
 obtain⟨AP,hwk,hwg,Po⟩:=hw;refine St.rg ?_;refine St.cV (.mk rfl) rfl (fun b3=> ?_);refine St.cV (.mk rfl) rfl (fun b4=> ?_);refine St.cV (.mk rfl) rfl (fun b5=> ?_);refine St.ak ?_;refine St.nn (St.seq (St.sr ?_));refine St.ee (Ev.aD (.mk rfl) nV) ?_;refine St.ee (Ev.l0 (.mk rfl) bP) ?_;refine St.ee Ev.dn ?_;refine St.mv ?_;refine St.gf _ rfl rfl (fun hg=>Ev.aD (.mk rfl) nV) rfl ?_;refine St.gf _ rfl rfl (fun hg=>Ev.cN (aL.gv rfl hg) bP trivial (by rfl)) rfl ?_;refine St.gf _ rfl rfl (fun hg=>Ev.gtr (aL.gv rfl hg) (.mk rfl)) rfl ?_;refine St.ee Ev.o0 ?_;refine St.mv ?_;refine St.gf _ rfl rfl (fun hg=>Ev.aD (.mk rfl) yR) rfl ?_;refine St.gf _ rfl rfl (fun hg=>Ev.cN (aL.gv rfl hg) bP trivial (by rfl)) rfl ?_;refine St.gf _ rfl rfl (fun hg=>Ev.lss (aL.gv rfl hg) (.mk rfl)) rfl ?_;refine St.ee Ev.o0 ?_;refine St.mv ?_;refine St.gf _ rfl rfl (fun hg=>Ev.aD (.mk rfl) yR) rfl ?_;refine St.gf _ rfl rfl (fun hg=>Ev.cN (aL.gv rfl hg) bP trivial (by rfl)) rfl ?_;refine St.gf _ rfl rfl (fun hg=>Ev.gtr (aL.gv rfl hg) (.mk rfl)) rfl ?_;refine St.ee Ev.o0 ?_;refine St.nn ?_;refine St.cond _ rfl (fun ov=> ?_) (fun ov=> ?_)
 ·try simp only[aC]at ov
  rw[if_pos (by omega)]at jU;refine St.sr ?_;refine St.ak ?_;refine St.nn (St.aX (St.aB ?_));refine St.rU [_] [] Tryz.results67 ?_;exact ie jU.symm
 ·try simp only[aC]at ov
  rw[if_neg (by omega)]at jU;refine St.skip (St.aA (St.seq (St.sr ?_)));refine St.ee (Ev.bF (.mk rfl) nI trivial (by exact ln)) ?_;refine St.ee (Ev.bF (.mk rfl) og trivial (by exact iQ)) ?_;refine St.ee (Ev.aD (.mk rfl) yS) ?_;refine St.ee (Ev.iI 1 (.mk rfl) p9 trivial nK rfl rfl) ?_;refine St.slot 29 (dQ x.graph) rfl rfl ?_;refine St.ee (Ev.call (nU tv xv w1 w2 ts fs x.graph hT hF) PY (.cons (.mk rfl) (.cons (.mk rfl) (.cons (.mk rfl) .nil)))) ?_;refine St.alloc dF rfl (fun b7=> ?_);refine St.sA (.mk rfl) (.mk rfl) ay ?_;refine St.nn (St.sr ?_);refine St.ee (Ev.aD (.mk rfl) cX) ?_;refine St.ee (Ev.l0 (.mk rfl) bP) ?_;refine St.ee Ev.k9 ?_;refine St.nn ?_;refine St.cond _ rfl (fun qZ=> ?_) (fun qZ=> ?_)
  ·skip
   have hb:(cU (ts.map bf) (fs.map dR) (dN x.graph)).1≠0:=by simpa using qZ
   rw[if_pos hb]at jU;refine St.sr ?_;refine St.ee (Ev.aD (.mk rfl) cX) ?_;refine St.ee (Ev.l0 (.mk rfl) bP) ?_;refine St.ak ?_;refine St.nn (St.aX (St.aB ?_));refine St.rU [_] [] Tryz.results67 ?_;exact ie jU.symm
  ·skip
   have hb:¬(cU (ts.map bf) (fs.map dR) (dN x.graph)).1≠0:=by simpa using qZ
   rw[if_neg hb]at jU;obtain⟨Ql,Pf⟩:=vf (by rw[List.length_map];exact Et) (Decidable.not_not.1 hb);refine St.skip (St.aA (St.seq (St.sr ?_)));refine St.ee (Ev.aD (.mk rfl) yS) ?_;refine St.ee (Ev.iI 1 (.mk rfl) p9 trivial nK rfl rfl) ?_;refine St.slot 37 (dQ x.graph) rfl rfl ?_;refine St.ee (Ev.aD (.mk rfl) nV) ?_;refine St.ee (Ev.l0 (.mk rfl) bP) ?_;refine St.ee (Ev.call (AF x.graph x.kids Ql Pf) Yw (.cons (.mk rfl) (.cons (.mk rfl) .nil))) ?_;refine St.ee (Ev.not (.mk rfl)) ?_;refine St.nn ?_;refine St.cond _ rfl (fun oT=> ?_) (fun oT=> ?_)
   ·skip
    rw[if_pos (by simpa using oT)]at jU;refine St.sr ?_;refine St.ak ?_;refine St.nn (St.aX (St.aB ?_));refine St.rU [_] [] Tryz.results67 ?_;exact ie jU.symm
   ·skip
    rw[if_neg (by simpa using oT)]at jU;refine St.skip (St.aA (St.sr ?_));refine St.ee (Ev.aD (.mk rfl) HY) ?_;refine St.ee (Ev.iI 6 (.mk rfl) fO trivial dC rfl rfl) ?_;refine St.slot 43 (bb x.cg) rfl rfl ?_;refine St.ee (Ev.call (pn x.cg Po) T2 (.cons (.mk rfl) .nil)) ?_;refine St.ee (Ev.qh (.mk rfl) fl rfl (by first|rw[bP]|(dsimp only;rw[bP])|kernel_rfl) rfl) ?_;refine St.ak ?_;refine St.nn (St.aX ?_);refine St.rU [_] [] Tryz.results67 ?_;exact ie jU.symm
theorem rm {T:List dc}{Fs:List mm}{l:List qT}{k:Nat}{t:qT}(ht:l[k]?=some t)(known:List cQ):gG T Fs known k (l.drop k)=if isName t.name=false then(10,(k:Int))else if t.name∈known then(7,(k:Int))else if kh T Fs t≠0 then(kh T Fs t,(k:Int))else gG T Fs (known++ [t.name]) (k+1) (l.drop (k+1)):=by rw[bz ht,gG]
theorem uL {T:List dc}{Fs:List mm}{l:List qT}{k:Nat}(h:l.length≤k)(known:List cQ):gG T Fs known k (l.drop k)=(0,0):=by rw[List.drop_of_length_le h,gG]
theorem rn {T:List dc}{Fs:List mm}{l:List Jk}{k:Nat}{t:Jk}(ht:l[k]?=some t):gH T Fs k (l.drop k)=if pZ T Fs t≠0 then(pZ T Fs t,(k:Int))else gH T Fs (k+1) (l.drop (k+1)):=by rw[bz ht,gH]
theorem uM {T:List dc}{Fs:List mm}{l:List Jk}{k:Nat}(h:l.length≤k):gH T Fs k (l.drop k)=(0,0):=by rw[List.drop_of_length_le h,gH]
theorem Dg (g:iX):kP (fV g)=if(fZ (g.types.map bf) (g.bZ.map dR)).1≠0 then fZ (g.types.map bf) (g.bZ.map dR)else if(g.bZ.map dR).length≤3 then(9,-1)else if 40<(g.rules.map mH).length∨100<(g.bA.map jr).length then(2,-1)
 else if(gG (g.types.map bf) (g.bZ.map dR) [] 0 (g.rules.map mH)).1≠0 then gG (g.types.map bf) (g.bZ.map dR) [] 0 (g.rules.map mH)else if(gH (g.types.map bf) (g.bZ.map dR) 0 (g.bA.map jr)).1≠0 then gH (g.types.map bf) (g.bZ.map dR) 0 (g.bA.map jr)
 else if(cU (g.types.map bf) (g.bZ.map dR) (dN g.start)).1≠0 then((cU (g.types.map bf) (g.bZ.map dR) (dN g.start)).1,-1)else(0,0):=rfl
theorem fH {r x E:Int×Int}{c i:Int}(h:x=if r.1≠0 then r else E)(e:r=(c,i))(hc:c≠0):x=(c,i):=by rw[h,if_pos (by rw[e];exact hc),e]
theorem oD {r x E:Int×Int}(h:x=if r.1≠0 then r else E)(e:r=(0,0)):x=E:=by rw[h,if_neg (by rw[e];simp)]
set_option maxHeartbeats 4000000 in
theorem Aa (g:iX):gw Tryz.prog 29 #[iG g] [dw g,tz,u8] (fv (kP (fV g))):=by
 refine gw.body (args:=[iG g]) (ds:=[dw g,tz,u8]) 112 Tryz.func29 rfl Tryz.ntmps29 rfl (fun c jJ=> ?_);refine St.cast (H':=[aG (dw g),aG (tz),aG (u8)]) rfl ?_;refine St.seq ?_
 refine St.fI (dw g) (fun _:Unit=>zT g) (fun ρ h=>⟨(),h⟩) fun _=> ?_
 refine St.cast (H':=[aG (sl e6 g.tv.1 g.types),aG (aY ew g.types),aG (sl bu g.fv.1 g.bZ),aG (sl cA g.rv.1 g.rules),aG (aY cO g.rules),aG (sl cI g.xv.1 g.bA),aG (aY dX g.bA),aG (bU g.start),aG (dw g),aG (tz),aG (u8)]) rfl ?_
 have lO:=Dg g
 have sO:(g.types.map bf).length=g.types.length:=List.length_map ..
 have Et:(g.bZ.map dR).length=g.bZ.length:=List.length_map ..
 have TY:(g.rules.map mH).length=g.rules.length:=List.length_map ..
 have R3:(g.bA.map jr).length=g.bA.length:=List.length_map ..
 refine St.wf g.rv.1 (fun NX TN=> ?_);refine St.wf g.xv.1 (fun lq tB=> ?_);refine St.rg ?_;refine St.cV (.mk rfl) rfl (fun b1=> ?_);refine St.alloc dF rfl (fun b2=> ?_);refine St.nn (St.sr ?_);refine St.ee (Ev.aD (.mk rfl) pA) ?_;refine St.ee (Ev.iI 2 (.mk rfl) nI trivial ln rfl rfl) ?_;refine St.slot 17 (.agg #[g.tv.1,g.fv.1]) rfl rfl ?_;refine St.alloc P7 rfl (fun b3=> ?_);refine St.sA (.mk rfl) (.mk rfl) ln ?_ (h1:=(by simp only[List.all_cons,List.all_nil,Bool.and_true,Bool.and_eq_true];exact⟨g.tv.2,g.fv.2⟩));refine St.nn (St.seq (St.sr ?_));refine St.ee (Ev.bF (.mk rfl) nI trivial (by exact ln)) ?_;refine St.ee (Ev.call (yJ g.tv g.fv g.types g.bZ) Yx (.cons (.mk rfl) .nil)) ?_;refine St.alloc dF rfl (fun b4=> ?_);refine St.sA (.mk rfl) (.mk rfl) ay ?_;refine St.nn (St.sr ?_);refine St.ee (Ev.aD (.mk rfl) cX) ?_;refine St.ee (Ev.l0 (.mk rfl) bP) ?_;refine St.ee Ev.k9 ?_;refine St.nn ?_;refine St.cond _ rfl (fun vR=> ?_) (fun vR=> ?_)
 ·skip
  have hb:(fZ (g.types.map bf) (g.bZ.map dR)).1≠0:=by simpa using vR
  rw[if_pos hb]at lO;refine St.sr ?_;refine St.ee (Ev.bF (.mk rfl) fl trivial (by exact ay)) ?_;refine St.sA (.mk rfl) (.mk rfl) ay ?_;refine St.nn (St.aX (St.aB ?_));refine St.rU [_] [] Tryz.results29 ?_;exact congrArg fv lO.symm
 ·skip
  have hb:¬(fZ (g.types.map bf) (g.bZ.map dR)).1≠0:=by simpa using vR
  rw[if_neg hb]at lO;obtain⟨_,hT,Zc,Zd⟩:=DW (Decidable.not_not.1 hb)
  have hF:∀f∈g.bZ,0≤f.nC∧f.nC<g.types.length∧0≤f.value∧f.value<g.types.length:=fun f hf=>by have:=Zd (dR f) (List.mem_map_of_mem hf);rw[sO]at this;exact this
  refine St.skip (St.aA (St.seq (St.sr ?_)));refine St.ee (Ev.aD (.mk rfl) jQ) ?_;refine St.ee (Ev.l0 (.mk rfl) iz) ?_;refine St.ee (Ev.ao (.mk rfl) iz) ?_;refine St.ee Ev.Jm ?_;refine St.nn ?_;refine St.cond _ rfl (fun Pp=> ?_) (fun Pp=> ?_)
  ·try simp only[aC]at Pp
   rw[if_pos (by omega)]at lO;refine St.sr ?_;refine St.ee (Ev.call (dh 9 (-1)) C8 (.cons (.mk rfl) (.cons (.mk rfl) .nil))) ?_;refine St.sA (.mk rfl) (.mk rfl) ay ?_;refine St.nn (St.aX (St.aB ?_));refine St.rU [_] [] Tryz.results29 ?_;exact congrArg fv lO.symm
  ·try simp only[aC]at Pp
   rw[if_neg (by omega)]at lO;refine St.skip (St.aA (St.seq (St.sr ?_)));refine St.ee (Ev.aD (.mk rfl) jS) ?_;refine St.ee (Ev.l0 (.mk rfl) j0) ?_;refine St.ee (Ev.ao (.mk rfl) j0) ?_;refine St.ee Ev.qn ?_;refine St.mv ?_;refine St.gf _ rfl rfl (fun hg=>Ev.aD (.mk rfl) jR) rfl ?_;refine St.gf _ rfl rfl (fun hg=>Ev.cN (aL.gv rfl hg) j1 trivial (by rfl)) rfl ?_;refine St.gf _ rfl rfl (fun hg=>Ev.ao (aL.gv rfl hg) j1) rfl ?_;refine St.gf _ rfl rfl (fun hg=>Ev.gtr (aL.gv rfl hg) (.mk rfl)) rfl ?_;refine St.ee Ev.o0 ?_;refine St.nn ?_;refine St.cond _ rfl (fun sj=> ?_) (fun sj=> ?_)
   ·try simp only[aC]at sj
    rw[if_pos (by omega)]at lO;refine St.sr ?_;refine St.ee (Ev.call (dh 2 (-1)) C8 (.cons (.mk rfl) (.cons (.mk rfl) .nil))) ?_;refine St.sA (.mk rfl) (.mk rfl) ay ?_;refine St.nn (St.aX (St.aB ?_));refine St.rU [_] [] Tryz.results29 ?_;exact congrArg fv lO.symm
   ·try simp only[aC]at sj
    rw[if_neg (by omega)]at lO;refine St.skip (St.aA (St.sr ?_));refine St.ee (Ev.aD (.mk rfl) fm) ?_;refine St.ee (Ev.l0 (.mk rfl) eW) ?_;refine St.aw (rf g.tv.1 g.types hT) SR (.cons (.mk rfl) .nil) rfl ?_;rintro v42 _ ⟨w1,w2,rfl,rfl⟩;refine St.cb ?_;refine St.alloc pg rfl (fun b5=> ?_);refine St.sA (.mk rfl) (.mk rfl) iQ ?_ (h1:=(by simp only[List.all_cons,List.all_nil,Bool.and_true,Bool.and_eq_true];exact⟨w1.2,w2.2⟩));refine St.nn (St.sr ?_);refine St.makeMap mkStr rfl (fun TZ=> ?_);refine St.ak ?_;refine St.nn (St.seq (St.sr ?_));refine St.ee (Ev.aD (.mk rfl) jS) ?_;refine St.ee (Ev.l0 (.mk rfl) j0) ?_;refine St.ee (Ev.ao (.mk rfl) j0) ?_;refine St.mv ?_;refine St.nn (St.block ?_);refine St.mf (ι:=Nat) (κ:=List (cQ×Value)) (fun k m T=>(47,iv k)::T) (fun k m=>[ae TZ (jy mkStr m),ae b1 (.cells [g.tv.1,g.fv.1,g.rv.1,g.xv.1,g.start.nv.1].toArray 32 (0,0)),ae b2 (.cells [iv 0,iv 0].toArray 42 (0,0)),ae b3 (.cells [g.tv.1,g.fv.1].toArray 25 (0,0)),ae b5 (.cells [w1.1,w2.1].toArray 129 (0,0)),aG (sl e6 g.tv.1 g.types),aG (aY ew g.types),aG (sl bu g.fv.1 g.bZ),aG (sl cA g.rv.1 g.rules),aG (aY cO g.rules),aG (sl cI g.xv.1 g.bA),aG (aY dX g.bA),aG (bU g.start),aG (sl eD w1.1 (kD (g.types.map bf))),aG (sl eD w2.1 (kE (g.types.map bf))),aG (u8)]) (fun k m=>k≤g.rules.length∧gG (g.types.map bf) (g.bZ.map dR) [] 0 (g.rules.map mH)=gG (g.types.map bf) (g.bZ.map dR) ((g.rules.take k).map bV.name) k ((g.rules.map mH).drop k)∧En m ((g.rules.take k).map bV.name)) (fun k m=>g.rules.length-k) 0 [] (aE.cons 1 rfl (aE.cons 2 rfl (aE.cons 3 rfl (aE.cons 5 rfl (aE.cons 6 rfl (aE.cons 45 rfl (aE.cons 46 rfl aE.nil))))))) ⟨Nat.zero_le _,rfl,En.nil⟩ ?_;rintro k m ⟨hk,hv,zy⟩;refine St.sr ?_;refine St.ee Ev.dn ?_;refine St.nn (St.seq ?_);refine St.cond _ rfl (fun qD=> ?_) (fun qD=> ?_)
    ·try simp only[aC]at qD
     obtain⟨t,ht⟩:=aO (show k<g.rules.length by omega)
     have lU:=List.mem_of_getElem? ht
     have cE:=rm (T:=(g.types.map bf)) (Fs:=(g.bZ.map dR)) (l:=g.rules.map mH) (k:=k) (t:=mH t) (by rw[List.getElem?_map,ht];rfl) ((g.rules.take k).map bV.name)
     have zr:t.name.length≤9223372036854775807:=by have:=(NX t lU).1;simp only[iL]at this;omega
     refine St.cD cO g.rules (x:=t) lU ?_;refine St.skip (St.aA (St.seq (St.block (St.sr ?_))));refine St.mv ?_;refine St.ee (Ev.aR (k:=k) (.mk rfl) (.mk rfl) j0 nL (by omega) (by omega)) ?_;refine St.ee (Ev.fg (.mk rfl) ht Gf trivial nL ei.eq) ?_;refine St.alloc Gg rfl (fun b8=> ?_);refine St.ak ?_;refine St.sA (.mk rfl) (.mk rfl) nL ?_ (h1:=(by simp only[List.all_cons,List.all_nil,Bool.and_true,Bool.and_eq_true];exact⟨rfl,t.graph.nv.2,rfl,rfl,rfl,rfl,rfl,rfl,t.cg.type.av.2,t.cg.av.2⟩));refine St.nn (St.seq (St.sr ?_));refine St.ee (Ev.aD (.mk rfl) nW) ?_;refine St.ee (Ev.l0 (.mk rfl) df) ?_;refine St.ee (Ev.call (jt t.name zr) Ea (.cons (.mk rfl) .nil)) ?_;refine St.ee (Ev.not (.mk rfl)) ?_;refine St.nn ?_;refine St.cond _ rfl (fun Ab=> ?_) (fun Ab=> ?_)
     ·try simp only[aC]at Ab
      rw[if_pos (show isName (mH t).name=false from(by simpa using Ab:isName t.name=false))]at cE;refine St.sr ?_;refine St.mv ?_;refine St.ee (Ev.call (dh 10 k) C8 (.cons (.mk rfl) (.cons (.mk rfl) .nil))) ?_;refine St.sA (.mk rfl) (.mk rfl) ay ?_;refine St.nn (St.aX (St.aB (St.aM (St.aB (St.aB (St.aM (St.aB ?_)))))));refine St.rU [_] [] Tryz.results29 ?_;exact congrArg fv (fH lO (hv.trans cE) (by decide)).symm
     ·try simp only[aC]at Ab
      rw[if_neg (show ¬isName (mH t).name=false from(by simpa using Ab:¬isName t.name=false))]at cE;refine St.skip (St.aA (St.seq (St.sr ?_)));refine St.mv ?_;refine St.ee (Ev.aD (.mk rfl) nW) ?_;refine St.ee (Ev.l0 (.mk rfl) df) ?_;refine St.ee (Ev.sZ mkStr (k:=t.name) (.mk rfl) (.mk rfl) zY (by exact df) eJ) ?_;refine St.mv ?_;refine St.ee (Ev.extract (.mk rfl) rfl) ?_;refine St.ee (Ev.extract (.mk rfl) rfl) ?_;refine St.slot 64 (.bool (decide (t.name∈(g.rules.take k).map bV.name))) rfl (congrArg Value.bool (zy t.name)) ?_;refine St.ak ?_;refine St.ak ?_;refine St.nn (St.sr ?_);refine St.mv ?_;refine St.nn ?_;refine St.cond _ rfl (fun Ht=> ?_) (fun Ht=> ?_)
      ·try simp only[aC]at Ht
       rw[if_pos (show(mH t).name∈(g.rules.take k).map bV.name from Ht)]at cE;refine St.sr ?_;refine St.mv ?_;refine St.ee (Ev.call (dh 7 k) C8 (.cons (.mk rfl) (.cons (.mk rfl) .nil))) ?_;refine St.sA (.mk rfl) (.mk rfl) ay ?_;refine St.nn (St.aX (St.aB (St.aM (St.aB (St.aB (St.aM (St.aB ?_)))))));refine St.rU [_] [] Tryz.results29 ?_;exact congrArg fv (fH lO (hv.trans cE) (by decide)).symm
      ·try simp only[aC]at Ht
       rw[if_neg (show ¬(mH t).name∈(g.rules.take k).map bV.name from Ht)]at cE;refine St.skip (St.aA (St.sr ?_));refine St.mv ?_;refine St.ee (Ev.aD (.mk rfl) nW) ?_;refine St.ee (Ev.l0 (.mk rfl) df) ?_;refine St.mv ?_;refine St.mapUpdate mkStr (k:=t.name) (.mk rfl) (.mk rfl) (.mk rfl) zY (by exact df) ?_;refine St.nn (St.sr ?_);refine St.ee (Ev.bF (.mk rfl) nI trivial (by exact ln)) ?_;refine St.ee (Ev.bF (.mk rfl) og trivial (by exact iQ)) ?_;refine St.ee (Ev.bF (.mk rfl) Gf trivial (by exact nL)) ?_;refine St.ee (Ev.call (F9 g.tv g.fv w1 w2 g.types g.bZ t hT hF (by omega) (NX t lU)) Yy (.cons (.mk rfl) (.cons (.mk rfl) (.cons (.mk rfl) .nil)))) ?_;refine St.ak ?_;refine St.nn (St.sr ?_);refine St.mv ?_;refine St.ee Ev.k9 ?_;refine St.nn ?_;refine St.cond _ rfl (fun yK=> ?_) (fun yK=> ?_)
       ·skip
        have vc:kh (g.types.map bf) (g.bZ.map dR) (mH t)≠0:=by simpa using yK
        rw[if_pos vc]at cE;refine St.sr ?_;refine St.mv ?_;refine St.mv ?_;refine St.ee (Ev.call (dh (kh (g.types.map bf) (g.bZ.map dR) (mH t)) k) C8 (.cons (.mk rfl) (.cons (.mk rfl) .nil))) ?_;refine St.sA (.mk rfl) (.mk rfl) ay ?_;refine St.nn (St.aX (St.aM (St.aB (St.aB (St.aM (St.aB ?_))))));refine St.rU [_] [] Tryz.results29 ?_;exact congrArg fv (fH lO (hv.trans cE) vc).symm
       ·skip
        have vc:¬kh (g.types.map bf) (g.bZ.map dR) (mH t)≠0:=by simpa using yK
        rw[if_neg vc]at cE;refine St.skip (St.aN (St.aA (St.rg ?_)));refine St.ee Ev.a0 ?_;refine St.mv ?_;refine St.nn ?_;refine St.jb (k+1) (ji m t.name (iv k)) ⟨by omega,by rw[hv,cE,bx bV.name ht];rfl,by rw[bx bV.name ht];exact zy.snoc _ _⟩
    ·try simp only[aC]at qD
     rw[uL (by omega)]at hv
     replace lO:=oD lO hv
     refine St.exit (St.aF (St.aF (St.bH (St.aA (St.seq (St.sr ?_))))));refine St.ee (Ev.aD (.mk rfl) jR) ?_;refine St.ee (Ev.l0 (.mk rfl) j1) ?_;refine St.ee (Ev.ao (.mk rfl) j1) ?_;refine St.mv ?_;refine St.nn (St.block ?_);refine St.lH (ι:=Nat) (fun q T=>(85,iv q)::T) (fun q=>[ae b1 (.cells [g.tv.1,g.fv.1,g.rv.1,g.xv.1,g.start.nv.1].toArray 32 (0,0)),ae b2 (.cells [iv 0,iv 0].toArray 42 (0,0)),ae b3 (.cells [g.tv.1,g.fv.1].toArray 25 (0,0)),ae b5 (.cells [w1.1,w2.1].toArray 129 (0,0)),aG (sl e6 g.tv.1 g.types),aG (aY ew g.types),aG (sl bu g.fv.1 g.bZ),aG (sl cA g.rv.1 g.rules),aG (aY cO g.rules),aG (sl cI g.xv.1 g.bA),aG (aY dX g.bA),aG (bU g.start),aG (sl eD w1.1 (kD (g.types.map bf))),aG (sl eD w2.1 (kE (g.types.map bf))),aG (u8)]) (fun q=>q≤g.bA.length∧gH (g.types.map bf) (g.bZ.map dR) 0 (g.bA.map jr)=gH (g.types.map bf) (g.bZ.map dR) q ((g.bA.map jr).drop q)) (fun q=>g.bA.length-q) 0 (aE.cons 1 rfl (aE.cons 2 rfl (aE.cons 3 rfl (aE.cons 5 rfl (aE.cons 83 rfl (aE.cons 84 rfl aE.nil)))))) ⟨Nat.zero_le _,rfl⟩ ?_;rintro q ⟨hq,mR⟩;refine St.sr ?_;refine St.ee Ev.dn ?_;refine St.nn (St.seq ?_);refine St.cond _ rfl (fun LP=> ?_) (fun LP=> ?_)
     ·try simp only[aC]at LP
      obtain⟨x,hx⟩:=aO (show q<g.bA.length by omega)
      have Eu:=List.mem_of_getElem? hx
      have cE:=rn (T:=(g.types.map bf)) (Fs:=(g.bZ.map dR)) (l:=g.bA.map jr) (k:=q) (t:=jr x) (by rw[List.getElem?_map,hx];rfl)
      refine St.cD dX g.bA (x:=x) Eu ?_;refine St.skip (St.aA (St.seq (St.block (St.sr ?_))));refine St.mv ?_;refine St.ee (Ev.aR (k:=q) (.mk rfl) (.mk rfl) j1 oQ (by omega) (by omega)) ?_;refine St.ee (Ev.fg (.mk rfl) hx Kn trivial oQ ei.eq) ?_;refine St.alloc P8 rfl (fun NY=> ?_);refine St.ak ?_;refine St.sA (.mk rfl) (.mk rfl) oQ ?_ (h1:=(by simp only[List.all_cons,List.all_nil,Bool.and_true,Bool.and_eq_true];exact⟨rfl,x.graph.nv.2,rfl,rfl,rfl,rfl,rfl,x.cg.type.av.2,x.cg.av.2⟩));refine St.nn (St.sr ?_);refine St.ee (Ev.bF (.mk rfl) nI trivial (by exact ln)) ?_;refine St.ee (Ev.bF (.mk rfl) og trivial (by exact iQ)) ?_;refine St.ee (Ev.bF (.mk rfl) Kn trivial (by exact oQ)) ?_;refine St.ee (Ev.jZ jJ (CH g.tv g.fv w1 w2 g.types g.bZ x hT hF (lq x Eu)) Yz (.cons (.mk rfl) (.cons (.mk rfl) (.cons (.mk rfl) .nil)))) ?_;refine St.ak ?_;refine St.nn (St.sr ?_);refine St.mv ?_;refine St.ee Ev.k9 ?_;refine St.nn ?_;refine St.cond _ rfl (fun qu=> ?_) (fun qu=> ?_)
      ·skip
       have vc:pZ (g.types.map bf) (g.bZ.map dR) (jr x)≠0:=by simpa using qu
       rw[if_pos vc]at cE;refine St.sr ?_;refine St.mv ?_;refine St.mv ?_;refine St.ee (Ev.call (dh (pZ (g.types.map bf) (g.bZ.map dR) (jr x)) q) C8 (.cons (.mk rfl) (.cons (.mk rfl) .nil))) ?_;refine St.sA (.mk rfl) (.mk rfl) ay ?_;refine St.nn (St.aX (St.aM (St.aB (St.aB (St.aM (St.aB ?_))))));refine St.rU [_] [] Tryz.results29 ?_;exact congrArg fv (fH lO (mR.trans cE) vc).symm
      ·skip
       have vc:¬pZ (g.types.map bf) (g.bZ.map dR) (jr x)≠0:=by simpa using qu
       rw[if_neg vc]at cE;refine St.skip (St.aN (St.aA (St.rg ?_)));refine St.ee Ev.a0 ?_;refine St.mv ?_;refine St.nn ?_;refine St.aH (q+1) ⟨by omega,mR.trans cE⟩
     ·try simp only[aC]at LP
      rw[uM (by omega)]at mR
      replace lO:=oD lO mR
      refine St.exit (St.aF (St.aF (St.bH (St.aA (St.seq (St.sr ?_))))));refine St.ee (Ev.bF (.mk rfl) nI trivial (by exact ln)) ?_;refine St.ee (Ev.bF (.mk rfl) og trivial (by exact iQ)) ?_;refine St.ee (Ev.aD (.mk rfl) Bj) ?_;refine St.ee (Ev.iI 1 (.mk rfl) p9 trivial nK rfl rfl) ?_;refine St.slot 103 (dQ g.start) rfl rfl ?_;refine St.ee (Ev.call (nU g.tv g.fv w1 w2 g.types g.bZ g.start hT hF) PY (.cons (.mk rfl) (.cons (.mk rfl) (.cons (.mk rfl) .nil)))) ?_;refine St.alloc dF rfl (fun b15=> ?_);refine St.sA (.mk rfl) (.mk rfl) ay ?_;refine St.nn (St.sr ?_);refine St.ee (Ev.aD (.mk rfl) cX) ?_;refine St.ee (Ev.l0 (.mk rfl) bP) ?_;refine St.ee Ev.k9 ?_;refine St.nn ?_;refine St.cond _ rfl (fun Pq=> ?_) (fun Pq=> ?_)
      ·skip
       have Pr:(cU (g.types.map bf) (g.bZ.map dR) (dN g.start)).1≠0:=by simpa using Pq
       rw[if_pos Pr]at lO;refine St.sr ?_;refine St.ee (Ev.aD (.mk rfl) cX) ?_;refine St.ee (Ev.l0 (.mk rfl) bP) ?_;refine St.ee (Ev.call (dh (cU (g.types.map bf) (g.bZ.map dR) (dN g.start)).1 (-1)) C8 (.cons (.mk rfl) (.cons (.mk rfl) .nil))) ?_;refine St.sA (.mk rfl) (.mk rfl) ay ?_;refine St.nn (St.aX (St.aB ?_));refine St.rU [_] [] Tryz.results29 ?_;exact congrArg fv lO.symm
      ·skip
       have Pr:¬(cU (g.types.map bf) (g.bZ.map dR) (dN g.start)).1≠0:=by simpa using Pq
       rw[if_neg Pr]at lO;refine St.skip (St.aA (St.sr ?_));refine St.ee (Ev.build (ps:=[]) (aU.nil) (fun w=>fA w)) ?_;refine St.sA (.mk rfl) (.mk rfl) ay ?_;refine St.nn (St.aX ?_);refine St.rU [_] [] Tryz.results29 ?_;exact congrArg fv lO.symm
theorem rp {l:List cj}{k:Nat}{v:cj}(ht:l[k]?=some v)(known:List cQ):fT known k (l.drop k)=if v.kind<1∨4<v.kind then(4,(k:Int))else if isName v.name=false∨(v.kind=2∧isName v.label=false)∨(v.kind=3∧isWord v.label=false)then(10,(k:Int))
 else if v.name∈known then(7,(k:Int))else if(v.kind=1∨v.kind=4)∧v.label≠ []then(5,(k:Int))else fT (known++ [v.name]) (k+1) (l.drop (k+1)):=by rw[bz ht,fT]
theorem uN {l:List cj}{k:Nat}(h:l.length≤k)(known:List cQ):fT known k (l.drop k)=(0,0):=by rw[List.drop_of_length_le h,fT]
theorem rr {n:Int}{m:Nat}{l:List eH}{k:Nat}{x:eH}(ht:l[k]?=some x):gV n (m+k) (l.drop k)=if x.kind<1∨5<x.kind then(4,((m+k:Nat):Int))else if x.a<0∨n≤x.a∨x.b<0∨n≤x.b then(3,((m+k:Nat):Int))else if x.a=x.b then(5,((m+k:Nat):Int))else gV n (m+(k+1)) (l.drop (k+1)):=by rw[bz ht,gV];rfl
theorem uO {n:Int}{l:List eH}{k m:Nat}(h:l.length≤k):gV n m (l.drop k)=(0,0):=by rw[List.drop_of_length_le h,gV]
theorem Dh (vs:List cj)(ks:List eH):iy vs ks=if 4<vs.length∨8<ks.length then(2,-1)else if vs.length=0 then(9,-1)else if(fT [] 0 vs).1≠0 then fT [] 0 vs else gV vs.length vs.length ks:=rfl
set_option maxHeartbeats 4000000 in
theorem nc (q:eu):gw Tryz.prog 7 #[gJ q] [dD q,u8] (fv (iy q.vars q.aZ)):=by
 refine gw.body (args:=[gJ q]) (ds:=[dD q,u8]) 165 Tryz.func7 rfl Tryz.ntmps7 rfl (fun c jJ=> ?_);refine St.cast (H':=[aG (dD q),aG (u8)]) rfl ?_;refine St.seq ?_
 refine St.fI (dD q) (fun _:Unit=>p8 q) (fun ρ h=>⟨(),h⟩) fun _=> ?_
 refine St.cast (H':=[aG (sl gz q.vv.1 q.vars),aG (sl iH q.kv.1 q.aZ),aG (dD q),aG (u8)]) rfl ?_
 have oX:=Dh q.vars q.aZ
 refine St.wf q.vv.1 (fun TR wv=> ?_);refine St.wf q.kv.1 (fun NN qa=> ?_);refine St.rg ?_;refine St.cV (.mk rfl) rfl (fun b1=> ?_);refine St.alloc dF rfl (fun b2=> ?_);refine St.nn (St.seq (St.sr ?_));refine St.ee (Ev.aD (.mk rfl) eg) ?_;refine St.ee (Ev.l0 (.mk rfl) eX) ?_;refine St.ee (Ev.ao (.mk rfl) eX) ?_;refine St.ee Ev.qn ?_;refine St.mv ?_;refine St.gf _ rfl rfl (fun hg=>Ev.aD (.mk rfl) kJ) rfl ?_;refine St.gf _ rfl rfl (fun hg=>Ev.cN (aL.gv rfl hg) jG trivial (by rfl)) rfl ?_;refine St.gf _ rfl rfl (fun hg=>Ev.ao (aL.gv rfl hg) jG) rfl ?_;refine St.gf _ rfl rfl (fun hg=>Ev.gtr (aL.gv rfl hg) (.mk rfl)) rfl ?_;refine St.ee Ev.o0 ?_;refine St.nn ?_;refine St.cond _ rfl (fun oW=> ?_) (fun oW=> ?_)
 ·try simp only[aC]at oW
  rw[if_pos (by omega)]at oX;refine St.sr ?_;refine St.ee (Ev.call (cy 2 (-1)) vY (.cons (.mk rfl) (.cons (.mk rfl) .nil))) ?_;refine St.sA (.mk rfl) (.mk rfl) ay ?_;refine St.nn (St.aX (St.aB ?_));refine St.rU [_] [] Tryz.results7 ?_;exact congrArg fv oX.symm
 ·try simp only[aC]at oW
  rw[if_neg (by omega)]at oX
  have hv4:q.vars.length≤4:=by omega
  have hk8:q.aZ.length≤8:=by omega
  refine St.skip (St.aA (St.seq (St.sr ?_)));refine St.ee (Ev.aD (.mk rfl) eg) ?_;refine St.ee (Ev.l0 (.mk rfl) eX) ?_;refine St.ee (Ev.ao (.mk rfl) eX) ?_;refine St.ee Ev.ey ?_;refine St.nn ?_;refine St.cond _ rfl (fun ov=> ?_) (fun ov=> ?_)
  ·try simp only[aC]at ov
   rw[if_pos (by omega)]at oX;refine St.sr ?_;refine St.ee (Ev.call (cy 9 (-1)) vY (.cons (.mk rfl) (.cons (.mk rfl) .nil))) ?_;refine St.sA (.mk rfl) (.mk rfl) ay ?_;refine St.nn (St.aX (St.aB ?_));refine St.rU [_] [] Tryz.results7 ?_;exact congrArg fv oX.symm
  ·try simp only[aC]at ov
   rw[if_neg (by omega)]at oX;refine St.skip (St.aA (St.sr ?_));refine St.makeMap mkStr rfl (fun XK=> ?_);refine St.ak ?_;refine St.nn (St.seq (St.sr ?_));refine St.ee (Ev.aD (.mk rfl) eg) ?_;refine St.ee (Ev.l0 (.mk rfl) eX) ?_;refine St.ee (Ev.ao (.mk rfl) eX) ?_;refine St.mv ?_;refine St.nn (St.block ?_);refine St.mf (ι:=Nat) (κ:=List (cQ×Value)) (fun k m T=>(31,iv k)::T) (fun k m=>[ae XK (jy mkStr m),ae b1 (.cells [q.vv.1,q.kv.1].toArray 36 (0,0)),ae b2 (.cells [iv 0,iv 0].toArray 42 (0,0)),aG (sl gz q.vv.1 q.vars),aG (sl iH q.kv.1 q.aZ),aG (u8)]) (fun k m=>k≤q.vars.length∧fT [] 0 q.vars=fT ((q.vars.take k).map cj.name) k (q.vars.drop k)∧En m ((q.vars.take k).map cj.name)) (fun k m=>q.vars.length-k) 0 [] (aE.cons 1 rfl (aE.cons 2 rfl (aE.cons 3 rfl (aE.cons 29 rfl (aE.cons 30 rfl aE.nil))))) ⟨Nat.zero_le _,rfl,En.nil⟩ ?_;rintro k m ⟨hk,hv,zy⟩;refine St.sr ?_;refine St.ee Ev.dn ?_;refine St.nn (St.seq ?_);refine St.cond _ rfl (fun oE=> ?_) (fun oE=> ?_)
   ·try simp only[aC]at oE
    obtain⟨va,ht⟩:=aO (show k<q.vars.length by omega)
    have lU:=List.mem_of_getElem? ht
    have cE:=rp ht ((q.vars.take k).map cj.name)
    obtain⟨R2,hn2,Ta⟩:=TR va lU
    replace R2:va.name.length≤140737488351232:=R2
    replace Ta:va.label.length≤140737488351232:=Ta
    refine St.skip (St.aA (St.seq (St.block (St.sr ?_))));refine St.mv ?_;refine St.ee (Ev.aR (k:=k) (.mk rfl) (.mk rfl) eX nX (by omega) (by omega)) ?_;refine St.ee (Ev.fg (.mk rfl) ht Ge trivial nX ei.eq) ?_;refine St.alloc LA rfl (fun b5=> ?_);refine St.ak ?_;refine St.sA (.mk rfl) (.mk rfl) nX ?_ (h1:=(by simp only[List.all_cons,List.all_nil,Bool.and_true,Bool.and_eq_true];exact⟨rfl,rfl,rfl⟩));refine St.nn (St.sr ?_);refine St.mv ?_;refine St.ee (Ev.aD (.mk rfl) mS) ?_;refine St.ee (Ev.l0 (.mk rfl) df) ?_;refine St.ee (Ev.sZ mkStr (k:=va.name) (.mk rfl) (.mk rfl) zY (by exact df) eJ) ?_;refine St.mv ?_;refine St.ee (Ev.extract (.mk rfl) rfl) ?_;refine St.ee (Ev.extract (.mk rfl) rfl) ?_;refine St.slot 42 (.bool (decide (va.name∈(q.vars.take k).map cj.name))) rfl (congrArg Value.bool (zy va.name)) ?_;refine St.ak ?_;refine St.ak ?_;refine St.nn (St.sr ?_);refine St.mv ?_;refine St.ee (Ev.aD (.mk rfl) mS) ?_;refine St.ee (Ev.l0 (.mk rfl) df) ?_;refine St.mv ?_;refine St.mapUpdate mkStr (k:=va.name) (.mk rfl) (.mk rfl) (.mk rfl) zY (by exact df) ?_;refine St.nn (St.block (St.sr ?_));refine St.ee (Ev.aD (.mk rfl) gO) ?_;refine St.ee (Ev.l0 (.mk rfl) bP) ?_;refine St.ee Ev.dn ?_;refine St.mv ?_;refine St.gf _ rfl rfl (fun hg=>Ev.aD (.mk rfl) gO) rfl ?_;refine St.gf _ rfl rfl (fun hg=>Ev.cN (aL.gv rfl hg) bP trivial (by rfl)) rfl ?_;refine St.gf _ rfl rfl (fun hg=>Ev.gtr (aL.gv rfl hg) (.mk rfl)) rfl ?_;refine St.ee Ev.o0 ?_;refine St.ak ?_;refine St.nn ?_;refine St.cond _ rfl (fun NZ=> ?_) (fun NZ=> ?_)
    ·try simp only[aC]at NZ
     rw[if_pos (by omega)]at cE;refine St.sr ?_;refine St.mv ?_;refine St.ee (Ev.call (cy 4 k) vY (.cons (.mk rfl) (.cons (.mk rfl) .nil))) ?_;refine St.sA (.mk rfl) (.mk rfl) ay ?_;refine St.nn (St.aX (St.aM (St.aM (St.aB (St.aB (St.aM (St.aB ?_)))))));refine St.rU [_] [] Tryz.results7 ?_;exact congrArg fv (fH oX (hv.trans cE) (by decide)).symm
    ·try simp only[aC]at NZ
     rw[if_neg (by omega)]at cE;refine St.join (ι:=Bool) (fun bq T=>(58,.bool bq)::T) (fun bq=>[ae b5 (.cells [sv va.name,iv va.kind,sv va.label].toArray 71 (0,0)),ae XK (jy mkStr (ji m va.name (iv k))),ae b1 (.cells [q.vv.1,q.kv.1].toArray 36 (0,0)),ae b2 (.cells [iv 0,iv 0].toArray 42 (0,0)),aG (sl gz q.vv.1 q.vars),aG (sl iH q.kv.1 q.aZ),aG (u8)]) (fun bq=>(bq=true↔(isName va.name=false∨(va.kind=2∧isName va.label=false)∨(va.kind=3∧isWord va.label=false)))) (aE.cons 1 rfl (aE.cons 2 rfl (aE.cons 3 rfl (aE.cons 4 rfl (aE.cons 5 rfl (aE.cons 7 rfl (aE.cons 29 rfl (aE.cons 30 rfl (aE.cons 31 rfl aE.nil))))))))) ?_ ?_
     ·refine St.sr ?_
      refine St.ee (Ev.aD (.mk rfl) mS) ?_;refine St.ee (Ev.l0 (.mk rfl) df) ?_;refine St.ee (Ev.call (jt va.name (by omega)) Ea (.cons (.mk rfl) .nil)) ?_;refine St.ee (Ev.not (.mk rfl)) ?_;refine St.ak ?_;refine St.nn ?_;refine St.cond _ rfl (fun BH=> ?_) (fun BH=> ?_)
      ·skip
       refine St.skip (St.aA ?_);refine St.mE true (by first|(simp only[Bool.and_eq_true,decide_eq_true_eq,Bool.not_eq_true']at CI;exact⟨fun _=>Or.inr (Or.inl CI),fun _=>rfl⟩)|(simp only[Bool.not_eq_true']at BH;exact⟨fun _=>Or.inl BH,fun _=>rfl⟩))
      ·skip
       refine St.sr ?_;refine St.ee (Ev.aD (.mk rfl) gO) ?_;refine St.ee (Ev.l0 (.mk rfl) bP) ?_;refine St.ee Ev.ey ?_;refine St.mv ?_;refine St.gt _ rfl rfl (fun hg=>Ev.aD (.mk rfl) kK) rfl ?_;refine St.gt _ rfl rfl (fun hg=>Ev.cN (aL.gv rfl hg) df trivial (by rfl)) rfl ?_;refine St.gt _ rfl rfl (fun hg=>Ev.call (jt va.label (by omega)) Ea (.cons (aL.gv rfl hg) .nil)) rfl ?_;refine St.gt _ rfl rfl (fun hg=>Ev.not (aL.gv rfl hg)) rfl ?_;refine St.ee Ev.n0 ?_;refine St.ak ?_;refine St.nn ?_;refine St.cond _ rfl (fun CI=> ?_) (fun CI=> ?_)
       ·skip
        refine St.skip (St.aA ?_);refine St.mE true (by first|(simp only[Bool.and_eq_true,decide_eq_true_eq,Bool.not_eq_true']at CI;exact⟨fun _=>Or.inr (Or.inl CI),fun _=>rfl⟩)|(simp only[Bool.not_eq_true']at BH;exact⟨fun _=>Or.inl BH,fun _=>rfl⟩))
       ·skip
        refine St.rg ?_;refine St.ee (Ev.aD (.mk rfl) gO) ?_;refine St.ee (Ev.l0 (.mk rfl) bP) ?_;refine St.ee Ev.ey ?_;refine St.mv ?_;refine St.gt _ rfl rfl (fun hg=>Ev.aD (.mk rfl) kK) rfl ?_;refine St.gt _ rfl rfl (fun hg=>Ev.cN (aL.gv rfl hg) df trivial (by rfl)) rfl ?_;refine St.gt _ rfl rfl (fun hg=>Ev.jZ jJ (xB va.label (by omega)) T1 (.cons (aL.gv rfl hg) .nil)) rfl ?_;refine St.gt _ rfl rfl (fun hg=>Ev.not (aL.gv rfl hg)) rfl ?_;refine St.ee Ev.n0 ?_;refine St.ak ?_;refine St.nn ?_;refine St.mE (decide (va.kind=3)&& !isWord va.label) (by simp only[Bool.not_eq_false',Bool.and_eq_false_iff,decide_eq_false_iff_not]at BH CI;simp only[Bool.and_eq_true,decide_eq_true_eq,Bool.not_eq_true'];exact⟨fun h=>Or.inr (Or.inr h),fun h=>by rcases h with h|⟨h,h2⟩|h;(rw[BH]at h;cases h);(rcases CI with h3|h3;exact absurd h h3;rw[h3]at h2;cases h2);exact h⟩)
     ·intro bq hbq
      refine St.cond _ rfl (fun BH=> ?_) (fun BH=> ?_)
      ·skip
       refine St.seq ?_;rw[if_pos (hbq.1 BH)]at cE;refine St.rg ?_;refine St.mv ?_;refine St.ee (Ev.call (cy 10 k) vY (.cons (.mk rfl) (.cons (.mk rfl) .nil))) ?_;refine St.sA (.mk rfl) (.mk rfl) ay ?_;refine St.nn (St.aX (St.aM (St.aM (St.aB (St.aB (St.aM (St.aB ?_)))))));refine St.rU [_] [] Tryz.results7 ?_;exact congrArg fv (fH oX (hv.trans cE) (by decide)).symm
      ·skip
       refine St.seq ?_;rw[if_neg (fun hp=>by rw[hbq.2 hp]at BH;cases BH)]at cE;refine St.rg ?_;refine St.mv ?_;refine St.ak ?_;refine St.nn ?_;refine St.cond _ rfl (fun LQ=> ?_) (fun LQ=> ?_)
       ·try simp only[aC]at LQ
        rw[if_pos LQ]at cE;refine St.sr ?_;refine St.mv ?_;refine St.ee (Ev.call (cy 7 k) vY (.cons (.mk rfl) (.cons (.mk rfl) .nil))) ?_;refine St.sA (.mk rfl) (.mk rfl) ay ?_;refine St.nn (St.aX (St.aM (St.aM (St.aB (St.aB (St.aM (St.aB ?_)))))));refine St.rU [_] [] Tryz.results7 ?_;exact congrArg fv (fH oX (hv.trans cE) (by decide)).symm
       ·try simp only[aC]at LQ
        rw[if_neg LQ]at cE;refine St.sr ?_;refine St.ee (Ev.aD (.mk rfl) gO) ?_;refine St.ee (Ev.l0 (.mk rfl) bP) ?_;refine St.ee Ev.ey ?_;refine St.mv ?_;refine St.gf _ rfl rfl (fun hg=>Ev.aD (.mk rfl) gO) rfl ?_;refine St.gf _ rfl rfl (fun hg=>Ev.cN (aL.gv rfl hg) bP trivial (by rfl)) rfl ?_;refine St.gf _ rfl rfl (fun hg=>Ev.eql (aL.gv rfl hg) (.mk rfl)) rfl ?_;refine St.ee Ev.o0 ?_;refine St.mv ?_;refine St.gt _ rfl rfl (fun hg=>Ev.aD (.mk rfl) kK) rfl ?_;refine St.gt _ rfl rfl (fun hg=>Ev.cN (aL.gv rfl hg) df trivial (by rfl)) rfl ?_;refine St.gt _ rfl rfl (fun hg=>Ev.oa (aL.gv rfl hg) (.mk rfl)) rfl ?_;refine St.ee Ev.n0 ?_;refine St.ak ?_;refine St.nn ?_;refine St.cond _ rfl (fun vU=> ?_) (fun vU=> ?_)
        ·skip
         rw[if_pos (by simpa using vU)]at cE;refine St.sr ?_;refine St.mv ?_;refine St.ee (Ev.call (cy 5 k) vY (.cons (.mk rfl) (.cons (.mk rfl) .nil))) ?_;refine St.sA (.mk rfl) (.mk rfl) ay ?_;refine St.nn (St.aX (St.aM (St.aM (St.aB (St.aB (St.aM (St.aB ?_)))))));refine St.rU [_] [] Tryz.results7 ?_;exact congrArg fv (fH oX (hv.trans cE) (by decide)).symm
        ·skip
         rw[if_neg (by simpa using vU)]at cE;refine St.skip (St.aN (St.aN (St.aA (St.rg ?_))));refine St.ee Ev.a0 ?_;refine St.mv ?_;refine St.nn ?_;refine St.jb (k+1) (ji m va.name (iv k)) ⟨by omega,by rw[hv,cE,bx cj.name ht],by rw[bx cj.name ht];exact zy.snoc _ _⟩
   ·try simp only[aC]at oE
    rw[uN (by omega)]at hv
    replace oX:=oD oX hv
    refine St.exit (St.aF (St.aF (St.bH (St.aA (St.seq (St.sr ?_))))));refine St.ee (Ev.aD (.mk rfl) kJ) ?_;refine St.ee (Ev.l0 (.mk rfl) jG) ?_;refine St.ee (Ev.ao (.mk rfl) jG) ?_;refine St.mv ?_;refine St.nn (St.block ?_);refine St.lH (ι:=Nat) (fun p T=>(107,iv p)::T) (fun p=>[ae b1 (.cells [q.vv.1,q.kv.1].toArray 36 (0,0)),ae b2 (.cells [iv 0,iv 0].toArray 42 (0,0)),aG (sl gz q.vv.1 q.vars),aG (sl iH q.kv.1 q.aZ),aG (u8)]) (fun p=>p≤q.aZ.length∧gV q.vars.length q.vars.length q.aZ=gV q.vars.length (q.vars.length+p) (q.aZ.drop p)) (fun p=>q.aZ.length-p) 0 (aE.cons 1 rfl (aE.cons 2 rfl (aE.cons 105 rfl (aE.cons 106 rfl aE.nil)))) ⟨Nat.zero_le _,rfl⟩ ?_;rintro p ⟨hp,mR⟩;refine St.sr ?_;refine St.ee Ev.dn ?_;refine St.nn (St.seq ?_);refine St.cond _ rfl (fun Ps=> ?_) (fun Ps=> ?_)
    ·try simp only[aC]at Ps
     obtain⟨x,hx⟩:=aO (show p<q.aZ.length by omega)
     have cE:=rr (n:=q.vars.length) (m:=q.vars.length) hx
     refine St.skip (St.aA (St.seq (St.block (St.sr ?_))));refine St.mv ?_;refine St.ee (Ev.aR (k:=p) (.mk rfl) (.mk rfl) jG oV (by omega) (by omega)) ?_;refine St.ee (Ev.fg (.mk rfl) hx Km trivial oV ei.eq) ?_;refine St.alloc HZ rfl (fun b9=> ?_);refine St.ak ?_;refine St.sA (.mk rfl) (.mk rfl) oV ?_ (h1:=(by simp only[List.all_cons,List.all_nil,Bool.and_true,Bool.and_eq_true];exact⟨rfl,rfl,rfl⟩));refine St.nn (St.sr ?_);refine St.ee (Ev.aD (.mk rfl) eg) ?_;refine St.ee (Ev.l0 (.mk rfl) eX) ?_;refine St.ee (Ev.ao (.mk rfl) eX) ?_;refine St.mv ?_;refine St.ee Ev.a0 ?_;refine St.slot 116 (iv ((q.vars.length+p:Nat):Int)) rfl rfl ?_;refine St.ak ?_;refine St.nn (St.block (St.sr ?_));refine St.ee (Ev.aD (.mk rfl) pH) ?_;refine St.ee (Ev.l0 (.mk rfl) bP) ?_;refine St.ee Ev.dn ?_;refine St.mv ?_;refine St.gf _ rfl rfl (fun hg=>Ev.aD (.mk rfl) pH) rfl ?_;refine St.gf _ rfl rfl (fun hg=>Ev.cN (aL.gv rfl hg) bP trivial (by rfl)) rfl ?_;refine St.gf _ rfl rfl (fun hg=>Ev.gtr (aL.gv rfl hg) (.mk rfl)) rfl ?_;refine St.ee Ev.o0 ?_;refine St.ak ?_;refine St.nn ?_;refine St.cond _ rfl (fun Bz=> ?_) (fun Bz=> ?_)
     ·try simp only[aC]at Bz
      rw[if_pos (by omega)]at cE;refine St.sr ?_;refine St.mv ?_;refine St.ee (Ev.call (cy 4 ((q.vars.length+p:Nat):Int)) vY (.cons (.mk rfl) (.cons (.mk rfl) .nil))) ?_;refine St.sA (.mk rfl) (.mk rfl) ay ?_;refine St.nn (St.aX (St.aM (St.aM (St.aB (St.aB (St.aM (St.aB ?_)))))));refine St.rU [_] [] Tryz.results7 ?_;exact congrArg fv (oX.trans (mR.trans cE)).symm
     ·try simp only[aC]at Bz
      rw[if_neg (by omega)]at cE;refine St.sr ?_;refine St.ee (Ev.aD (.mk rfl) lL) ?_;refine St.ee (Ev.l0 (.mk rfl) bP) ?_;refine St.ee Ev.dn ?_;refine St.mv ?_;refine St.gf _ rfl rfl (fun hg=>Ev.aD (.mk rfl) lL) rfl ?_;refine St.gf _ rfl rfl (fun hg=>Ev.cN (aL.gv rfl hg) bP trivial (by rfl)) rfl ?_;refine St.gf _ rfl rfl (fun hg=>Ev.aD (.mk rfl) eg) rfl ?_;refine St.gf _ rfl rfl (fun hg=>Ev.cN (aL.gv rfl hg) eX trivial (by rfl)) rfl ?_;refine St.gf _ rfl rfl (fun hg=>Ev.ao (aL.gv rfl hg) eX) rfl ?_;refine St.gf _ rfl rfl (fun hg=>Ev.geq (aL.gv rfl hg) (aL.gv rfl hg)) rfl ?_;refine St.ee Ev.o0 ?_;refine St.mv ?_;refine St.gf _ rfl rfl (fun hg=>Ev.aD (.mk rfl) lM) rfl ?_;refine St.gf _ rfl rfl (fun hg=>Ev.cN (aL.gv rfl hg) bP trivial (by rfl)) rfl ?_;refine St.gf _ rfl rfl (fun hg=>Ev.lss (aL.gv rfl hg) (.mk rfl)) rfl ?_;refine St.ee Ev.o0 ?_;refine St.mv ?_;refine St.gf _ rfl rfl (fun hg=>Ev.aD (.mk rfl) lM) rfl ?_;refine St.gf _ rfl rfl (fun hg=>Ev.cN (aL.gv rfl hg) bP trivial (by rfl)) rfl ?_;refine St.gf _ rfl rfl (fun hg=>Ev.aD (.mk rfl) eg) rfl ?_;refine St.gf _ rfl rfl (fun hg=>Ev.cN (aL.gv rfl hg) eX trivial (by rfl)) rfl ?_;refine St.gf _ rfl rfl (fun hg=>Ev.ao (aL.gv rfl hg) eX) rfl ?_;refine St.gf _ rfl rfl (fun hg=>Ev.geq (aL.gv rfl hg) (aL.gv rfl hg)) rfl ?_;refine St.ee Ev.o0 ?_;refine St.ak ?_;refine St.nn ?_;refine St.cond _ rfl (fun Pt=> ?_) (fun Pt=> ?_)
      ·try simp only[aC]at Pt
       rw[if_pos (by omega)]at cE;refine St.sr ?_;refine St.mv ?_;refine St.ee (Ev.call (cy 3 ((q.vars.length+p:Nat):Int)) vY (.cons (.mk rfl) (.cons (.mk rfl) .nil))) ?_;refine St.sA (.mk rfl) (.mk rfl) ay ?_;refine St.nn (St.aX (St.aM (St.aM (St.aB (St.aB (St.aM (St.aB ?_)))))));refine St.rU [_] [] Tryz.results7 ?_;exact congrArg fv (oX.trans (mR.trans cE)).symm
      ·try simp only[aC]at Pt
       rw[if_neg (by omega)]at cE;refine St.sr ?_;refine St.ee (Ev.aD (.mk rfl) lL) ?_;refine St.ee (Ev.l0 (.mk rfl) bP) ?_;refine St.ee (Ev.aD (.mk rfl) lM) ?_;refine St.ee (Ev.l0 (.mk rfl) bP) ?_;refine St.ee Ev.ey ?_;refine St.ak ?_;refine St.nn ?_;refine St.cond _ rfl (fun Pu=> ?_) (fun Pu=> ?_)
       ·try simp only[aC]at Pu
        rw[if_pos (by omega)]at cE;refine St.sr ?_;refine St.mv ?_;refine St.ee (Ev.call (cy 5 ((q.vars.length+p:Nat):Int)) vY (.cons (.mk rfl) (.cons (.mk rfl) .nil))) ?_;refine St.sA (.mk rfl) (.mk rfl) ay ?_;refine St.nn (St.aX (St.aM (St.aM (St.aB (St.aB (St.aM (St.aB ?_)))))));refine St.rU [_] [] Tryz.results7 ?_;exact congrArg fv (oX.trans (mR.trans cE)).symm
       ·try simp only[aC]at Pu
        rw[if_neg (by omega)]at cE;refine St.skip (St.aN (St.aN (St.aA (St.rg ?_))));refine St.ee Ev.a0 ?_;refine St.mv ?_;refine St.nn ?_;refine St.aH (p+1) ⟨by omega,mR.trans cE⟩
    ·try simp only[aC]at Ps
     rw[uO (by omega)]at mR
     have Tb:=oX.trans mR
     refine St.exit (St.aF (St.aF (St.bH (St.aA (St.sr ?_)))));refine St.ee (Ev.build (ps:=[]) (aU.nil) (fun w=>fA w)) ?_;refine St.sA (.mk rfl) (.mk rfl) ay ?_;refine St.nn (St.aX ?_);refine St.rU [_] [] Tryz.results7 ?_;exact congrArg fv Tb.symm
theorem yb (g:iV)(vs:List cj)(ks:List eH)(t:fG):vX g vs ks t=if(kP g).1≠0 then([],kP g)else if(iy vs ks).1≠0 then([],iy vs ks)else if(ja g t).1≠0 then([],ja g t)
 else if 500<(kI g vs ks t).length then([],(17,0))else(kI g vs ks t,(0,0)):=rfl
set_option maxHeartbeats 4000000 in
theorem kL (g:iX)(q:eu)(t:bh)(hw:db.wf t):E9 Tryz.prog 9 #[iG g,gJ q,er t] ([dw g,dD q,cB t,tz,u8].map aG) (fun r H'=>∃vo,r= .tuple #[vo,fv (vX (fV g) q.vars q.aZ (an t)).2]∧vo.oneCell'=true∧H'=[aG (sG aK vo ((vX (fV g) q.vars q.aZ (an t)).1.map ints))]):=by
 refine E9.body (args:=[iG g,gJ q,er t]) 50 Tryz.func9 rfl Tryz.ntmps9 rfl (fun c jJ=> ?_);refine St.cast (H':=[aG (dw g),aG (dD q),aG (cB t),aG (tz),aG (u8)]) rfl ?_;refine St.seq ?_
 refine St.fI (dD q) (fun _:Unit=>p8 q) (fun ρ h=>⟨(),h⟩) fun _=> ?_
 refine St.cast (H':=[aG (sl gz q.vv.1 q.vars),aG (sl iH q.kv.1 q.aZ),aG (dw g),aG (dD q),aG (cB t),aG (tz),aG (u8)]) rfl ?_
 have ry:=yb (fV g) q.vars q.aZ (an t)
 refine St.rg ?_;refine St.cV (.mk rfl) rfl (fun b3=> ?_);refine St.cV (.mk rfl) rfl (fun b4=> ?_);refine St.cV (.mk rfl) rfl (fun b5=> ?_);refine St.ak ?_;refine St.alloc dF rfl (fun b7=> ?_);refine St.nn (St.seq (St.sr ?_));refine St.ee (Ev.bF (.mk rfl) sK trivial (by exact qo)) ?_;refine St.ee (Ev.jZ jJ (Aa g) Z5 (.cons (.mk rfl) .nil)) ?_;refine St.alloc dF rfl (fun b8=> ?_);refine St.sA (.mk rfl) (.mk rfl) ay ?_;refine St.nn (St.sr ?_);refine St.ee (Ev.aD (.mk rfl) cX) ?_;refine St.ee (Ev.l0 (.mk rfl) bP) ?_;refine St.ee Ev.k9 ?_;refine St.nn ?_;refine St.cond _ rfl (fun gY=> ?_) (fun gY=> ?_)
 ·skip
  rw[if_pos (show(kP (fV g)).1≠0 by simpa using gY)]at ry;refine St.seq ?_;refine St.zM [b7] mixed (fun np ns=> ?_);refine SW.dd 0 rfl (fun _=>Ev.bF (.mk rfl) fl trivial (by exact ay)) ?_;refine SW.dd 1 rfl (fun _=>Ev.assign (.mk rfl)) ?_;refine SW.bG (i:=2) (by kernel_rfl) rfl ?_;refine St.sA (.mk rfl) (.mk rfl) ay ?_;refine St.nn ?_;refine SW.go ?_;refine SW.done (by kernel_rfl) ?_;refine St.aA (St.aX (St.aB ?_));refine St.hY cC ?_;refine St.n8 aK ?_;refine St.BZ (Rr:=aK) (l:=[]) (.slice none 0 0) (vs:=[]) rfl ?_;refine St.rT [_,_] [aG (sG aK (.slice none 0 0) [])] Tryz.results9 ⟨rfl,⟨⟨_,_,_,_,rfl,ju.mem,.inl ⟨⟨_,fl⟩,ay,rfl⟩⟩,trivial⟩⟩ ?_;exact⟨_,congrArg (fun z=>Value.tuple #[(.slice none 0 0),fv z]) (by rw[ry]),rfl,by rw[ry];rfl⟩
 ·skip
  have Tc:¬(kP (fV g)).1≠0:=by simpa using gY
  rw[if_neg Tc]at ry;refine St.skip (St.aA (St.seq (St.sr ?_)));refine St.ee (Ev.bF (.mk rfl) sL trivial (by exact r4)) ?_;refine St.ee (Ev.jZ jJ (nc q) Z6 (.cons (.mk rfl) .nil)) ?_;refine St.alloc dF rfl (fun b9=> ?_);refine St.sA (.mk rfl) (.mk rfl) ay ?_;refine St.nn (St.sr ?_);refine St.ee (Ev.aD (.mk rfl) cX) ?_;refine St.ee (Ev.l0 (.mk rfl) bP) ?_;refine St.ee Ev.k9 ?_;refine St.nn ?_;refine St.cond _ rfl (fun ov=> ?_) (fun ov=> ?_)
  ·skip
   rw[if_pos (show(iy q.vars q.aZ).1≠0 by simpa using ov)]at ry;refine St.seq ?_;refine St.zM [b7] mixed (fun np ns=> ?_);refine SW.dd 0 rfl (fun _=>Ev.bF (.mk rfl) fl trivial (by exact ay)) ?_;refine SW.dd 1 rfl (fun _=>Ev.assign (.mk rfl)) ?_;refine SW.bG (i:=2) (by kernel_rfl) rfl ?_;refine St.sA (.mk rfl) (.mk rfl) ay ?_;refine St.nn ?_;refine SW.go ?_;refine SW.done (by kernel_rfl) ?_;refine St.aA (St.aX (St.aB ?_));refine St.hY cC ?_;refine St.n8 aK ?_;refine St.BZ (Rr:=aK) (l:=[]) (.slice none 0 0) (vs:=[]) rfl ?_;refine St.rT [_,_] [aG (sG aK (.slice none 0 0) [])] Tryz.results9 ⟨rfl,⟨⟨_,_,_,_,rfl,ju.mem,.inl ⟨⟨_,fl⟩,ay,rfl⟩⟩,trivial⟩⟩ ?_;exact⟨_,congrArg (fun z=>Value.tuple #[(.slice none 0 0),fv z]) (by rw[ry]),rfl,by rw[ry];rfl⟩
  ·skip
   have Td:¬(iy q.vars q.aZ).1≠0:=by simpa using ov
   rw[if_neg Td]at ry
   have hq:=(yO (Decidable.not_not.1 Td)).2
   refine St.skip (St.aA (St.seq (St.sr ?_)));refine St.ee (Ev.bF (.mk rfl) sK trivial (by exact qo)) ?_;refine St.ee (Ev.bF (.mk rfl) lk trivial (by exact gZ)) ?_;refine St.ee (Ev.call (F3 g t hw) Z7 (.cons (.mk rfl) (.cons (.mk rfl) .nil))) ?_;refine St.alloc dF rfl (fun jc=> ?_);refine St.sA (.mk rfl) (.mk rfl) ay ?_;refine St.nn (St.sr ?_);refine St.ee (Ev.aD (.mk rfl) cX) ?_;refine St.ee (Ev.l0 (.mk rfl) bP) ?_;refine St.ee Ev.k9 ?_;refine St.nn ?_;refine St.cond _ rfl (fun oE=> ?_) (fun oE=> ?_)
   ·skip
    rw[if_pos (show(ja (fV g) (an t)).1≠0 by simpa using oE)]at ry;refine St.seq ?_;refine St.zM [b7] mixed (fun np ns=> ?_);refine SW.dd 0 rfl (fun _=>Ev.bF (.mk rfl) fl trivial (by exact ay)) ?_;refine SW.dd 1 rfl (fun _=>Ev.assign (.mk rfl)) ?_;refine SW.bG (i:=2) (by kernel_rfl) rfl ?_;refine St.sA (.mk rfl) (.mk rfl) ay ?_;refine St.nn ?_;refine SW.go ?_;refine SW.done (by kernel_rfl) ?_;refine St.aA (St.aX (St.aB ?_));refine St.hY cC ?_;refine St.n8 aK ?_;refine St.BZ (Rr:=aK) (l:=[]) (.slice none 0 0) (vs:=[]) rfl ?_;refine St.rT [_,_] [aG (sG aK (.slice none 0 0) [])] Tryz.results9 ⟨rfl,⟨⟨_,_,_,_,rfl,ju.mem,.inl ⟨⟨_,fl⟩,ay,rfl⟩⟩,trivial⟩⟩ ?_;exact⟨_,congrArg (fun z=>Value.tuple #[(.slice none 0 0),fv z]) (by rw[ry]),rfl,by rw[ry];rfl⟩
   ·skip
    have Te:¬(ja (fV g) (an t)).1≠0:=by simpa using oE
    rw[if_neg Te]at ry
    have Ze:=AG (Decidable.not_not.1 Tc) (Decidable.not_not.1 Te)
    obtain⟨FA,Tf,Zf⟩:=Ze;rw[show(fV g).rules.length=g.rules.length from List.length_map _,show(fV g).bA.length=g.bA.length from List.length_map _]at FA
    have hvn:=hq.Sz
    have hvp:=hq.pos
    refine St.skip (St.aA (St.sr ?_));refine St.ee (Ev.bF (.mk rfl) sK trivial (by exact qo)) ?_;refine St.ee (Ev.bF (.mk rfl) lk trivial (by exact gZ)) ?_;refine St.aw (CE g t hw FA Tf (by omega)) Z8 (.cons (.mk rfl) (.cons (.mk rfl) .nil)) rfl ?_;rintro v36 _ ⟨Tg,rfl⟩;refine St.bL ?_;refine St.alloc TC rfl (fun kp=> ?_);refine St.cW (.mk rfl) (.mk rfl) TA Tg (by rfl) ?_;refine St.nn (St.sr ?_);refine St.alloc Z9 rfl (fun DS=> ?_);refine St.nn (St.sr ?_);refine St.ee (Ev.aD (.mk rfl) eg) ?_;refine St.ee (Ev.l0 (.mk rfl) eX) ?_;refine St.ee (Ev.ao (.mk rfl) eX) ?_;refine St.gB (m:=q.vars.length) (.mk rfl) (.mk rfl) bE cr eJ Gh rfl rfl (by omega) rfl rfl (fun Yj=> ?_);refine St.bB (.slice (some ⟨Yj,0,none⟩) q.vars.length q.vars.length) rfl (AR _) ?_;refine St.alloc ZA rfl (fun NY=> ?_);refine St.cW (.mk rfl) (.mk rfl) eI rfl (by rfl) ?_;refine St.nn (St.sr ?_);refine St.alloc ZB rfl (fun oU=> ?_);refine St.nn (St.sr ?_);refine St.ee (Ev.func (.cons (.mk rfl) (.cons (.mk rfl) (.cons (.mk rfl) (.cons (.mk rfl) (.cons (.mk rfl) .nil)))))) ?_;refine St.cW (.mk rfl) (.mk rfl) ZC rfl (by rfl) ?_;refine St.nn (St.seq ?_);refine St.jw 57 1 ?_;refine St.bB (.slice none 0 0) (show _=([]:List (List Nat)).length from rfl) (show _=rows cC []from rfl) ?_;refine St.n8 aK ?_;refine St.cast (H':=_::_) (show aG (jx aK [] [])::_=aG (jx aK [] (([]:List (List Nat)).map ints))::_ from rfl) ?_
    obtain⟨T,hT⟩:∃T,T=vO (m7 (fV g) (an t) 0 (-1) 0) q.aZ q.vars [] []:=⟨_,rfl⟩
    have R4:=y1 (m7 (fV g) (an t) 0 (-1) 0) q.aZ q.vars [] [] (by simp) (by simp)
    rw[←hT,List.nil_append]at R4
    replace R4:T=(kI (fV g) q.vars q.aZ (an t)).take 501:=R4
    refine St.rg ?_;refine St.ee (Ev.l0 (.mk rfl) Tryz.underlying80) ?_;refine St.dU (yY NY DS kp b4 oU (.slice (some ⟨Yj,0,none⟩) q.vars.length q.vars.length) v36 (m7 (fV g) (an t) 0 (-1) 0) q hq q.vars.length q.vars [] [] (List.replicate q.vars.length 0) (.slice none 0 0) [] T rfl hT rfl (by simp) (by simp) rfl (fun y hy=>by cases hy) rfl rfl (by simp) (fun _=>by simp)) TF (.mk rfl) (.cons (.mk rfl) .nil) rfl ?_;rintro v43 _ ⟨A2,Pv,us2,hA2,_,Zg,yc,rfl⟩;refine St.TL ?_;refine St.nn (St.seq (St.sr ?_));refine St.ee (Ev.l0 (.mk rfl) dE) ?_;refine St.ee (Ev.fS (.mk rfl) dE) ?_;refine St.ee Ev.qn ?_;refine St.nn ?_;refine St.cond _ rfl (fun pw=> ?_) (fun pw=> ?_)
    ·try simp only[aC]at pw
     have LR:500<(kI (fV g) q.vars q.aZ (an t)).length:=by have:=congrArg List.length R4;rw[List.length_take]at this;omega
     rw[if_pos LR]at ry;refine St.sr ?_;refine St.ee (Ev.call (cy 17 0) vY (.cons (.mk rfl) (.cons (.mk rfl) .nil))) ?_;refine St.ak ?_;refine St.sA (.mk rfl) (.mk rfl) ay ?_;refine St.nn (St.aX (St.aB ?_));refine St.hY cC ?_;refine St.n8 aK ?_;refine St.BZ (Rr:=aK) (l:=[]) (.slice none 0 0) (vs:=[]) rfl ?_;refine St.rT [_,_] [aG (sG aK (.slice none 0 0) [])] Tryz.results9 ⟨rfl,⟨⟨_,_,_,_,rfl,ju.mem,.inl ⟨⟨_,fl⟩,ay,rfl⟩⟩,trivial⟩⟩ ?_;exact⟨_,congrArg (fun z=>Value.tuple #[(.slice none 0 0),fv z]) (by rw[ry]),rfl,by rw[ry];rfl⟩
    ·try simp only[aC]at pw
     have hTs:T=kI (fV g) q.vars q.aZ (an t):=by rw[R4,List.take_of_length_le];have:=congrArg List.length R4;rw[List.length_take]at this;omega
     rw[if_neg (by rw[←hTs];omega)]at ry;refine St.skip (St.aA (St.sr ?_));refine St.ee (Ev.l0 (.mk rfl) dE) ?_;refine St.ee (Ev.build (ps:=[]) (aU.nil) (fun w=>fA w)) ?_;refine St.ak ?_;refine St.sA (.mk rfl) (.mk rfl) ay ?_;refine St.nn (St.aX ?_);refine St.aV Pv cC us2 rfl yc.symm (fun _ _=>trivial) ?_;refine St.BZ (Rr:=aK) (l:=T.map ints) Pv (vs:=us2) (by rw[List.length_map];exact yc) ?_;refine St.rT [_,_] [aG (sG aK Pv (T.map ints))] Tryz.results9 ⟨rfl,⟨⟨_,_,_,_,rfl,ju.mem,.inl ⟨⟨_,fl⟩,ay,rfl⟩⟩,trivial⟩⟩ ?_;exact⟨Pv,by rw[ry];rfl,Zg,by rw[ry,hTs]⟩
theorem uP (l:List cQ)(w:cQ):rows fx l++ [sv w]=rows fx (l++ [w]):=by rw[cz];rfl
theorem gm (v0 v1:Value)(a b:List Int):ct Tryz.prog 16 #[v0,v1] [sl aK v0 a,sl aK v1 b] (.bool (decide (a=b))):=by
 refine ct.mw (args:=[v0,v1]) 26 Tryz.func16 rfl Tryz.ntmps16 rfl (fun c=> ?_);refine St.seq ?_;refine St.wf v0 (fun ad5 Th=> ?_);refine St.wf v1 (fun Ti Tj=> ?_);refine St.rg ?_;refine St.ak ?_;refine St.nn (St.seq (St.sr ?_));refine St.mv ?_;refine St.ee (Ev.ao (.mk rfl) bE) ?_;refine St.mv ?_;refine St.ee (Ev.ao (.mk rfl) bE) ?_;refine St.ee Ev.k9 ?_;refine St.nn ?_;refine St.cond _ rfl (fun re=> ?_) (fun re=> ?_)
 ·try simp only[aC]at re
  refine St.sr ?_;refine St.ak ?_;refine St.nn (St.aX (St.aB ?_));refine St.rU [_] [] Tryz.results16 ?_;exact be (by rw[eq_comm,decide_eq_false_iff_not];rintro rfl;omega)
 ·try simp only[aC]at re
  refine St.skip (St.aA (St.seq (St.sr ?_)));refine St.ak ?_;refine St.nn (St.block ?_);refine St.lS (ι:=Nat) (fun k T=>(5,iv k)::T) (fun k=>k≤a.length∧a.take k=b.take k) (fun k=>a.length-k) 0 (aE.cons 0 rfl (aE.cons 1 rfl aE.nil)) ⟨Nat.zero_le _,rfl⟩ ?_;intro k dA;obtain⟨hk,hv⟩:=dA;refine St.seq (St.sr ?_);refine St.mv ?_;refine St.mv ?_;refine St.ee (Ev.ao (.mk rfl) bE) ?_;refine St.ee Ev.dn ?_;refine St.nn ?_;refine St.cond _ rfl (fun pF=> ?_) (fun pF=> ?_)
  ·try simp only[aC]at pF
   obtain⟨x,hx⟩:=aO (show k<a.length by omega);obtain⟨y,hy⟩:=aO (show k<b.length by omega);refine St.skip (St.aA (St.seq (St.block (St.seq ?_))));refine St.rq mixed (by kernel_rfl) (Mm.drawn _ _) ?_;refine Sq.ee (Ev.move (.mk rfl)) ?_;refine Sq.ee (Ev.move (.mk rfl)) ?_;refine Sq.ee (Ev.aR (k:=k) (.mk rfl) (.mk rfl) bE cr (by omega) (by omega)) ?_;refine Sq.ee (Ev.ff (.mk rfl) hx bP trivial rfl) ?_;refine Sq.ee (Ev.move (.mk rfl)) ?_;refine Sq.ee (Ev.move (.mk rfl)) ?_;refine Sq.ee (Ev.aR (k:=k) (.mk rfl) (.mk rfl) bE cr (by omega) (by omega)) ?_;refine Sq.ee (Ev.ff (.mk rfl) hy bP trivial rfl) ?_;refine Sq.ee Ev.k9 ?_;refine Sq.nil ?_;refine St.aA ?_;refine St.cond _ rfl (fun ov=> ?_) (fun ov=> ?_)
   ·skip
    refine St.sr ?_;refine St.ak ?_;refine St.nn (St.aX (St.aM (St.aB (St.aB (St.aM (St.aB ?_))))));refine St.rU [_] [] Tryz.results16 ?_;exact be (by rw[eq_comm,decide_eq_false_iff_not];rintro rfl;rw[hx]at hy;simp only[Option.some.injEq]at hy;simp[hy]at ov)
   ·skip
    refine St.skip (St.aN (St.aA (St.rg ?_)));refine St.mv ?_;refine St.ee Ev.a0 ?_;refine St.ak ?_;refine St.nn ?_;refine St.aS (k+1) ⟨by omega,by rw[bI hx,bI hy,hv,show x=y by simpa using ov]⟩
  ·try simp only[aC]at pF
   refine St.exit (St.aF (St.aF (St.bH (St.aA (St.sr ?_)))));refine St.ak ?_;refine St.nn (St.aX ?_);refine St.rU [_] [] Tryz.results16 ?_;exact be (by rw[eq_comm,decide_eq_true_eq];rw[List.take_of_length_le (by omega),List.take_of_length_le (by omega)]at hv;exact hv)
theorem qF (v0 v1:Value)(a b:List (List Int)):ct Tryz.prog 14 #[v0,v1] [sG aK v0 a,sG aK v1 b] (.bool (decide (a=b))):=by
 refine ct.mw (args:=[v0,v1]) 27 Tryz.func14 rfl Tryz.ntmps14 rfl (fun c=> ?_);refine St.seq ?_;refine St.lD v0 (fun vs wv=> ?_);refine St.lD v1 (fun us DR=> ?_);refine St.wf v0 (fun _ Th=> ?_);refine St.wf v1 (fun _ Tj=> ?_);refine St.rg ?_;refine St.ak ?_;refine St.nn (St.seq (St.sr ?_));refine St.mv ?_;refine St.ee (Ev.ao (.mk rfl) dE) ?_;refine St.mv ?_;refine St.ee (Ev.ao (.mk rfl) dE) ?_;refine St.ee Ev.k9 ?_;refine St.nn ?_;refine St.cond _ rfl (fun re=> ?_) (fun re=> ?_)
 ·try simp only[aC]at re
  refine St.sr ?_;refine St.ak ?_;refine St.nn (St.aX (St.aB ?_));refine St.rU [_] [] Tryz.results14 ?_;exact be (by rw[eq_comm,decide_eq_false_iff_not];rintro rfl;omega)
 ·try simp only[aC]at re
  refine St.skip (St.aA (St.seq (St.sr ?_)));refine St.ak ?_;refine St.nn (St.block ?_);refine St.lS (ι:=Nat) (fun k T=>(5,iv k)::T) (fun k=>k≤a.length∧a.take k=b.take k) (fun k=>a.length-k) 0 (aE.cons 0 rfl (aE.cons 1 rfl aE.nil)) ⟨Nat.zero_le _,rfl⟩ ?_;intro k dA;obtain⟨hk,hv⟩:=dA;refine St.seq (St.sr ?_);refine St.mv ?_;refine St.mv ?_;refine St.ee (Ev.ao (.mk rfl) dE) ?_;refine St.ee Ev.dn ?_;refine St.nn ?_;refine St.cond _ rfl (fun pF=> ?_) (fun pF=> ?_)
  ·try simp only[aC]at pF
   obtain⟨x,hx⟩:=aO (show k<a.length by omega);obtain⟨y,hy⟩:=aO (show k<b.length by omega);obtain⟨u,hu⟩:=aO (show k<vs.length by omega);obtain⟨w,hw⟩:=aO (show k<us.length by omega);refine St.jx (vs:=vs) k hu hx ?_;refine St.jx (vs:=us) k hw hy ?_;refine St.skip (St.aA (St.seq (St.block (St.seq ?_))));refine St.rq mixed (by kernel_rfl) (Mm.drawn _ _) ?_;refine Sq.ee (Ev.move (.mk rfl)) ?_;refine Sq.ee (Ev.move (.mk rfl)) ?_;refine Sq.ee (Ev.aR (k:=k) (.mk rfl) (.mk rfl) dE eI (by omega) (by omega)) ?_;refine Sq.ee (Ev.ff (.mk rfl) hu bE trivial rfl) ?_;refine Sq.ee (Ev.move (.mk rfl)) ?_;refine Sq.ee (Ev.move (.mk rfl)) ?_;refine Sq.ee (Ev.aR (k:=k) (.mk rfl) (.mk rfl) dE eI (by omega) (by omega)) ?_;refine Sq.ee (Ev.ff (.mk rfl) hw bE trivial rfl) ?_;refine Sq.ee (Ev.call (gm u.1 w.1 x y) Hd (.cons (.mk rfl) (.cons (.mk rfl) .nil))) ?_;refine Sq.ee (Ev.not (.mk rfl)) ?_;refine Sq.nil ?_;refine St.aA ?_;refine St.cond _ rfl (fun BB=> ?_) (fun BB=> ?_)
   ·skip
    refine St.sr ?_;refine St.ak ?_;refine St.nn (St.aX (St.aM (St.aB (St.aB (St.aM (St.aB ?_))))));refine St.rU [_] [] Tryz.results14 ?_;exact be (by rw[eq_comm,decide_eq_false_iff_not];rintro rfl;rw[hx]at hy;simp only[Option.some.injEq]at hy;simp[hy]at BB)
   ·skip
    refine St.skip (St.aN (St.aA (St.rg ?_)));refine St.mv ?_;refine St.ee Ev.a0 ?_;refine St.ak ?_;refine St.nn ?_;refine St.aS (k+1) ⟨by omega,by rw[bI hx,bI hy,hv,show x=y by simpa using BB]⟩
  ·try simp only[aC]at pF
   refine St.exit (St.aF (St.aF (St.bH (St.aA (St.sr ?_)))));refine St.ak ?_;refine St.nn (St.aX ?_);refine St.rU [_] [] Tryz.results14 ?_;exact be (by rw[eq_comm,decide_eq_true_eq];rw[List.take_of_length_le (by omega),List.take_of_length_le (by omega)]at hv;exact hv)
def FB:fG:= .mk 0 0 [.mk (-1) 19 [],.mk 2 0 [.mk (-1) 9 []]]
theorem sm (r x:Int)(v:ck)(l:List bh)(h1: -100≤r∧r≤100)(h2: -100≤x∧x≤100):db.wf (.mk r x v l):=⟨by show bD r;unfold bD;omega,by show bD x;unfold bD;omega⟩
theorem lP:fF Tryz.prog 23 #[] ([].map aG) (fun v H'=>∃t:bh,v=er t∧an t=FB∧db.wf t∧H'=[aG (cB t)]):=by
 refine fF.body (args:=[]) 9 Tryz.func23 rfl Tryz.ntmps23 rfl (fun c=> ?_);refine St.cast (H':=[]) rfl ?_;refine St.sr ?_;refine St.alloc AH rfl (fun b0=> ?_);refine St.nn (St.sr ?_);refine St.ee (Ev.build (ps:=[(0,(.const (.int .i64 (-1)))),(1,(.const (.int .i64 9)))]) (aU.cons (aL.mk rfl) (aU.cons (aL.mk rfl) aU.nil)) (fun w=>wk rfl rfl w)) ?_;refine St.alloc AH rfl (fun b1=> ?_);refine St.sA (.mk rfl) (.mk rfl) gZ ?_ (h1:=(by simp only[List.all_cons,List.all_nil,Bool.and_true,Bool.and_eq_true];exact⟨rfl,rfl,rfl⟩));refine St.nn (St.sr ?_);refine St.ee (Ev.build (ps:=[(0,(.const (.int .i64 (-1)))),(1,(.const (.int .i64 19)))]) (aU.cons (aL.mk rfl) (aU.cons (aL.mk rfl) aU.nil)) (fun w=>wk rfl rfl w)) ?_;refine St.ee (Ev.bF (.mk rfl) lk trivial (by exact gZ)) ?_;refine St.cn rfl (.cons (.mk rfl) .nil) jP gZ TG rfl rfl (by simp[Value.cells]) rfl rfl (fun b5=> ?_);refine St.hY db ?_;refine St.da cB ?_;refine St.xz (-1) 9 (.slice none 0 0) rfl [] ?_;refine St.aV (.slice (some ⟨b5,0,none⟩) 1 1) db [(.mk (-1) 9 fa []:bh)] rfl rfl (fun y hy=>by rw[List.mem_singleton.1 hy];exact sm _ _ _ _ (by decide) (by decide)) ?_;refine St.eo cB (xs:=[]) (x:=(.mk (-1) 9 fa []:bh)) ?_;refine St.xz 2 0 (.slice (some ⟨b5,0,none⟩) 1 1) rfl [(.mk (-1) 9 fa []:bh)] ?_;refine St.ee (Ev.build (ps:=[(0,(.const (.int .i64 2))),(2,(.tmp 5))]) (aU.cons (aL.mk rfl) (aU.cons (aL.mk rfl) aU.nil)) (fun w=>F1 rfl rfl w)) ?_;refine St.cn rfl (.cons (.mk rfl) (.cons (.mk rfl) .nil)) jP gZ TG rfl rfl (by simp[Value.cells]) rfl rfl (fun b7=> ?_);refine St.xz (-1) 19 (.slice none 0 0) rfl [] ?_;refine St.aV (.slice (some ⟨b7,0,none⟩) 2 2) db [(.mk (-1) 19 fa []:bh),(.mk 2 0 ⟨(.slice (some ⟨b5,0,none⟩) 1 1),rfl⟩ [(.mk (-1) 9 fa []:bh)]:bh)] rfl rfl (fun y hy=>by rcases List.mem_cons.1 hy with rfl|hy;exact sm _ _ _ _ (by decide) (by decide);rw[List.mem_singleton.1 hy];exact sm _ _ _ _ (by decide) (by decide)) ?_;refine St.eo cB (xs:=[]) (x:=(.mk 2 0 ⟨(.slice (some ⟨b5,0,none⟩) 1 1),rfl⟩ [(.mk (-1) 9 fa []:bh)]:bh)) ?_;refine St.eo cB (xs:=[(.mk 2 0 ⟨(.slice (some ⟨b5,0,none⟩) 1 1),rfl⟩ [(.mk (-1) 9 fa []:bh)]:bh)]) (x:=(.mk (-1) 19 fa []:bh)) ?_;refine St.xz 0 0 (.slice (some ⟨b7,0,none⟩) 2 2) rfl [(.mk (-1) 19 fa []:bh),(.mk 2 0 ⟨(.slice (some ⟨b5,0,none⟩) 1 1),rfl⟩ [(.mk (-1) 9 fa []:bh)]:bh)] ?_;refine St.ee (Ev.build (ps:=[(2,(.tmp 7))]) (aU.cons (aL.mk rfl) aU.nil) (fun w=>LC rfl w)) ?_;refine St.sA (.mk rfl) (.mk rfl) gZ ?_ (h1:=(by simp only[List.all_cons,List.all_nil,Bool.and_true,Bool.and_eq_true];exact⟨rfl,rfl,rfl⟩));refine St.nn (St.aX ?_);refine St.rT [_] [aG (cB (.mk 0 0 ⟨(.slice (some ⟨b7,0,none⟩) 2 2),rfl⟩ [(.mk (-1) 19 fa []:bh),(.mk 2 0 ⟨(.slice (some ⟨b5,0,none⟩) 1 1),rfl⟩ [(.mk (-1) 9 fa []:bh)]:bh)]:bh))] Tryz.results23 ⟨⟨_,_,_,_,rfl,ju.mem,.inl ⟨⟨_,lk⟩,gZ,rfl⟩⟩,trivial⟩ ?_;exact⟨(.mk 0 0 ⟨(.slice (some ⟨b7,0,none⟩) 2 2),rfl⟩ [(.mk (-1) 19 fa []:bh),(.mk 2 0 ⟨(.slice (some ⟨b5,0,none⟩) 1 1),rfl⟩ [(.mk (-1) 9 fa []:bh)]:bh)]:bh),rfl,rfl,sm _ _ _ _ (by decide) (by decide),rfl⟩
end Go.Proofs.YtolmidffiegkaaaGreatDoor
namespace Go.J
open Go.RowKit
open Go
theorem E9.yd {P:Program}{f:FuncId}{args:Array Value}{ds:List dm}{post:Value→List bQ→Prop}(h:∀w (ρ:Ro),(∀k o,ρ k=some o→w.heap[k]?=some o)→(∀d∈ds,d.f ρ)→Calls P f args w fun e w'=>∃v,e= .returned v∧post v []∧Below w.heap.size w w'):
 E9 P f args (ds.map aG) post:=by
 intro w ρ hs;refine(h w ρ hs.fits fun d hd=>dZ.1 (hs.dK (aG d) (List.mem_map_of_mem hd))).mono ?_;rintro e w' ⟨v,rfl,hp,hb⟩;refine⟨v,[],rfl,hp,Mm.mk (ρ:=ρ) ⟨hb.os,⟨hb.tape,fun h=>h.elim⟩,hb.output,hb.size,fun k hk _=>hb.block k hk,fun k o hk=> ?_,Ro.le_refl _,fun _ _ _=>rfl,fun _ h=>by simp at h,fun _ h=>by simp at h,.nil⟩⟩;rw[hb.block k (hs.Mp hk)];exact hs.fits k o hk
theorem gw.yd {P:Program}{f:FuncId}{args:Array Value}{ds:List dm}{v:Value}(h:∀w (ρ:Ro),(∀k o,ρ k=some o→w.heap[k]?=some o)→(∀d∈ds,d.f ρ)→Calls P f args w fun e w'=>e= .returned v∧Below w.heap.size w w'):gw P f args ds v:=
 E9.yd fun w ρ h1 h2=>(h w ρ h1 h2).mono fun _ _ ⟨h1,h2⟩=>⟨v,h1,rfl,h2⟩
theorem Di {l:List cQ}{k:Nat}{x:cQ}(h:l[k]?=some x):(rows fx l)[k*1+0]?=some (sv x):=by
 have e:rows fx l=l.map fun s=>sv s:=by
  show l.flatMap (fun s=>[sv s])=_
  clear h
  induction l with
  |nil=>rfl
  |cons a l ih=>rw[List.flatMap_cons,ih];rfl
 rw[e,Nat.mul_one,Nat.add_zero,List.getElem?_map,h];rfl
theorem Hu (sep:List UInt8)(m:Nat):∀l:List (List UInt8),(∀s∈l,s.length≤m)→(Lib.join l sep).length≤l.length*(m+sep.length)
 | [],_=>by rw[Lib.join_nil];simp
 |x::r,h=>by
  rw[Lib.join_cons,List.length_append]
  have h1:=h x (List.mem_cons_self ..)
  have h2:(Lib.joinTail sep r).length≤r.length*(m+sep.length):=by
   have h3:∀s∈r,s.length≤m:=fun s hs=>h s (List.mem_cons_of_mem _ hs)
   clear h h1
   induction r with
   |nil=>simp[Lib.joinTail]
   |cons y r ih=>
    have e:Lib.joinTail sep (y::r)=(sep++y)++Lib.joinTail sep r:=by simp[Lib.joinTail]
    rw[e,List.length_append,List.length_append,List.length_cons,Nat.add_mul,Nat.one_mul]
    have h4:=ih fun s hs=>h3 s (List.mem_cons_of_mem _ hs)
    have h5:=h3 y (List.mem_cons_self ..)
    omega
  rw[List.length_cons,Nat.add_mul,Nat.one_mul];omega
end Go.J
namespace Go.Proofs
open Go.Shelf
def Tryz.rz:Go.Shelf.Ren:=⟨fun|156=>44|165=>81|166=>82|169=>83|240=>104|241=>105|276=>126|277=>127|n=>n,fun|31=>103|9=>9|3=>3|4=>4|0=>0|20=>20|72=>150|76=>153|70=>148|37=>138|75=>152|127=>181|164=>201|5=>5|80=>155|n=>n,fun|n=>n⟩
theorem Tryz.Dj:Go.Proofs.Lays.n156 Tryz.prog Tryz.rz:={
 mixed:=by kernel_rfl
 f156:=Tryz.func44.trans (congrArg some (by kernel_rfl))
 f165:=Tryz.func81.trans (congrArg some (by kernel_rfl))
 f166:=Tryz.func82.trans (congrArg some (by kernel_rfl))
 f169:=Tryz.func83.trans (congrArg some (by kernel_rfl))
 f240:=Tryz.func104.trans (congrArg some (by kernel_rfl))
 f241:=Tryz.func105.trans (congrArg some (by kernel_rfl))
 f276:=Tryz.func126.trans (congrArg some (by kernel_rfl))
 f277:=Tryz.func127.trans (congrArg some (by kernel_rfl))
 t0:=S9
 a0:=Tryz.isAgg0
 z0:=Tryz.sizeOf0
 v0:=Tryz.zeroValue0
 t3:=bP
 a3:=Tryz.isAgg3
 z3:=Tryz.sizeOf3
 v3:=Tryz.zeroValue3
 t4:=sJ
 a4:=Tryz.isAgg4
 z4:=Tryz.sizeOf4
 v4:=Tryz.zeroValue4
 t9:=df
 a9:=Tryz.isAgg9
 z9:=Tryz.sizeOf9
 v9:=Tryz.zeroValue9
 t20:=Tryz.underlying20
 a20:=Tryz.isAgg20
 z20:=Tryz.sizeOf20
 v20:=Tryz.zeroValue20
 t31:=ll
 a31:=Tryz.isAgg103
 z31:=Tryz.sizeOf103
 v31:=Tryz.zeroValue103
 t37:=Tryz.underlying138
 a37:=Tryz.isAgg138
 z37:=Tryz.sizeOf138
 v37:=Tryz.zeroValue138
 t70:=Tryz.underlying148
 a70:=Tryz.isAgg148
 z70:=Tryz.sizeOf148
 v70:=Tryz.zeroValue148
 t72:=Tryz.underlying150
 a72:=Tryz.isAgg150
 z72:=Tryz.sizeOf150
 v72:=Tryz.zeroValue150
 t75:=Tryz.underlying152
 a75:=Tryz.isAgg152
 z75:=Tryz.sizeOf152
 v75:=Tryz.zeroValue152
 t76:=Tryz.underlying153
 a76:=Tryz.isAgg153
 z76:=Tryz.sizeOf153
 v76:=Tryz.zeroValue153
 t127:=Tryz.underlying181
 a127:=Tryz.isAgg181
 z127:=Tryz.sizeOf181
 v127:=Tryz.zeroValue181
 t164:=Tryz.underlying201
 a164:=Tryz.isAgg201
 z164:=Tryz.sizeOf201
 v164:=Tryz.zeroValue201}
theorem Tryz.l3:Builder.Extra Tryz.prog Tryz.rz where
 sizeBuilder:=by kernel_rfl
 liesBuilder:=by kernel_rfl
 t5:=DG
 a5:=Tryz.isAgg5
 z5:=Tryz.sizeOf5
 v5:=Tryz.zeroValue5
 infoByte:=by kernel_rfl
 cellsByte:=by kernel_rfl
 sizeByte:=by kernel_rfl
 neB5:=by decide
end Go.Proofs
namespace Go.Proofs.YtolmidffiegkaaaGreatDoor
open Go Go.J
theorem by9:(Tryz.prog.info? 9).map (·.bytes)=some 16:=by kernel_rfl
theorem Zh:aW Tryz.prog 44:=⟨_,Tryz.func44,rfl,by kernel_rfl⟩
theorem Zk (w:World):cm Tryz.prog 71 w= .ok #[(0,1),(1,1),(2,1)] w:=by kernel_rfl
theorem Zl:(Tryz.prog.info? 71).bind (·.zero)=some (Value.agg #[.string ⟨#[]⟩,.int .i64 0,.string ⟨#[]⟩]):=by kernel_rfl
theorem Zm (w:World):cm Tryz.prog 56 w= .ok #[(0,1),(1,1),(2,1)] w:=by kernel_rfl
theorem Zn:(Tryz.prog.info? 56).bind (·.zero)=some (Value.agg #[.int .i64 0,.int .i64 0,.int .i64 0]):=by kernel_rfl
theorem Zo (w:World):cm Tryz.prog 36 w= .ok #[(0,1),(1,1)] w:=by kernel_rfl
theorem Tk:(Tryz.prog.info? 36).bind (fun i=>i.zero.map Value.cells)=some #[.slice none 0 0,.slice none 0 0]:=by kernel_rfl
theorem Tl:aW Tryz.prog 22:=⟨_,Tryz.func22,rfl,by kernel_rfl⟩
theorem Pw:aW Tryz.prog 23:=⟨_,Tryz.func23,rfl,by kernel_rfl⟩
theorem Tm:aW Tryz.prog 9:=⟨_,Tryz.func9,rfl,by kernel_rfl⟩
theorem LS:aW Tryz.prog 17:=⟨_,Tryz.func17,rfl,by kernel_rfl⟩
theorem s5 {u0 u1 u2:Value}(h0:u0.oneCell'=true)(h1:u1.oneCell'=true)(h2:u2.oneCell'=true)(w:World):(Instr.build 71 #[(0,u0),(1,u1),(2,u2)]).run Tryz.prog w= .ok (.agg #[u0,u1,u2]) w:=
 bc LA (Zk w) (by simp[Instr.fill,J.br,J.aI h0,J.aI h1,J.aI h2])
theorem Ac {u0 u1 u2:Value}(h0:u0.oneCell'=true)(h1:u1.oneCell'=true)(h2:u2.oneCell'=true)(w:World):(Instr.build 56 #[(0,u0),(1,u1),(2,u2)]).run Tryz.prog w= .ok (.agg #[u0,u1,u2]) w:=
 bc HZ (Zm w) (by simp[Instr.fill,J.br,J.aI h0,J.aI h1,J.aI h2])
theorem FC {u0 u1:Value}(h0:u0.oneCell'=true)(h1:u1.oneCell'=true)(w:World):(Instr.build 36 #[(0,u0),(1,u1)]).run Tryz.prog w= .ok (.agg #[u0,u1]) w:=
 bc Tk (Zo w) (by simp[Instr.fill,J.br,J.aI h0,J.aI h1])
theorem FD (v:Value)(l:List cQ)(sep:cQ)(hlen:(Lib.join l sep).length≤140737488355328)(hl:l.length≤140737488355328):gw Tryz.prog 44 #[v,sv sep] [sl fx v l] (sv (Lib.join l sep)):=
 gw.yd fun w ρ hf hd=>by
  obtain⟨a,cap,rfl,h2,h3,h4,h5⟩:=hd (sl fx v l) (List.mem_cons_self ..)
  have hm:(l.map fun s=>(⟨s.toArray⟩:ByteArray)).map (·.data.toList)=l:=by rw[List.map_map];exact List.map_id _
  have ad6:(⟨sep.toArray⟩:ByteArray).data.toList=sep:=rfl
  cases l with
  |nil=>
   refine(Any.strings_Join_none Tryz.Dj Tryz.l3 a cap ⟨sep.toArray⟩ w).mono ?_;rintro e w' ⟨rfl,rfl⟩;exact⟨rfl,Go.RowKit.Below.refl _ _⟩
  |cons x l=>
   rcases h5 with h5|⟨b,off,C,e,fr,rfl,h6,h7⟩
   ·cases h5
   have hb:=hf _ _ h6
   have tG:∀(j:Nat) y,((x::l).map fun s=>(⟨s.toArray⟩:ByteArray))[j]?=some y→w.cell? ⟨b,off+j,none⟩=some (.string y):=fun j y hy=>by
    rw[List.getElem?_map]at hy;obtain⟨s,hs,rfl⟩:=Option.map_eq_some_iff.1 hy;rw[cY hb];refine h7 j _ ?_
    have:=Di hs
    rw[Nat.mul_one,Nat.add_zero]at this;exact this
   have hj:=Any.strings_Join Tryz.Dj Tryz.l3 b off cap ((x::l).map fun s=>(⟨s.toArray⟩:ByteArray)) ⟨sep.toArray⟩ w tG (Array.getElem?_eq_some_iff.1 hb).1 (by rw[List.length_map];exact hl) (by rw[List.length_map];exact h2) (by rw[hm];exact hlen)
   rw[hm,List.length_map]at hj;exact hj
def iU:List cQ:=[[],[62],[62,62],[60],[60,60],[126]]
def BI:dm:=⟨fun ρ=>∃u:ck,(ED 0 u.1).f ρ∧(sl fx u.1 iU).f ρ,fun ρ ib h ⟨u,a,b⟩=>⟨u,(ED 0 u.1).mono _ _ h a,(sl fx u.1 iU).mono _ _ h b⟩⟩
def LU (k:Int):cQ:=if k=1 then [42]else if k=3 then [39]else if k=4 then [46]else []
def fw (v:cj):cQ:=((v.name++ [58])++LU v.kind)++v.label
def Zp:cj:=⟨[],0,[]⟩
def l5 (vs:List cj)(l:eH):cQ:=((vs.getD l.a.toNat Zp).name++iU.getD l.kind.toNat [])++(vs.getD l.b.toNat Zp).name
def lQ (vs:List cj)(ks:List eH):List cQ:=vs.map fw++ks.map (l5 vs)
def Dk (vs:List cj)(ks:List eH):cQ:=Lib.join (lQ vs ks) [32]
def CJ (vs:List cj)(ks:List eH):cQ:=if(iy vs ks).1≠0 then []else Dk vs ks
theorem Px {k:Int}(h1:1≤k)(h4:k≤4):([[],[42],[],[39],[46]]:List cQ)[k.toNat]?=some (LU k):=by
 rcases(show k=1∨k=2∨k=3∨k=4 by omega)with rfl|rfl|rfl|rfl<;>rfl
theorem CK {s:cQ}(h:isWord s=true):s.length≤120:=by
 have h1:=Hs s
 rw[la]at h
 simp only[Bool.and_eq_true,decide_eq_true_eq]at h
 have h2:Lib.runeCountL s≤30:=h.1.1.2
 omega
theorem qG {vs:List cj}{ks:List eH}(hq:uF vs ks):∀v∈vs,v.name.length≤30∧v.label.length≤120:=fun v hv=>by
 obtain⟨h1,h2,h3,h4,h5,h6⟩:=hq.var v hv;refine⟨(tN h3).2,?_⟩
 rcases(show v.kind=1∨v.kind=2∨v.kind=3∨v.kind=4 by omega)with h|h|h|h
 ·rw[h6 (Or.inl h)];simp
 ·have:=(tN (h4 h)).2;omega
 ·exact CK (h5 h)
 ·rw[h6 (Or.inr h)];simp
theorem Ad (k:Int):(LU k).length≤1:=by unfold LU;repeat(first|split|simp)
theorem Dl (k:Nat):(iU.getD k []).length≤2:=by
 match k with
 |0=>decide
 |1=>decide
 |2=>decide
 |3=>decide
 |4=>decide
 |5=>decide
 |k+6=>exact Nat.zero_le _
theorem FE {v:cj}(h1:v.name.length≤30)(h2:v.label.length≤120):(fw v).length≤200:=by
 have:=Ad v.kind
 unfold fw;rw[List.length_append,List.length_append,List.length_append];simp only[List.length_cons,List.length_nil];omega
theorem so {vs:List cj}{i:Nat}(h:i<vs.length):vs[i]?=some (vs.getD i Zp):=by rw[List.getD_eq_getElem?_getD,List.getElem?_eq_getElem h];rfl
theorem xC {vs:List cj}{ks:List eH}(hq:uF vs ks):(∀s∈lQ vs ks,s.length≤200)∧(lQ vs ks).length≤12:=by
 refine⟨fun s hs=> ?_,?_⟩
 ·unfold lQ at hs
  rcases List.mem_append.1 hs with hs|hs
  ·obtain⟨v,hv,rfl⟩:=List.mem_map.1 hs
   exact FE (qG hq v hv).1 (qG hq v hv).2
  ·obtain⟨l,hl,rfl⟩:=List.mem_map.1 hs
   obtain⟨_,_,a1,a2,b1,b2,_⟩:=hq.link l hl
   have ha:=(qG hq _ (List.mem_of_getElem? (so (show l.a.toNat<vs.length by omega)))).1
   have hb:=(qG hq _ (List.mem_of_getElem? (so (show l.b.toNat<vs.length by omega)))).1
   have hs:=Dl l.kind.toNat
   unfold l5;rw[List.length_append,List.length_append];omega
 ·have h1:=hq.Sz
  have h2:=hq.aZ
  unfold lQ;rw[List.length_append,List.length_map,List.length_map];omega
theorem Hv {vs:List cj}{ks:List eH}(hq:uF vs ks):(Dk vs ks).length≤10000:=by
 obtain⟨h1,h2⟩:=xC hq
 have h3:=Hu [32] 200 (lQ vs ks) h1
 have h4:(lQ vs ks).length*(200+([32]:List UInt8).length)≤12*201:=Nat.mul_le_mul h2 (by simp)
 unfold Dk;omega
set_option maxHeartbeats 4000000 in
theorem mT (q:eu):gw Tryz.prog 17 #[gJ q] [dD q,u8,BI] (.tuple #[sv (CJ q.vars q.aZ),fv (iy q.vars q.aZ)]):=by
 refine gw.body (args:=[gJ q]) (ds:=[dD q,u8,BI]) 74 Tryz.func17 rfl Tryz.ntmps17 rfl (fun c jJ=> ?_);refine St.cast (H':=[aG (dD q),aG (u8),aG (BI)]) rfl ?_;refine St.seq ?_
 refine St.fI BI (fun u:ck=>[ED 0 u.1,sl fx u.1 iU]) (fun ρ ⟨u,h1,h2⟩=>⟨u,fun e he=>by simp only[List.mem_cons,List.not_mem_nil,or_false]at he;rcases he with rfl|rfl;exact h1;exact h2⟩) fun us=> ?_
 refine St.cast (H':=[aG (ED 0 us.1),aG (sl fx us.1 iU),aG (dD q),aG u8,aG BI]) rfl ?_
 refine St.fI (dD q) (fun _:Unit=>p8 q) (fun ρ h=>⟨(),h⟩) fun _=> ?_
 refine St.cast (H':=[aG (sl gz q.vv.1 q.vars),aG (sl iH q.kv.1 q.aZ),aG (ED 0 us.1),aG (sl fx us.1 iU),aG (dD q),aG (u8),aG (BI)]) rfl ?_
 have XL:CJ q.vars q.aZ=if(iy q.vars q.aZ).1≠0 then []else Dk q.vars q.aZ:=rfl
 refine St.rg ?_;refine St.cV (.mk rfl) rfl (fun b1=> ?_);refine St.ak ?_;refine St.alloc dF rfl (fun b3=> ?_);refine St.nn (St.seq (St.sr ?_));refine St.ee (Ev.bF (.mk rfl) sL trivial (by exact r4)) ?_;refine St.ee (Ev.jZ jJ (nc q) Z6 (.cons (.mk rfl) .nil)) ?_;refine St.alloc dF rfl (fun b4=> ?_);refine St.sA (.mk rfl) (.mk rfl) ay ?_;refine St.nn (St.sr ?_);refine St.ee (Ev.aD (.mk rfl) cX) ?_;refine St.ee (Ev.l0 (.mk rfl) bP) ?_;refine St.ee Ev.k9 ?_;refine St.nn ?_;refine St.cond _ rfl (fun pF=> ?_) (fun pF=> ?_)
 ·skip
  have hb:(iy q.vars q.aZ).1≠0:=by simpa using pF
  rw[if_pos hb]at XL;refine St.seq ?_;refine St.zM [b3] mixed (fun np ns=> ?_);refine SW.dd 0 rfl (fun _=>Ev.bF (.mk rfl) fl trivial (by exact ay)) ?_;refine SW.dd 1 rfl (fun _=>Ev.assign (.mk rfl)) ?_;refine SW.bG (i:=2) (by kernel_rfl) rfl ?_;refine St.sA (.mk rfl) (.mk rfl) ay ?_;refine St.nn ?_;refine SW.go ?_;refine SW.done (by kernel_rfl) ?_;refine St.aA (St.aX (St.aB ?_));refine St.rT [_,_] [] Tryz.results17 ⟨rfl,⟨⟨_,_,_,_,rfl,ju.mem,.inl ⟨⟨_,fl⟩,ay,rfl⟩⟩,trivial⟩⟩ ?_
  rw[XL];rfl
 ·skip
  have hb:¬(iy q.vars q.aZ).1≠0:=by simpa using pF
  rw[if_neg hb]at XL;obtain⟨hq0,hq⟩:=yO (Decidable.not_not.1 hb)
  have wv:=qG hq
  have hN4:=hq.Sz
  have hK8:=hq.aZ
  refine St.skip (St.aA (St.sr ?_));refine St.ak ?_;refine St.nn (St.seq (St.sr ?_));refine St.ee (Ev.aD (.mk rfl) eg) ?_;refine St.ee (Ev.l0 (.mk rfl) eX) ?_;refine St.ee (Ev.ao (.mk rfl) eX) ?_;refine St.mv ?_;refine St.nn (St.block ?_);refine St.jw 9 1 ?_;refine St.bB (.slice none 0 0) (show _=((q.vars.take 0).map fw).length from rfl) (show _=rows fx ((q.vars.take 0).map fw)from rfl) ?_;refine St.mf (ι:=Nat) (κ:=Value) (fun k z T=>(19,iv k)::(5,z)::T) (fun k z=>[row z 9 1 ((q.vars.take k).map fw).length (rows fx ((q.vars.take k).map fw)),ae b1 (.cells [q.vv.1,q.kv.1].toArray 36 (0,0)),ae b3 (.cells [iv 0,iv 0].toArray 42 (0,0)),aG (sl gz q.vv.1 q.vars),aG (sl iH q.kv.1 q.aZ),aG (u8),aG (ED 0 us.1),aG (sl fx us.1 iU)]) (fun k z=>k≤q.vars.length∧z.oneCell'=true) (fun k z=>q.vars.length-k) 0 (.slice none 0 0) (aE.cons 1 rfl (aE.cons 2 rfl (aE.cons 3 rfl (aE.cons 17 rfl (aE.cons 18 rfl aE.nil))))) ⟨Nat.zero_le _,rfl⟩ ?_;rintro k z ⟨hk,hz⟩;refine St.sr ?_;refine St.ee Ev.dn ?_;refine St.nn (St.seq ?_);refine St.cond _ rfl (fun oW=> ?_) (fun oW=> ?_)
  ·try simp only[aC]at oW
   obtain⟨va,Na⟩:=aO (show k<q.vars.length by omega);obtain⟨wa,mR⟩:=wv va (List.mem_of_getElem? Na);obtain⟨lz,Tn,_⟩:=hq.var va (List.mem_of_getElem? Na)
   have DL:=Ad va.kind
   have hIl:((q.vars.take k).map fw).length≤4:=by rw[List.length_map,List.length_take];omega
   refine St.skip (St.aA (St.seq (St.block (St.sr ?_))));refine St.ee (Ev.aR (k:=k) (.mk rfl) (.mk rfl) eX nX (by omega) (by omega)) ?_;refine St.ee (Ev.fg (.mk rfl) Na Ge trivial nX ei.eq) ?_;refine St.alloc LA rfl (fun b7=> ?_);refine St.sA (.mk rfl) (.mk rfl) nX ?_ (h1:=(by simp only[List.all_cons,List.all_nil,Bool.and_true,Bool.and_eq_true];exact⟨rfl,rfl,rfl⟩));refine St.nn ?_;refine St.eV [row z 9 1 ((q.vars.take k).map fw).length (rows fx ((q.vars.take k).map fw))] mixed (fun np ns=> ?_);refine SW.dd 0 rfl (fun _=>Ev.move (.mk rfl)) ?_;refine SW.dd 1 rfl (fun _=>Ev.aD (.mk rfl) mS) ?_;refine SW.dd 2 rfl (fun _=>Ev.cN (.mk rfl) df trivial (by rfl)) ?_;refine SW.dd 3 rfl (fun _=>Ev.mC (.mk rfl) (.mk rfl) (by first|omega|(simp only[List.length_append,List.length_cons,List.length_nil];omega))) ?_;refine SW.dd 5 rfl (fun _=>Ev.aD (.mk rfl) gO) ?_;refine SW.dd 6 rfl (fun _=>Ev.cN (.mk rfl) bP trivial (by rfl)) ?_;refine SW.dd 10 rfl (fun _=>Ev.aD (.mk rfl) kK) ?_;refine SW.dd 11 rfl (fun _=>Ev.cN (.mk rfl) df trivial (by rfl)) ?_;refine SW.bG (i:=4) (by kernel_rfl) rfl ?_;refine St.cn rfl (.cons (.mk rfl) (.cons (.mk rfl) (.cons (.mk rfl) (.cons (.mk rfl) (.cons (.mk rfl) .nil))))) ll EY Qs rfl rfl (by simp[Value.cells]) rfl rfl (fun XK=> ?_);refine St.bB (.slice (some ⟨XK,0,none⟩) 5 5) (show _=5 from rfl) (show _=rows fx [[],[42],[],[39],[46]]from rfl) ?_;refine St.nn ?_;refine SW.go ?_;refine SW.bG (i:=7) (by kernel_rfl) rfl ?_;refine St.ee (Ev.cK (k:=va.kind.toNat) (.mk rfl) (.mk rfl) ll EY (by omega) (by omega)) ?_;refine St.nn ?_;refine SW.go ?_;refine SW.bG (i:=8) (by kernel_rfl) rfl ?_;refine St.ee (Ev.hS (.mk rfl) df trivial (by omega) (Di (Px lz Tn))) ?_;refine St.nn ?_;refine SW.go ?_;refine SW.dd 9 rfl (fun _=>Ev.mC (.mk rfl) (.mk rfl) (by first|omega|(simp only[List.length_append,List.length_cons,List.length_nil];omega))) ?_;refine SW.dd 12 rfl (fun _=>Ev.mC (.mk rfl) (.mk rfl) (by first|omega|(simp only[List.length_append,List.length_cons,List.length_nil];omega))) ?_;refine SW.slot 35 (sv (fw va)) rfl rfl ?_;refine SW.bG (i:=13) (by kernel_rfl) rfl ?_;refine St.cn rfl (.cons (.mk rfl) .nil) ll EY Qs rfl rfl (by simp[Value.cells]) rfl rfl (fun Fy=> ?_);refine St.nn ?_;refine SW.go ?_;refine SW.bG (i:=14) (by kernel_rfl) rfl ?_;refine St.cS (.mk rfl) (.mk rfl) ll EY Qs by9 (by simp[Value.oneCell',Value.cells]) (by omega) (by omega) rfl rfl rfl rfl (fun v37 ad7=> ?_);refine St.bB v37 (show _=((q.vars.take (k+1)).map fw).length by rw[bx fw Na];exact fX) (show _=rows fx ((q.vars.take (k+1)).map fw) by rw[bx fw Na];exact uP _ _) ?_;refine St.eG v37 (fun tg _=> ?_);refine St.nn ?_;refine SW.go ?_;refine SW.dd 15 rfl (fun _=>Ev.assign (.mk rfl)) ?_;refine SW.done (by kernel_rfl) ?_;refine St.aN (St.aA (St.rg ?_));refine St.ee Ev.a0 ?_;refine St.mv ?_;refine St.nn ?_;refine St.jb (k+1) v37 ⟨by omega,tg⟩
  ·try simp only[aC]at oW
   rw[List.take_of_length_le (show q.vars.length≤k by omega)];refine St.exit (St.aF (St.aF (St.bH (St.aA (St.seq (St.sr ?_))))));refine St.ee (Ev.aD (.mk rfl) kJ) ?_;refine St.ee (Ev.l0 (.mk rfl) jG) ?_;refine St.ee (Ev.ao (.mk rfl) jG) ?_;refine St.mv ?_;refine St.nn (St.block ?_);refine St.bB z (show _=(q.vars.map fw++(q.aZ.take 0).map (l5 q.vars)).length by rw[List.take_zero,List.map_nil,List.append_nil]) (show _=rows fx (q.vars.map fw++(q.aZ.take 0).map (l5 q.vars)) by rw[List.take_zero,List.map_nil,List.append_nil]) ?_;refine St.mf (ι:=Nat) (κ:=Value) (fun j z2 T=>(42,iv j)::(5,z2)::T) (fun j z2=>[row z2 9 1 (q.vars.map fw++(q.aZ.take j).map (l5 q.vars)).length (rows fx (q.vars.map fw++(q.aZ.take j).map (l5 q.vars))),ae b1 (.cells [q.vv.1,q.kv.1].toArray 36 (0,0)),ae b3 (.cells [iv 0,iv 0].toArray 42 (0,0)),aG (sl gz q.vv.1 q.vars),aG (sl iH q.kv.1 q.aZ),aG (u8),aG (ED 0 us.1),aG (sl fx us.1 iU)]) (fun j z2=>j≤q.aZ.length∧z2.oneCell'=true) (fun j z2=>q.aZ.length-j) 0 z (aE.cons 1 rfl (aE.cons 2 rfl (aE.cons 3 rfl (aE.cons 40 rfl (aE.cons 41 rfl aE.nil))))) ⟨Nat.zero_le _,hz⟩ ?_;rintro j z2 ⟨hj,yy⟩;refine St.sr ?_;refine St.ee Ev.dn ?_;refine St.nn (St.seq ?_);refine St.cond _ rfl (fun ye=> ?_) (fun ye=> ?_)
   ·try simp only[aC]at ye
    obtain⟨l,hl⟩:=aO (show j<q.aZ.length by omega);obtain⟨g1,g5,a1,a2,b1,b2,_⟩:=hq.link l (List.mem_of_getElem? hl)
    have hga:=so (vs:=q.vars) (show l.a.toNat<q.vars.length by omega)
    have hgb:=so (vs:=q.vars) (show l.b.toNat<q.vars.length by omega)
    have XG:=(wv _ (List.mem_of_getElem? hga)).1
    have Jr:=(wv _ (List.mem_of_getElem? hgb)).1
    have sc:=Dl l.kind.toNat
    have hgs:iU[l.kind.toNat]?=some (iU.getD l.kind.toNat []):=by rw[List.getD_eq_getElem?_getD,List.getElem?_eq_getElem (show l.kind.toNat<iU.length by show _<6;omega)];rfl
    have hs6:iU.length=6:=rfl
    have hIl:(q.vars.map fw++(q.aZ.take j).map (l5 q.vars)).length≤12:=by rw[List.length_append,List.length_map,List.length_map,List.length_take];omega
    refine St.skip (St.aA (St.seq (St.block (St.sr ?_))));refine St.ee (Ev.aR (k:=j) (.mk rfl) (.mk rfl) jG oV (by omega) (by omega)) ?_;refine St.ee (Ev.fg (.mk rfl) hl Km trivial oV ei.eq) ?_;refine St.alloc HZ rfl (fun b9=> ?_);refine St.sA (.mk rfl) (.mk rfl) oV ?_ (h1:=(by simp only[List.all_cons,List.all_nil,Bool.and_true,Bool.and_eq_true];exact⟨rfl,rfl,rfl⟩));refine St.nn ?_;refine St.eV [row z2 9 1 (q.vars.map fw++(q.aZ.take j).map (l5 q.vars)).length (rows fx (q.vars.map fw++(q.aZ.take j).map (l5 q.vars)))] mixed (fun np ns=> ?_);refine SW.dd 0 rfl (fun _=>Ev.move (.mk rfl)) ?_;refine SW.dd 1 rfl (fun _=>Ev.aD (.mk rfl) eg) ?_;refine SW.dd 2 rfl (fun _=>Ev.cN (.mk rfl) eX trivial (by rfl)) ?_;refine SW.dd 3 rfl (fun _=>Ev.aD (.mk rfl) lL) ?_;refine SW.dd 4 rfl (fun _=>Ev.cN (.mk rfl) bP trivial (by rfl)) ?_;refine SW.dd 5 rfl (fun _=>Ev.aR (k:=l.a.toNat) (.mk rfl) (.mk rfl) eX nX (by omega) (by omega)) ?_;refine SW.dd 6 rfl (fun _=>Ev.e8 (.mk rfl) (by omega) mS) ?_;refine SW.dd 7 rfl (fun _=>Ev.ff (.mk rfl) hga df trivial rfl) ?_;refine SW.dd 8 rfl (fun _=>Ev.Mv (.mk rfl) ll trivial) ?_;refine SW.dd 9 rfl (fun _=>Ev.aD (.mk rfl) pH) ?_;refine SW.dd 10 rfl (fun _=>Ev.cN (.mk rfl) bP trivial (by rfl)) ?_;refine SW.dd 11 rfl (fun _=>Ev.aR (k:=l.kind.toNat) (.mk rfl) (.mk rfl) ll EY (by omega) (by omega)) ?_;refine SW.dd 12 rfl (fun _=>Ev.ff (.mk rfl) hgs df trivial rfl) ?_;refine SW.dd 13 rfl (fun _=>Ev.mC (.mk rfl) (.mk rfl) (by first|omega|(simp only[List.length_append,List.length_cons,List.length_nil];omega))) ?_;refine SW.dd 14 rfl (fun _=>Ev.aD (.mk rfl) eg) ?_;refine SW.dd 15 rfl (fun _=>Ev.cN (.mk rfl) eX trivial (by rfl)) ?_;refine SW.dd 16 rfl (fun _=>Ev.aD (.mk rfl) lM) ?_;refine SW.dd 17 rfl (fun _=>Ev.cN (.mk rfl) bP trivial (by rfl)) ?_;refine SW.dd 18 rfl (fun _=>Ev.aR (k:=l.b.toNat) (.mk rfl) (.mk rfl) eX nX (by omega) (by omega)) ?_;refine SW.dd 19 rfl (fun _=>Ev.e8 (.mk rfl) (by omega) mS) ?_;refine SW.dd 20 rfl (fun _=>Ev.ff (.mk rfl) hgb df trivial rfl) ?_;refine SW.dd 21 rfl (fun _=>Ev.mC (.mk rfl) (.mk rfl) (by first|omega|(simp only[List.length_append,List.length_cons,List.length_nil];omega))) ?_;refine SW.slot 67 (sv (l5 q.vars l)) rfl rfl ?_;refine SW.bG (i:=22) (by kernel_rfl) rfl ?_;refine St.cn rfl (.cons (.mk rfl) .nil) ll EY Qs rfl rfl (by simp[Value.cells]) rfl rfl (fun b68=> ?_);refine St.nn ?_;refine SW.go ?_;refine SW.bG (i:=23) (by kernel_rfl) rfl ?_;refine St.cS (.mk rfl) (.mk rfl) ll EY Qs by9 (by simp[Value.oneCell',Value.cells]) (by omega) (by omega) rfl rfl rfl rfl (fun v69 ad8=> ?_);refine St.bB v69 (show _=(q.vars.map fw++(q.aZ.take (j+1)).map (l5 q.vars)).length by rw[bx (l5 q.vars) hl,←List.append_assoc];exact fX) (show _=rows fx (q.vars.map fw++(q.aZ.take (j+1)).map (l5 q.vars)) by rw[bx (l5 q.vars) hl,←List.append_assoc];exact uP _ _) ?_;refine St.eG v69 (fun R5 _=> ?_);refine St.nn ?_;refine SW.go ?_;refine SW.dd 24 rfl (fun _=>Ev.assign (.mk rfl)) ?_;refine SW.done (by kernel_rfl) ?_;refine St.aN (St.aA (St.rg ?_));refine St.ee Ev.a0 ?_;refine St.mv ?_;refine St.nn ?_;refine St.jb (j+1) v69 ⟨by omega,R5⟩
   ·try simp only[aC]at ye
    rw[List.take_of_length_le (show q.aZ.length≤j by omega)]
    have hit:=xC hq
    have ER:=Hv hq
    refine St.exit (St.aF (St.aF (St.bH (St.aA (St.seq ?_)))));refine St.aV z2 fx (lQ q.vars q.aZ) rfl rfl (fun s hs=>by have:=hit.1 s hs;show s.length≤140737488351232;omega) ?_;refine St.rg ?_;refine St.mv ?_;refine St.ee (Ev.jZ jJ (FD z2 (lQ q.vars q.aZ) [32] (by have e:(Lib.join (lQ q.vars q.aZ) [32]).length≤10000:=ER;omega) (by omega)) Zh (.cons (.mk rfl) (.cons (.mk rfl) .nil))) ?_;refine St.ee (Ev.build (ps:=[]) (aU.nil) (fun w=>fA w)) ?_;refine St.ak ?_;refine St.sA (.mk rfl) (.mk rfl) ay ?_;refine St.nn (St.aX ?_);refine St.rT [_,_] [] Tryz.results17 ⟨rfl,⟨⟨_,_,_,_,rfl,ju.mem,.inl ⟨⟨_,fl⟩,ay,rfl⟩⟩,trivial⟩⟩ ?_
    rw[XL,hq0];rfl
end Go.Proofs.YtolmidffiegkaaaGreatDoor
