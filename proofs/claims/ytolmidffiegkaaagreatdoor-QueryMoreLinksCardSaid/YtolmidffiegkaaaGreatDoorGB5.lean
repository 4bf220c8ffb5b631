/-
  Laws of walks through programs, and facts on grammars, trees and queries.
  Conditions: none.
-/
import Derived.Test.YtolmidffiegkaaaGreatDoorGB4
import Derived.Test.YtolmidffiegkaaaGreatDoorGB2
import Derived.Shelf.Strings.IndexAnyAll
import Derived.Lib.OthersKept
import Derived.Shelf.Small.Utf8
import Derived.Laws.RangeAny
import Derived.Laws.Cover4
import Derived.Scope
import Derived.Handy
import Derived.Shelf.RegionOpen
import Derived.Shelf.RegionOpenPlain
import Derived.Shelf.Utf8.RuneCount
import Derived.Shelf.Unicode.ValidAny
import Derived.Test.YtolmidffiegkaaaGreatDoorChecked
import Derived.Test.YtolmidffiegkaaaGreatDoorGB1
import Derived.Lib.Join
import Derived.Shelf.Strings.OnBuilder
set_option maxRecDepth 20000
set_option linter.unusedSimpArgs false
set_option linter.unusedVariables false
namespace Go.Proofs.YtolmidffiegkaaaGreatDoor
open Go Go.J
theorem Cl {W:List Int}{k:Nat}{x:Int}(h:W[k]?=some x):(rows aK W)[k*1+0]?=some (iv x):=by
 rw[kA,Nat.mul_one,Nat.add_zero,List.getElem?_map,h];rfl
theorem Gp (n:Nat):List.replicate n (iv 0)=rows aK (List.replicate n 0):=by rw[kA,List.map_replicate]
theorem tc {l:List Nat}(h:∀i∈l,i≤9223372036854775807):∀x∈ints l,aK.wf x:=by
 intro x hx;obtain⟨i,hi,rfl⟩:=List.mem_map.1 hx
 have:=h i hi
 show bF (i:Int)
 unfold bF;omega
def mP (L:List Nq)(ks:List eL)(v:dP)(vs:List dP)(p:List Nat)(O:List (List Nat))(i:Nat):List (List Nat):=if 500<O.length then O else if Em L ks v p i then uc L ks vs (p++ [i]) O else O
theorem ED (L:List Nq)(ks:List eL)(v:dP)(vs:List dP)(p:List Nat)(O:List (List Nat)):uc L ks (v::vs) p O=(List.range L.length).foldl (mP L ks v vs p) O:=rfl
theorem fold_succ {α:Type}(f:α→Nat→α)(O:α)(i:Nat):(List.range (i+1)).foldl f O=f ((List.range i).foldl f O) i:=by rw[List.range_succ,List.foldl_append];rfl
theorem vw {L:List Nq}{ks:List eL}{v:dP}{vs:List dP}{p:List Nat}{O:List (List Nat)}{i:Nat}(h:500<((List.range i).foldl (mP L ks v vs p) O).length):∀m,(List.range (i+m)).foldl (mP L ks v vs p) O=(List.range i).foldl (mP L ks v vs p) O
 |0=>rfl
 |m+1=>by
  have ih:=vw h m
  rw[show i+(m+1)=(i+m)+1 by omega,fold_succ,ih]
  unfold mP;rw[if_pos];exact h
theorem Gq (L:List Nq)(ks:List eL)(vs:List dP)(p:List Nat)(O:List (List Nat))(h:O.length≤501)(h2:vs=[]→O.length≤500):(uc L ks vs p O).length≤501:=by
 rw[xA L ks vs p O h h2,List.length_take];omega
theorem Cm {B:List Int}{r:List Nat}{m j:Nat}(h:B.take m=ints r)(hm:r.length=m)(hj:j<m):B[j]?=some ((r.getD j 0:Nat):Int):=by
 have h1:(B.take m)[j]?=B[j]?:=by rw[List.getElem?_take,if_pos hj]
 rw[←h1,h,ints,List.getElem?_map,List.getD_eq_getElem?_getD,List.getElem?_eq_getElem (by omega)];rfl
theorem take_set {A:List Int}{p:List Nat}{i:Nat}(h:A.take p.length=ints p)(hl:p.length<A.length):(A.set p.length (i:Int)).take (p.length+1)=ints (p++ [i]):=by
 have h0:(A.set p.length (i:Int))[p.length]?=some (i:Int):=by rw[List.getElem?_set_self hl]
 rw[bJ h0,List.take_set,h,ints,ints,List.map_append,List.set_eq_of_length_le (by rw[List.length_map];exact Nat.le_refl _)];rfl
theorem vx {A B:List Int}{p:List Nat}{i:Nat}(h:A.take (p++ [i]).length=ints (p++ [i])):A.take p.length=ints p:=by
 have h1:(A.take (p++ [i]).length).take p.length=A.take p.length:=by rw[List.take_take,List.length_append];congr 1;simp only[List.length_cons,List.length_nil];omega
 rw[←h1,h,ints,ints,List.map_append,List.take_left' (by simp)]
theorem za {p:List Nat}{n j:Nat}(h:∀y∈p,y<n)(hj:j<p.length):p.getD j 0<n:=by
 rw[List.getD_eq_getElem?_getD,List.getElem?_eq_getElem hj];exact h _ (List.getElem_mem hj)
theorem drop_cons {α:Type}{l:List α}{k:Nat}{v:α}{vs:List α}(h:l.drop k=v::vs):l[k]?=some v∧l.drop (k+1)=vs:=by
 have h1:l[k]?=some v:=by
  have:=congrArg (fun m=>m[0]?) h
  rw[List.getElem?_drop,Nat.add_zero]at this;exact this
 refine⟨h1,?_⟩
 have h2:=bf h1
 rw[h,List.cons.injEq]at h2;exact h2.2.symm
set_option maxHeartbeats 4000000 in
theorem xk (ba bo bl bq bt:Nat)(va vl:Value)(L:List Nq)(q:eS)(hq:rG q.vars q.aY):∀(m:Nat) (vs:List dP) (p:List Nat) (O:List (List Nat)) (A:List Int) (vo:Value) (us:List cm) (T:List (List Nat)),vs.length=m→T=uc L q.aY vs p O→q.vars.drop p.length=vs→p.length+vs.length=q.vars.length→A.length=q.vars.length→A.take p.length=ints p→(∀y∈p,y<L.length)→vo.oneCell'=true→us.length=O.length→O.length≤501→(vs=[]→O.length≤500)→
 fC Tryz.prog 32 ([iv ((p.length:Nat):Int)]++ [Value.pointer (some ⟨ba,0,none⟩),Value.pointer (some ⟨bo,0,none⟩),Value.pointer (some ⟨bl,0,none⟩),Value.pointer (some ⟨bq,0,none⟩),Value.pointer (some ⟨bt,0,none⟩)]).toArray [ae ba (.cells [va].toArray 57 (0,0)),row va 3 1 q.vars.length (rows aK (A)),ae bo (.cells [vo].toArray 44 (0,0)),row vo 57 1 (O).length (rows cK (us)),aF (ku aK (us) ((O).map ints)),ae bl (.cells [vl].toArray 78 (0,0)),ae bq (.cells [q.vv.1,q.kv.1].toArray 36 (0,0)),ae bt (.cells [(.func (.func 32) #[] [Value.pointer (some ⟨ba,0,none⟩),Value.pointer (some ⟨bo,0,none⟩),Value.pointer (some ⟨bl,0,none⟩),Value.pointer (some ⟨bq,0,none⟩),Value.pointer (some ⟨bt,0,none⟩)].toArray)].toArray 80 (0,0)),aF (sl gV vl L),aF (sl jH q.vv.1 q.vars),aF (sl gM q.kv.1 q.aY)] (fun v H'=>∃A' YO YP,A'.length=q.vars.length∧A'.take p.length=ints p∧YO.oneCell'=true∧YP.length=T.length∧H'=[ae ba (.cells [va].toArray 57 (0,0)),row va 3 1 q.vars.length (rows aK (A')),ae bo (.cells [YO].toArray 44 (0,0)),row YO 57 1 (T).length (rows cK (YP)),aF (ku aK (YP) ((T).map ints)),ae bl (.cells [vl].toArray 78 (0,0)),ae bq (.cells [q.vv.1,q.kv.1].toArray 36 (0,0)),ae bt (.cells [(.func (.func 32) #[] [Value.pointer (some ⟨ba,0,none⟩),Value.pointer (some ⟨bo,0,none⟩),Value.pointer (some ⟨bl,0,none⟩),Value.pointer (some ⟨bq,0,none⟩),Value.pointer (some ⟨bt,0,none⟩)].toArray)].toArray 80 (0,0))]):=by
 intro m
 induction m using Nat.strongRecOn
 rename_i m ih
 intro vs p O A vo us T hm hT SK hlen hA Q4 Og SL Eo hO hO0;refine fC.body (args:=[iv ((p.length:Nat):Int)]++ [Value.pointer (some ⟨ba,0,none⟩),Value.pointer (some ⟨bo,0,none⟩),Value.pointer (some ⟨bl,0,none⟩),Value.pointer (some ⟨bq,0,none⟩),Value.pointer (some ⟨bt,0,none⟩)]) 82 Tryz.func32 rfl Tryz.ntmps32 rfl (fun c=> ?_);refine St.seq (St.seq ?_);refine St.wf vl (fun _ Iz=> ?_);refine St.wf q.vv.1 (fun hvw _=> ?_)
 have hN4:=hq.Rx
 have hN0:=hq.pos
 have hK8:=hq.aY
 refine St.rg ?_;refine St.mv ?_;refine St.ee (Ev.l0 (.mk rfl) bE) ?_;refine St.ee (Ev.fl (.mk rfl) bE) ?_;refine St.ee Ev.fa ?_;refine St.nn ?_;refine St.cond _ rfl (fun qX=> ?_) (fun qX=> ?_)
 ·try simp only[aC]at qX
  have Er:vs=[]:=List.eq_nil_of_length_eq_zero (by omega)
  have YQ:A=ints p:=by rw[←Q4,List.take_of_length_le (by omega)]
  have hO5:=hO0 Er
  have Et:T=O++ [p]:=by rw[hT,Er];rfl
  have AJ:(ints p).length=p.length:=rH p
  refine St.seq ?_;refine St.eK [ae bo (.cells [vo].toArray 44 (0,0)),row vo 57 1 (O).length (rows cK (us))] mixed (fun np ns=> ?_);refine SW.dd 2 rfl (fun _=>Ev.cS (.mk rfl) bE trivial (by rfl)) ?_;refine SW.iP (i:=0) (j:=1) (by kernel_rfl) rfl rfl ?_ ?_
  ·refine St.ee (Ev.l0 (.mk rfl) dB) ?_
   refine St.nn ?_;refine SW.go ?_;refine SW.bG (i:=1) (by kernel_rfl) rfl ?_;refine St.cn rfl (.nil) bE cr eE rfl rfl (by simp[Value.cells]) rfl rfl (fun KM=> ?_);refine St.nn ?_;refine SW.go ?_;refine SW.bG (i:=3) (by kernel_rfl) rfl ?_;refine St.og (.mk rfl) (.mk rfl) bE cr eE Ix (sQ _ _) (by omega) (by omega) rfl rfl (by omega) rfl (fun gw EB=> ?_);refine St.bB gw (show _=(ints p).length by rw[AJ];omega) (show _=rows aK (ints p) by rw[YQ];rfl) ?_;refine St.dm gw (fun fM _=> ?_);refine St.aU gw aK (ints p) rfl rfl (tc fun i hi=>by have:=Og i hi;omega) ?_;refine St.nn ?_;refine SW.go ?_;refine SW.bG (i:=4) (by kernel_rfl) rfl ?_;refine St.cn rfl (.cons (.mk rfl) .nil) dB e7 fh rfl rfl (by simp[J.aG fM]) rfl rfl (fun YR=> ?_);refine St.nn ?_;refine SW.go ?_;refine SW.bG (i:=5) (by kernel_rfl) rfl ?_;refine St.cL (.mk rfl) (.mk rfl) dB e7 fh KG (by simp[J.aG fM,fM]) (by omega) (by omega) rfl rfl rfl rfl (fun v20 Oh=> ?_);refine St.bB v20 (show _=T.length by rw[Et,List.length_append];rfl) (show _=rows cK (us++ [⟨gw,fM⟩]) by rw[cl];simp[J.aG fM];rfl) ?_;refine St.dm v20 (fun td _=> ?_);refine St.nn ?_;refine SW.go ?_;refine SW.bG (i:=6) (by kernel_rfl) rfl ?_;refine St.cR (.mk rfl) (.mk rfl) KH td (by rfl) ?_;refine St.nn ?_;refine SW.go ?_;refine SW.done (by kernel_rfl) ?_;refine St.aA (St.ab (St.aB ?_));refine St.p7 us ⟨gw,fM⟩ (by rw[List.length_map];exact Eo) ?_;rw[show O.map ints++ [ints p]=T.map ints by rw[Et,List.map_append];rfl];refine St.rT [] [ae ba (.cells [va].toArray 57 (0,0)),row va 3 1 q.vars.length (rows aK (A)),ae bo (.cells [v20].toArray 44 (0,0)),row v20 57 1 (T).length (rows cK (us++ [⟨gw,fM⟩])),aF (ku aK (us++ [⟨gw,fM⟩]) ((T).map ints)),ae bl (.cells [vl].toArray 78 (0,0)),ae bq (.cells [q.vv.1,q.kv.1].toArray 36 (0,0)),ae bt (.cells [(.func (.func 32) #[] [Value.pointer (some ⟨ba,0,none⟩),Value.pointer (some ⟨bo,0,none⟩),Value.pointer (some ⟨bl,0,none⟩),Value.pointer (some ⟨bq,0,none⟩),Value.pointer (some ⟨bt,0,none⟩)].toArray)].toArray 80 (0,0))] Tryz.results32 trivial ?_;exact⟨A,v20,us++ [⟨gw,fM⟩],hA,Q4,td,by rw[Et,List.length_append,List.length_append,Eo];rfl,rfl⟩
  ·refine St.cn rfl (.nil) bE cr eE rfl rfl (by simp[Value.cells]) rfl rfl (fun KM=> ?_)
   refine St.nn ?_;refine SW.go ?_;refine SW.iP (i:=0) (j:=3) (by kernel_rfl) rfl rfl ?_ ?_
   ·refine St.ee (Ev.l0 (.mk rfl) dB) ?_
    refine St.nn ?_;refine SW.go ?_;refine SW.bG (i:=3) (by kernel_rfl) rfl ?_;refine St.og (.mk rfl) (.mk rfl) bE cr eE Ix (sQ _ _) (by omega) (by omega) rfl rfl (by omega) rfl (fun gw EB=> ?_);refine St.bB gw (show _=(ints p).length by rw[AJ];omega) (show _=rows aK (ints p) by rw[YQ];rfl) ?_;refine St.dm gw (fun fM _=> ?_);refine St.aU gw aK (ints p) rfl rfl (tc fun i hi=>by have:=Og i hi;omega) ?_;refine St.nn ?_;refine SW.go ?_;refine SW.bG (i:=4) (by kernel_rfl) rfl ?_;refine St.cn rfl (.cons (.mk rfl) .nil) dB e7 fh rfl rfl (by simp[J.aG fM]) rfl rfl (fun YR=> ?_);refine St.nn ?_;refine SW.go ?_;refine SW.bG (i:=5) (by kernel_rfl) rfl ?_;refine St.cL (.mk rfl) (.mk rfl) dB e7 fh KG (by simp[J.aG fM,fM]) (by omega) (by omega) rfl rfl rfl rfl (fun v20 Oh=> ?_);refine St.bB v20 (show _=T.length by rw[Et,List.length_append];rfl) (show _=rows cK (us++ [⟨gw,fM⟩]) by rw[cl];simp[J.aG fM];rfl) ?_;refine St.dm v20 (fun td _=> ?_);refine St.nn ?_;refine SW.go ?_;refine SW.bG (i:=6) (by kernel_rfl) rfl ?_;refine St.cR (.mk rfl) (.mk rfl) KH td (by rfl) ?_;refine St.nn ?_;refine SW.go ?_;refine SW.done (by kernel_rfl) ?_;refine St.aA (St.ab (St.aB ?_));refine St.p7 us ⟨gw,fM⟩ (by rw[List.length_map];exact Eo) ?_;rw[show O.map ints++ [ints p]=T.map ints by rw[Et,List.map_append];rfl];refine St.rT [] [ae ba (.cells [va].toArray 57 (0,0)),row va 3 1 q.vars.length (rows aK (A)),ae bo (.cells [v20].toArray 44 (0,0)),row v20 57 1 (T).length (rows cK (us++ [⟨gw,fM⟩])),aF (ku aK (us++ [⟨gw,fM⟩]) ((T).map ints)),ae bl (.cells [vl].toArray 78 (0,0)),ae bq (.cells [q.vv.1,q.kv.1].toArray 36 (0,0)),ae bt (.cells [(.func (.func 32) #[] [Value.pointer (some ⟨ba,0,none⟩),Value.pointer (some ⟨bo,0,none⟩),Value.pointer (some ⟨bl,0,none⟩),Value.pointer (some ⟨bq,0,none⟩),Value.pointer (some ⟨bt,0,none⟩)].toArray)].toArray 80 (0,0))] Tryz.results32 trivial ?_;exact⟨A,v20,us++ [⟨gw,fM⟩],hA,Q4,td,by rw[Et,List.length_append,List.length_append,Eo];rfl,rfl⟩
   ·refine St.og (.mk rfl) (.mk rfl) bE cr eE Ix (sQ _ _) (by omega) (by omega) rfl rfl (by omega) rfl (fun gw EB=> ?_)
    refine St.bB gw (show _=(ints p).length by rw[AJ];omega) (show _=rows aK (ints p) by rw[YQ];rfl) ?_;refine St.dm gw (fun fM _=> ?_);refine St.aU gw aK (ints p) rfl rfl (tc fun i hi=>by have:=Og i hi;omega) ?_;refine St.nn ?_;refine SW.go ?_;refine SW.iP (i:=0) (j:=4) (by kernel_rfl) rfl rfl ?_ ?_
    ·refine St.ee (Ev.l0 (.mk rfl) dB) ?_
     refine St.nn ?_;refine SW.go ?_;refine SW.bG (i:=4) (by kernel_rfl) rfl ?_;refine St.cn rfl (.cons (.mk rfl) .nil) dB e7 fh rfl rfl (by simp[J.aG fM]) rfl rfl (fun YR=> ?_);refine St.nn ?_;refine SW.go ?_;refine SW.bG (i:=5) (by kernel_rfl) rfl ?_;refine St.cL (.mk rfl) (.mk rfl) dB e7 fh KG (by simp[J.aG fM,fM]) (by omega) (by omega) rfl rfl rfl rfl (fun v20 Oh=> ?_);refine St.bB v20 (show _=T.length by rw[Et,List.length_append];rfl) (show _=rows cK (us++ [⟨gw,fM⟩]) by rw[cl];simp[J.aG fM];rfl) ?_;refine St.dm v20 (fun td _=> ?_);refine St.nn ?_;refine SW.go ?_;refine SW.bG (i:=6) (by kernel_rfl) rfl ?_;refine St.cR (.mk rfl) (.mk rfl) KH td (by rfl) ?_;refine St.nn ?_;refine SW.go ?_;refine SW.done (by kernel_rfl) ?_;refine St.aA (St.ab (St.aB ?_));refine St.p7 us ⟨gw,fM⟩ (by rw[List.length_map];exact Eo) ?_;rw[show O.map ints++ [ints p]=T.map ints by rw[Et,List.map_append];rfl];refine St.rT [] [ae ba (.cells [va].toArray 57 (0,0)),row va 3 1 q.vars.length (rows aK (A)),ae bo (.cells [v20].toArray 44 (0,0)),row v20 57 1 (T).length (rows cK (us++ [⟨gw,fM⟩])),aF (ku aK (us++ [⟨gw,fM⟩]) ((T).map ints)),ae bl (.cells [vl].toArray 78 (0,0)),ae bq (.cells [q.vv.1,q.kv.1].toArray 36 (0,0)),ae bt (.cells [(.func (.func 32) #[] [Value.pointer (some ⟨ba,0,none⟩),Value.pointer (some ⟨bo,0,none⟩),Value.pointer (some ⟨bl,0,none⟩),Value.pointer (some ⟨bq,0,none⟩),Value.pointer (some ⟨bt,0,none⟩)].toArray)].toArray 80 (0,0))] Tryz.results32 trivial ?_;exact⟨A,v20,us++ [⟨gw,fM⟩],hA,Q4,td,by rw[Et,List.length_append,List.length_append,Eo];rfl,rfl⟩
    ·refine St.cn rfl (.cons (.mk rfl) .nil) dB e7 fh rfl rfl (by simp[J.aG fM]) rfl rfl (fun YR=> ?_)
     refine St.nn ?_;refine SW.go ?_;refine SW.bG (i:=0) (by kernel_rfl) rfl ?_;refine St.ee (Ev.l0 (.mk rfl) dB) ?_;refine St.nn ?_;refine SW.go ?_;refine SW.bG (i:=5) (by kernel_rfl) rfl ?_;refine St.cL (.mk rfl) (.mk rfl) dB e7 fh KG (by simp[J.aG fM,fM]) (by omega) (by omega) rfl rfl rfl rfl (fun v20 Oh=> ?_);refine St.bB v20 (show _=T.length by rw[Et,List.length_append];rfl) (show _=rows cK (us++ [⟨gw,fM⟩]) by rw[cl];simp[J.aG fM];rfl) ?_;refine St.dm v20 (fun td _=> ?_);refine St.nn ?_;refine SW.go ?_;refine SW.bG (i:=6) (by kernel_rfl) rfl ?_;refine St.cR (.mk rfl) (.mk rfl) KH td (by rfl) ?_;refine St.nn ?_;refine SW.go ?_;refine SW.done (by kernel_rfl) ?_;refine St.aA (St.ab (St.aB ?_));refine St.p7 us ⟨gw,fM⟩ (by rw[List.length_map];exact Eo) ?_;rw[show O.map ints++ [ints p]=T.map ints by rw[Et,List.map_append];rfl];refine St.rT [] [ae ba (.cells [va].toArray 57 (0,0)),row va 3 1 q.vars.length (rows aK (A)),ae bo (.cells [v20].toArray 44 (0,0)),row v20 57 1 (T).length (rows cK (us++ [⟨gw,fM⟩])),aF (ku aK (us++ [⟨gw,fM⟩]) ((T).map ints)),ae bl (.cells [vl].toArray 78 (0,0)),ae bq (.cells [q.vv.1,q.kv.1].toArray 36 (0,0)),ae bt (.cells [(.func (.func 32) #[] [Value.pointer (some ⟨ba,0,none⟩),Value.pointer (some ⟨bo,0,none⟩),Value.pointer (some ⟨bl,0,none⟩),Value.pointer (some ⟨bq,0,none⟩),Value.pointer (some ⟨bt,0,none⟩)].toArray)].toArray 80 (0,0))] Tryz.results32 trivial ?_;exact⟨A,v20,us++ [⟨gw,fM⟩],hA,Q4,td,by rw[Et,List.length_append,List.length_append,Eo];rfl,rfl⟩
 ·try simp only[aC]at qX
  obtain⟨vr,ws,Er⟩:=List.exists_cons_of_length_pos (show 0<vs.length by omega);subst Er;rw[ED]at hT;obtain⟨hvr,jB⟩:=drop_cons SK;rw[List.length_cons]at hlen hm;refine St.skip (St.aA (St.sr ?_));refine St.ee (Ev.l0 (.mk rfl) gn) ?_;refine St.ee (Ev.au (.mk rfl) gn) ?_;refine St.mv ?_;refine St.nn (St.block ?_);refine St.my (ι:=Nat) (κ:=List Int×Value×List cm×List (List Nat)) (fun i z T=>(23,iv i)::T) (fun i z=>[ae ba (.cells [va].toArray 57 (0,0)),row va 3 1 q.vars.length (rows aK (z.1)),ae bo (.cells [z.2.1].toArray 44 (0,0)),row z.2.1 57 1 (z.2.2.2).length (rows cK (z.2.2.1)),aF (ku aK (z.2.2.1) ((z.2.2.2).map ints)),ae bl (.cells [vl].toArray 78 (0,0)),ae bq (.cells [q.vv.1,q.kv.1].toArray 36 (0,0)),ae bt (.cells [(.func (.func 32) #[] [Value.pointer (some ⟨ba,0,none⟩),Value.pointer (some ⟨bo,0,none⟩),Value.pointer (some ⟨bl,0,none⟩),Value.pointer (some ⟨bq,0,none⟩),Value.pointer (some ⟨bt,0,none⟩)].toArray)].toArray 80 (0,0)),aF (sl gV vl L),aF (sl jH q.vv.1 q.vars),aF (sl gM q.kv.1 q.aY)]) (fun i z=>i≤L.length∧z.1.length=q.vars.length∧z.1.take p.length=ints p∧z.2.1.oneCell'=true∧z.2.2.1.length=z.2.2.2.length∧z.2.2.2.length≤501∧z.2.2.2=(List.range i).foldl (mP L q.aY vr ws p) O) (fun i z=>L.length-i) 0 (A,vo,us,O) (aE.cons 0 rfl (aE.cons 1 rfl (aE.cons 2 rfl (aE.cons 3 rfl (aE.cons 4 rfl (aE.cons 5 rfl (aE.cons 22 rfl aE.nil))))))) ⟨Nat.zero_le _,hA,Q4,SL,Eo,hO,rfl⟩ ?_;rintro i ⟨B,wo,Gr,Oc⟩ ⟨hi,hB,SM,Q5,MU,Gs,Oi⟩
  dsimp only at hB SM Q5 MU Gs Oi⊢
  refine St.sr ?_;refine St.ee Ev.dz ?_;refine St.nn (St.seq ?_);refine St.cond _ rfl (fun ob=> ?_) (fun ob=> ?_)
  ·try simp only[aC]at ob
   obtain⟨nq,hnq⟩:=aQ (show i<L.length by omega)
   have Nf:L.getD i so=nq:=by rw[List.getD_eq_getElem?_getD,hnq];rfl
   have Oj:∀y∈p++ [i],y<L.length:=fun y hy=>by rcases List.mem_append.1 hy with h|h;exact Og y h;rw[List.mem_singleton.1 h];omega
   refine St.skip (St.aA (St.seq (St.block (St.sr ?_))));refine St.mv ?_;refine St.ar ?_;refine St.nn (St.seq (St.sr ?_));refine St.ee (Ev.l0 (.mk rfl) dB) ?_;refine St.ee (Ev.fl (.mk rfl) dB) ?_;refine St.ee Ev.s5 ?_;refine St.nn ?_;refine St.cond _ rfl (fun s8=> ?_) (fun s8=> ?_)
   ·try simp only[aC]at s8
    have YT:Oc=T:=by rw[hT,show L.length=i+(L.length-i) by omega,vw (by rw[←Oi];omega),Oi]
    subst YT;refine St.ab (St.aB (St.aN (St.aB (St.aB (St.aN ?_)))));refine St.rT [] [ae ba (.cells [va].toArray 57 (0,0)),row va 3 1 q.vars.length (rows aK (B)),ae bo (.cells [wo].toArray 44 (0,0)),row wo 57 1 (Oc).length (rows cK (Gr)),aF (ku aK (Gr) ((Oc).map ints)),ae bl (.cells [vl].toArray 78 (0,0)),ae bq (.cells [q.vv.1,q.kv.1].toArray 36 (0,0)),ae bt (.cells [(.func (.func 32) #[] [Value.pointer (some ⟨ba,0,none⟩),Value.pointer (some ⟨bo,0,none⟩),Value.pointer (some ⟨bl,0,none⟩),Value.pointer (some ⟨bq,0,none⟩),Value.pointer (some ⟨bt,0,none⟩)].toArray)].toArray 80 (0,0))] Tryz.results32 trivial ?_;exact⟨B,wo,Gr,hB,SM,Q5,MU,rfl⟩
   ·try simp only[aC]at s8
    refine St.skip (St.aA (St.seq (St.seq ?_)));refine St.rq mixed (by kernel_rfl) (Mm.drawn _ _) ?_;refine Sq.ee (Ev.aD (.mk rfl) im) ?_;refine Sq.ee (Ev.l0 (.mk rfl) iJ) ?_;refine Sq.ee (Ev.move (.mk rfl)) ?_;refine Sq.ee (Ev.aR (k:=p.length) (.mk rfl) (.mk rfl) iJ tV (by omega) (by omega)) ?_;refine Sq.ee (Ev.fg (.mk rfl) hvr Tryz.underlying71 trivial tV en.eq) ?_;refine Sq.ee (Ev.l0 (.mk rfl) gn) ?_;refine Sq.ee (Ev.move (.mk rfl)) ?_;refine Sq.ee (Ev.aR (k:=i) (.mk rfl) (.mk rfl) gn nK (by omega) (by omega)) ?_;refine Sq.ee (Ev.fg (.mk rfl) hnq Tryz.underlying83 trivial nK en.eq) ?_;refine Sq.ee (Ev.call (EC vr nq) YA (.cons (.mk rfl) (.cons (.mk rfl) .nil))) ?_;refine Sq.ee (Ev.not (.mk rfl)) ?_;refine Sq.nil ?_;refine St.aA ?_;refine St.cond _ rfl (fun zG=> ?_) (fun zG=> ?_)
    ·skip
     have MV:mu vr nq=false:=by simpa using zG
     have SN:Em L q.aY vr p i=false:=by unfold Em;rw[Nf,MV];rfl
     have cQ:Oc=(List.range (i+1)).foldl (mP L q.aY vr ws p) O:=by rw[fold_succ,←Oi,mP,if_neg (by omega),SN];rfl
     refine St.exit (St.aI (St.bM (St.aA (St.rg ?_))));refine St.ee Ev.a0 ?_;refine St.mv ?_;refine St.nn ?_;refine St.ji (i+1) (B,wo,Gr,Oc) ⟨by omega,hB,SM,Q5,MU,Gs,cQ⟩
    ·skip
     have MV:mu vr nq=true:=by simpa using zG
     refine St.skip (St.aA (St.sr ?_));refine St.ee (Ev.l0 (.mk rfl) bE) ?_;refine St.mv ?_;refine St.mv ?_;refine St.ee (Ev.cN (k:=p.length) (.mk rfl) (.mk rfl) bE cr (by omega) (by omega)) ?_;refine St.dM (.mk rfl) (.mk rfl) cr rfl (by omega) (by decide) ?_;refine St.QX va (Gl _ _ _) ?_
     have hC:=take_set (i:=i) SM (by omega)
     have YU:(B.set p.length (i:Int)).length=q.vars.length:=by rw[List.length_set];exact hB
     generalize hBC:B.set p.length (i:Int)=C at hC YU⊢
     have KN:(p++ [i]).length=p.length+1:=by rw[List.length_append];rfl
     refine St.nn (St.sr ?_);refine St.ar ?_;refine St.nn (St.seq (St.sr ?_));refine St.ee (Ev.aD (.mk rfl) kB) ?_;refine St.ee (Ev.l0 (.mk rfl) jI) ?_;refine St.ee (Ev.au (.mk rfl) jI) ?_;refine St.mv ?_;refine St.nn (St.block ?_);refine St.lH (ι:=Nat) (fun j T=>(47,iv j)::(8,.bool true)::T) (fun j=>[ae ba (.cells [va].toArray 57 (0,0)),row va 3 1 q.vars.length (rows aK (C)),ae bo (.cells [wo].toArray 44 (0,0)),row wo 57 1 (Oc).length (rows cK (Gr)),aF (ku aK (Gr) ((Oc).map ints)),ae bl (.cells [vl].toArray 78 (0,0)),ae bq (.cells [q.vv.1,q.kv.1].toArray 36 (0,0)),ae bt (.cells [(.func (.func 32) #[] [Value.pointer (some ⟨ba,0,none⟩),Value.pointer (some ⟨bo,0,none⟩),Value.pointer (some ⟨bl,0,none⟩),Value.pointer (some ⟨bq,0,none⟩),Value.pointer (some ⟨bt,0,none⟩)].toArray)].toArray 80 (0,0)),aF (sl gV vl L),aF (sl jH q.vv.1 q.vars),aF (sl gM q.kv.1 q.aY)]) (fun j=>j≤q.aY.length∧∀x∈q.aY.take j,pI L (p++ [i]) x=true) (fun j=>q.aY.length-j) 0 (aE.cons 0 rfl (aE.cons 1 rfl (aE.cons 2 rfl (aE.cons 3 rfl (aE.cons 4 rfl (aE.cons 5 rfl (aE.cons 22 rfl (aE.cons 23 rfl (aE.cons 45 rfl (aE.cons 46 rfl aE.nil)))))))))) ⟨Nat.zero_le _,fun x hx=>by simp at hx⟩ ?_;rintro j ⟨hj,fE⟩;refine St.sr ?_;refine St.ee Ev.dz ?_;refine St.nn (St.seq ?_);refine St.cond _ rfl (fun pc=> ?_) (fun pc=> ?_)
     ·try simp only[aC]at pc
      obtain⟨x,hx⟩:=aQ (show j<q.aY.length by omega)
      have E2:=List.mem_of_getElem? hx
      obtain⟨Q3,W5,SO,Ok,hx5,hx6,hx7⟩:=hq.link x E2;refine St.skip (St.aA (St.seq (St.block (St.sr ?_))));refine St.ee (Ev.aR (k:=j) (.mk rfl) (.mk rfl) jI mA (by omega) (by omega)) ?_;refine St.ee (Ev.fg (.mk rfl) hx Fk trivial mA en.eq) ?_;refine St.alloc KF rfl (fun jT=> ?_);refine St.sA (.mk rfl) (.mk rfl) mA ?_ (h1:=(by simp only[List.all_cons,List.all_nil,Bool.and_true,Bool.and_eq_true];exact⟨rfl,rfl,rfl⟩));refine St.nn (St.seq ?_);refine St.eK [] mixed (fun np ns=> ?_);refine SW.dd 0 rfl (fun _=>Ev.aD (.mk rfl) mB) ?_;refine SW.dd 1 rfl (fun _=>Ev.cS (.mk rfl) bP trivial (by rfl)) ?_;refine SW.dd 2 rfl (fun _=>Ev.aD (.mk rfl) mC) ?_;refine SW.dd 3 rfl (fun _=>Ev.cS (.mk rfl) bP trivial (by rfl)) ?_;refine SW.dd 4 rfl (fun _=>Ev.YL (.mk rfl) (.mk rfl)) ?_;refine SW.dd 5 rfl (fun _=>Ev.move (.mk rfl)) ?_;refine SW.dd 6 rfl (fun _=>Ev.fa) ?_;refine SW.split 57 _ rfl (fun Gt=> ?_) (fun Gt=> ?_)
      ·have hmx:max x.a x.b=((p++ [i]).length:Int)-1:=by rw[KN];simp only[decide_eq_true_eq,beq_iff_eq]at Gt;split at Gt<;>omega
       have W6:x.a.toNat<p.length+1:=by omega
       have W7:x.b.toNat<p.length+1:=by omega
       have hra:=Cm hC KN W6
       have uo:=Cm hC KN W7
       have W8:=za Oj (show x.a.toNat<(p++ [i]).length by omega)
       have J1:=za Oj (show x.b.toNat<(p++ [i]).length by omega)
       refine SW.dd 7 rfl (fun _=>Ev.move (.mk rfl)) ?_;refine SW.slot 58 (.bool true) rfl (congrArg Value.bool rfl) ?_;refine SW.gt 8 _ np ns rfl rfl rfl (fun R _=>Ev.cS (.mk rfl) gn trivial (by rfl)) (by kernel_rfl) rfl ?_;refine SW.slot 59 _ rfl (an rfl _) ?_;refine SW.gt 9 _ np ns rfl rfl rfl (fun R _=>Ev.aD (.mk rfl) tW) (by kernel_rfl) rfl ?_;refine SW.slot 60 _ rfl (an rfl _) ?_;refine SW.gt 10 _ np ns rfl rfl rfl (fun R _=>Ev.cS (.mk rfl) bP trivial (by rfl)) (by kernel_rfl) rfl ?_;refine SW.slot 61 _ rfl (an rfl _) ?_;refine SW.gt 11 _ np ns rfl rfl rfl (fun R _=>Ev.cS (.mk rfl) bE trivial (by rfl)) (by kernel_rfl) rfl ?_;refine SW.slot 62 _ rfl (an rfl _) ?_;refine SW.gt 12 _ np ns rfl rfl rfl (fun R _=>Ev.aD (.mk rfl) mB) (by kernel_rfl) rfl ?_;refine SW.slot 63 _ rfl (an rfl _) ?_;refine SW.gt 13 _ np ns rfl rfl rfl (fun R _=>Ev.cS (.mk rfl) bP trivial (by rfl)) (by kernel_rfl) rfl ?_;refine SW.slot 64 _ rfl (an rfl _) ?_;refine SW.gt 14 _ np ns rfl rfl rfl (fun R _=>Ev.cN (k:=x.a.toNat) (.mk rfl) (.mk rfl) bE cr (by omega) (by omega)) (by kernel_rfl) rfl ?_;refine SW.slot 65 _ rfl (an rfl _) ?_;refine SW.gt 15 _ np ns rfl rfl rfl (fun R _=>Ev.j2 (.mk rfl) bP trivial (by omega) (Cl hra)) (by kernel_rfl) rfl ?_;refine SW.slot 66 _ rfl (an rfl _) ?_;refine SW.gt 16 _ np ns rfl rfl rfl (fun R _=>Ev.cS (.mk rfl) bE trivial (by rfl)) (by kernel_rfl) rfl ?_;refine SW.slot 67 _ rfl (an rfl _) ?_;refine SW.gt 17 _ np ns rfl rfl rfl (fun R _=>Ev.aD (.mk rfl) mC) (by kernel_rfl) rfl ?_;refine SW.slot 68 _ rfl (an rfl _) ?_;refine SW.gt 18 _ np ns rfl rfl rfl (fun R _=>Ev.cS (.mk rfl) bP trivial (by rfl)) (by kernel_rfl) rfl ?_;refine SW.slot 69 _ rfl (an rfl _) ?_;refine SW.gt 19 _ np ns rfl rfl rfl (fun R _=>Ev.cN (k:=x.b.toNat) (.mk rfl) (.mk rfl) bE cr (by omega) (by omega)) (by kernel_rfl) rfl ?_;refine SW.slot 70 _ rfl (an rfl _) ?_;refine SW.gt 20 _ np ns rfl rfl rfl (fun R _=>Ev.j2 (.mk rfl) bP trivial (by omega) (Cl uo)) (by kernel_rfl) rfl ?_;refine SW.slot 71 _ rfl (an rfl _) ?_;refine SW.gt 21 _ np ns rfl rfl rfl (fun R _=>Ev.call (zZ vl L x.kind _ _ W8 J1) YB (.cons (.mk rfl) (.cons (.mk rfl) (.cons (.mk rfl) (.cons (.mk rfl) .nil))))) (by kernel_rfl) rfl ?_;refine SW.slot 72 _ rfl (an rfl _) ?_;refine SW.gt 22 _ np ns rfl rfl rfl (fun R _=>Ev.not (.mk rfl)) (by kernel_rfl) rfl ?_;refine SW.slot 73 _ rfl (an rfl _) ?_;refine SW.dd 23 rfl (fun _=>Ev.er (.mk rfl) rfl (.mk rfl)) ?_;refine SW.done (by kernel_rfl) ?_;refine St.aA ?_;refine St.cond _ rfl (fun Eu=> ?_) (fun Eu=> ?_)
       ·skip
        have SP:pI L (p++ [i]) x=false:=by unfold pI;rw[decide_eq_true hmx];simpa using Eu
        have q8:okB L q.aY (p++ [i])=false:=by unfold okB;rw[List.all_eq_false];exact⟨x,E2,by rw[SP];decide⟩
        have SN:Em L q.aY vr p i=false:=by unfold Em;rw[q8,Bool.and_false]
        have cQ:Oc=(List.range (i+1)).foldl (mP L q.aY vr ws p) O:=by rw[fold_succ,←Oi,mP,if_neg (by omega),SN];rfl
        refine St.sr ?_;refine St.ar ?_;refine St.nn (St.exit (St.J6 rfl (St.aI (St.aI (St.bM (St.aA (St.sr ?_)))))));refine St.mv ?_;refine St.nn ?_;refine St.oy _ rfl rfl ?_;refine St.skip (St.aO (St.aA (St.rg ?_)));refine St.ee Ev.a0 ?_;refine St.mv ?_;refine St.nn ?_;refine St.ji (i+1) (C,wo,Gr,Oc) ⟨by omega,YU,vx (B:=C) (i:=i) (by rw[KN];exact hC),Q5,MU,Gs,cQ⟩
       ·skip
        have J2:pI L (p++ [i]) x=true:=by unfold pI;rw[decide_eq_true hmx];simpa using Eu
        refine St.skip (St.aO (St.aA (St.rg ?_)));refine St.ee Ev.a0 ?_;refine St.mv ?_;refine St.nn ?_;refine St.aH (j+1) ⟨by omega,fun z hz=>by rw[bJ hx]at hz;rcases List.mem_append.1 hz with h|h;exact fE z h;rw[List.mem_singleton.1 h];exact J2⟩
      ·have J2:pI L (p++ [i]) x=true:=by unfold pI;rw[decide_eq_false (by rw[KN];simp only[decide_eq_false_iff_not,beq_eq_false_iff_ne]at Gt;split at Gt<;>omega)];rfl
       refine SW.dd 7 rfl (fun _=>Ev.move (.mk rfl)) ?_;refine SW.slot 58 (.bool false) rfl (congrArg Value.bool rfl) ?_;refine SW.gt 8 undef np ns rfl rfl rfl (fun R hg=>by cases hg) (by kernel_rfl) rfl ?_;refine SW.slot 59 undef rfl (ag rfl _) ?_;refine SW.gt 9 undef np ns rfl rfl rfl (fun R hg=>by cases hg) (by kernel_rfl) rfl ?_;refine SW.slot 60 undef rfl (ag rfl _) ?_;refine SW.gt 10 undef np ns rfl rfl rfl (fun R hg=>by cases hg) (by kernel_rfl) rfl ?_;refine SW.slot 61 undef rfl (ag rfl _) ?_;refine SW.gt 11 undef np ns rfl rfl rfl (fun R hg=>by cases hg) (by kernel_rfl) rfl ?_;refine SW.slot 62 undef rfl (ag rfl _) ?_;refine SW.gt 12 undef np ns rfl rfl rfl (fun R hg=>by cases hg) (by kernel_rfl) rfl ?_;refine SW.slot 63 undef rfl (ag rfl _) ?_;refine SW.gt 13 undef np ns rfl rfl rfl (fun R hg=>by cases hg) (by kernel_rfl) rfl ?_;refine SW.slot 64 undef rfl (ag rfl _) ?_;refine SW.gt 14 undef np ns rfl rfl rfl (fun R hg=>by cases hg) (by kernel_rfl) rfl ?_;refine SW.slot 65 undef rfl (ag rfl _) ?_;refine SW.gt 15 undef np ns rfl rfl rfl (fun R hg=>by cases hg) (by kernel_rfl) rfl ?_;refine SW.slot 66 undef rfl (ag rfl _) ?_;refine SW.gt 16 undef np ns rfl rfl rfl (fun R hg=>by cases hg) (by kernel_rfl) rfl ?_;refine SW.slot 67 undef rfl (ag rfl _) ?_;refine SW.gt 17 undef np ns rfl rfl rfl (fun R hg=>by cases hg) (by kernel_rfl) rfl ?_;refine SW.slot 68 undef rfl (ag rfl _) ?_;refine SW.gt 18 undef np ns rfl rfl rfl (fun R hg=>by cases hg) (by kernel_rfl) rfl ?_;refine SW.slot 69 undef rfl (ag rfl _) ?_;refine SW.gt 19 undef np ns rfl rfl rfl (fun R hg=>by cases hg) (by kernel_rfl) rfl ?_;refine SW.slot 70 undef rfl (ag rfl _) ?_;refine SW.gt 20 undef np ns rfl rfl rfl (fun R hg=>by cases hg) (by kernel_rfl) rfl ?_;refine SW.slot 71 undef rfl (ag rfl _) ?_;refine SW.gt 21 undef np ns rfl rfl rfl (fun R hg=>by cases hg) (by kernel_rfl) rfl ?_;refine SW.slot 72 undef rfl (ag rfl _) ?_;refine SW.gt 22 undef np ns rfl rfl rfl (fun R hg=>by cases hg) (by kernel_rfl) rfl ?_;refine SW.slot 73 undef rfl (ag rfl _) ?_;refine SW.dd 23 rfl (fun _=>Ev.iM (.mk rfl) rfl (.mk rfl)) ?_;refine SW.done (by kernel_rfl) ?_;refine St.aA ?_;refine St.cond _ rfl (fun Eu=> ?_) (fun Eu=> ?_)
       ·skip
        cases Eu
       ·skip
        refine St.skip (St.aO (St.aA (St.rg ?_)));refine St.ee Ev.a0 ?_;refine St.mv ?_;refine St.nn ?_;refine St.aH (j+1) ⟨by omega,fun z hz=>by rw[bJ hx]at hz;rcases List.mem_append.1 hz with h|h;exact fE z h;rw[List.mem_singleton.1 h];exact J2⟩
     ·try simp only[aC]at pc
      have q8:okB L q.aY (p++ [i])=true:=by unfold okB;rw[List.all_eq_true];intro z hz;exact fE z (by rw[List.take_of_length_le (by omega)];exact hz)
      have SN:Em L q.aY vr p i=true:=by unfold Em;rw[Nf,MV,q8];rfl
      refine St.exit (St.aI (St.aI (St.bM (St.aA (St.sr ?_)))));refine St.mv ?_;refine St.nn ?_;refine St.Lm _ rfl rfl ?_;refine St.dup (sl gV vl L) ?_;refine St.dup (sl jH q.vv.1 q.vars) ?_;refine St.dup (sl gM q.kv.1 q.aY) ?_
      obtain⟨T3,YV⟩:∃T3,T3=uc L q.aY ws (p++ [i]) Oc:=⟨_,rfl⟩
      refine St.rg ?_;refine St.ee (Ev.l0 (.mk rfl) Tryz.underlying80) ?_;refine St.mv ?_;refine St.ee Ev.a0 ?_;refine St.slot 79 (iv (((p++ [i]).length:Nat):Int)) rfl (congrArg iv (by rw[KN];rfl)) ?_;refine St.dR (ih ws.length (by omega) ws (p++ [i]) Oc C wo Gr T3 rfl YV (by rw[KN];exact jB) (by rw[KN];omega) YU (by rw[KN];exact hC) Oj Q5 MU Gs (fun _=>by omega)) SB (.mk rfl) (.cons (.mk rfl) .nil) rfl ?_;rintro v80 _ ⟨C3,vo3,us3,hC3,YW,YX,YY,rfl⟩;refine St.SH ?_
      have cQ:T3=(List.range (i+1)).foldl (mP L q.aY vr ws p) O:=by rw[fold_succ,←Oi,mP,if_neg (by omega),SN,YV];rfl
      have YZ:T3.length≤501:=by rw[YV];exact Gq _ _ _ _ _ Gs (fun _=>by omega)
      refine St.nil (St.aO (St.aA (St.rg ?_)));refine St.ee Ev.a0 ?_;refine St.mv ?_;refine St.nn ?_;refine St.ji (i+1) (C3,vo3,us3,T3) ⟨by omega,hC3,vx (B:=C3) (i:=i) YW,YX,YY,YZ,cQ⟩
  ·try simp only[aC]at ob
   obtain rfl:i=L.length:=by omega
   have YT:Oc=T:=by rw[Oi,hT]
   subst YT;refine St.exit (St.aI (St.aI (St.bM ?_)));refine St.j0 ?_;refine St.rT [] [ae ba (.cells [va].toArray 57 (0,0)),row va 3 1 q.vars.length (rows aK (B)),ae bo (.cells [wo].toArray 44 (0,0)),row wo 57 1 (Oc).length (rows cK (Gr)),aF (ku aK (Gr) ((Oc).map ints)),ae bl (.cells [vl].toArray 78 (0,0)),ae bq (.cells [q.vv.1,q.kv.1].toArray 36 (0,0)),ae bt (.cells [(.func (.func 32) #[] [Value.pointer (some ⟨ba,0,none⟩),Value.pointer (some ⟨bo,0,none⟩),Value.pointer (some ⟨bl,0,none⟩),Value.pointer (some ⟨bq,0,none⟩),Value.pointer (some ⟨bt,0,none⟩)].toArray)].toArray 80 (0,0))] Tryz.results32 trivial ?_;exact⟨B,wo,Gr,hB,SM,Q5,MU,rfl⟩
end Go.Proofs.YtolmidffiegkaaaGreatDoor
namespace Go.Proofs
open Go.Shelf Go.RowKit Go.Lib
variable {P:Program}{ρ:Ren}
theorem Gu {r:Int}(h:128≤r):∃(n:Nat) (x:UInt8),(Utf8.encode r).size=n∧2≤n∧n≤4∧(Utf8.encode r).data.toList[n-1]?=some x∧128≤x.toNat:=by
 have key:∀c:Nat,128≤c→c<1114112→∃(n:Nat) (x:UInt8),(if c<0x80 then(⟨#[UInt8.ofNat c]⟩:ByteArray)else if c<0x800 then⟨#[UInt8.ofNat (0xC0+c/64),UInt8.ofNat (0x80+c%64)]⟩
  else if c<0x10000 then⟨#[UInt8.ofNat (0xE0+c/4096),UInt8.ofNat (0x80+c/64%64),UInt8.ofNat (0x80+c%64)]⟩
  else⟨#[UInt8.ofNat (0xF0+c/262144),UInt8.ofNat (0x80+c/4096%64),UInt8.ofNat (0x80+c/64%64),UInt8.ofNat (0x80+c%64)]⟩).size=n∧2≤n∧n≤4∧
  (if c<0x80 then(⟨#[UInt8.ofNat c]⟩:ByteArray)else if c<0x800 then⟨#[UInt8.ofNat (0xC0+c/64),UInt8.ofNat (0x80+c%64)]⟩
  else if c<0x10000 then⟨#[UInt8.ofNat (0xE0+c/4096),UInt8.ofNat (0x80+c/64%64),UInt8.ofNat (0x80+c%64)]⟩
  else⟨#[UInt8.ofNat (0xF0+c/262144),UInt8.ofNat (0x80+c/4096%64),UInt8.ofNat (0x80+c/64%64),UInt8.ofNat (0x80+c%64)]⟩).data.toList[n-1]?=some x∧128≤x.toNat:=by
  intro c h1 h2
  have hx:128≤(UInt8.ofNat (0x80+c%64)).toNat:=by simp[UInt8.toNat_ofNat'];omega
  rw[if_neg (by omega)]
  by_cases k:c<0x800
  ·rw[if_pos k];exact⟨2,_,rfl,by omega,by omega,rfl,hx⟩
  ·rw[if_neg k]
   by_cases k2:c<0x10000
   ·rw[if_pos k2];exact⟨3,_,rfl,by omega,by omega,rfl,hx⟩
   ·rw[if_neg k2];exact⟨4,_,rfl,by omega,by omega,rfl,hx⟩
 unfold Utf8.encode
 by_cases hv:Utf8.valid r=true
 ·simp only[hv,if_true]
  refine key r.toNat (by omega) ?_
  simp[Utf8.valid]at hv
  omega
 ·simp only[hv]
  exact key Utf8.runeError (by decide) (by decide)
theorem qh {w:World}{s d:TypeId}{k:IntKind}{r:Int}(hs:P.underlying s=some (.int k))(hd:P.underlying d=some .string):(convert s d (.int k r)).run P w= .ok (.string (Utf8.encode r)) w:=by
 simp[convert,run_underlying hs,run_underlying hd,Conv.intToString]
theorem Gv {w:World}{t:TypeId}{s:ByteArray}{i:Int}{k:Nat}{b:UInt8}(ht:P.underlying t=some .string)(hi:i=k)(hb:s.data.toList[k]?=some b):(Instr.index t (.string s) (.int .i64 i)).run P w= .ok (.int .u8 (b.toNat:Int)) w:=by
 subst hi
 have jA:k<s.size:=by have:=(List.getElem?_eq_some_iff.1 hb).1;rwa[←Lib.size_eq]at this
 have h1:s[k]?=some b:=by
  rw[ByteArray.getElem?_lt' _ _ jA]
  have:=(List.getElem?_eq_some_iff.1 hb).2
  simpa[ByteArray.getElem_eq_getElem_data]using this
 simp[Instr.index,asIntOf,run_underlying ht,h1]
theorem uq {l:List UInt8}{c:UInt8}(h:∀x∈l,x≠c):Lib.indexByte l c<0:=by
 have h1:=Lib.contains_iff_indexByte l c
 have h2:l.contains c=false:=by
  rw[Bool.eq_false_iff];intro h3;exact h c (List.contains_iff_mem.1 h3) rfl
 rw[h2]at h1
 have:=of_decide_eq_false h1.symm
 omega
set_option maxHeartbeats 8000000 in
set_option maxRecDepth 1000000 in
theorem Any.te (L:Lays.n152 P ρ)(s:ByteArray)(r:Int)(w:World)(h0:128≤r)(h1:r≠65533)(hv:Lib.validRune r=true)(hs:∀(j:Nat) b,s.data.toList[j]?=some b→b.toNat<128)(fD:s.size≤100):
 Calls P (ρ.f 152) #[.string s,.int .i32 r] w fun e w'=>e= .returned (.int .i64 (-1))∧∃k,w'=w.drewN k:=by
 have t3:=L.t3;have a3:=L.a3;have z3:=L.z3;have v3:=L.v3
 have t4:=L.t4;have a4:=L.a4;have z4:=L.z4;have v4:=L.v4
 have t5:=L.t5;have a5:=L.a5;have z5:=L.z5;have v5:=L.v5
 have t9:=L.t9;have a9:=L.a9;have z9:=L.z9;have v9:=L.v9
 have t21:=L.t21;have a21:=L.a21;have z21:=L.z21;have v21:=L.v21
 have Ya:∀args w,(callFunc (ρ.f 137) args).run P w= .ok (.enter (ρ.f 137) args) w:=enters_of L.f137 (by kernel_rfl) rfl
 have Yb:∀args w,(callFunc (ρ.f 119) args).run P w= .ok (.enter (ρ.f 119) args) w:=enters_of L.f119 (by kernel_rfl) rfl
 have mixed:=L.mixed
 have d1:decide ((0:Int)≤r)=true:=decide_eq_true (by omega)
 have d2:decide (r<128)=false:=decide_eq_false (by omega)
 have d3:(r==(65533:Int))=false:=beq_eq_false_iff_ne.2 h1
 obtain⟨n,x,hn,hn2,hn4,hx,MW⟩:=Gu h0
 have hc:=fun(w:World)=>qh (P:=P) (w:=w) (r:=r) t21 t9
 generalize Utf8.encode r=rs at hn hx hc
 subst hn
 go_enter L.f152,Body.n152_ntmps ρ
 go_wp2_with (go_at_fn (ρ.f 119);refine(Any.utf8_ValidRune {L with} _ _).mono ?_;rintro e w' ⟨rfl,hw⟩;rw[hw,hv])
 subst hw;refine wp_scope_straight ?_
 go_wp2
 by_cases hl:rs.size-1<s.size
 ·have hi0:(0:Int)≤(rs.size:Int)-1:=by omega
  have Vk:(rs.size:Int)-1<(s.size:Int):=by omega
  obtain⟨y,hy⟩:∃y:UInt8,s.data.toList[rs.size-1]?=some y:=⟨_,List.getElem?_eq_getElem (by rw[←Lib.size_eq];exact hl)⟩
  have ab4:=hs _ _ hy
  refine wp_loop_rounds 1 ?_;rw[rounds_succ]
  go_wp2
  refine wp_scope_straight ?_
  have kx:∀w,(Instr.index (ρ.t 9) (.string rs) (.int .i64 ((rs.size:Int)-1))).run P w= .ok (.int .u8 (x.toNat:Int)) w:=fun w=>Gv t9 (by omega) hx
  have ky:∀w,(Instr.index (ρ.t 9) (.string s) (.int .i64 ((rs.size:Int)-1))).run P w= .ok (.int .u8 (y.toNat:Int)) w:=fun w=>Gv t9 (by omega) hy
  have fj:((y.toNat:Int)==(x.toNat:Int))=false:=beq_eq_false_iff_ne.2 (by omega)
  go_wp2
  go_region_o
  have Ya:∀args w,(callFunc (ρ.f 137) args).run P w= .ok (.enter (ρ.f 137) args) w:=enters_of L.f137 (by kernel_rfl) rfl
  have zY:IntKind.i64.wrap (rs.size:Int)=(rs.size:Int):=by
   simp only[IntKind.wrap,IntKind.bits,IntKind.signed]
   simp
   omega
  have s1:(0:Int)≤(rs.size:Int)-1+1:=by omega
  have s2:(rs.size:Int)-1+1≤(s.size:Int):=by omega
  have s3:(0:Int)≤(rs.size:Int):=by omega
  have s4:(rs.size:Int)≤(s.size:Int):=by omega
  obtain⟨z,hz⟩:∃z,Lib.indexByte (s.extract rs.size s.size).data.toList ((x.toNat:Int).toNat.toUInt8)=z:=⟨_,rfl⟩
  have qg:z<0:=by
   rw[←hz]
   refine uq fun b hb=> ?_
   have Ek:b∈s.data.toList:=by
    have:(s.extract rs.size s.size).data.toList=(s.data.toList.drop rs.size).take (s.size-rs.size):=by simp
    rw[this]at hb;exact List.mem_of_mem_drop (List.mem_of_mem_take hb)
   obtain⟨k,hk⟩:=List.getElem?_of_mem Ek
   have h5:=hs k b hk
   intro e
   have h6:((x.toNat:Int)).toNat.toUInt8=x:=by simp
   rw[h6]at e;rw[e]at h5;omega
  go_wp2
  go_region_with_o (
   go_at_fn (ρ.f 137)
   refine(Any.strings_IndexByte {L with} _ _ _).mono ?_;rintro e w' ⟨rfl,hw⟩
   rw[hw,hz])
  go_wp2
  simp only[Exit.noGoto,Exit.inBlock,Exit.then]
  go_ret
  exact⟨rfl,2,rfl⟩
 ·have Vk:decide ((rs.size:Int)-1<(s.size:Int))=false:=decide_eq_false (by omega)
  refine wp_loop_rounds 1 ?_;rw[rounds_succ]
  go_wp2
  show Exit.inBlock 0 _ Exit.ret _ _
  go_ret
  exact⟨rfl,0,rfl⟩
set_option maxHeartbeats 8000000 in
set_option maxRecDepth 1000000 in
theorem Any.ur (L:Lays.n152 P ρ)(s:ByteArray)(r:Int)(w:World)(h0:128≤r)(h1:r≠65533)(hv:Lib.validRune r=false):
 Calls P (ρ.f 152) #[.string s,.int .i32 r] w fun e w'=>e= .returned (.int .i64 (-1))∧∃k,w'=w.drewN k:=by
 have t3:=L.t3;have a3:=L.a3;have z3:=L.z3;have v3:=L.v3
 have t4:=L.t4;have a4:=L.a4;have z4:=L.z4;have v4:=L.v4
 have t5:=L.t5;have a5:=L.a5;have z5:=L.z5;have v5:=L.v5
 have t9:=L.t9;have a9:=L.a9;have z9:=L.z9;have v9:=L.v9
 have t21:=L.t21;have a21:=L.a21;have z21:=L.z21;have v21:=L.v21
 have Yb:∀args w,(callFunc (ρ.f 119) args).run P w= .ok (.enter (ρ.f 119) args) w:=enters_of L.f119 (by kernel_rfl) rfl
 have d1:decide ((0:Int)≤r)=true:=decide_eq_true (by omega)
 have d2:decide (r<128)=false:=decide_eq_false (by omega)
 have d3:(r==(65533:Int))=false:=beq_eq_false_iff_ne.2 h1
 go_enter L.f152,Body.n152_ntmps ρ
 go_wp2_with (go_at_fn (ρ.f 119);refine(Any.utf8_ValidRune {L with} _ _).mono ?_;rintro e w' ⟨rfl,hw⟩;rw[hw,hv])
 subst hw
 go_ret
 exact⟨rfl,0,rfl⟩
set_option maxHeartbeats 8000000 in
set_option maxRecDepth 1000000 in
theorem Any.rh (L:Lays.n152 P ρ)(s:ByteArray)(w:World)(hs:∀(j:Nat) b,s.data.toList[j]?=some b→b.toNat<128):
 Calls P (ρ.f 152) #[.string s,.int .i32 65533] w fun e w'=>e= .returned (.int .i64 (-1))∧∃pos,w'=w.iter s pos:=by
 have HA:Aside (∀(j:Nat) b,s.data.toList[j]?=some b→b.toNat<128):=hs
 clear hs
 have t3:=L.t3;have a3:=L.a3;have z3:=L.z3;have v3:=L.v3
 have t4:=L.t4;have a4:=L.a4;have z4:=L.z4;have v4:=L.v4
 have t5:=L.t5;have a5:=L.a5;have z5:=L.z5;have v5:=L.v5
 have t9:=L.t9;have a9:=L.a9;have z9:=L.z9;have v9:=L.v9
 have t21:=L.t21;have a21:=L.a21;have z21:=L.z21;have v21:=L.v21
 go_enter L.f152,Body.n152_ntmps ρ
 go_wp2
 go_loopg [5,6] s.size (fun g _ _ wx=>∃i:Nat,i+g=s.size∧wx=w.iter s i)
 case atStart=>exact⟨0,by omega,rfl⟩
 case round=>
  obtain⟨i,hig,rfl⟩:=hrel
  cases gk with
  |zero=>
   obtain rfl:i=s.size:=by omega
   have Ol:=run_next_end (P:=P) w s s.size
   go_wp2
   go_ret
   exact⟨rfl,_,rfl⟩
  |succ g=>
   have hi:i<s.size:=by omega
   obtain⟨x,hx⟩:∃x:UInt8,s[i]'hi=x:=⟨_,rfl⟩
   have sO:s.data.toList[i]?=some x:=by rw[←hx];exact Lib.data_getElem? s i hi
   have MW:x.toNat<128:=HA.out i x sO
   have Ol:=fun ty=>run_next_ascii (P:=P) w s i ty hi (by rw[hx];exact MW)
   rw[hx]at Ol
   have fj:((x.toNat:Int)==(65533:Int))=false:=beq_eq_false_iff_ne.2 (by omega)
   go_wp2
   go_roundg g
   case measure=>omega
   case rel=>exact⟨i+1,by omega,rfl⟩
theorem Any.qi (L:Lays.n152 P ρ)(s:ByteArray)(r:Int)(w:World)(h0:128≤r)(hs:∀(j:Nat) b,s.data.toList[j]?=some b→b.toNat<128)(fD:s.size≤100):
 Calls P (ρ.f 152) #[.string s,.int .i32 r] w fun e w'=>e= .returned (.int .i64 (-1))∧Below w.heap.size w w':=by
 by_cases h1:r=65533
 ·subst h1
  refine(Any.rh L s w hs).mono ?_;rintro e w' ⟨rfl,pos,rfl⟩;exact⟨rfl,(Below.refl _ w).alloc (Nat.le_refl _) _⟩
 ·cases hv:Lib.validRune r with
  |true=>
   refine(Any.te L s r w h0 h1 hv hs fD).mono ?_;rintro e w' ⟨rfl,k,rfl⟩;exact⟨rfl,rfl,rfl,rfl,Nat.le_refl _,fun _ _=>rfl⟩
  |false=>
   refine(Any.ur L s r w h0 h1 hv).mono ?_;rintro e w' ⟨rfl,k,rfl⟩;exact⟨rfl,rfl,rfl,rfl,Nat.le_refl _,fun _ _=>rfl⟩
theorem zb {w:World}{k:Nat}{s:ByteArray}{p:Nat}{o:Obj}(h:w.heap[k]?=some o):(w.iterAt k s p).heap[k]?=some (.stringIter s p):=by
 have hk:=(Array.getElem?_eq_some_iff.1 h).1
 show(w.heap.setIfInBounds k _)[k]?=_
 simp[hk]
theorem iterAt_size {w:World}{k:Nat}{s:ByteArray}{p:Nat}:(w.iterAt k s p).heap.size=w.heap.size:=by
 show(w.heap.setIfInBounds k _).size=_
 simp
theorem xl {w wx:World}{k:Nat}{s:ByteArray}{p:Nat}(h:Below k w wx):Below k w (wx.iterAt k s p):=
 ⟨h.os,h.tape,h.output,by rw[iterAt_size];exact h.size,fun j hj=>by
  show(wx.heap.setIfInBounds k _)[j]?=_
  rw[Array.getElem?_setIfInBounds_ne (by omega)]
  exact h.block j hj⟩
theorem BL {s chars:List UInt8}{i n:Nat}(h:NoAny s chars i)(hc:∀(j:Nat) b,chars[j]?=some b→b.toNat<128)(hb:∀j,j<n→128≤J.bt s (i+j)):NoAny s chars (i+n):=by
 intro j b hj Yc
 by_cases k:j<i
 ·exact h j b k Yc
 ·have h1:=hb (j-i) (by omega)
  rw[show i+(j-i)=j by omega]at h1
  have h2:J.bt s j=b.toNat:=by unfold J.bt;rw[List.getD_eq_getElem?_getD,Yc];rfl
  rw[h2]at h1;rw[Bool.eq_false_iff];intro h3;obtain⟨q,hq⟩:=List.getElem?_of_mem (List.contains_iff_mem.1 h3)
  have:=hc q b hq
  omega
theorem Gw {B:Nat}{w w2 w3:World}(h:Below B w w2)(hB:B≤w2.heap.size)(k:Below w2.heap.size w2 w3):Below B w w3:=
 ⟨k.os.trans h.os,k.tape.trans h.tape,k.output.trans h.output,Nat.le_trans h.size k.size,fun j hj=>(k.block j (by omega)).trans (h.block j hj)⟩
end Go.Proofs
namespace Go.Proofs
open Go.Shelf Go.RowKit Go.Lib
variable {P:Program}{ρ:Ren}
set_option maxHeartbeats 16000000 in
set_option maxRecDepth 1000000 in
theorem Any.oh (L:Lays.n153 P ρ)(s chars:ByteArray)(w:World)(h2:2≤chars.size)(zc:chars.size≤100)(h8:s.size≤8)(Gx:∀(j:Nat) b,chars.data.toList[j]?=some b→b.toNat<128):
 Calls P (ρ.f 153) #[.string s,.string chars] w fun e w'=>e= .returned (.int .i64 (Lib.indexAny s.data.toList chars.data.toList))∧Below w.heap.size w w':=by
 have HA:Aside (∀(j:Nat) b,chars.data.toList[j]?=some b→b.toNat<128):=Gx
 clear Gx
 have acL:chars.toList.isEmpty=false:=by
  rw[Lib.toList_data]
  cases h:chars.data.toList with
  |nil=>have:=Lib.size_eq chars;rw[h,List.length_nil]at this;omega
  |cons _ _=>rfl
 have Yd:((chars.size:Int)==1)=false:=beq_eq_false_iff_ne.2 (by omega)
 have h8z:decide ((8:Int)<(s.size:Int))=false:=decide_eq_false (by omega)
 have t3:=L.t3;have a3:=L.a3;have z3:=L.z3;have v3:=L.v3
 have t4:=L.t4;have a4:=L.a4;have z4:=L.z4;have v4:=L.v4
 have t5:=L.t5;have a5:=L.a5;have z5:=L.z5;have v5:=L.v5
 have t9:=L.t9;have a9:=L.a9;have z9:=L.z9;have v9:=L.v9
 have t21:=L.t21;have a21:=L.a21;have z21:=L.z21;have v21:=L.v21
 have acM:∀args w,(callFunc (ρ.f 152) args).run P w= .ok (.enter (ρ.f 152) args) w:=enters_of L.f152 (by kernel_rfl) rfl
 have acN:∀args w,(callFunc (ρ.f 226) args).run P w= .ok (.enter (ρ.f 226) args) w:=enters_of L.f226 (by kernel_rfl) rfl
 go_enter L.f153,Body.n153_ntmps ρ
 go_wp2_with (go_at_fn (ρ.f 226);refine(Any.strings_shouldUseASCIISet {L with} _ _).mono ?_;rintro e w' ⟨rfl,hw⟩;rw[hw,h8z])
 go_loopg [9,10] s.size (fun g _ _ wx=>∃i:Nat,i+g=s.size∧wx.heap[w.heap.size]?=some (.stringIter s i)∧Below w.heap.size w wx∧Lib.NoAny s.data.toList chars.data.toList i)
 case atStart=>exact⟨0,by omega,World.iter_heap w s 0,(Below.refl _ w).alloc (Nat.le_refl _) _,Lib.NoAny.zero _ _⟩
 case round=>
  obtain⟨i,hig,hk,SQ,mL⟩:=hrel
  have HN:Aside (Lib.NoAny s.data.toList chars.data.toList i):=mL
  clear mL
  have HB:Aside (Below w.heap.size w wr):=SQ
  clear SQ
  cases gk with
  |zero=>
   obtain rfl:i=s.size:=by omega
   have Ol:=fun ty=>run_next_end_at (P:=P) wr w.heap.size s s.size ty hk (by omega)
   go_wp2
   go_ret
   exact⟨by rw[Lib.indexAny_none (by rw[←Lib.size_eq];exact HN.out)];rfl,HB.out⟩
  |succ g=>
   have hi:i<s.size:=by omega
   have FN:i<s.data.toList.length:=by rw[←Lib.size_eq];exact hi
   have Ol:=fun ty=>run_next_any_at (P:=P) wr w.heap.size s i ty hk hi
   obtain⟨b1,b2,b3⟩:=J.gq FN
   have yW:=decodeL_drop s i
   have fD:=Lib.size_eq s
   rw[yW]at b1 b2 b3
   obtain⟨r,wd,hd⟩:∃r wd,Utf8.decode s i=(r,wd):=⟨_,_,rfl⟩
   rw[hd]at Ol b1 b2 b3
   simp only at Ol b1 b2 b3
   obtain⟨w2,Om⟩:∃w2,wr.iterAt w.heap.size s (i+wd)=w2:=⟨_,rfl⟩
   have Eh:w2.heap[w.heap.size]?=some (.stringIter s (i+wd)):=Om▸zb hk
   have Ek:Below w.heap.size w w2:=Om▸xl HB.out
   rw[Om]at Ol
   clear Om yW hd
   have Ye:Aside (w2.heap[w.heap.size]?=some (.stringIter s (i+wd))):=Eh
   have W9:Aside (Below w.heap.size w w2):=Ek
   clear Eh Ek
   rcases b3 with⟨c1,c2⟩|⟨c1,c2⟩
   ·obtain⟨x,sO⟩:∃x,s.data.toList[i]?=some x:=⟨_,List.getElem?_eq_getElem FN⟩
    have hbx:J.bt s.data.toList i=x.toNat:=by unfold J.bt;rw[List.getD_eq_getElem?_getD,sO];rfl
    rw[hbx]at c1 c2;obtain⟨rfl,rfl⟩:=Prod.mk.inj c2
    have Hx:Aside (s.data.toList[i]?=some x):=sO
    clear sO hbx c2
    have EE:=Lib.contains_iff_indexByte chars.data.toList x
    have MX:((x.toNat:Int)).toNat.toUInt8=x:=by simp
    cases oH:chars.data.toList.contains x
    ·rw[oH]at EE
     have jA:¬((0:Int)≤Lib.indexByte chars.data.toList x):=of_decide_eq_false EE.symm
     clear EE
     go_wp2_with (go_at_fn (ρ.f 152);refine(Any.strings_IndexRune_ascii {L with} _ _ _ (by omega) (by omega)).mono ?_;rintro e w' ⟨rfl,rfl⟩;rw[MX];dsimp only)
     go_wp2
     go_roundg g
     case measure=>omega
     case rel=>exact⟨i+1,by omega,Ye.out,W9.out,HN.out.succ Hx.out oH⟩
    ·rw[oH]at EE
     have WA:(0:Int)≤Lib.indexByte chars.data.toList x:=of_decide_eq_true EE.symm
     clear EE
     go_wp2_with (go_at_fn (ρ.f 152);refine(Any.strings_IndexRune_ascii {L with} _ _ _ (by omega) (by omega)).mono ?_;rintro e w' ⟨rfl,rfl⟩;rw[MX];dsimp only)
     go_wp2
     go_ret
     exact⟨by rw[Lib.indexAny_hit HN.out Hx.out oH];rfl,W9.out⟩
   ·have HC:Aside (∀j,j<wd→128≤J.bt s.data.toList (i+j)):=c2
    clear c2
    go_wp2_with (go_at_fn (ρ.f 152);refine(Any.qi {L with} _ _ _ (by omega) HA.out zc).mono ?_;rintro e w3 ⟨rfl,Yf⟩;dsimp only)
    go_wp2
    go_roundg (s.size-(i+wd))
    case measure=>omega
    case rel=>exact⟨i+wd,by omega,by rw[Yf.block _ (Array.getElem?_eq_some_iff.1 Ye.out).1];exact Ye.out,Gw W9.out W9.out.size Yf,BL HN.out HA.out HC.out⟩
theorem Any.xo (L:Lays.n153 P ρ)(KO:(P.info? (ρ.t 116)).map (fun i=>(i.zero,i.size))=some (some (.agg (Array.replicate 256 (.bool false))),256))(s chars:ByteArray)(w:World)(h2:2≤chars.size)(zc:chars.size≤100)(hs:s.size<4294967281)
 (WB:∀(j:Nat) b,chars.data.toList[j]?=some b→b.toNat<128):
 Calls P (ρ.f 153) #[.string s,.string chars] w fun e w'=>e= .returned (.int .i64 (Lib.indexAny s.data.toList chars.data.toList))∧Below w.heap.size w w':=by
 by_cases h8:s.size≤8
 ·exact Any.oh L s chars w h2 zc h8 WB
 ·refine(Any.strings_IndexAny_long L (zero_of_info KO).1 (zero_of_info KO).2 s chars w (by omega) (by omega) hs (by omega) WB).mono ?_
  rintro e w' ⟨h3,h4⟩;refine⟨h3,?_⟩;rw[h4];exact((Below.refl _ _).alloc (Nat.le_refl _) _).alloc (by simp) _
set_option maxHeartbeats 4000000 in
theorem Any.ri (L:Lays.n150 P ρ)(KO:(P.info? (ρ.t 116)).map (fun i=>(i.zero,i.size))=some (some (.agg (Array.replicate 256 (.bool false))),256))(s chars:ByteArray)(w:World)(h2:2≤chars.size)(zc:chars.size≤100)(hs:s.size<4294967281)
 (WB:∀(j:Nat) b,chars.data.toList[j]?=some b→b.toNat<128):
 Calls P (ρ.f 150) #[.string s,.string chars] w fun e w'=>e= .returned (.bool (Lib.containsAny s.data.toList chars.data.toList))∧Below w.heap.size w w':=by
 have c:=Any.xo {L with} KO s chars w h2 zc hs WB
 have t3:=L.t3;have a3:=L.a3;have z3:=L.z3;have v3:=L.v3
 have t4:=L.t4;have a4:=L.a4;have z4:=L.z4;have v4:=L.v4
 have t9:=L.t9;have a9:=L.a9;have z9:=L.z9;have v9:=L.v9
 have acO:∀args w,(callFunc (ρ.f 153) args).run P w= .ok (.enter (ρ.f 153) args) w:=enters_of L.f153 (by kernel_rfl) rfl
 go_enter L.f150,Body.n150_ntmps ρ
 go_wp2_with (go_at_fn (ρ.f 153);refine c.mono ?_;rintro e w' ⟨rfl,hw⟩)
 go_ret
 exact⟨rfl,hw⟩
theorem qj (s:List UInt8):Lib.containsAny s J.rY=s.any J.dt:=by
 rw[Bool.eq_iff_iff];unfold Lib.containsAny;rw[decide_eq_true_iff,List.any_eq_true]
 constructor
 ·have Yg:∀l:List UInt8,0≤Lib.indexAny l J.rY→∃b,b∈l∧J.dt b=true:=by
   intro l
   induction l with
   |nil=>intro h;exact absurd h (by decide)
   |cons c l ih=>
    intro h;unfold Lib.indexAny at h
    have WA:=Lib.indexAny_ge J.rY l
    split at h
    ·rename_i KJ
     exact⟨c,List.mem_cons_self ..,by unfold J.dt;exact KJ⟩
    ·split at h
     ·omega
     ·rename_i he
      have fj:Lib.indexAny l J.rY≠ -1:=fun e=>he (by rw[e];rfl)
      obtain⟨b,hb,hc⟩:=ih (by omega);exact⟨b,List.mem_cons_of_mem _ hb,hc⟩
  exact Yg s
 ·rintro ⟨b,hb,hc⟩
  rcases Int.lt_or_le (Lib.indexAny s J.rY) 0 with h|h
  ·exfalso
   have key:∀l:List UInt8,Lib.indexAny l J.rY<0→∀b∈l,J.dt b=false:=by
    intro l
    induction l with
    |nil=>intro _ b hb;cases hb
    |cons c l ih=>
     intro h b hb;unfold Lib.indexAny at h
     have WA:=Lib.indexAny_ge J.rY l
     split at h
     ·omega
     ·rename_i KJ
      rcases List.mem_cons.1 hb with rfl|hb
      ·unfold J.dt;simpa using KJ
      ·refine ih ?_ b hb
       split at h
       ·rename_i he;rw[beq_iff_eq]at he;omega
       ·rename_i he;omega
   rw[key s h b hb]at hc;cases hc
  ·exact h
end Go.Proofs
namespace Go.Proofs
open Go.Shelf
def Tryz.zd:Go.Shelf.Ren:=⟨fun|195=>61|n=>n,fun|9=>9|3=>3|0=>0|4=>4|n=>n,fun|n=>n⟩
theorem Tryz.KP:Go.Proofs.Lays.n195 Tryz.prog Tryz.zd:={
 mixed:=by kernel_rfl
 f195:=Tryz.func61.trans (congrArg some (by kernel_rfl))
 t0:=R6
 a0:=Tryz.isAgg0
 z0:=Tryz.sizeOf0
 v0:=Tryz.zeroValue0
 t3:=bP
 a3:=Tryz.isAgg3
 z3:=Tryz.sizeOf3
 v3:=Tryz.zeroValue3
 t4:=uP
 a4:=Tryz.isAgg4
 z4:=Tryz.sizeOf4
 v4:=Tryz.zeroValue4
 t9:=eG
 a9:=Tryz.isAgg9
 z9:=Tryz.sizeOf9
 v9:=Tryz.zeroValue9}
def Tryz.nL:Go.Shelf.Ren:=⟨fun|196=>62|259=>90|n=>n,fun|9=>9|4=>4|3=>3|5=>5|12=>12|119=>167|0=>0|46=>171|139=>170|138=>169|53=>175|n=>n,fun|3=>1|4=>2|n=>n⟩
theorem Tryz.KQ:Go.Proofs.Lays.n196 Tryz.prog Tryz.nL:={
 mixed:=by kernel_rfl
 f196:=Tryz.func62.trans (congrArg some (by kernel_rfl))
 f259:=Tryz.func90.trans (congrArg some (by kernel_rfl))
 t0:=R6
 a0:=Tryz.isAgg0
 z0:=Tryz.sizeOf0
 v0:=Tryz.zeroValue0
 t3:=bP
 a3:=Tryz.isAgg3
 z3:=Tryz.sizeOf3
 v3:=Tryz.zeroValue3
 t4:=uP
 a4:=Tryz.isAgg4
 z4:=Tryz.sizeOf4
 v4:=Tryz.zeroValue4
 t5:=CS
 a5:=Tryz.isAgg5
 z5:=Tryz.sizeOf5
 v5:=Tryz.zeroValue5
 t9:=eG
 a9:=Tryz.isAgg9
 z9:=Tryz.sizeOf9
 v9:=Tryz.zeroValue9
 t12:=Tryz.underlying12
 a12:=Tryz.isAgg12
 z12:=Tryz.sizeOf12
 v12:=Tryz.zeroValue12
 t46:=ye
 a46:=Tryz.isAgg171
 z46:=Tryz.sizeOf171
 v46:=Tryz.zeroValue171
 t53:=mO
 a53:=Tryz.isAgg175
 z53:=Tryz.sizeOf175
 v53:=Tryz.zeroValue175
 t119:=Tryz.underlying167
 a119:=Tryz.isAgg167
 z119:=Tryz.sizeOf167
 t138:=Tryz.underlying169
 a138:=Tryz.isAgg169
 z138:=Tryz.sizeOf169
 v138:=Tryz.zeroValue169
 t139:=Tryz.underlying170
 a139:=Tryz.isAgg170
 z139:=Tryz.sizeOf170
 v139:=Tryz.zeroValue170
 g3:=by kernel_rfl
 g4:=by kernel_rfl}
def Tryz.rI:Go.Shelf.Ren:=⟨fun|150=>63|153=>91|152=>113|226=>114|227=>87|228=>110|137=>131|119=>132|224=>133|225=>134|217=>144|266=>148|n=>n,fun|9=>9|4=>4|3=>3|5=>5|21=>21|117=>160|116=>159|0=>0|46=>171|124=>163|n=>n,fun|n=>n⟩
theorem Tryz.KR:Go.Proofs.Lays.n150 Tryz.prog Tryz.rI:={
 mixed:=by kernel_rfl
 f119:=Tryz.func132.trans (congrArg some (by kernel_rfl))
 f137:=Tryz.func131.trans (congrArg some (by kernel_rfl))
 f150:=Tryz.func63.trans (congrArg some (by kernel_rfl))
 f152:=Tryz.func113.trans (congrArg some (by kernel_rfl))
 f153:=Tryz.func91.trans (congrArg some (by kernel_rfl))
 f217:=Tryz.func144.trans (congrArg some (by kernel_rfl))
 f224:=Tryz.func133.trans (congrArg some (by kernel_rfl))
 f225:=Tryz.func134.trans (congrArg some (by kernel_rfl))
 f226:=Tryz.func114.trans (congrArg some (by kernel_rfl))
 f227:=Tryz.func87.trans (congrArg some (by kernel_rfl))
 f228:=Tryz.func110.trans (congrArg some (by kernel_rfl))
 f266:=Tryz.func148.trans (congrArg some (by kernel_rfl))
 t0:=R6
 a0:=Tryz.isAgg0
 z0:=Tryz.sizeOf0
 v0:=Tryz.zeroValue0
 t3:=bP
 a3:=Tryz.isAgg3
 z3:=Tryz.sizeOf3
 v3:=Tryz.zeroValue3
 t4:=uP
 a4:=Tryz.isAgg4
 z4:=Tryz.sizeOf4
 v4:=Tryz.zeroValue4
 t5:=CS
 a5:=Tryz.isAgg5
 z5:=Tryz.sizeOf5
 v5:=Tryz.zeroValue5
 t9:=eG
 a9:=Tryz.isAgg9
 z9:=Tryz.sizeOf9
 v9:=Tryz.zeroValue9
 t21:=Tryz.underlying21
 a21:=Tryz.isAgg21
 z21:=Tryz.sizeOf21
 v21:=Tryz.zeroValue21
 t46:=ye
 a46:=Tryz.isAgg171
 z46:=Tryz.sizeOf171
 v46:=Tryz.zeroValue171
 t116:=Tryz.underlying159
 a116:=Tryz.isAgg159
 z116:=Tryz.sizeOf159
 t117:=Tryz.underlying160
 a117:=Tryz.isAgg160
 z117:=Tryz.sizeOf160
 v117:=Tryz.zeroValue160
 t124:=Tryz.underlying163
 a124:=Tryz.isAgg163
 z124:=Tryz.sizeOf163
 v124:=Tryz.zeroValue163}
end Go.Proofs
namespace Go.Proofs.YtolmidffiegkaaaGreatDoor
open Go Go.J
theorem Yh:aW Tryz.prog 61:=⟨_,Tryz.func61,rfl,by kernel_rfl⟩
theorem Yi:aW Tryz.prog 62:=⟨_,Tryz.func62,rfl,by kernel_rfl⟩
theorem Yj:aW Tryz.prog 63:=⟨_,Tryz.func63,rfl,by kernel_rfl⟩
def Oo (w:World):Prop:=Lib.Utf8Tabs (Tryz.nL.g 3) (Tryz.nL.g 4) w
abbrev u8:df:=df.of Oo
theorem Oq:(Tryz.prog.info? (Tryz.rI.t 116)).map (fun i=>(i.zero,i.size))=some (some (.agg (Array.replicate 256 (.bool false))),256):=by kernel_rfl
theorem Cn (s:cV):(⟨s.toArray⟩:ByteArray).size=s.length:=by simp[ByteArray.size]
theorem KS (s:cV)(hs:s.length<9223372036854775807):gj Tryz.prog 61 #[sv s] [u8] (iv (Lib.runeCountL s)):=
 gj.mj fun w _=>by
  refine(Any.utf8_RuneCountInString Tryz.KP ⟨s.toArray⟩ w (by rw[Cn];exact hs)).mono ?_;rintro e w' ⟨rfl,pos,rfl⟩;exact⟨rfl,(RowKit.Below.refl _ w).alloc (Nat.le_refl _) _⟩
theorem BM (s:cV)(hs:s.length<9223372036854775807):gj Tryz.prog 62 #[sv s] [u8] (.bool (Lib.validD s)):=
 gj.mj fun w hw=>Any.utf8_ValidString Tryz.KQ ⟨s.toArray⟩ w (by rw[Cn];omega) hw
theorem Gy (s:cV)(hs:s.length<4294967281):gj Tryz.prog 63 #[sv s,sv rY] [u8] (.bool (s.any dt)):=
 gj.mj fun w _=>by
  have:=Any.ri Tryz.KR Oq ⟨s.toArray⟩ ⟨rY.toArray⟩ w (by decide) (by decide) (by rw[Cn];exact hs) (fun j b h=>by
   have:∀b∈rY,b.toNat<128:=by decide
   exact this b (List.mem_of_getElem? h))
  rw[←qj];exact this
theorem Gz (s:cV):s.length≤4*Lib.runeCountL s:=by
 have key:∀(f p:Nat),s.length-p≤f→s.length-p≤4*Lib.runeCountFrom ⟨s.toArray⟩ f p:=by
  intro f
  induction f with
  |zero=>intro p h;omega
  |succ f ih=>
   intro p h
   by_cases hp:p<s.length
   ·have fD:p<(⟨s.toArray⟩:ByteArray).size:=by rw[Cn];exact hp
    obtain⟨d1,d2,_⟩:=gq hp
    have yW:=Lib.decodeL_drop ⟨s.toArray⟩ p
    simp only at yW
    have hw:(Lib.decodeL (s.drop p)).2≤4:=by
     rw[qL]
     rcases qM (n:=s.length-p) (kM s p) (kM s (p+1)) (kM s (p+2)) (kM s (p+3))with⟨_,e⟩|⟨_,_,_,_,e⟩|⟨_,r,_,e⟩|⟨_,r,_,e⟩|⟨_,r,_,e⟩<;>rw[e]<;>simp
    have:=ih (p+(Lib.decodeL (s.drop p)).2) (by omega)
    rw[Lib.runeCountFrom,if_pos fD,←yW];omega
   ·omega
 have:=key s.length 0 (by omega)
 have e:Lib.runeCountFrom ⟨s.toArray⟩ s.length 0=Lib.runeCountL s:=by unfold Lib.runeCountL Lib.runeCount;congr 1
 rw[e]at this;omega
theorem ze (s:cV):(((decide ((1:Int)≤(Lib.runeCountL s:Int))&&decide ((Lib.runeCountL s:Int)≤30))&&Lib.validD s)&& !(s.any dt))=isWord s:=by
 rw[lO]
 have h1:decide ((1:Int)≤(Lib.runeCountL s:Int))=decide (1≤Lib.runeCountL s):=decide_eq_decide.2 (by omega)
 have h2:decide ((Lib.runeCountL s:Int)≤30)=decide (Lib.runeCountL s≤30):=decide_eq_decide.2 (by omega)
 rw[h1,h2]
theorem vy (s:cV)(hs:s.length<9223372036854775807):gj Tryz.prog 26 #[sv s] [u8] (.bool (isWord s)):=by
 refine gj.body (args:=[sv s]) (ds:=[u8]) 21 Tryz.func26 rfl Tryz.ntmps26 rfl (fun c jB=> ?_)
 change St _ _ (Mm c [aF u8]) _
 refine St.sr ?_;refine St.ar ?_;refine St.nn (St.sr ?_);refine St.mv ?_;refine St.ee (Ev.jo jB (KS s hs) Yh (.cons (.mk rfl) .nil)) ?_;refine St.ar ?_;refine St.nn (St.sr ?_);refine St.mv ?_;refine St.ee Ev.ra ?_;refine St.mv ?_;refine St.gt _ rfl rfl (fun hg=>Ev.move (.mk rfl)) rfl ?_;refine St.gt _ rfl rfl (fun hg=>Ev.leq (aL.gv rfl hg) (.mk rfl)) rfl ?_;refine St.ee Ev.n0 ?_;refine St.mv ?_;refine St.gt _ rfl rfl (fun hg=>Ev.move (.mk rfl)) rfl ?_;refine St.gt _ rfl rfl (fun hg=>Ev.jo jB (BM s hs) Yi (.cons (aL.gv rfl hg) .nil)) rfl ?_;refine St.ee Ev.n0 ?_;refine St.mv ?_;refine St.gt _ rfl rfl (fun hg=>Ev.move (.mk rfl)) rfl ?_;refine St.gt _ rfl rfl (fun hg=>Ev.jo jB (Gy s (by have hq:=Gz s;first|omega|(simp only[Bool.and_eq_true,decide_eq_true_eq]at hg;omega)|(simp at hg;omega)|(trace_state;omega))) Yj (.cons (aL.gv rfl hg) (.cons (.mk rfl) .nil))) rfl ?_;refine St.gt _ rfl rfl (fun hg=>Ev.not (aL.gv rfl hg)) rfl ?_;refine St.ee Ev.n0 ?_;refine St.ar ?_;refine St.nn (St.ab ?_);refine St.rU [_] [] Tryz.results26 ?_;exact be (by first|exact ze s|(simp[ze]))
theorem Co (T:List dZ)(Fs:List mS)(x:cq):pC T Fs (jh x)=if isWord x.word=false then 10 else if x.weight<0∨1000000<x.weight then 3 else if(cU T Fs (dH x.graph)).1≠0 then(cU T Fs (dH x.graph)).1 else(gu (ax x.cg)).1:=rfl
theorem zf (T:List dZ)(Fs:List mS)(x:bV):kT T Fs (lq x)=if x.kids<1∨3<x.kids∨x.weight<0∨1000000<x.weight then 3 else if(cU T Fs (dH x.graph)).1≠0 then(cU T Fs (dH x.graph)).1 else if kR (dH x.graph) x.kids=false then 5 else(gu (ax x.cg)).1:=rfl
theorem pd {T:List dZ}{Fs:List mS}{G:gx}(h:(cU T Fs G).1=0):(da T.length Fs.length G).1=0:=by
 rcases Decidable.em ((da T.length Fs.length G).1=0)with h1|h1
 ·exact h1
 ·rw[qd h1]at h;exact h
theorem uu {T:List dZ}{Fs:List mS}(hFs:Fs.length≤40){g:eH}(h:(cU T Fs (dH g)).1=0):0<g.nodes.length∧∀n∈g.nodes,Asc n.aY∧n.aY.length≤1000000:=by
 have h1:=pd h
 obtain⟨h2,_,h3⟩:=nE h1;refine⟨by rw[ke]at h2;exact h2,fun n hn=>⟨vh h1 n hn,?_⟩⟩
 have h4:=(h3 (kN n) (List.mem_map_of_mem hn)).2
 have:=KE (vh h1 n hn) (nf:=Fs.length) (fun x hx=>by
  have:=h4 (gI x) (List.mem_map_of_mem hx)
  exact⟨this.1,this.2.1⟩)
 omega
set_option maxHeartbeats 2000000 in
theorem BN (tv xv w1 w2:cm)(ts:List ja)(fs:List eC)(x:cq)(hT:gz (ts.map bh))(hF:∀f∈fs,0≤f.mm∧f.mm<ts.length∧0≤f.value∧f.value<ts.length)(hw:cI.wf x):gj Tryz.prog 68 #[.agg #[tv.1,xv.1],tK w1 w2,FO x] [sl du tv.1 ts,sl bx xv.1 fs,sl eA w1.1 (k6 (ts.map bh)),sl eA w2.1 (k7 (ts.map bh)),dT x,u8] (iv (pC (ts.map bh) (fs.map dL) (jh x))):=by
 refine gj.body (args:=[.agg #[tv.1,xv.1],tK w1 w2,FO x]) (ds:=[sl du tv.1 ts,sl bx xv.1 fs,sl eA w1.1 (k6 (ts.map bh)),sl eA w2.1 (k7 (ts.map bh)),dT x,u8]) 34 Tryz.func68 rfl Tryz.ntmps68 rfl (fun c jB=> ?_);refine St.cast (H':=[aF (sl du tv.1 ts),aF (sl bx xv.1 fs),aF (sl eA w1.1 (k6 (ts.map bh))),aF (sl eA w2.1 (k7 (ts.map bh))),aF (dT x),aF (u8)]) rfl ?_;refine St.seq ?_
 refine St.fI (dT x) (fun _:Unit=>JN x) (fun ρ h=>⟨(),h⟩) fun _=> ?_
 refine St.cast (H':=[aF (bU x.graph),aF (bN x.cg),aF (sl du tv.1 ts),aF (sl bx xv.1 fs),aF (sl eA w1.1 (k6 (ts.map bh))),aF (sl eA w2.1 (k7 (ts.map bh))),aF (dT x),aF (u8)]) rfl ?_
 have jO:=Co (ts.map bh) (fs.map dL) x
 obtain⟨zY,Om,Ot⟩:=hw
 replace zY:x.word.length≤140737488351232:=zY
 refine St.rg ?_;refine St.cX (.mk rfl) rfl (fun b3=> ?_);refine St.cX (.mk rfl) rfl (fun b4=> ?_);refine St.cX (.mk rfl) rfl (fun b5=> ?_);refine St.ar ?_;refine St.nn (St.seq (St.sr ?_));refine St.ee (Ev.aD (.mk rfl) xX) ?_;refine St.ee (Ev.l0 (.mk rfl) eG) ?_;refine St.ee (Ev.jo jB (vy x.word (by omega)) Rz (.cons (.mk rfl) .nil)) ?_;refine St.ee (Ev.not (.mk rfl)) ?_;refine St.nn ?_;refine St.cond _ rfl (fun uS=> ?_) (fun uS=> ?_)
 ·skip
  rw[if_pos (by simpa using uS)]at jO;refine St.sr ?_;refine St.ar ?_;refine St.nn (St.ab (St.aB ?_));refine St.rU [_] [] Tryz.results68 ?_;exact ie jO.symm
 ·skip
  rw[if_neg (by simpa using uS)]at jO;refine St.skip (St.aA (St.seq (St.sr ?_)));refine St.ee (Ev.aD (.mk rfl) xY) ?_;refine St.ee (Ev.l0 (.mk rfl) bP) ?_;refine St.ee Ev.dz ?_;refine St.mv ?_;refine St.gf _ rfl rfl (fun hg=>Ev.aD (.mk rfl) xY) rfl ?_;refine St.gf _ rfl rfl (fun hg=>Ev.cS (aL.gv rfl hg) bP trivial (by rfl)) rfl ?_;refine St.gf _ rfl rfl (fun hg=>Ev.gtr (aL.gv rfl hg) (.mk rfl)) rfl ?_;refine St.ee Ev.o0 ?_;refine St.nn ?_;refine St.cond _ rfl (fun gP=> ?_) (fun gP=> ?_)
  ·try simp only[aC]at gP
   rw[if_pos (by omega)]at jO;refine St.sr ?_;refine St.ar ?_;refine St.nn (St.ab (St.aB ?_));refine St.rU [_] [] Tryz.results68 ?_;exact ie jO.symm
  ·try simp only[aC]at gP
   rw[if_neg (by omega)]at jO;refine St.skip (St.aA (St.seq (St.sr ?_)));refine St.ee (Ev.bH (.mk rfl) mz trivial (by exact lV)) ?_;refine St.ee (Ev.bH (.mk rfl) oA trivial (by exact iB)) ?_;refine St.ee (Ev.aD (.mk rfl) Gd) ?_;refine St.ee (Ev.gy 1 (.mk rfl) oW trivial n5 rfl rfl) ?_;refine St.slot 23 (dJ x.graph) rfl rfl ?_;refine St.ee (Ev.call (nF tv xv w1 w2 ts fs x.graph hT hF) OW (.cons (.mk rfl) (.cons (.mk rfl) (.cons (.mk rfl) .nil)))) ?_;refine St.alloc dC rfl (fun b7=> ?_);refine St.sA (.mk rfl) (.mk rfl) bC ?_;refine St.nn (St.sr ?_);refine St.ee (Ev.aD (.mk rfl) cb) ?_;refine St.ee (Ev.l0 (.mk rfl) bP) ?_;refine St.ee Ev.jj ?_;refine St.nn ?_;refine St.cond _ rfl (fun Ou=> ?_) (fun Ou=> ?_)
   ·skip
    have hb:(cU (ts.map bh) (fs.map dL) (dH x.graph)).1≠0:=by simpa using Ou
    rw[if_pos hb]at jO;refine St.sr ?_;refine St.ee (Ev.aD (.mk rfl) cb) ?_;refine St.ee (Ev.l0 (.mk rfl) bP) ?_;refine St.ar ?_;refine St.nn (St.ab (St.aB ?_));refine St.rU [_] [] Tryz.results68 ?_;exact ie jO.symm
   ·skip
    have hb:¬(cU (ts.map bh) (fs.map dL) (dH x.graph)).1≠0:=by simpa using Ou
    rw[if_neg hb]at jO;refine St.skip (St.aA (St.sr ?_));refine St.ee (Ev.aD (.mk rfl) Ge) ?_;refine St.ee (Ev.gy 6 (.mk rfl) fH trivial cy rfl rfl) ?_;refine St.slot 31 (bc x.cg) rfl rfl ?_;refine St.ee (Ev.call (pP x.cg Ot) S1 (.cons (.mk rfl) .nil)) ?_;refine St.ee (Ev.mf (.mk rfl) gF rfl (by first|rw[bP]|(dsimp only;rw[bP])|kernel_rfl) rfl) ?_;refine St.ar ?_;refine St.nn (St.ab ?_);refine St.rU [_] [] Tryz.results68 ?_;exact ie jO.symm
set_option maxHeartbeats 2000000 in
theorem EF (tv xv w1 w2:cm)(ts:List ja)(fs:List eC)(x:bV)(hT:gz (ts.map bh))(hF:∀f∈fs,0≤f.mm∧f.mm<ts.length∧0≤f.value∧f.value<ts.length)(E1:fs.length≤40)(hw:cA.wf x):cz Tryz.prog 67 #[.agg #[tv.1,xv.1],tK w1 w2,lQ x] [sl du tv.1 ts,sl bx xv.1 fs,sl eA w1.1 (k6 (ts.map bh)),sl eA w2.1 (k7 (ts.map bh)),cO x] (iv (kT (ts.map bh) (fs.map dL) (lq x))):=by
 unfold cz;refine fC.body (args:=[.agg #[tv.1,xv.1],tK w1 w2,lQ x]) 46 Tryz.func67 rfl Tryz.ntmps67 rfl (fun c=> ?_);refine St.cast (H':=[aF (sl du tv.1 ts),aF (sl bx xv.1 fs),aF (sl eA w1.1 (k6 (ts.map bh))),aF (sl eA w2.1 (k7 (ts.map bh))),aF (cO x)]) rfl ?_;refine St.seq ?_
 refine St.fI (cO x) (fun _:Unit=>CH x) (fun ρ h=>⟨(),h⟩) fun _=> ?_
 refine St.cast (H':=[aF (bU x.graph),aF (bN x.cg),aF (sl du tv.1 ts),aF (sl bx xv.1 fs),aF (sl eA w1.1 (k6 (ts.map bh))),aF (sl eA w2.1 (k7 (ts.map bh))),aF (cO x)]) rfl ?_
 have jO:=zf (ts.map bh) (fs.map dL) x
 obtain⟨zY,hwk,hwg,Ot⟩:=hw;refine St.rg ?_;refine St.cX (.mk rfl) rfl (fun b3=> ?_);refine St.cX (.mk rfl) rfl (fun b4=> ?_);refine St.cX (.mk rfl) rfl (fun b5=> ?_);refine St.ar ?_;refine St.nn (St.seq (St.sr ?_));refine St.ee (Ev.aD (.mk rfl) nG) ?_;refine St.ee (Ev.l0 (.mk rfl) bP) ?_;refine St.ee Ev.dz ?_;refine St.mv ?_;refine St.gf _ rfl rfl (fun hg=>Ev.aD (.mk rfl) nG) rfl ?_;refine St.gf _ rfl rfl (fun hg=>Ev.cS (aL.gv rfl hg) bP trivial (by rfl)) rfl ?_;refine St.gf _ rfl rfl (fun hg=>Ev.gtr (aL.gv rfl hg) (.mk rfl)) rfl ?_;refine St.ee Ev.o0 ?_;refine St.mv ?_;refine St.gf _ rfl rfl (fun hg=>Ev.aD (.mk rfl) xZ) rfl ?_;refine St.gf _ rfl rfl (fun hg=>Ev.cS (aL.gv rfl hg) bP trivial (by rfl)) rfl ?_;refine St.gf _ rfl rfl (fun hg=>Ev.lss (aL.gv rfl hg) (.mk rfl)) rfl ?_;refine St.ee Ev.o0 ?_;refine St.mv ?_;refine St.gf _ rfl rfl (fun hg=>Ev.aD (.mk rfl) xZ) rfl ?_;refine St.gf _ rfl rfl (fun hg=>Ev.cS (aL.gv rfl hg) bP trivial (by rfl)) rfl ?_;refine St.gf _ rfl rfl (fun hg=>Ev.gtr (aL.gv rfl hg) (.mk rfl)) rfl ?_;refine St.ee Ev.o0 ?_;refine St.nn ?_;refine St.cond _ rfl (fun oJ=> ?_) (fun oJ=> ?_)
 ·try simp only[aC]at oJ
  rw[if_pos (by omega)]at jO;refine St.sr ?_;refine St.ar ?_;refine St.nn (St.ab (St.aB ?_));refine St.rU [_] [] Tryz.results67 ?_;exact ie jO.symm
 ·try simp only[aC]at oJ
  rw[if_neg (by omega)]at jO;refine St.skip (St.aA (St.seq (St.sr ?_)));refine St.ee (Ev.bH (.mk rfl) mz trivial (by exact lV)) ?_;refine St.ee (Ev.bH (.mk rfl) oA trivial (by exact iB)) ?_;refine St.ee (Ev.aD (.mk rfl) xc) ?_;refine St.ee (Ev.gy 1 (.mk rfl) oW trivial n5 rfl rfl) ?_;refine St.slot 29 (dJ x.graph) rfl rfl ?_;refine St.ee (Ev.call (nF tv xv w1 w2 ts fs x.graph hT hF) OW (.cons (.mk rfl) (.cons (.mk rfl) (.cons (.mk rfl) .nil)))) ?_;refine St.alloc dC rfl (fun b7=> ?_);refine St.sA (.mk rfl) (.mk rfl) bC ?_;refine St.nn (St.sr ?_);refine St.ee (Ev.aD (.mk rfl) cb) ?_;refine St.ee (Ev.l0 (.mk rfl) bP) ?_;refine St.ee Ev.jj ?_;refine St.nn ?_;refine St.cond _ rfl (fun qA=> ?_) (fun qA=> ?_)
  ·skip
   have hb:(cU (ts.map bh) (fs.map dL) (dH x.graph)).1≠0:=by simpa using qA
   rw[if_pos hb]at jO;refine St.sr ?_;refine St.ee (Ev.aD (.mk rfl) cb) ?_;refine St.ee (Ev.l0 (.mk rfl) bP) ?_;refine St.ar ?_;refine St.nn (St.ab (St.aB ?_));refine St.rU [_] [] Tryz.results67 ?_;exact ie jO.symm
  ·skip
   have hb:¬(cU (ts.map bh) (fs.map dL) (dH x.graph)).1≠0:=by simpa using qA
   rw[if_neg hb]at jO;obtain⟨QR,Oe⟩:=uu (by rw[List.length_map];exact E1) (Decidable.not_not.1 hb);refine St.skip (St.aA (St.seq (St.sr ?_)));refine St.ee (Ev.aD (.mk rfl) xc) ?_;refine St.ee (Ev.gy 1 (.mk rfl) oW trivial n5 rfl rfl) ?_;refine St.slot 37 (dJ x.graph) rfl rfl ?_;refine St.ee (Ev.aD (.mk rfl) nG) ?_;refine St.ee (Ev.l0 (.mk rfl) bP) ?_;refine St.ee (Ev.call (zP x.graph x.kids QR Oe) Y3 (.cons (.mk rfl) (.cons (.mk rfl) .nil))) ?_;refine St.ee (Ev.not (.mk rfl)) ?_;refine St.nn ?_;refine St.cond _ rfl (fun o6=> ?_) (fun o6=> ?_)
   ·skip
    rw[if_pos (by simpa using o6)]at jO;refine St.sr ?_;refine St.ar ?_;refine St.nn (St.ab (St.aB ?_));refine St.rU [_] [] Tryz.results67 ?_;exact ie jO.symm
   ·skip
    rw[if_neg (by simpa using o6)]at jO;refine St.skip (St.aA (St.sr ?_));refine St.ee (Ev.aD (.mk rfl) Gf) ?_;refine St.ee (Ev.gy 6 (.mk rfl) fH trivial cy rfl rfl) ?_;refine St.slot 43 (bc x.cg) rfl rfl ?_;refine St.ee (Ev.call (pP x.cg Ot) S1 (.cons (.mk rfl) .nil)) ?_;refine St.ee (Ev.mf (.mk rfl) gF rfl (by first|rw[bP]|(dsimp only;rw[bP])|kernel_rfl) rfl) ?_;refine St.ar ?_;refine St.nn (St.ab ?_);refine St.rU [_] [] Tryz.results67 ?_;exact ie jO.symm
theorem rJ {T:List dZ}{Fs:List mS}{l:List pz}{k:Nat}{t:pz}(ht:l[k]?=some t)(known:List cV):ft T Fs known k (l.drop k)=if isName t.name=false then(10,(k:Int))else if t.name∈known then(7,(k:Int))else if kT T Fs t≠0 then(kT T Fs t,(k:Int))else ft T Fs (known++ [t.name]) (k+1) (l.drop (k+1)):=by rw[bf ht,ft]
theorem tf {T:List dZ}{Fs:List mS}{l:List pz}{k:Nat}(h:l.length≤k)(known:List cV):ft T Fs known k (l.drop k)=(0,0):=by rw[List.drop_of_length_le h,ft]
theorem rK {T:List dZ}{Fs:List mS}{l:List Iu}{k:Nat}{t:Iu}(ht:l[k]?=some t):fw T Fs k (l.drop k)=if pC T Fs t≠0 then(pC T Fs t,(k:Int))else fw T Fs (k+1) (l.drop (k+1)):=by rw[bf ht,fw]
theorem tg {T:List dZ}{Fs:List mS}{l:List Iu}{k:Nat}(h:l.length≤k):fw T Fs k (l.drop k)=(0,0):=by rw[List.drop_of_length_le h,fw]
theorem Cp (g:iG):oV (fG g)=if(fP (g.types.map bh) (g.bb.map dL)).1≠0 then fP (g.types.map bh) (g.bb.map dL)else if(g.bb.map dL).length≤3 then(9,-1)else if 40<(g.rules.map lq).length∨100<(g.bA.map jh).length then(2,-1)
 else if(ft (g.types.map bh) (g.bb.map dL) [] 0 (g.rules.map lq)).1≠0 then ft (g.types.map bh) (g.bb.map dL) [] 0 (g.rules.map lq)else if(fw (g.types.map bh) (g.bb.map dL) 0 (g.bA.map jh)).1≠0 then fw (g.types.map bh) (g.bb.map dL) 0 (g.bA.map jh)
 else if(cU (g.types.map bh) (g.bb.map dL) (dH g.start)).1≠0 then((cU (g.types.map bh) (g.bb.map dL) (dH g.start)).1,-1)else(0,0):=rfl
theorem gg {r x E:Int×Int}{c i:Int}(h:x=if r.1≠0 then r else E)(e:r=(c,i))(hc:c≠0):x=(c,i):=by rw[h,if_pos (by rw[e];exact hc),e]
theorem pe {r x E:Int×Int}(h:x=if r.1≠0 then r else E)(e:r=(0,0)):x=E:=by rw[h,if_neg (by rw[e];simp)]
set_option maxHeartbeats 4000000 in
theorem zg (g:iG):gj Tryz.prog 29 #[gm g] [dv g,tz,u8] (fv (oV (fG g))):=by
 refine gj.body (args:=[gm g]) (ds:=[dv g,tz,u8]) 112 Tryz.func29 rfl Tryz.ntmps29 rfl (fun c jB=> ?_);refine St.cast (H':=[aF (dv g),aF (tz),aF (u8)]) rfl ?_;refine St.seq ?_
 refine St.fI (dv g) (fun _:Unit=>yX g) (fun ρ h=>⟨(),h⟩) fun _=> ?_
 refine St.cast (H':=[aF (sl du g.tv.1 g.types),aF (aX ek g.types),aF (sl bx g.fv.1 g.bb),aF (sl cA g.rv.1 g.rules),aF (aX cO g.rules),aF (sl cI g.xv.1 g.bA),aF (aX dT g.bA),aF (bU g.start),aF (dv g),aF (tz),aF (u8)]) rfl ?_
 have lE:=Cp g
 have rf:(g.types.map bh).length=g.types.length:=List.length_map ..
 have E1:(g.bb.map dL).length=g.bb.length:=List.length_map ..
 have SR:(g.rules.map lq).length=g.rules.length:=List.length_map ..
 have Q6:(g.bA.map jh).length=g.bA.length:=List.length_map ..
 refine St.wf g.rv.1 (fun MY Q1=> ?_);refine St.wf g.xv.1 (fun lX sO=> ?_);refine St.rg ?_;refine St.cX (.mk rfl) rfl (fun b1=> ?_);refine St.alloc dC rfl (fun b2=> ?_);refine St.nn (St.sr ?_);refine St.ee (Ev.aD (.mk rfl) oX) ?_;refine St.ee (Ev.gy 2 (.mk rfl) mz trivial lV rfl rfl) ?_;refine St.slot 17 (.agg #[g.tv.1,g.fv.1]) rfl rfl ?_;refine St.alloc O0 rfl (fun b3=> ?_);refine St.sA (.mk rfl) (.mk rfl) lV ?_ (h1:=(by simp only[List.all_cons,List.all_nil,Bool.and_true,Bool.and_eq_true];exact⟨g.tv.2,g.fv.2⟩));refine St.nn (St.seq (St.sr ?_));refine St.ee (Ev.bH (.mk rfl) mz trivial (by exact lV)) ?_;refine St.ee (Ev.call (xR g.tv g.fv g.types g.bb) Y4 (.cons (.mk rfl) .nil)) ?_;refine St.alloc dC rfl (fun b4=> ?_);refine St.sA (.mk rfl) (.mk rfl) bC ?_;refine St.nn (St.sr ?_);refine St.ee (Ev.aD (.mk rfl) cb) ?_;refine St.ee (Ev.l0 (.mk rfl) bP) ?_;refine St.ee Ev.jj ?_;refine St.nn ?_;refine St.cond _ rfl (fun uf=> ?_) (fun uf=> ?_)
 ·skip
  have hb:(fP (g.types.map bh) (g.bb.map dL)).1≠0:=by simpa using uf
  rw[if_pos hb]at lE;refine St.sr ?_;refine St.ee (Ev.bH (.mk rfl) gF trivial (by exact bC)) ?_;refine St.sA (.mk rfl) (.mk rfl) bC ?_;refine St.nn (St.ab (St.aB ?_));refine St.rU [_] [] Tryz.results29 ?_;exact congrArg fv lE.symm
 ·skip
  have hb:¬(fP (g.types.map bh) (g.bb.map dL)).1≠0:=by simpa using uf
  rw[if_neg hb]at lE;obtain⟨_,hT,Yk,Yl⟩:=Ce (Decidable.not_not.1 hb)
  have hF:∀f∈g.bb,0≤f.mm∧f.mm<g.types.length∧0≤f.value∧f.value<g.types.length:=fun f hf=>by have:=Yl (dL f) (List.mem_map_of_mem hf);rw[rf]at this;exact this
  refine St.skip (St.aA (St.seq (St.sr ?_)));refine St.ee (Ev.aD (.mk rfl) jK) ?_;refine St.ee (Ev.l0 (.mk rfl) ib) ?_;refine St.ee (Ev.au (.mk rfl) ib) ?_;refine St.ee Ev.Iw ?_;refine St.nn ?_;refine St.cond _ rfl (fun Ou=> ?_) (fun Ou=> ?_)
  ·try simp only[aC]at Ou
   rw[if_pos (by omega)]at lE;refine St.sr ?_;refine St.ee (Ev.call (dc 9 (-1)) BC (.cons (.mk rfl) (.cons (.mk rfl) .nil))) ?_;refine St.sA (.mk rfl) (.mk rfl) bC ?_;refine St.nn (St.ab (St.aB ?_));refine St.rU [_] [] Tryz.results29 ?_;exact congrArg fv lE.symm
  ·try simp only[aC]at Ou
   rw[if_neg (by omega)]at lE;refine St.skip (St.aA (St.seq (St.sr ?_)));refine St.ee (Ev.aD (.mk rfl) jM) ?_;refine St.ee (Ev.l0 (.mk rfl) ic) ?_;refine St.ee (Ev.au (.mk rfl) ic) ?_;refine St.ee Ev.s5 ?_;refine St.mv ?_;refine St.gf _ rfl rfl (fun hg=>Ev.aD (.mk rfl) jL) rfl ?_;refine St.gf _ rfl rfl (fun hg=>Ev.cS (aL.gv rfl hg) ig trivial (by rfl)) rfl ?_;refine St.gf _ rfl rfl (fun hg=>Ev.au (aL.gv rfl hg) ig) rfl ?_;refine St.gf _ rfl rfl (fun hg=>Ev.gtr (aL.gv rfl hg) (.mk rfl)) rfl ?_;refine St.ee Ev.o0 ?_;refine St.nn ?_;refine St.cond _ rfl (fun s9=> ?_) (fun s9=> ?_)
   ·try simp only[aC]at s9
    rw[if_pos (by omega)]at lE;refine St.sr ?_;refine St.ee (Ev.call (dc 2 (-1)) BC (.cons (.mk rfl) (.cons (.mk rfl) .nil))) ?_;refine St.sA (.mk rfl) (.mk rfl) bC ?_;refine St.nn (St.ab (St.aB ?_));refine St.rU [_] [] Tryz.results29 ?_;exact congrArg fv lE.symm
   ·try simp only[aC]at s9
    rw[if_neg (by omega)]at lE;refine St.skip (St.aA (St.sr ?_));refine St.ee (Ev.aD (.mk rfl) fX) ?_;refine St.ee (Ev.l0 (.mk rfl) eT) ?_;refine St.ay (rD g.tv.1 g.types hT) RP (.cons (.mk rfl) .nil) rfl ?_;rintro v42 _ ⟨w1,w2,rfl,rfl⟩;refine St.ca ?_;refine St.alloc pM rfl (fun b5=> ?_);refine St.sA (.mk rfl) (.mk rfl) iB ?_ (h1:=(by simp only[List.all_cons,List.all_nil,Bool.and_true,Bool.and_eq_true];exact⟨w1.2,w2.2⟩));refine St.nn (St.sr ?_);refine St.makeMap mkStr rfl (fun SS=> ?_);refine St.ar ?_;refine St.nn (St.seq (St.sr ?_));refine St.ee (Ev.aD (.mk rfl) jM) ?_;refine St.ee (Ev.l0 (.mk rfl) ic) ?_;refine St.ee (Ev.au (.mk rfl) ic) ?_;refine St.mv ?_;refine St.nn (St.block ?_);refine St.my (ι:=Nat) (κ:=List (cV×Value)) (fun k m T=>(47,iv k)::T) (fun k m=>[ae SS (jq mkStr m),ae b1 (.cells [g.tv.1,g.fv.1,g.rv.1,g.xv.1,g.start.nv.1].toArray 32 (0,0)),ae b2 (.cells [iv 0,iv 0].toArray 42 (0,0)),ae b3 (.cells [g.tv.1,g.fv.1].toArray 25 (0,0)),ae b5 (.cells [w1.1,w2.1].toArray 129 (0,0)),aF (sl du g.tv.1 g.types),aF (aX ek g.types),aF (sl bx g.fv.1 g.bb),aF (sl cA g.rv.1 g.rules),aF (aX cO g.rules),aF (sl cI g.xv.1 g.bA),aF (aX dT g.bA),aF (bU g.start),aF (sl eA w1.1 (k6 (g.types.map bh))),aF (sl eA w2.1 (k7 (g.types.map bh))),aF (u8)]) (fun k m=>k≤g.rules.length∧ft (g.types.map bh) (g.bb.map dL) [] 0 (g.rules.map lq)=ft (g.types.map bh) (g.bb.map dL) ((g.rules.take k).map bV.name) k ((g.rules.map lq).drop k)∧Dx m ((g.rules.take k).map bV.name)) (fun k m=>g.rules.length-k) 0 [] (aE.cons 1 rfl (aE.cons 2 rfl (aE.cons 3 rfl (aE.cons 5 rfl (aE.cons 6 rfl (aE.cons 45 rfl (aE.cons 46 rfl aE.nil))))))) ⟨Nat.zero_le _,rfl,Dx.nil⟩ ?_;rintro k m ⟨hk,hv,z6⟩;refine St.sr ?_;refine St.ee Ev.dz ?_;refine St.nn (St.seq ?_);refine St.cond _ rfl (fun pc=> ?_) (fun pc=> ?_)
    ·try simp only[aC]at pc
     obtain⟨t,ht⟩:=aQ (show k<g.rules.length by omega)
     have lg:=List.mem_of_getElem? ht
     have cQ:=rJ (T:=(g.types.map bh)) (Fs:=(g.bb.map dL)) (l:=g.rules.map lq) (k:=k) (t:=lq t) (by rw[List.getElem?_map,ht];rfl) ((g.rules.take k).map bV.name)
     have yu:t.name.length≤9223372036854775807:=by have:=(MY t lg).1;simp only[hP]at this;omega
     refine St.cC cO g.rules (x:=t) lg ?_;refine St.skip (St.aA (St.seq (St.block (St.sr ?_))));refine St.mv ?_;refine St.ee (Ev.aR (k:=k) (.mk rfl) (.mk rfl) ic n7 (by omega) (by omega)) ?_;refine St.ee (Ev.fg (.mk rfl) ht Fl trivial n7 en.eq) ?_;refine St.alloc Fm rfl (fun b8=> ?_);refine St.ar ?_;refine St.sA (.mk rfl) (.mk rfl) n7 ?_ (h1:=(by simp only[List.all_cons,List.all_nil,Bool.and_true,Bool.and_eq_true];exact⟨rfl,t.graph.nv.2,rfl,rfl,rfl,rfl,rfl,rfl,t.cg.type.av.2,t.cg.av.2⟩));refine St.nn (St.seq (St.sr ?_));refine St.ee (Ev.aD (.mk rfl) nH) ?_;refine St.ee (Ev.l0 (.mk rfl) eG) ?_;refine St.ee (Ev.call (jl t.name yu) Dj (.cons (.mk rfl) .nil)) ?_;refine St.ee (Ev.not (.mk rfl)) ?_;refine St.nn ?_;refine St.cond _ rfl (fun zh=> ?_) (fun zh=> ?_)
     ·try simp only[aC]at zh
      rw[if_pos (show isName (lq t).name=false from(by simpa using zh:isName t.name=false))]at cQ;refine St.sr ?_;refine St.mv ?_;refine St.ee (Ev.call (dc 10 k) BC (.cons (.mk rfl) (.cons (.mk rfl) .nil))) ?_;refine St.sA (.mk rfl) (.mk rfl) bC ?_;refine St.nn (St.ab (St.aB (St.aN (St.aB (St.aB (St.aN (St.aB ?_)))))));refine St.rU [_] [] Tryz.results29 ?_;exact congrArg fv (gg lE (hv.trans cQ) (by decide)).symm
     ·try simp only[aC]at zh
      rw[if_neg (show ¬isName (lq t).name=false from(by simpa using zh:¬isName t.name=false))]at cQ;refine St.skip (St.aA (St.seq (St.sr ?_)));refine St.mv ?_;refine St.ee (Ev.aD (.mk rfl) nH) ?_;refine St.ee (Ev.l0 (.mk rfl) eG) ?_;refine St.ee (Ev.ry mkStr (k:=t.name) (.mk rfl) (.mk rfl) yb (by exact eG) eE) ?_;refine St.mv ?_;refine St.ee (Ev.extract (.mk rfl) rfl) ?_;refine St.ee (Ev.extract (.mk rfl) rfl) ?_;refine St.slot 64 (.bool (decide (t.name∈(g.rules.take k).map bV.name))) rfl (congrArg Value.bool (z6 t.name)) ?_;refine St.ar ?_;refine St.ar ?_;refine St.nn (St.sr ?_);refine St.mv ?_;refine St.nn ?_;refine St.cond _ rfl (fun H0=> ?_) (fun H0=> ?_)
      ·try simp only[aC]at H0
       rw[if_pos (show(lq t).name∈(g.rules.take k).map bV.name from H0)]at cQ;refine St.sr ?_;refine St.mv ?_;refine St.ee (Ev.call (dc 7 k) BC (.cons (.mk rfl) (.cons (.mk rfl) .nil))) ?_;refine St.sA (.mk rfl) (.mk rfl) bC ?_;refine St.nn (St.ab (St.aB (St.aN (St.aB (St.aB (St.aN (St.aB ?_)))))));refine St.rU [_] [] Tryz.results29 ?_;exact congrArg fv (gg lE (hv.trans cQ) (by decide)).symm
      ·try simp only[aC]at H0
       rw[if_neg (show ¬(lq t).name∈(g.rules.take k).map bV.name from H0)]at cQ;refine St.skip (St.aA (St.sr ?_));refine St.mv ?_;refine St.ee (Ev.aD (.mk rfl) nH) ?_;refine St.ee (Ev.l0 (.mk rfl) eG) ?_;refine St.mv ?_;refine St.mapUpdate mkStr (k:=t.name) (.mk rfl) (.mk rfl) (.mk rfl) yb (by exact eG) ?_;refine St.nn (St.sr ?_);refine St.ee (Ev.bH (.mk rfl) mz trivial (by exact lV)) ?_;refine St.ee (Ev.bH (.mk rfl) oA trivial (by exact iB)) ?_;refine St.ee (Ev.bH (.mk rfl) Fl trivial (by exact n7)) ?_;refine St.ee (Ev.call (EF g.tv g.fv w1 w2 g.types g.bb t hT hF (by omega) (MY t lg)) Y5 (.cons (.mk rfl) (.cons (.mk rfl) (.cons (.mk rfl) .nil)))) ?_;refine St.ar ?_;refine St.nn (St.sr ?_);refine St.mv ?_;refine St.ee Ev.jj ?_;refine St.nn ?_;refine St.cond _ rfl (fun B7=> ?_) (fun B7=> ?_)
       ·skip
        have uo:kT (g.types.map bh) (g.bb.map dL) (lq t)≠0:=by simpa using B7
        rw[if_pos uo]at cQ;refine St.sr ?_;refine St.mv ?_;refine St.mv ?_;refine St.ee (Ev.call (dc (kT (g.types.map bh) (g.bb.map dL) (lq t)) k) BC (.cons (.mk rfl) (.cons (.mk rfl) .nil))) ?_;refine St.sA (.mk rfl) (.mk rfl) bC ?_;refine St.nn (St.ab (St.aN (St.aB (St.aB (St.aN (St.aB ?_))))));refine St.rU [_] [] Tryz.results29 ?_;exact congrArg fv (gg lE (hv.trans cQ) uo).symm
       ·skip
        have uo:¬kT (g.types.map bh) (g.bb.map dL) (lq t)≠0:=by simpa using B7
        rw[if_neg uo]at cQ;refine St.skip (St.aO (St.aA (St.rg ?_)));refine St.ee Ev.a0 ?_;refine St.mv ?_;refine St.nn ?_;refine St.ji (k+1) (jZ m t.name (iv k)) ⟨by omega,by rw[hv,cQ,cF bV.name ht];rfl,by rw[cF bV.name ht];exact z6.snoc _ _⟩
    ·try simp only[aC]at pc
     rw[tf (by omega)]at hv
     replace lE:=pe lE hv
     refine St.exit (St.aI (St.aI (St.bM (St.aA (St.seq (St.sr ?_))))));refine St.ee (Ev.aD (.mk rfl) jL) ?_;refine St.ee (Ev.l0 (.mk rfl) ig) ?_;refine St.ee (Ev.au (.mk rfl) ig) ?_;refine St.mv ?_;refine St.nn (St.block ?_);refine St.lH (ι:=Nat) (fun q T=>(85,iv q)::T) (fun q=>[ae b1 (.cells [g.tv.1,g.fv.1,g.rv.1,g.xv.1,g.start.nv.1].toArray 32 (0,0)),ae b2 (.cells [iv 0,iv 0].toArray 42 (0,0)),ae b3 (.cells [g.tv.1,g.fv.1].toArray 25 (0,0)),ae b5 (.cells [w1.1,w2.1].toArray 129 (0,0)),aF (sl du g.tv.1 g.types),aF (aX ek g.types),aF (sl bx g.fv.1 g.bb),aF (sl cA g.rv.1 g.rules),aF (aX cO g.rules),aF (sl cI g.xv.1 g.bA),aF (aX dT g.bA),aF (bU g.start),aF (sl eA w1.1 (k6 (g.types.map bh))),aF (sl eA w2.1 (k7 (g.types.map bh))),aF (u8)]) (fun q=>q≤g.bA.length∧fw (g.types.map bh) (g.bb.map dL) 0 (g.bA.map jh)=fw (g.types.map bh) (g.bb.map dL) q ((g.bA.map jh).drop q)) (fun q=>g.bA.length-q) 0 (aE.cons 1 rfl (aE.cons 2 rfl (aE.cons 3 rfl (aE.cons 5 rfl (aE.cons 83 rfl (aE.cons 84 rfl aE.nil)))))) ⟨Nat.zero_le _,rfl⟩ ?_;rintro q ⟨hq,ng⟩;refine St.sr ?_;refine St.ee Ev.dz ?_;refine St.nn (St.seq ?_);refine St.cond _ rfl (fun KT=> ?_) (fun KT=> ?_)
     ·try simp only[aC]at KT
      obtain⟨x,hx⟩:=aQ (show q<g.bA.length by omega)
      have E2:=List.mem_of_getElem? hx
      have cQ:=rK (T:=(g.types.map bh)) (Fs:=(g.bb.map dL)) (l:=g.bA.map jh) (k:=q) (t:=jh x) (by rw[List.getElem?_map,hx];rfl)
      refine St.cC dT g.bA (x:=x) E2 ?_;refine St.skip (St.aA (St.seq (St.block (St.sr ?_))));refine St.mv ?_;refine St.ee (Ev.aR (k:=q) (.mk rfl) (.mk rfl) ig o4 (by omega) (by omega)) ?_;refine St.ee (Ev.fg (.mk rfl) hx Jr trivial o4 en.eq) ?_;refine St.alloc O1 rfl (fun MZ=> ?_);refine St.ar ?_;refine St.sA (.mk rfl) (.mk rfl) o4 ?_ (h1:=(by simp only[List.all_cons,List.all_nil,Bool.and_true,Bool.and_eq_true];exact⟨rfl,x.graph.nv.2,rfl,rfl,rfl,rfl,rfl,x.cg.type.av.2,x.cg.av.2⟩));refine St.nn (St.sr ?_);refine St.ee (Ev.bH (.mk rfl) mz trivial (by exact lV)) ?_;refine St.ee (Ev.bH (.mk rfl) oA trivial (by exact iB)) ?_;refine St.ee (Ev.bH (.mk rfl) Jr trivial (by exact o4)) ?_;refine St.ee (Ev.jo jB (BN g.tv g.fv w1 w2 g.types g.bb x hT hF (lX x E2)) Y6 (.cons (.mk rfl) (.cons (.mk rfl) (.cons (.mk rfl) .nil)))) ?_;refine St.ar ?_;refine St.nn (St.sr ?_);refine St.mv ?_;refine St.ee Ev.jj ?_;refine St.nn ?_;refine St.cond _ rfl (fun qW=> ?_) (fun qW=> ?_)
      ·skip
       have uo:pC (g.types.map bh) (g.bb.map dL) (jh x)≠0:=by simpa using qW
       rw[if_pos uo]at cQ;refine St.sr ?_;refine St.mv ?_;refine St.mv ?_;refine St.ee (Ev.call (dc (pC (g.types.map bh) (g.bb.map dL) (jh x)) q) BC (.cons (.mk rfl) (.cons (.mk rfl) .nil))) ?_;refine St.sA (.mk rfl) (.mk rfl) bC ?_;refine St.nn (St.ab (St.aN (St.aB (St.aB (St.aN (St.aB ?_))))));refine St.rU [_] [] Tryz.results29 ?_;exact congrArg fv (gg lE (ng.trans cQ) uo).symm
      ·skip
       have uo:¬pC (g.types.map bh) (g.bb.map dL) (jh x)≠0:=by simpa using qW
       rw[if_neg uo]at cQ;refine St.skip (St.aO (St.aA (St.rg ?_)));refine St.ee Ev.a0 ?_;refine St.mv ?_;refine St.nn ?_;refine St.aH (q+1) ⟨by omega,ng.trans cQ⟩
     ·try simp only[aC]at KT
      rw[tg (by omega)]at ng
      replace lE:=pe lE ng
      refine St.exit (St.aI (St.aI (St.bM (St.aA (St.seq (St.sr ?_))))));refine St.ee (Ev.bH (.mk rfl) mz trivial (by exact lV)) ?_;refine St.ee (Ev.bH (.mk rfl) oA trivial (by exact iB)) ?_;refine St.ee (Ev.aD (.mk rfl) Aq) ?_;refine St.ee (Ev.gy 1 (.mk rfl) oW trivial n5 rfl rfl) ?_;refine St.slot 103 (dJ g.start) rfl rfl ?_;refine St.ee (Ev.call (nF g.tv g.fv w1 w2 g.types g.bb g.start hT hF) OW (.cons (.mk rfl) (.cons (.mk rfl) (.cons (.mk rfl) .nil)))) ?_;refine St.alloc dC rfl (fun b15=> ?_);refine St.sA (.mk rfl) (.mk rfl) bC ?_;refine St.nn (St.sr ?_);refine St.ee (Ev.aD (.mk rfl) cb) ?_;refine St.ee (Ev.l0 (.mk rfl) bP) ?_;refine St.ee Ev.jj ?_;refine St.nn ?_;refine St.cond _ rfl (fun Ov=> ?_) (fun Ov=> ?_)
      ·skip
       have Ow:(cU (g.types.map bh) (g.bb.map dL) (dH g.start)).1≠0:=by simpa using Ov
       rw[if_pos Ow]at lE;refine St.sr ?_;refine St.ee (Ev.aD (.mk rfl) cb) ?_;refine St.ee (Ev.l0 (.mk rfl) bP) ?_;refine St.ee (Ev.call (dc (cU (g.types.map bh) (g.bb.map dL) (dH g.start)).1 (-1)) BC (.cons (.mk rfl) (.cons (.mk rfl) .nil))) ?_;refine St.sA (.mk rfl) (.mk rfl) bC ?_;refine St.nn (St.ab (St.aB ?_));refine St.rU [_] [] Tryz.results29 ?_;exact congrArg fv lE.symm
      ·skip
       have Ow:¬(cU (g.types.map bh) (g.bb.map dL) (dH g.start)).1≠0:=by simpa using Ov
       rw[if_neg Ow]at lE;refine St.skip (St.aA (St.sr ?_));refine St.ee (Ev.build (ps:=[]) (aV.nil) (fun w=>fB w)) ?_;refine St.sA (.mk rfl) (.mk rfl) bC ?_;refine St.nn (St.ab ?_);refine St.rU [_] [] Tryz.results29 ?_;exact congrArg fv lE.symm
theorem zi {l:List dP}{k:Nat}{v:dP}(ht:l[k]?=some v)(known:List cV):fy known k (l.drop k)=if v.kind<1∨4<v.kind then(4,(k:Int))else if isName v.name=false∨(v.kind=2∧isName v.label=false)∨(v.kind=3∧isWord v.label=false)then(10,(k:Int))
 else if v.name∈known then(7,(k:Int))else if(v.kind=1∨v.kind=4)∧v.label≠ []then(5,(k:Int))else fy (known++ [v.name]) (k+1) (l.drop (k+1)):=by rw[bf ht,fy]
theorem BO {l:List dP}{k:Nat}(h:l.length≤k)(known:List cV):fy known k (l.drop k)=(0,0):=by rw[List.drop_of_length_le h,fy]
theorem zj {n:Int}{m:Nat}{l:List eL}{k:Nat}{x:eL}(ht:l[k]?=some x):hY n (m+k) (l.drop k)=if x.kind<1∨5<x.kind then(4,((m+k:Nat):Int))else if x.a<0∨n≤x.a∨x.b<0∨n≤x.b then(3,((m+k:Nat):Int))else if x.a=x.b then(5,((m+k:Nat):Int))else hY n (m+(k+1)) (l.drop (k+1)):=by rw[bf ht,hY];rfl
theorem BP {n:Int}{l:List eL}{k m:Nat}(h:l.length≤k):hY n m (l.drop k)=(0,0):=by rw[List.drop_of_length_le h,hY]
theorem KU (vs:List dP)(ks:List eL):jw vs ks=if 4<vs.length∨8<ks.length then(2,-1)else if vs.length=0 then(9,-1)else if(fy [] 0 vs).1≠0 then fy [] 0 vs else hY vs.length vs.length ks:=rfl
set_option maxHeartbeats 4000000 in
theorem rL (q:eS):gj Tryz.prog 7 #[jx q] [dy q,u8] (fv (jw q.vars q.aY)):=by
 refine gj.body (args:=[jx q]) (ds:=[dy q,u8]) 165 Tryz.func7 rfl Tryz.ntmps7 rfl (fun c jB=> ?_);refine St.cast (H':=[aF (dy q),aF (u8)]) rfl ?_;refine St.seq ?_
 refine St.fI (dy q) (fun _:Unit=>qQ q) (fun ρ h=>⟨(),h⟩) fun _=> ?_
 refine St.cast (H':=[aF (sl jH q.vv.1 q.vars),aF (sl gM q.kv.1 q.aY),aF (dy q),aF (u8)]) rfl ?_
 have AM:=KU q.vars q.aY
 refine St.wf q.vv.1 (fun hvw zX=> ?_);refine St.wf q.kv.1 (fun KB qc=> ?_);refine St.rg ?_;refine St.cX (.mk rfl) rfl (fun b1=> ?_);refine St.alloc dC rfl (fun b2=> ?_);refine St.nn (St.seq (St.sr ?_));refine St.ee (Ev.aD (.mk rfl) im) ?_;refine St.ee (Ev.l0 (.mk rfl) iJ) ?_;refine St.ee (Ev.au (.mk rfl) iJ) ?_;refine St.ee Ev.s5 ?_;refine St.mv ?_;refine St.gf _ rfl rfl (fun hg=>Ev.aD (.mk rfl) kB) rfl ?_;refine St.gf _ rfl rfl (fun hg=>Ev.cS (aL.gv rfl hg) jI trivial (by rfl)) rfl ?_;refine St.gf _ rfl rfl (fun hg=>Ev.au (aL.gv rfl hg) jI) rfl ?_;refine St.gf _ rfl rfl (fun hg=>Ev.gtr (aL.gv rfl hg) (.mk rfl)) rfl ?_;refine St.ee Ev.o0 ?_;refine St.nn ?_;refine St.cond _ rfl (fun td=> ?_) (fun td=> ?_)
 ·try simp only[aC]at td
  rw[if_pos (by omega)]at AM;refine St.sr ?_;refine St.ee (Ev.call (cv 2 (-1)) uk (.cons (.mk rfl) (.cons (.mk rfl) .nil))) ?_;refine St.sA (.mk rfl) (.mk rfl) bC ?_;refine St.nn (St.ab (St.aB ?_));refine St.rU [_] [] Tryz.results7 ?_;exact congrArg fv AM.symm
 ·try simp only[aC]at td
  rw[if_neg (by omega)]at AM
  have hv4:q.vars.length≤4:=by omega
  have hk8:q.aY.length≤8:=by omega
  refine St.skip (St.aA (St.seq (St.sr ?_)));refine St.ee (Ev.aD (.mk rfl) im) ?_;refine St.ee (Ev.l0 (.mk rfl) iJ) ?_;refine St.ee (Ev.au (.mk rfl) iJ) ?_;refine St.ee Ev.fa ?_;refine St.nn ?_;refine St.cond _ rfl (fun oJ=> ?_) (fun oJ=> ?_)
  ·try simp only[aC]at oJ
   rw[if_pos (by omega)]at AM;refine St.sr ?_;refine St.ee (Ev.call (cv 9 (-1)) uk (.cons (.mk rfl) (.cons (.mk rfl) .nil))) ?_;refine St.sA (.mk rfl) (.mk rfl) bC ?_;refine St.nn (St.ab (St.aB ?_));refine St.rU [_] [] Tryz.results7 ?_;exact congrArg fv AM.symm
  ·try simp only[aC]at oJ
   rw[if_neg (by omega)]at AM;refine St.skip (St.aA (St.sr ?_));refine St.makeMap mkStr rfl (fun WC=> ?_);refine St.ar ?_;refine St.nn (St.seq (St.sr ?_));refine St.ee (Ev.aD (.mk rfl) im) ?_;refine St.ee (Ev.l0 (.mk rfl) iJ) ?_;refine St.ee (Ev.au (.mk rfl) iJ) ?_;refine St.mv ?_;refine St.nn (St.block ?_);refine St.my (ι:=Nat) (κ:=List (cV×Value)) (fun k m T=>(31,iv k)::T) (fun k m=>[ae WC (jq mkStr m),ae b1 (.cells [q.vv.1,q.kv.1].toArray 36 (0,0)),ae b2 (.cells [iv 0,iv 0].toArray 42 (0,0)),aF (sl jH q.vv.1 q.vars),aF (sl gM q.kv.1 q.aY),aF (u8)]) (fun k m=>k≤q.vars.length∧fy [] 0 q.vars=fy ((q.vars.take k).map dP.name) k (q.vars.drop k)∧Dx m ((q.vars.take k).map dP.name)) (fun k m=>q.vars.length-k) 0 [] (aE.cons 1 rfl (aE.cons 2 rfl (aE.cons 3 rfl (aE.cons 29 rfl (aE.cons 30 rfl aE.nil))))) ⟨Nat.zero_le _,rfl,Dx.nil⟩ ?_;rintro k m ⟨hk,hv,z6⟩;refine St.sr ?_;refine St.ee Ev.dz ?_;refine St.nn (St.seq ?_);refine St.cond _ rfl (fun sF=> ?_) (fun sF=> ?_)
   ·try simp only[aC]at sF
    obtain⟨va,ht⟩:=aQ (show k<q.vars.length by omega)
    have lg:=List.mem_of_getElem? ht
    have cQ:=zi ht ((q.vars.take k).map dP.name)
    obtain⟨Yd,hn2,hn3⟩:=hvw va lg
    replace Yd:va.name.length≤140737488351232:=Yd
    replace hn3:va.label.length≤140737488351232:=hn3
    refine St.skip (St.aA (St.seq (St.block (St.sr ?_))));refine St.mv ?_;refine St.ee (Ev.aR (k:=k) (.mk rfl) (.mk rfl) iJ tV (by omega) (by omega)) ?_;refine St.ee (Ev.fg (.mk rfl) ht Tryz.underlying71 trivial tV en.eq) ?_;refine St.alloc OX rfl (fun b5=> ?_);refine St.ar ?_;refine St.sA (.mk rfl) (.mk rfl) tV ?_ (h1:=(by simp only[List.all_cons,List.all_nil,Bool.and_true,Bool.and_eq_true];exact⟨rfl,rfl,rfl⟩));refine St.nn (St.sr ?_);refine St.mv ?_;refine St.ee (Ev.aD (.mk rfl) qe) ?_;refine St.ee (Ev.l0 (.mk rfl) eG) ?_;refine St.ee (Ev.ry mkStr (k:=va.name) (.mk rfl) (.mk rfl) yb (by exact eG) eE) ?_;refine St.mv ?_;refine St.ee (Ev.extract (.mk rfl) rfl) ?_;refine St.ee (Ev.extract (.mk rfl) rfl) ?_;refine St.slot 42 (.bool (decide (va.name∈(q.vars.take k).map dP.name))) rfl (congrArg Value.bool (z6 va.name)) ?_;refine St.ar ?_;refine St.ar ?_;refine St.nn (St.sr ?_);refine St.mv ?_;refine St.ee (Ev.aD (.mk rfl) qe) ?_;refine St.ee (Ev.l0 (.mk rfl) eG) ?_;refine St.mv ?_;refine St.mapUpdate mkStr (k:=va.name) (.mk rfl) (.mk rfl) (.mk rfl) yb (by exact eG) ?_;refine St.nn (St.block (St.sr ?_));refine St.ee (Ev.aD (.mk rfl) nI) ?_;refine St.ee (Ev.l0 (.mk rfl) bP) ?_;refine St.ee Ev.dz ?_;refine St.mv ?_;refine St.gf _ rfl rfl (fun hg=>Ev.aD (.mk rfl) nI) rfl ?_;refine St.gf _ rfl rfl (fun hg=>Ev.cS (aL.gv rfl hg) bP trivial (by rfl)) rfl ?_;refine St.gf _ rfl rfl (fun hg=>Ev.gtr (aL.gv rfl hg) (.mk rfl)) rfl ?_;refine St.ee Ev.o0 ?_;refine St.ar ?_;refine St.nn ?_;refine St.cond _ rfl (fun Ma=> ?_) (fun Ma=> ?_)
    ·try simp only[aC]at Ma
     rw[if_pos (by omega)]at cQ;refine St.sr ?_;refine St.mv ?_;refine St.ee (Ev.call (cv 4 k) uk (.cons (.mk rfl) (.cons (.mk rfl) .nil))) ?_;refine St.sA (.mk rfl) (.mk rfl) bC ?_;refine St.nn (St.ab (St.aN (St.aN (St.aB (St.aB (St.aN (St.aB ?_)))))));refine St.rU [_] [] Tryz.results7 ?_;exact congrArg fv (gg AM (hv.trans cQ) (by decide)).symm
    ·try simp only[aC]at Ma
     rw[if_neg (by omega)]at cQ;refine St.join (ι:=Bool) (fun bq T=>(58,.bool bq)::T) (fun bq=>[ae b5 (.cells [sv va.name,iv va.kind,sv va.label].toArray 71 (0,0)),ae WC (jq mkStr (jZ m va.name (iv k))),ae b1 (.cells [q.vv.1,q.kv.1].toArray 36 (0,0)),ae b2 (.cells [iv 0,iv 0].toArray 42 (0,0)),aF (sl jH q.vv.1 q.vars),aF (sl gM q.kv.1 q.aY),aF (u8)]) (fun bq=>(bq=true↔(isName va.name=false∨(va.kind=2∧isName va.label=false)∨(va.kind=3∧isWord va.label=false)))) (aE.cons 1 rfl (aE.cons 2 rfl (aE.cons 3 rfl (aE.cons 4 rfl (aE.cons 5 rfl (aE.cons 7 rfl (aE.cons 29 rfl (aE.cons 30 rfl (aE.cons 31 rfl aE.nil))))))))) ?_ ?_
     ·refine St.sr ?_
      refine St.ee (Ev.aD (.mk rfl) qe) ?_;refine St.ee (Ev.l0 (.mk rfl) eG) ?_;refine St.ee (Ev.call (jl va.name (by omega)) Dj (.cons (.mk rfl) .nil)) ?_;refine St.ee (Ev.not (.mk rfl)) ?_;refine St.ar ?_;refine St.nn ?_;refine St.cond _ rfl (fun AN=> ?_) (fun AN=> ?_)
      ·skip
       refine St.skip (St.aA ?_);refine St.mE true (by first|(simp only[Bool.and_eq_true,decide_eq_true_eq,Bool.not_eq_true']at BQ;exact⟨fun _=>Or.inr (Or.inl BQ),fun _=>rfl⟩)|(simp only[Bool.not_eq_true']at AN;exact⟨fun _=>Or.inl AN,fun _=>rfl⟩))
      ·skip
       refine St.sr ?_;refine St.ee (Ev.aD (.mk rfl) nI) ?_;refine St.ee (Ev.l0 (.mk rfl) bP) ?_;refine St.ee Ev.fa ?_;refine St.mv ?_;refine St.gt _ rfl rfl (fun hg=>Ev.aD (.mk rfl) qf) rfl ?_;refine St.gt _ rfl rfl (fun hg=>Ev.cS (aL.gv rfl hg) eG trivial (by rfl)) rfl ?_;refine St.gt _ rfl rfl (fun hg=>Ev.call (jl va.label (by omega)) Dj (.cons (aL.gv rfl hg) .nil)) rfl ?_;refine St.gt _ rfl rfl (fun hg=>Ev.not (aL.gv rfl hg)) rfl ?_;refine St.ee Ev.n0 ?_;refine St.ar ?_;refine St.nn ?_;refine St.cond _ rfl (fun BQ=> ?_) (fun BQ=> ?_)
       ·skip
        refine St.skip (St.aA ?_);refine St.mE true (by first|(simp only[Bool.and_eq_true,decide_eq_true_eq,Bool.not_eq_true']at BQ;exact⟨fun _=>Or.inr (Or.inl BQ),fun _=>rfl⟩)|(simp only[Bool.not_eq_true']at AN;exact⟨fun _=>Or.inl AN,fun _=>rfl⟩))
       ·skip
        refine St.rg ?_;refine St.ee (Ev.aD (.mk rfl) nI) ?_;refine St.ee (Ev.l0 (.mk rfl) bP) ?_;refine St.ee Ev.fa ?_;refine St.mv ?_;refine St.gt _ rfl rfl (fun hg=>Ev.aD (.mk rfl) qf) rfl ?_;refine St.gt _ rfl rfl (fun hg=>Ev.cS (aL.gv rfl hg) eG trivial (by rfl)) rfl ?_;refine St.gt _ rfl rfl (fun hg=>Ev.jo jB (vy va.label (by omega)) Rz (.cons (aL.gv rfl hg) .nil)) rfl ?_;refine St.gt _ rfl rfl (fun hg=>Ev.not (aL.gv rfl hg)) rfl ?_;refine St.ee Ev.n0 ?_;refine St.ar ?_;refine St.nn ?_;refine St.mE (decide (va.kind=3)&& !isWord va.label) (by simp only[Bool.not_eq_false',Bool.and_eq_false_iff,decide_eq_false_iff_not]at AN BQ;simp only[Bool.and_eq_true,decide_eq_true_eq,Bool.not_eq_true'];exact⟨fun h=>Or.inr (Or.inr h),fun h=>by rcases h with h|⟨h,h2⟩|h;(rw[AN]at h;cases h);(rcases BQ with h3|h3;exact absurd h h3;rw[h3]at h2;cases h2);exact h⟩)
     ·intro bq hbq
      refine St.cond _ rfl (fun AN=> ?_) (fun AN=> ?_)
      ·skip
       refine St.seq ?_;rw[if_pos (hbq.1 AN)]at cQ;refine St.rg ?_;refine St.mv ?_;refine St.ee (Ev.call (cv 10 k) uk (.cons (.mk rfl) (.cons (.mk rfl) .nil))) ?_;refine St.sA (.mk rfl) (.mk rfl) bC ?_;refine St.nn (St.ab (St.aN (St.aN (St.aB (St.aB (St.aN (St.aB ?_)))))));refine St.rU [_] [] Tryz.results7 ?_;exact congrArg fv (gg AM (hv.trans cQ) (by decide)).symm
      ·skip
       refine St.seq ?_;rw[if_neg (fun hp=>by rw[hbq.2 hp]at AN;cases AN)]at cQ;refine St.rg ?_;refine St.mv ?_;refine St.ar ?_;refine St.nn ?_;refine St.cond _ rfl (fun SU=> ?_) (fun SU=> ?_)
       ·try simp only[aC]at SU
        rw[if_pos SU]at cQ;refine St.sr ?_;refine St.mv ?_;refine St.ee (Ev.call (cv 7 k) uk (.cons (.mk rfl) (.cons (.mk rfl) .nil))) ?_;refine St.sA (.mk rfl) (.mk rfl) bC ?_;refine St.nn (St.ab (St.aN (St.aN (St.aB (St.aB (St.aN (St.aB ?_)))))));refine St.rU [_] [] Tryz.results7 ?_;exact congrArg fv (gg AM (hv.trans cQ) (by decide)).symm
       ·try simp only[aC]at SU
        rw[if_neg SU]at cQ;refine St.sr ?_;refine St.ee (Ev.aD (.mk rfl) nI) ?_;refine St.ee (Ev.l0 (.mk rfl) bP) ?_;refine St.ee Ev.fa ?_;refine St.mv ?_;refine St.gf _ rfl rfl (fun hg=>Ev.aD (.mk rfl) nI) rfl ?_;refine St.gf _ rfl rfl (fun hg=>Ev.cS (aL.gv rfl hg) bP trivial (by rfl)) rfl ?_;refine St.gf _ rfl rfl (fun hg=>Ev.eql (aL.gv rfl hg) (.mk rfl)) rfl ?_;refine St.ee Ev.o0 ?_;refine St.mv ?_;refine St.gt _ rfl rfl (fun hg=>Ev.aD (.mk rfl) qf) rfl ?_;refine St.gt _ rfl rfl (fun hg=>Ev.cS (aL.gv rfl hg) eG trivial (by rfl)) rfl ?_;refine St.gt _ rfl rfl (fun hg=>Ev.oz (aL.gv rfl hg) (.mk rfl)) rfl ?_;refine St.ee Ev.n0 ?_;refine St.ar ?_;refine St.nn ?_;refine St.cond _ rfl (fun xS=> ?_) (fun xS=> ?_)
        ·skip
         rw[if_pos (by simpa using xS)]at cQ;refine St.sr ?_;refine St.mv ?_;refine St.ee (Ev.call (cv 5 k) uk (.cons (.mk rfl) (.cons (.mk rfl) .nil))) ?_;refine St.sA (.mk rfl) (.mk rfl) bC ?_;refine St.nn (St.ab (St.aN (St.aN (St.aB (St.aB (St.aN (St.aB ?_)))))));refine St.rU [_] [] Tryz.results7 ?_;exact congrArg fv (gg AM (hv.trans cQ) (by decide)).symm
        ·skip
         rw[if_neg (by simpa using xS)]at cQ;refine St.skip (St.aO (St.aO (St.aA (St.rg ?_))));refine St.ee Ev.a0 ?_;refine St.mv ?_;refine St.nn ?_;refine St.ji (k+1) (jZ m va.name (iv k)) ⟨by omega,by rw[hv,cQ,cF dP.name ht],by rw[cF dP.name ht];exact z6.snoc _ _⟩
   ·try simp only[aC]at sF
    rw[BO (by omega)]at hv
    replace AM:=pe AM hv
    refine St.exit (St.aI (St.aI (St.bM (St.aA (St.seq (St.sr ?_))))));refine St.ee (Ev.aD (.mk rfl) kB) ?_;refine St.ee (Ev.l0 (.mk rfl) jI) ?_;refine St.ee (Ev.au (.mk rfl) jI) ?_;refine St.mv ?_;refine St.nn (St.block ?_);refine St.lH (ι:=Nat) (fun p T=>(107,iv p)::T) (fun p=>[ae b1 (.cells [q.vv.1,q.kv.1].toArray 36 (0,0)),ae b2 (.cells [iv 0,iv 0].toArray 42 (0,0)),aF (sl jH q.vv.1 q.vars),aF (sl gM q.kv.1 q.aY),aF (u8)]) (fun p=>p≤q.aY.length∧hY q.vars.length q.vars.length q.aY=hY q.vars.length (q.vars.length+p) (q.aY.drop p)) (fun p=>q.aY.length-p) 0 (aE.cons 1 rfl (aE.cons 2 rfl (aE.cons 105 rfl (aE.cons 106 rfl aE.nil)))) ⟨Nat.zero_le _,rfl⟩ ?_;rintro p ⟨hp,ng⟩;refine St.sr ?_;refine St.ee Ev.dz ?_;refine St.nn (St.seq ?_);refine St.cond _ rfl (fun Ox=> ?_) (fun Ox=> ?_)
    ·try simp only[aC]at Ox
     obtain⟨x,hx⟩:=aQ (show p<q.aY.length by omega)
     have cQ:=zj (n:=q.vars.length) (m:=q.vars.length) hx
     refine St.skip (St.aA (St.seq (St.block (St.sr ?_))));refine St.mv ?_;refine St.ee (Ev.aR (k:=p) (.mk rfl) (.mk rfl) jI mA (by omega) (by omega)) ?_;refine St.ee (Ev.fg (.mk rfl) hx Fk trivial mA en.eq) ?_;refine St.alloc KF rfl (fun b9=> ?_);refine St.ar ?_;refine St.sA (.mk rfl) (.mk rfl) mA ?_ (h1:=(by simp only[List.all_cons,List.all_nil,Bool.and_true,Bool.and_eq_true];exact⟨rfl,rfl,rfl⟩));refine St.nn (St.sr ?_);refine St.ee (Ev.aD (.mk rfl) im) ?_;refine St.ee (Ev.l0 (.mk rfl) iJ) ?_;refine St.ee (Ev.au (.mk rfl) iJ) ?_;refine St.mv ?_;refine St.ee Ev.a0 ?_;refine St.slot 116 (iv ((q.vars.length+p:Nat):Int)) rfl rfl ?_;refine St.ar ?_;refine St.nn (St.block (St.sr ?_));refine St.ee (Ev.aD (.mk rfl) tW) ?_;refine St.ee (Ev.l0 (.mk rfl) bP) ?_;refine St.ee Ev.dz ?_;refine St.mv ?_;refine St.gf _ rfl rfl (fun hg=>Ev.aD (.mk rfl) tW) rfl ?_;refine St.gf _ rfl rfl (fun hg=>Ev.cS (aL.gv rfl hg) bP trivial (by rfl)) rfl ?_;refine St.gf _ rfl rfl (fun hg=>Ev.gtr (aL.gv rfl hg) (.mk rfl)) rfl ?_;refine St.ee Ev.o0 ?_;refine St.ar ?_;refine St.nn ?_;refine St.cond _ rfl (fun B8=> ?_) (fun B8=> ?_)
     ·try simp only[aC]at B8
      rw[if_pos (by omega)]at cQ;refine St.sr ?_;refine St.mv ?_;refine St.ee (Ev.call (cv 4 ((q.vars.length+p:Nat):Int)) uk (.cons (.mk rfl) (.cons (.mk rfl) .nil))) ?_;refine St.sA (.mk rfl) (.mk rfl) bC ?_;refine St.nn (St.ab (St.aN (St.aN (St.aB (St.aB (St.aN (St.aB ?_)))))));refine St.rU [_] [] Tryz.results7 ?_;exact congrArg fv (AM.trans (ng.trans cQ)).symm
     ·try simp only[aC]at B8
      rw[if_neg (by omega)]at cQ;refine St.sr ?_;refine St.ee (Ev.aD (.mk rfl) mB) ?_;refine St.ee (Ev.l0 (.mk rfl) bP) ?_;refine St.ee Ev.dz ?_;refine St.mv ?_;refine St.gf _ rfl rfl (fun hg=>Ev.aD (.mk rfl) mB) rfl ?_;refine St.gf _ rfl rfl (fun hg=>Ev.cS (aL.gv rfl hg) bP trivial (by rfl)) rfl ?_;refine St.gf _ rfl rfl (fun hg=>Ev.aD (.mk rfl) im) rfl ?_;refine St.gf _ rfl rfl (fun hg=>Ev.cS (aL.gv rfl hg) iJ trivial (by rfl)) rfl ?_;refine St.gf _ rfl rfl (fun hg=>Ev.au (aL.gv rfl hg) iJ) rfl ?_;refine St.gf _ rfl rfl (fun hg=>Ev.geq (aL.gv rfl hg) (aL.gv rfl hg)) rfl ?_;refine St.ee Ev.o0 ?_;refine St.mv ?_;refine St.gf _ rfl rfl (fun hg=>Ev.aD (.mk rfl) mC) rfl ?_;refine St.gf _ rfl rfl (fun hg=>Ev.cS (aL.gv rfl hg) bP trivial (by rfl)) rfl ?_;refine St.gf _ rfl rfl (fun hg=>Ev.lss (aL.gv rfl hg) (.mk rfl)) rfl ?_;refine St.ee Ev.o0 ?_;refine St.mv ?_;refine St.gf _ rfl rfl (fun hg=>Ev.aD (.mk rfl) mC) rfl ?_;refine St.gf _ rfl rfl (fun hg=>Ev.cS (aL.gv rfl hg) bP trivial (by rfl)) rfl ?_;refine St.gf _ rfl rfl (fun hg=>Ev.aD (.mk rfl) im) rfl ?_;refine St.gf _ rfl rfl (fun hg=>Ev.cS (aL.gv rfl hg) iJ trivial (by rfl)) rfl ?_;refine St.gf _ rfl rfl (fun hg=>Ev.au (aL.gv rfl hg) iJ) rfl ?_;refine St.gf _ rfl rfl (fun hg=>Ev.geq (aL.gv rfl hg) (aL.gv rfl hg)) rfl ?_;refine St.ee Ev.o0 ?_;refine St.ar ?_;refine St.nn ?_;refine St.cond _ rfl (fun Oy=> ?_) (fun Oy=> ?_)
      ·try simp only[aC]at Oy
       rw[if_pos (by omega)]at cQ;refine St.sr ?_;refine St.mv ?_;refine St.ee (Ev.call (cv 3 ((q.vars.length+p:Nat):Int)) uk (.cons (.mk rfl) (.cons (.mk rfl) .nil))) ?_;refine St.sA (.mk rfl) (.mk rfl) bC ?_;refine St.nn (St.ab (St.aN (St.aN (St.aB (St.aB (St.aN (St.aB ?_)))))));refine St.rU [_] [] Tryz.results7 ?_;exact congrArg fv (AM.trans (ng.trans cQ)).symm
      ·try simp only[aC]at Oy
       rw[if_neg (by omega)]at cQ;refine St.sr ?_;refine St.ee (Ev.aD (.mk rfl) mB) ?_;refine St.ee (Ev.l0 (.mk rfl) bP) ?_;refine St.ee (Ev.aD (.mk rfl) mC) ?_;refine St.ee (Ev.l0 (.mk rfl) bP) ?_;refine St.ee Ev.fa ?_;refine St.ar ?_;refine St.nn ?_;refine St.cond _ rfl (fun Oz=> ?_) (fun Oz=> ?_)
       ·try simp only[aC]at Oz
        rw[if_pos (by omega)]at cQ;refine St.sr ?_;refine St.mv ?_;refine St.ee (Ev.call (cv 5 ((q.vars.length+p:Nat):Int)) uk (.cons (.mk rfl) (.cons (.mk rfl) .nil))) ?_;refine St.sA (.mk rfl) (.mk rfl) bC ?_;refine St.nn (St.ab (St.aN (St.aN (St.aB (St.aB (St.aN (St.aB ?_)))))));refine St.rU [_] [] Tryz.results7 ?_;exact congrArg fv (AM.trans (ng.trans cQ)).symm
       ·try simp only[aC]at Oz
        rw[if_neg (by omega)]at cQ;refine St.skip (St.aO (St.aO (St.aA (St.rg ?_))));refine St.ee Ev.a0 ?_;refine St.mv ?_;refine St.nn ?_;refine St.aH (p+1) ⟨by omega,ng.trans cQ⟩
    ·try simp only[aC]at Ox
     rw[BP (by omega)]at ng
     have Ym:=AM.trans ng
     refine St.exit (St.aI (St.aI (St.bM (St.aA (St.sr ?_)))));refine St.ee (Ev.build (ps:=[]) (aV.nil) (fun w=>fB w)) ?_;refine St.sA (.mk rfl) (.mk rfl) bC ?_;refine St.nn (St.ab ?_);refine St.rU [_] [] Tryz.results7 ?_;exact congrArg fv Ym.symm
theorem KV (g:iw)(vs:List dP)(ks:List eL)(t:fF):oe g vs ks t=if(oV g).1≠0 then([],oV g)else if(jw vs ks).1≠0 then([],jw vs ks)else if(ju g t).1≠0 then([],ju g t)
 else if 500<(ep g vs ks t).length then([],(17,0))else(ep g vs ks t,(0,0)):=rfl
set_option maxHeartbeats 4000000 in
theorem iq (g:iG)(q:eS)(t:br)(hw:dY.wf t):DK Tryz.prog 9 #[gm g,jx q,eW t] ([dv g,dy q,cB t,tz,u8].map aF) (fun r H'=>∃vo,r= .tuple #[vo,fv (oe (fG g) q.vars q.aY (ah t)).2]∧vo.oneCell'=true∧H'=[aF (yE aK vo ((oe (fG g) q.vars q.aY (ah t)).1.map ints))]):=by
 refine DK.body (args:=[gm g,jx q,eW t]) 50 Tryz.func9 rfl Tryz.ntmps9 rfl (fun c jB=> ?_);refine St.cast (H':=[aF (dv g),aF (dy q),aF (cB t),aF (tz),aF (u8)]) rfl ?_;refine St.seq ?_
 refine St.fI (dy q) (fun _:Unit=>qQ q) (fun ρ h=>⟨(),h⟩) fun _=> ?_
 refine St.cast (H':=[aF (sl jH q.vv.1 q.vars),aF (sl gM q.kv.1 q.aY),aF (dv g),aF (dy q),aF (cB t),aF (tz),aF (u8)]) rfl ?_
 have wA:=KV (fG g) q.vars q.aY (ah t)
 refine St.rg ?_;refine St.cX (.mk rfl) rfl (fun b3=> ?_);refine St.cX (.mk rfl) rfl (fun b4=> ?_);refine St.cX (.mk rfl) rfl (fun b5=> ?_);refine St.ar ?_;refine St.alloc dC rfl (fun b7=> ?_);refine St.nn (St.seq (St.sr ?_));refine St.ee (Ev.bH (.mk rfl) qR trivial (by exact pL)) ?_;refine St.ee (Ev.jo jB (zg g) YC (.cons (.mk rfl) .nil)) ?_;refine St.alloc dC rfl (fun b8=> ?_);refine St.sA (.mk rfl) (.mk rfl) bC ?_;refine St.nn (St.sr ?_);refine St.ee (Ev.aD (.mk rfl) cb) ?_;refine St.ee (Ev.l0 (.mk rfl) bP) ?_;refine St.ee Ev.jj ?_;refine St.nn ?_;refine St.cond _ rfl (fun gP=> ?_) (fun gP=> ?_)
 ·skip
  rw[if_pos (show(oV (fG g)).1≠0 by simpa using gP)]at wA;refine St.seq ?_;refine St.yS [b7] mixed (fun np ns=> ?_);refine SW.dd 0 rfl (fun _=>Ev.bH (.mk rfl) gF trivial (by exact bC)) ?_;refine SW.dd 1 rfl (fun _=>Ev.assign (.mk rfl)) ?_;refine SW.bG (i:=2) (by kernel_rfl) rfl ?_;refine St.sA (.mk rfl) (.mk rfl) bC ?_;refine St.nn ?_;refine SW.go ?_;refine SW.done (by kernel_rfl) ?_;refine St.aA (St.ab (St.aB ?_));refine St.hJ cK ?_;refine St.qK aK ?_;refine St.FG (Rr:=aK) (l:=[]) (.slice none 0 0) (vs:=[]) rfl ?_;refine St.rT [_,_] [aF (yE aK (.slice none 0 0) [])] Tryz.results9 ⟨rfl,⟨⟨_,_,_,_,rfl,jm.mem,.inl ⟨⟨_,gF⟩,bC,rfl⟩⟩,trivial⟩⟩ ?_;exact⟨_,congrArg (fun z=>Value.tuple #[(.slice none 0 0),fv z]) (by rw[wA]),rfl,by rw[wA];rfl⟩
 ·skip
  have SV:¬(oV (fG g)).1≠0:=by simpa using gP
  rw[if_neg SV]at wA;refine St.skip (St.aA (St.seq (St.sr ?_)));refine St.ee (Ev.bH (.mk rfl) xE trivial (by exact tX)) ?_;refine St.ee (Ev.jo jB (rL q) cb7 (.cons (.mk rfl) .nil)) ?_;refine St.alloc dC rfl (fun b9=> ?_);refine St.sA (.mk rfl) (.mk rfl) bC ?_;refine St.nn (St.sr ?_);refine St.ee (Ev.aD (.mk rfl) cb) ?_;refine St.ee (Ev.l0 (.mk rfl) bP) ?_;refine St.ee Ev.jj ?_;refine St.nn ?_;refine St.cond _ rfl (fun oJ=> ?_) (fun oJ=> ?_)
  ·skip
   rw[if_pos (show(jw q.vars q.aY).1≠0 by simpa using oJ)]at wA;refine St.seq ?_;refine St.yS [b7] mixed (fun np ns=> ?_);refine SW.dd 0 rfl (fun _=>Ev.bH (.mk rfl) gF trivial (by exact bC)) ?_;refine SW.dd 1 rfl (fun _=>Ev.assign (.mk rfl)) ?_;refine SW.bG (i:=2) (by kernel_rfl) rfl ?_;refine St.sA (.mk rfl) (.mk rfl) bC ?_;refine St.nn ?_;refine SW.go ?_;refine SW.done (by kernel_rfl) ?_;refine St.aA (St.ab (St.aB ?_));refine St.hJ cK ?_;refine St.qK aK ?_;refine St.FG (Rr:=aK) (l:=[]) (.slice none 0 0) (vs:=[]) rfl ?_;refine St.rT [_,_] [aF (yE aK (.slice none 0 0) [])] Tryz.results9 ⟨rfl,⟨⟨_,_,_,_,rfl,jm.mem,.inl ⟨⟨_,gF⟩,bC,rfl⟩⟩,trivial⟩⟩ ?_;exact⟨_,congrArg (fun z=>Value.tuple #[(.slice none 0 0),fv z]) (by rw[wA]),rfl,by rw[wA];rfl⟩
  ·skip
   have SX:¬(jw q.vars q.aY).1≠0:=by simpa using oJ
   rw[if_neg SX]at wA
   have hq:=(sC (Decidable.not_not.1 SX)).2
   refine St.skip (St.aA (St.seq (St.sr ?_)));refine St.ee (Ev.bH (.mk rfl) qR trivial (by exact pL)) ?_;refine St.ee (Ev.bH (.mk rfl) l8 trivial (by exact gH)) ?_;refine St.ee (Ev.call (E9 g t hw) YD (.cons (.mk rfl) (.cons (.mk rfl) .nil))) ?_;refine St.alloc dC rfl (fun jT=> ?_);refine St.sA (.mk rfl) (.mk rfl) bC ?_;refine St.nn (St.sr ?_);refine St.ee (Ev.aD (.mk rfl) cb) ?_;refine St.ee (Ev.l0 (.mk rfl) bP) ?_;refine St.ee Ev.jj ?_;refine St.nn ?_;refine St.cond _ rfl (fun sF=> ?_) (fun sF=> ?_)
   ·skip
    rw[if_pos (show(ju (fG g) (ah t)).1≠0 by simpa using sF)]at wA;refine St.seq ?_;refine St.yS [b7] mixed (fun np ns=> ?_);refine SW.dd 0 rfl (fun _=>Ev.bH (.mk rfl) gF trivial (by exact bC)) ?_;refine SW.dd 1 rfl (fun _=>Ev.assign (.mk rfl)) ?_;refine SW.bG (i:=2) (by kernel_rfl) rfl ?_;refine St.sA (.mk rfl) (.mk rfl) bC ?_;refine St.nn ?_;refine SW.go ?_;refine SW.done (by kernel_rfl) ?_;refine St.aA (St.ab (St.aB ?_));refine St.hJ cK ?_;refine St.qK aK ?_;refine St.FG (Rr:=aK) (l:=[]) (.slice none 0 0) (vs:=[]) rfl ?_;refine St.rT [_,_] [aF (yE aK (.slice none 0 0) [])] Tryz.results9 ⟨rfl,⟨⟨_,_,_,_,rfl,jm.mem,.inl ⟨⟨_,gF⟩,bC,rfl⟩⟩,trivial⟩⟩ ?_;exact⟨_,congrArg (fun z=>Value.tuple #[(.slice none 0 0),fv z]) (by rw[wA]),rfl,by rw[wA];rfl⟩
   ·skip
    have SY:¬(ju (fG g) (ah t)).1≠0:=by simpa using sF
    rw[if_neg SY]at wA
    have Yn:=zQ (Decidable.not_not.1 SV) (Decidable.not_not.1 SY)
    obtain⟨EG,SZ,Yo⟩:=Yn;rw[show(fG g).rules.length=g.rules.length from List.length_map _,show(fG g).bA.length=g.bA.length from List.length_map _]at EG
    have hvn:=hq.Rx
    have hvp:=hq.pos
    refine St.skip (St.aA (St.sr ?_));refine St.ee (Ev.bH (.mk rfl) qR trivial (by exact pL)) ?_;refine St.ee (Ev.bH (.mk rfl) l8 trivial (by exact gH)) ?_;refine St.ay (BK g t hw EG SZ (by omega)) YE (.cons (.mk rfl) (.cons (.mk rfl) .nil)) rfl ?_;rintro v36 _ ⟨Sa,rfl⟩;refine St.bK ?_;refine St.alloc S8 rfl (fun kX=> ?_);refine St.cR (.mk rfl) (.mk rfl) S6 Sa (by rfl) ?_;refine St.nn (St.sr ?_);refine St.alloc YF rfl (fun B6=> ?_);refine St.nn (St.sr ?_);refine St.ee (Ev.aD (.mk rfl) im) ?_;refine St.ee (Ev.l0 (.mk rfl) iJ) ?_;refine St.ee (Ev.au (.mk rfl) iJ) ?_;refine St.gL (m:=q.vars.length) (.mk rfl) (.mk rfl) bE cr eE Ix rfl rfl (by omega) rfl rfl (fun Xq=> ?_);refine St.bB (.slice (some ⟨Xq,0,none⟩) q.vars.length q.vars.length) rfl (Gp _) ?_;refine St.alloc YG rfl (fun MZ=> ?_);refine St.cR (.mk rfl) (.mk rfl) e7 rfl (by rfl) ?_;refine St.nn (St.sr ?_);refine St.alloc YH rfl (fun nd=> ?_);refine St.nn (St.sr ?_);refine St.ee (Ev.func (.cons (.mk rfl) (.cons (.mk rfl) (.cons (.mk rfl) (.cons (.mk rfl) (.cons (.mk rfl) .nil)))))) ?_;refine St.cR (.mk rfl) (.mk rfl) YI rfl (by rfl) ?_;refine St.nn (St.seq ?_);refine St.jD 57 1 ?_;refine St.bB (.slice none 0 0) (show _=([]:List (List Nat)).length from rfl) (show _=rows cK []from rfl) ?_;refine St.qK aK ?_;refine St.cast (H':=_::_) (show aF (ku aK [] [])::_=aF (ku aK [] (([]:List (List Nat)).map ints))::_ from rfl) ?_
    obtain⟨T,hT⟩:∃T,T=uc (kG (fG g) (ah t) 0 (-1) 0) q.aY q.vars [] []:=⟨_,rfl⟩
    have Q7:=xA (kG (fG g) (ah t) 0 (-1) 0) q.aY q.vars [] [] (by simp) (by simp)
    rw[←hT,List.nil_append]at Q7
    replace Q7:T=(ep (fG g) q.vars q.aY (ah t)).take 501:=Q7
    refine St.rg ?_;refine St.ee (Ev.l0 (.mk rfl) Tryz.underlying80) ?_;refine St.dR (xk MZ B6 kX b4 nd (.slice (some ⟨Xq,0,none⟩) q.vars.length q.vars.length) v36 (kG (fG g) (ah t) 0 (-1) 0) q hq q.vars.length q.vars [] [] (List.replicate q.vars.length 0) (.slice none 0 0) [] T rfl hT rfl (by simp) (by simp) rfl (fun y hy=>by cases hy) rfl rfl (by simp) (fun _=>by simp)) SB (.mk rfl) (.cons (.mk rfl) .nil) rfl ?_;rintro v43 _ ⟨A2,P0,us2,hA2,_,Sb,Sc,rfl⟩;refine St.SH ?_;refine St.nn (St.seq (St.sr ?_));refine St.ee (Ev.l0 (.mk rfl) dB) ?_;refine St.ee (Ev.fl (.mk rfl) dB) ?_;refine St.ee Ev.s5 ?_;refine St.nn ?_;refine St.cond _ rfl (fun mV=> ?_) (fun mV=> ?_)
    ·try simp only[aC]at mV
     have Yp:500<(ep (fG g) q.vars q.aY (ah t)).length:=by have:=congrArg List.length Q7;rw[List.length_take]at this;omega
     rw[if_pos Yp]at wA;refine St.sr ?_;refine St.ee (Ev.call (cv 17 0) uk (.cons (.mk rfl) (.cons (.mk rfl) .nil))) ?_;refine St.ar ?_;refine St.sA (.mk rfl) (.mk rfl) bC ?_;refine St.nn (St.ab (St.aB ?_));refine St.hJ cK ?_;refine St.qK aK ?_;refine St.FG (Rr:=aK) (l:=[]) (.slice none 0 0) (vs:=[]) rfl ?_;refine St.rT [_,_] [aF (yE aK (.slice none 0 0) [])] Tryz.results9 ⟨rfl,⟨⟨_,_,_,_,rfl,jm.mem,.inl ⟨⟨_,gF⟩,bC,rfl⟩⟩,trivial⟩⟩ ?_;exact⟨_,congrArg (fun z=>Value.tuple #[(.slice none 0 0),fv z]) (by rw[wA]),rfl,by rw[wA];rfl⟩
    ·try simp only[aC]at mV
     have hTs:T=ep (fG g) q.vars q.aY (ah t):=by rw[Q7,List.take_of_length_le];have:=congrArg List.length Q7;rw[List.length_take]at this;omega
     rw[if_neg (by rw[←hTs];omega)]at wA;refine St.skip (St.aA (St.sr ?_));refine St.ee (Ev.l0 (.mk rfl) dB) ?_;refine St.ee (Ev.build (ps:=[]) (aV.nil) (fun w=>fB w)) ?_;refine St.ar ?_;refine St.sA (.mk rfl) (.mk rfl) bC ?_;refine St.nn (St.ab ?_);refine St.aU P0 cK us2 rfl Sc.symm (fun _ _=>trivial) ?_;refine St.FG (Rr:=aK) (l:=T.map ints) P0 (vs:=us2) (by rw[List.length_map];exact Sc) ?_;refine St.rT [_,_] [aF (yE aK P0 (T.map ints))] Tryz.results9 ⟨rfl,⟨⟨_,_,_,_,rfl,jm.mem,.inl ⟨⟨_,gF⟩,bC,rfl⟩⟩,trivial⟩⟩ ?_;exact⟨P0,by rw[wA];rfl,Sb,by rw[wA,hTs]⟩
theorem th (l:List cV)(w:cV):rows ff l++ [sv w]=rows ff (l++ [w]):=by rw[cl];rfl
theorem gY (v0 v1:Value)(a b:List Int):cz Tryz.prog 16 #[v0,v1] [sl aK v0 a,sl aK v1 b] (.bool (decide (a=b))):=by
 refine cz.o7 (args:=[v0,v1]) 26 Tryz.func16 rfl Tryz.ntmps16 rfl (fun c=> ?_);refine St.seq ?_;refine St.wf v0 (fun acP ab5=> ?_);refine St.wf v1 (fun Sd ab6=> ?_);refine St.rg ?_;refine St.ar ?_;refine St.nn (St.seq (St.sr ?_));refine St.mv ?_;refine St.ee (Ev.au (.mk rfl) bE) ?_;refine St.mv ?_;refine St.ee (Ev.au (.mk rfl) bE) ?_;refine St.ee Ev.jj ?_;refine St.nn ?_;refine St.cond _ rfl (fun uR=> ?_) (fun uR=> ?_)
 ·try simp only[aC]at uR
  refine St.sr ?_;refine St.ar ?_;refine St.nn (St.ab (St.aB ?_));refine St.rU [_] [] Tryz.results16 ?_;exact be (by rw[eq_comm,decide_eq_false_iff_not];rintro rfl;omega)
 ·try simp only[aC]at uR
  refine St.skip (St.aA (St.seq (St.sr ?_)));refine St.ar ?_;refine St.nn (St.block ?_);refine St.lS (ι:=Nat) (fun k T=>(5,iv k)::T) (fun k=>k≤a.length∧a.take k=b.take k) (fun k=>a.length-k) 0 (aE.cons 0 rfl (aE.cons 1 rfl aE.nil)) ⟨Nat.zero_le _,rfl⟩ ?_;intro k dK;obtain⟨hk,hv⟩:=dK;refine St.seq (St.sr ?_);refine St.mv ?_;refine St.mv ?_;refine St.ee (Ev.au (.mk rfl) bE) ?_;refine St.ee Ev.dz ?_;refine St.nn ?_;refine St.cond _ rfl (fun qX=> ?_) (fun qX=> ?_)
  ·try simp only[aC]at qX
   obtain⟨x,hx⟩:=aQ (show k<a.length by omega);obtain⟨y,hy⟩:=aQ (show k<b.length by omega);refine St.skip (St.aA (St.seq (St.block (St.seq ?_))));refine St.rq mixed (by kernel_rfl) (Mm.drawn _ _) ?_;refine Sq.ee (Ev.move (.mk rfl)) ?_;refine Sq.ee (Ev.move (.mk rfl)) ?_;refine Sq.ee (Ev.aR (k:=k) (.mk rfl) (.mk rfl) bE cr (by omega) (by omega)) ?_;refine Sq.ee (Ev.fL (.mk rfl) hx bP trivial rfl) ?_;refine Sq.ee (Ev.move (.mk rfl)) ?_;refine Sq.ee (Ev.move (.mk rfl)) ?_;refine Sq.ee (Ev.aR (k:=k) (.mk rfl) (.mk rfl) bE cr (by omega) (by omega)) ?_;refine Sq.ee (Ev.fL (.mk rfl) hy bP trivial rfl) ?_;refine Sq.ee Ev.jj ?_;refine Sq.nil ?_;refine St.aA ?_;refine St.cond _ rfl (fun oJ=> ?_) (fun oJ=> ?_)
   ·skip
    refine St.sr ?_;refine St.ar ?_;refine St.nn (St.ab (St.aN (St.aB (St.aB (St.aN (St.aB ?_))))));refine St.rU [_] [] Tryz.results16 ?_;exact be (by rw[eq_comm,decide_eq_false_iff_not];rintro rfl;rw[hx]at hy;simp only[Option.some.injEq]at hy;simp[hy]at oJ)
   ·skip
    refine St.skip (St.aO (St.aA (St.rg ?_)));refine St.mv ?_;refine St.ee Ev.a0 ?_;refine St.ar ?_;refine St.nn ?_;refine St.aS (k+1) ⟨by omega,by rw[bJ hx,bJ hy,hv,show x=y by simpa using oJ]⟩
  ·try simp only[aC]at qX
   refine St.exit (St.aI (St.aI (St.bM (St.aA (St.sr ?_)))));refine St.ar ?_;refine St.nn (St.ab ?_);refine St.rU [_] [] Tryz.results16 ?_;exact be (by rw[eq_comm,decide_eq_true_eq];rw[List.take_of_length_le (by omega),List.take_of_length_le (by omega)]at hv;exact hv)
def EH:fF:= .mk 0 0 [.mk (-1) 19 [],.mk 2 0 [.mk (-1) 9 []]]
theorem sG (r x:Int)(v:cm)(l:List br)(h1: -100≤r∧r≤100)(h2: -100≤x∧x≤100):dY.wf (.mk r x v l):=⟨by show bF r;unfold bF;omega,by show bF x;unfold bF;omega⟩
theorem lF:fC Tryz.prog 23 #[] ([].map aF) (fun v H'=>∃t:br,v=eW t∧ah t=EH∧dY.wf t∧H'=[aF (cB t)]):=by
 refine fC.body (args:=[]) 9 Tryz.func23 rfl Tryz.ntmps23 rfl (fun c=> ?_);refine St.cast (H':=[]) rfl ?_;refine St.sr ?_;refine St.alloc zR rfl (fun b0=> ?_);refine St.nn (St.sr ?_);refine St.ee (Ev.build (ps:=[(0,(.const (.int .i64 (-1)))),(1,(.const (.int .i64 9)))]) (aV.cons (aL.mk rfl) (aV.cons (aL.mk rfl) aV.nil)) (fun w=>vp rfl rfl w)) ?_;refine St.alloc zR rfl (fun b1=> ?_);refine St.sA (.mk rfl) (.mk rfl) gH ?_ (h1:=(by simp only[List.all_cons,List.all_nil,Bool.and_true,Bool.and_eq_true];exact⟨rfl,rfl,rfl⟩));refine St.nn (St.sr ?_);refine St.ee (Ev.build (ps:=[(0,(.const (.int .i64 (-1)))),(1,(.const (.int .i64 19)))]) (aV.cons (aL.mk rfl) (aV.cons (aL.mk rfl) aV.nil)) (fun w=>vp rfl rfl w)) ?_;refine St.ee (Ev.bH (.mk rfl) l8 trivial (by exact gH)) ?_;refine St.cn rfl (.cons (.mk rfl) .nil) jJ gH SC rfl rfl (by simp[Value.cells]) rfl rfl (fun b5=> ?_);refine St.hJ dY ?_;refine St.dX cB ?_;refine St.wv (-1) 9 (.slice none 0 0) rfl [] ?_;refine St.aU (.slice (some ⟨b5,0,none⟩) 1 1) dY [(.mk (-1) 9 fQ []:br)] rfl rfl (fun y hy=>by rw[List.mem_singleton.1 hy];exact sG _ _ _ _ (by decide) (by decide)) ?_;refine St.ei cB (xs:=[]) (x:=(.mk (-1) 9 fQ []:br)) ?_;refine St.wv 2 0 (.slice (some ⟨b5,0,none⟩) 1 1) rfl [(.mk (-1) 9 fQ []:br)] ?_;refine St.ee (Ev.build (ps:=[(0,(.const (.int .i64 2))),(2,(.tmp 5))]) (aV.cons (aL.mk rfl) (aV.cons (aL.mk rfl) aV.nil)) (fun w=>E7 rfl rfl w)) ?_;refine St.cn rfl (.cons (.mk rfl) (.cons (.mk rfl) .nil)) jJ gH SC rfl rfl (by simp[Value.cells]) rfl rfl (fun b7=> ?_);refine St.wv (-1) 19 (.slice none 0 0) rfl [] ?_;refine St.aU (.slice (some ⟨b7,0,none⟩) 2 2) dY [(.mk (-1) 19 fQ []:br),(.mk 2 0 ⟨(.slice (some ⟨b5,0,none⟩) 1 1),rfl⟩ [(.mk (-1) 9 fQ []:br)]:br)] rfl rfl (fun y hy=>by rcases List.mem_cons.1 hy with rfl|hy;exact sG _ _ _ _ (by decide) (by decide);rw[List.mem_singleton.1 hy];exact sG _ _ _ _ (by decide) (by decide)) ?_;refine St.ei cB (xs:=[]) (x:=(.mk 2 0 ⟨(.slice (some ⟨b5,0,none⟩) 1 1),rfl⟩ [(.mk (-1) 9 fQ []:br)]:br)) ?_;refine St.ei cB (xs:=[(.mk 2 0 ⟨(.slice (some ⟨b5,0,none⟩) 1 1),rfl⟩ [(.mk (-1) 9 fQ []:br)]:br)]) (x:=(.mk (-1) 19 fQ []:br)) ?_;refine St.wv 0 0 (.slice (some ⟨b7,0,none⟩) 2 2) rfl [(.mk (-1) 19 fQ []:br),(.mk 2 0 ⟨(.slice (some ⟨b5,0,none⟩) 1 1),rfl⟩ [(.mk (-1) 9 fQ []:br)]:br)] ?_;refine St.ee (Ev.build (ps:=[(2,(.tmp 7))]) (aV.cons (aL.mk rfl) aV.nil) (fun w=>KI rfl w)) ?_;refine St.sA (.mk rfl) (.mk rfl) gH ?_ (h1:=(by simp only[List.all_cons,List.all_nil,Bool.and_true,Bool.and_eq_true];exact⟨rfl,rfl,rfl⟩));refine St.nn (St.ab ?_);refine St.rT [_] [aF (cB (.mk 0 0 ⟨(.slice (some ⟨b7,0,none⟩) 2 2),rfl⟩ [(.mk (-1) 19 fQ []:br),(.mk 2 0 ⟨(.slice (some ⟨b5,0,none⟩) 1 1),rfl⟩ [(.mk (-1) 9 fQ []:br)]:br)]:br))] Tryz.results23 ⟨⟨_,_,_,_,rfl,jm.mem,.inl ⟨⟨_,l8⟩,gH,rfl⟩⟩,trivial⟩ ?_;exact⟨(.mk 0 0 ⟨(.slice (some ⟨b7,0,none⟩) 2 2),rfl⟩ [(.mk (-1) 19 fQ []:br),(.mk 2 0 ⟨(.slice (some ⟨b5,0,none⟩) 1 1),rfl⟩ [(.mk (-1) 9 fQ []:br)]:br)]:br),rfl,rfl,sG _ _ _ _ (by decide) (by decide),rfl⟩
end Go.Proofs.YtolmidffiegkaaaGreatDoor
namespace Go.J
open Go.RowKit
open Go
theorem DK.xu {P:Program}{f:FuncId}{args:Array Value}{ds:List df}{post:Value→List bQ→Prop}(h:∀w (ρ:Ro),(∀k o,ρ k=some o→w.heap[k]?=some o)→(∀d∈ds,d.f ρ)→Calls P f args w fun e w'=>∃v,e= .returned v∧post v []∧Below w.heap.size w w'):
 DK P f args (ds.map aF) post:=by
 intro w ρ hs;refine(h w ρ hs.fits fun d hd=>dV.1 (hs.dF (aF d) (List.mem_map_of_mem hd))).mono ?_;rintro e w' ⟨v,rfl,hp,hb⟩;refine⟨v,[],rfl,hp,Mm.mk (ρ:=ρ) ⟨hb.os,⟨hb.tape,fun h=>h.elim⟩,hb.output,hb.size,fun k hk _=>hb.block k hk,fun k o hk=> ?_,Ro.le_refl _,fun _ _ _=>rfl,fun _ h=>by simp at h,fun _ h=>by simp at h,.nil⟩⟩;rw[hb.block k (hs.Lo hk)];exact hs.fits k o hk
theorem gj.xu {P:Program}{f:FuncId}{args:Array Value}{ds:List df}{v:Value}(h:∀w (ρ:Ro),(∀k o,ρ k=some o→w.heap[k]?=some o)→(∀d∈ds,d.f ρ)→Calls P f args w fun e w'=>e= .returned v∧Below w.heap.size w w'):gj P f args ds v:=
 DK.xu fun w ρ h1 h2=>(h w ρ h1 h2).mono fun _ _ ⟨h1,h2⟩=>⟨v,h1,rfl,h2⟩
theorem Cq {l:List cV}{k:Nat}{x:cV}(h:l[k]?=some x):(rows ff l)[k*1+0]?=some (sv x):=by
 have e:rows ff l=l.map fun s=>sv s:=by
  show l.flatMap (fun s=>[sv s])=_
  clear h
  induction l with
  |nil=>rfl
  |cons a l ih=>rw[List.flatMap_cons,ih];rfl
 rw[e,Nat.mul_one,Nat.add_zero,List.getElem?_map,h];rfl
theorem H3 (sep:List UInt8)(m:Nat):∀l:List (List UInt8),(∀s∈l,s.length≤m)→(Lib.join l sep).length≤l.length*(m+sep.length)
 | [],_=>by rw[Lib.join_nil];simp
 |x::r,h=>by
  rw[Lib.join_cons,List.length_append]
  have h1:=h x (List.mem_cons_self ..)
  have h2:(Lib.joinTail sep r).length≤r.length*(m+sep.length):=by
   have h3:∀s∈r,s.length≤m:=fun s hs=>h s (List.mem_cons_of_mem _ hs)
   clear h h1
   induction r with
   |nil=>simp[Lib.joinTail]
   |cons y r ih=>
    have e:Lib.joinTail sep (y::r)=(sep++y)++Lib.joinTail sep r:=by simp[Lib.joinTail]
    rw[e,List.length_append,List.length_append,List.length_cons,Nat.add_mul,Nat.one_mul]
    have h4:=ih fun s hs=>h3 s (List.mem_cons_of_mem _ hs)
    have h5:=h3 y (List.mem_cons_self ..)
    omega
  rw[List.length_cons,Nat.add_mul,Nat.one_mul];omega
end Go.J
namespace Go.Proofs
open Go.Shelf
def Tryz.rM:Go.Shelf.Ren:=⟨fun|156=>44|165=>81|166=>82|169=>83|240=>104|241=>105|276=>126|277=>127|n=>n,fun|31=>103|9=>9|3=>3|4=>4|0=>0|20=>20|72=>150|76=>153|70=>148|37=>138|75=>152|127=>181|164=>201|5=>5|80=>155|n=>n,fun|n=>n⟩
theorem Tryz.Cr:Go.Proofs.Lays.n156 Tryz.prog Tryz.rM:={
 mixed:=by kernel_rfl
 f156:=Tryz.func44.trans (congrArg some (by kernel_rfl))
 f165:=Tryz.func81.trans (congrArg some (by kernel_rfl))
 f166:=Tryz.func82.trans (congrArg some (by kernel_rfl))
 f169:=Tryz.func83.trans (congrArg some (by kernel_rfl))
 f240:=Tryz.func104.trans (congrArg some (by kernel_rfl))
 f241:=Tryz.func105.trans (congrArg some (by kernel_rfl))
 f276:=Tryz.func126.trans (congrArg some (by kernel_rfl))
 f277:=Tryz.func127.trans (congrArg some (by kernel_rfl))
 t0:=R6
 a0:=Tryz.isAgg0
 z0:=Tryz.sizeOf0
 v0:=Tryz.zeroValue0
 t3:=bP
 a3:=Tryz.isAgg3
 z3:=Tryz.sizeOf3
 v3:=Tryz.zeroValue3
 t4:=uP
 a4:=Tryz.isAgg4
 z4:=Tryz.sizeOf4
 v4:=Tryz.zeroValue4
 t9:=eG
 a9:=Tryz.isAgg9
 z9:=Tryz.sizeOf9
 v9:=Tryz.zeroValue9
 t20:=Tryz.underlying20
 a20:=Tryz.isAgg20
 z20:=Tryz.sizeOf20
 v20:=Tryz.zeroValue20
 t31:=lU
 a31:=Tryz.isAgg103
 z31:=Tryz.sizeOf103
 v31:=Tryz.zeroValue103
 t37:=Tryz.underlying138
 a37:=Tryz.isAgg138
 z37:=Tryz.sizeOf138
 v37:=Tryz.zeroValue138
 t70:=Tryz.underlying148
 a70:=Tryz.isAgg148
 z70:=Tryz.sizeOf148
 v70:=Tryz.zeroValue148
 t72:=Tryz.underlying150
 a72:=Tryz.isAgg150
 z72:=Tryz.sizeOf150
 v72:=Tryz.zeroValue150
 t75:=Tryz.underlying152
 a75:=Tryz.isAgg152
 z75:=Tryz.sizeOf152
 v75:=Tryz.zeroValue152
 t76:=Tryz.underlying153
 a76:=Tryz.isAgg153
 z76:=Tryz.sizeOf153
 v76:=Tryz.zeroValue153
 t127:=Tryz.underlying181
 a127:=Tryz.isAgg181
 z127:=Tryz.sizeOf181
 v127:=Tryz.zeroValue181
 t164:=Tryz.underlying201
 a164:=Tryz.isAgg201
 z164:=Tryz.sizeOf201
 v164:=Tryz.zeroValue201}
theorem Tryz.kg:Builder.Extra Tryz.prog Tryz.rM where
 sizeBuilder:=by kernel_rfl
 liesBuilder:=by kernel_rfl
 t5:=CS
 a5:=Tryz.isAgg5
 z5:=Tryz.sizeOf5
 v5:=Tryz.zeroValue5
 infoByte:=by kernel_rfl
 cellsByte:=by kernel_rfl
 sizeByte:=by kernel_rfl
 neB5:=by decide
end Go.Proofs
namespace Go.Proofs.YtolmidffiegkaaaGreatDoor
open Go Go.J
theorem by9:(Tryz.prog.info? 9).map (·.bytes)=some 16:=by kernel_rfl
theorem Yq:aW Tryz.prog 44:=⟨_,Tryz.func44,rfl,by kernel_rfl⟩
theorem Yr (w:World):ck Tryz.prog 71 w= .ok #[(0,1),(1,1),(2,1)] w:=by kernel_rfl
theorem Ys:(Tryz.prog.info? 71).bind (·.zero)=some (Value.agg #[.string ⟨#[]⟩,.int .i64 0,.string ⟨#[]⟩]):=by kernel_rfl
theorem Yt (w:World):ck Tryz.prog 56 w= .ok #[(0,1),(1,1),(2,1)] w:=by kernel_rfl
theorem BR:(Tryz.prog.info? 56).bind (·.zero)=some (Value.agg #[.int .i64 0,.int .i64 0,.int .i64 0]):=by kernel_rfl
theorem Se (w:World):ck Tryz.prog 36 w= .ok #[(0,1),(1,1)] w:=by kernel_rfl
theorem KX:(Tryz.prog.info? 36).bind (fun i=>i.zero.map Value.cells)=some #[.slice none 0 0,.slice none 0 0]:=by kernel_rfl
theorem Sf:aW Tryz.prog 22:=⟨_,Tryz.func22,rfl,by kernel_rfl⟩
theorem P1:aW Tryz.prog 23:=⟨_,Tryz.func23,rfl,by kernel_rfl⟩
theorem Q8:aW Tryz.prog 9:=⟨_,Tryz.func9,rfl,by kernel_rfl⟩
theorem KY:aW Tryz.prog 17:=⟨_,Tryz.func17,rfl,by kernel_rfl⟩
theorem rN {u0 u1 u2:Value}(h0:u0.oneCell'=true)(h1:u1.oneCell'=true)(h2:u2.oneCell'=true)(w:World):(Instr.build 71 #[(0,u0),(1,u1),(2,u2)]).run Tryz.prog w= .ok (.agg #[u0,u1,u2]) w:=
 bZ OX (Yr w) (by simp[Instr.fill,J.bp,J.aG h0,J.aG h1,J.aG h2])
theorem zk {u0 u1 u2:Value}(h0:u0.oneCell'=true)(h1:u1.oneCell'=true)(h2:u2.oneCell'=true)(w:World):(Instr.build 56 #[(0,u0),(1,u1),(2,u2)]).run Tryz.prog w= .ok (.agg #[u0,u1,u2]) w:=
 bZ KF (Yt w) (by simp[Instr.fill,J.bp,J.aG h0,J.aG h1,J.aG h2])
theorem EI {u0 u1:Value}(h0:u0.oneCell'=true)(h1:u1.oneCell'=true)(w:World):(Instr.build 36 #[(0,u0),(1,u1)]).run Tryz.prog w= .ok (.agg #[u0,u1]) w:=
 bZ KX (Se w) (by simp[Instr.fill,J.bp,J.aG h0,J.aG h1])
theorem EJ (v:Value)(l:List cV)(sep:cV)(hlen:(Lib.join l sep).length≤140737488355328)(hl:l.length≤140737488355328):gj Tryz.prog 44 #[v,sv sep] [sl ff v l] (sv (Lib.join l sep)):=
 gj.xu fun w ρ hf hd=>by
  obtain⟨a,cap,rfl,h2,h3,h4,h5⟩:=hd (sl ff v l) (List.mem_cons_self ..)
  have hm:(l.map fun s=>(⟨s.toArray⟩:ByteArray)).map (·.data.toList)=l:=by rw[List.map_map];exact List.map_id _
  have acQ:(⟨sep.toArray⟩:ByteArray).data.toList=sep:=rfl
  cases l with
  |nil=>
   refine(Any.strings_Join_none Tryz.Cr Tryz.kg a cap ⟨sep.toArray⟩ w).mono ?_;rintro e w' ⟨rfl,rfl⟩;exact⟨rfl,Go.RowKit.Below.refl _ _⟩
  |cons x l=>
   rcases h5 with h5|⟨b,off,C,e,fr,rfl,h6,h7⟩
   ·cases h5
   have hb:=hf _ _ h6
   have sR:∀(j:Nat) y,((x::l).map fun s=>(⟨s.toArray⟩:ByteArray))[j]?=some y→w.cell? ⟨b,off+j,none⟩=some (.string y):=fun j y hy=>by
    rw[List.getElem?_map]at hy;obtain⟨s,hs,rfl⟩:=Option.map_eq_some_iff.1 hy;rw[cW hb];refine h7 j _ ?_
    have:=Cq hs
    rw[Nat.mul_one,Nat.add_zero]at this;exact this
   have hj:=Any.strings_Join Tryz.Cr Tryz.kg b off cap ((x::l).map fun s=>(⟨s.toArray⟩:ByteArray)) ⟨sep.toArray⟩ w sR (Array.getElem?_eq_some_iff.1 hb).1 (by rw[List.length_map];exact hl) (by rw[List.length_map];exact h2) (by rw[hm];exact hlen)
   rw[hm,List.length_map]at hj;exact hj
def iE:List cV:=[[],[62],[62,62],[60],[60,60],[126]]
def AO:df:=⟨fun ρ=>∃u:cm,(DP 0 u.1).f ρ∧(sl ff u.1 iE).f ρ,fun ρ iK h ⟨u,a,b⟩=>⟨u,(DP 0 u.1).mono _ _ h a,(sl ff u.1 iE).mono _ _ h b⟩⟩
def KZ (k:Int):cV:=if k=1 then [42]else if k=3 then [39]else if k=4 then [46]else []
def fc (v:dP):cV:=((v.name++ [58])++KZ v.kind)++v.label
def Yu:dP:=⟨[],0,[]⟩
def kh (vs:List dP)(l:eL):cV:=((vs.getD l.a.toNat Yu).name++iE.getD l.kind.toNat [])++(vs.getD l.b.toNat Yu).name
def lG (vs:List dP)(ks:List eL):List cV:=vs.map fc++ks.map (kh vs)
def Cs (vs:List dP)(ks:List eL):cV:=Lib.join (lG vs ks) [32]
def BS (vs:List dP)(ks:List eL):cV:=if(jw vs ks).1≠0 then []else Cs vs ks
theorem P2 {k:Int}(h1:1≤k)(h4:k≤4):([[],[42],[],[39],[46]]:List cV)[k.toNat]?=some (KZ k):=by
 rcases(show k=1∨k=2∨k=3∨k=4 by omega)with rfl|rfl|rfl|rfl<;>rfl
theorem BT {s:cV}(h:isWord s=true):s.length≤120:=by
 have h1:=Gz s
 rw[lO]at h
 simp only[Bool.and_eq_true,decide_eq_true_eq]at h
 have h2:Lib.runeCountL s≤30:=h.1.1.2
 omega
theorem pf {vs:List dP}{ks:List eL}(hq:rG vs ks):∀v∈vs,v.name.length≤30∧v.label.length≤120:=fun v hv=>by
 obtain⟨h1,h2,h3,h4,h5,h6⟩:=hq.var v hv;refine⟨(sZ h3).2,?_⟩
 rcases(show v.kind=1∨v.kind=2∨v.kind=3∨v.kind=4 by omega)with h|h|h|h
 ·rw[h6 (Or.inl h)];simp
 ·have:=(sZ (h4 h)).2;omega
 ·exact BT (h5 h)
 ·rw[h6 (Or.inr h)];simp
theorem zm (k:Int):(KZ k).length≤1:=by unfold KZ;repeat(first|split|simp)
theorem Ct (k:Nat):(iE.getD k []).length≤2:=by
 match k with
 |0=>decide
 |1=>decide
 |2=>decide
 |3=>decide
 |4=>decide
 |5=>decide
 |k+6=>exact Nat.zero_le _
theorem EK {v:dP}(h1:v.name.length≤30)(h2:v.label.length≤120):(fc v).length≤200:=by
 have:=zm v.kind
 unfold fc;rw[List.length_append,List.length_append,List.length_append];simp only[List.length_cons,List.length_nil];omega
theorem sH {vs:List dP}{i:Nat}(h:i<vs.length):vs[i]?=some (vs.getD i Yu):=by rw[List.getD_eq_getElem?_getD,List.getElem?_eq_getElem h];rfl
theorem wB {vs:List dP}{ks:List eL}(hq:rG vs ks):(∀s∈lG vs ks,s.length≤200)∧(lG vs ks).length≤12:=by
 refine⟨fun s hs=> ?_,?_⟩
 ·unfold lG at hs
  rcases List.mem_append.1 hs with hs|hs
  ·obtain⟨v,hv,rfl⟩:=List.mem_map.1 hs
   exact EK (pf hq v hv).1 (pf hq v hv).2
  ·obtain⟨l,hl,rfl⟩:=List.mem_map.1 hs
   obtain⟨_,_,a1,a2,b1,b2,_⟩:=hq.link l hl
   have ha:=(pf hq _ (List.mem_of_getElem? (sH (show l.a.toNat<vs.length by omega)))).1
   have hb:=(pf hq _ (List.mem_of_getElem? (sH (show l.b.toNat<vs.length by omega)))).1
   have hs:=Ct l.kind.toNat
   unfold kh;rw[List.length_append,List.length_append];omega
 ·have h1:=hq.Rx
  have h2:=hq.aY
  unfold lG;rw[List.length_append,List.length_map,List.length_map];omega
theorem H4 {vs:List dP}{ks:List eL}(hq:rG vs ks):(Cs vs ks).length≤10000:=by
 obtain⟨h1,h2⟩:=wB hq
 have h3:=H3 [32] 200 (lG vs ks) h1
 have h4:(lG vs ks).length*(200+([32]:List UInt8).length)≤12*201:=Nat.mul_le_mul h2 (by simp)
 unfold Cs;omega
set_option maxHeartbeats 4000000 in
theorem mD (q:eS):gj Tryz.prog 17 #[jx q] [dy q,u8,AO] (.tuple #[sv (BS q.vars q.aY),fv (jw q.vars q.aY)]):=by
 refine gj.body (args:=[jx q]) (ds:=[dy q,u8,AO]) 74 Tryz.func17 rfl Tryz.ntmps17 rfl (fun c jB=> ?_);refine St.cast (H':=[aF (dy q),aF (u8),aF (AO)]) rfl ?_;refine St.seq ?_
 refine St.fI AO (fun u:cm=>[DP 0 u.1,sl ff u.1 iE]) (fun ρ ⟨u,h1,h2⟩=>⟨u,fun e he=>by simp only[List.mem_cons,List.not_mem_nil,or_false]at he;rcases he with rfl|rfl;exact h1;exact h2⟩) fun us=> ?_
 refine St.cast (H':=[aF (DP 0 us.1),aF (sl ff us.1 iE),aF (dy q),aF u8,aF AO]) rfl ?_
 refine St.fI (dy q) (fun _:Unit=>qQ q) (fun ρ h=>⟨(),h⟩) fun _=> ?_
 refine St.cast (H':=[aF (sl jH q.vv.1 q.vars),aF (sl gM q.kv.1 q.aY),aF (DP 0 us.1),aF (sl ff us.1 iE),aF (dy q),aF (u8),aF (AO)]) rfl ?_
 have Ka:BS q.vars q.aY=if(jw q.vars q.aY).1≠0 then []else Cs q.vars q.aY:=rfl
 refine St.rg ?_;refine St.cX (.mk rfl) rfl (fun b1=> ?_);refine St.ar ?_;refine St.alloc dC rfl (fun b3=> ?_);refine St.nn (St.seq (St.sr ?_));refine St.ee (Ev.bH (.mk rfl) xE trivial (by exact tX)) ?_;refine St.ee (Ev.jo jB (rL q) cb7 (.cons (.mk rfl) .nil)) ?_;refine St.alloc dC rfl (fun b4=> ?_);refine St.sA (.mk rfl) (.mk rfl) bC ?_;refine St.nn (St.sr ?_);refine St.ee (Ev.aD (.mk rfl) cb) ?_;refine St.ee (Ev.l0 (.mk rfl) bP) ?_;refine St.ee Ev.jj ?_;refine St.nn ?_;refine St.cond _ rfl (fun qX=> ?_) (fun qX=> ?_)
 ·skip
  have hb:(jw q.vars q.aY).1≠0:=by simpa using qX
  rw[if_pos hb]at Ka;refine St.seq ?_;refine St.yS [b3] mixed (fun np ns=> ?_);refine SW.dd 0 rfl (fun _=>Ev.bH (.mk rfl) gF trivial (by exact bC)) ?_;refine SW.dd 1 rfl (fun _=>Ev.assign (.mk rfl)) ?_;refine SW.bG (i:=2) (by kernel_rfl) rfl ?_;refine St.sA (.mk rfl) (.mk rfl) bC ?_;refine St.nn ?_;refine SW.go ?_;refine SW.done (by kernel_rfl) ?_;refine St.aA (St.ab (St.aB ?_));refine St.rT [_,_] [] Tryz.results17 ⟨rfl,⟨⟨_,_,_,_,rfl,jm.mem,.inl ⟨⟨_,gF⟩,bC,rfl⟩⟩,trivial⟩⟩ ?_
  rw[Ka];rfl
 ·skip
  have hb:¬(jw q.vars q.aY).1≠0:=by simpa using qX
  rw[if_neg hb]at Ka;obtain⟨hq0,hq⟩:=sC (Decidable.not_not.1 hb)
  have zX:=pf hq
  have hN4:=hq.Rx
  have hK8:=hq.aY
  refine St.skip (St.aA (St.sr ?_));refine St.ar ?_;refine St.nn (St.seq (St.sr ?_));refine St.ee (Ev.aD (.mk rfl) im) ?_;refine St.ee (Ev.l0 (.mk rfl) iJ) ?_;refine St.ee (Ev.au (.mk rfl) iJ) ?_;refine St.mv ?_;refine St.nn (St.block ?_);refine St.jD 9 1 ?_;refine St.bB (.slice none 0 0) (show _=((q.vars.take 0).map fc).length from rfl) (show _=rows ff ((q.vars.take 0).map fc)from rfl) ?_;refine St.my (ι:=Nat) (κ:=Value) (fun k z T=>(19,iv k)::(5,z)::T) (fun k z=>[row z 9 1 ((q.vars.take k).map fc).length (rows ff ((q.vars.take k).map fc)),ae b1 (.cells [q.vv.1,q.kv.1].toArray 36 (0,0)),ae b3 (.cells [iv 0,iv 0].toArray 42 (0,0)),aF (sl jH q.vv.1 q.vars),aF (sl gM q.kv.1 q.aY),aF (u8),aF (DP 0 us.1),aF (sl ff us.1 iE)]) (fun k z=>k≤q.vars.length∧z.oneCell'=true) (fun k z=>q.vars.length-k) 0 (.slice none 0 0) (aE.cons 1 rfl (aE.cons 2 rfl (aE.cons 3 rfl (aE.cons 17 rfl (aE.cons 18 rfl aE.nil))))) ⟨Nat.zero_le _,rfl⟩ ?_;rintro k z ⟨hk,hz⟩;refine St.sr ?_;refine St.ee Ev.dz ?_;refine St.nn (St.seq ?_);refine St.cond _ rfl (fun td=> ?_) (fun td=> ?_)
  ·try simp only[aC]at td
   obtain⟨va,Sg⟩:=aQ (show k<q.vars.length by omega);obtain⟨zN,ng⟩:=zX va (List.mem_of_getElem? Sg);obtain⟨lb,Sh,_⟩:=hq.var va (List.mem_of_getElem? Sg)
   have AJ:=zm va.kind
   have hIl:((q.vars.take k).map fc).length≤4:=by rw[List.length_map,List.length_take];omega
   refine St.skip (St.aA (St.seq (St.block (St.sr ?_))));refine St.ee (Ev.aR (k:=k) (.mk rfl) (.mk rfl) iJ tV (by omega) (by omega)) ?_;refine St.ee (Ev.fg (.mk rfl) Sg Tryz.underlying71 trivial tV en.eq) ?_;refine St.alloc OX rfl (fun b7=> ?_);refine St.sA (.mk rfl) (.mk rfl) tV ?_ (h1:=(by simp only[List.all_cons,List.all_nil,Bool.and_true,Bool.and_eq_true];exact⟨rfl,rfl,rfl⟩));refine St.nn ?_;refine St.eK [row z 9 1 ((q.vars.take k).map fc).length (rows ff ((q.vars.take k).map fc))] mixed (fun np ns=> ?_);refine SW.dd 0 rfl (fun _=>Ev.move (.mk rfl)) ?_;refine SW.dd 1 rfl (fun _=>Ev.aD (.mk rfl) qe) ?_;refine SW.dd 2 rfl (fun _=>Ev.cS (.mk rfl) eG trivial (by rfl)) ?_;refine SW.dd 3 rfl (fun _=>Ev.ll (.mk rfl) (.mk rfl) (by first|omega|(simp only[List.length_append,List.length_cons,List.length_nil];omega))) ?_;refine SW.dd 5 rfl (fun _=>Ev.aD (.mk rfl) nI) ?_;refine SW.dd 6 rfl (fun _=>Ev.cS (.mk rfl) bP trivial (by rfl)) ?_;refine SW.dd 10 rfl (fun _=>Ev.aD (.mk rfl) qf) ?_;refine SW.dd 11 rfl (fun _=>Ev.cS (.mk rfl) eG trivial (by rfl)) ?_;refine SW.bG (i:=4) (by kernel_rfl) rfl ?_;refine St.cn rfl (.cons (.mk rfl) (.cons (.mk rfl) (.cons (.mk rfl) (.cons (.mk rfl) (.cons (.mk rfl) .nil))))) lU Dh Px rfl rfl (by simp[Value.cells]) rfl rfl (fun WC=> ?_);refine St.bB (.slice (some ⟨WC,0,none⟩) 5 5) (show _=5 from rfl) (show _=rows ff [[],[42],[],[39],[46]]from rfl) ?_;refine St.nn ?_;refine SW.go ?_;refine SW.bG (i:=7) (by kernel_rfl) rfl ?_;refine St.ee (Ev.cN (k:=va.kind.toNat) (.mk rfl) (.mk rfl) lU Dh (by omega) (by omega)) ?_;refine St.nn ?_;refine SW.go ?_;refine SW.bG (i:=8) (by kernel_rfl) rfl ?_;refine St.ee (Ev.j2 (.mk rfl) eG trivial (by omega) (Cq (P2 lb Sh))) ?_;refine St.nn ?_;refine SW.go ?_;refine SW.dd 9 rfl (fun _=>Ev.ll (.mk rfl) (.mk rfl) (by first|omega|(simp only[List.length_append,List.length_cons,List.length_nil];omega))) ?_;refine SW.dd 12 rfl (fun _=>Ev.ll (.mk rfl) (.mk rfl) (by first|omega|(simp only[List.length_append,List.length_cons,List.length_nil];omega))) ?_;refine SW.slot 35 (sv (fc va)) rfl rfl ?_;refine SW.bG (i:=13) (by kernel_rfl) rfl ?_;refine St.cn rfl (.cons (.mk rfl) .nil) lU Dh Px rfl rfl (by simp[Value.cells]) rfl rfl (fun Ew=> ?_);refine St.nn ?_;refine SW.go ?_;refine SW.bG (i:=14) (by kernel_rfl) rfl ?_;refine St.cL (.mk rfl) (.mk rfl) lU Dh Px by9 (by simp[Value.oneCell',Value.cells]) (by omega) (by omega) rfl rfl rfl rfl (fun v37 acR=> ?_);refine St.bB v37 (show _=((q.vars.take (k+1)).map fc).length by rw[cF fc Sg];exact eg) (show _=rows ff ((q.vars.take (k+1)).map fc) by rw[cF fc Sg];exact th _ _) ?_;refine St.dm v37 (fun yr _=> ?_);refine St.nn ?_;refine SW.go ?_;refine SW.dd 15 rfl (fun _=>Ev.assign (.mk rfl)) ?_;refine SW.done (by kernel_rfl) ?_;refine St.aO (St.aA (St.rg ?_));refine St.ee Ev.a0 ?_;refine St.mv ?_;refine St.nn ?_;refine St.ji (k+1) v37 ⟨by omega,yr⟩
  ·try simp only[aC]at td
   rw[List.take_of_length_le (show q.vars.length≤k by omega)];refine St.exit (St.aI (St.aI (St.bM (St.aA (St.seq (St.sr ?_))))));refine St.ee (Ev.aD (.mk rfl) kB) ?_;refine St.ee (Ev.l0 (.mk rfl) jI) ?_;refine St.ee (Ev.au (.mk rfl) jI) ?_;refine St.mv ?_;refine St.nn (St.block ?_);refine St.bB z (show _=(q.vars.map fc++(q.aY.take 0).map (kh q.vars)).length by rw[List.take_zero,List.map_nil,List.append_nil]) (show _=rows ff (q.vars.map fc++(q.aY.take 0).map (kh q.vars)) by rw[List.take_zero,List.map_nil,List.append_nil]) ?_;refine St.my (ι:=Nat) (κ:=Value) (fun j z2 T=>(42,iv j)::(5,z2)::T) (fun j z2=>[row z2 9 1 (q.vars.map fc++(q.aY.take j).map (kh q.vars)).length (rows ff (q.vars.map fc++(q.aY.take j).map (kh q.vars))),ae b1 (.cells [q.vv.1,q.kv.1].toArray 36 (0,0)),ae b3 (.cells [iv 0,iv 0].toArray 42 (0,0)),aF (sl jH q.vv.1 q.vars),aF (sl gM q.kv.1 q.aY),aF (u8),aF (DP 0 us.1),aF (sl ff us.1 iE)]) (fun j z2=>j≤q.aY.length∧z2.oneCell'=true) (fun j z2=>q.aY.length-j) 0 z (aE.cons 1 rfl (aE.cons 2 rfl (aE.cons 3 rfl (aE.cons 40 rfl (aE.cons 41 rfl aE.nil))))) ⟨Nat.zero_le _,hz⟩ ?_;rintro j z2 ⟨hj,MP⟩;refine St.sr ?_;refine St.ee Ev.dz ?_;refine St.nn (St.seq ?_);refine St.cond _ rfl (fun BU=> ?_) (fun BU=> ?_)
   ·try simp only[aC]at BU
    obtain⟨l,hl⟩:=aQ (show j<q.aY.length by omega);obtain⟨g1,g5,a1,a2,b1,b2,_⟩:=hq.link l (List.mem_of_getElem? hl)
    have hga:=sH (vs:=q.vars) (show l.a.toNat<q.vars.length by omega)
    have hgb:=sH (vs:=q.vars) (show l.b.toNat<q.vars.length by omega)
    have W8:=(zX _ (List.mem_of_getElem? hga)).1
    have J1:=(zX _ (List.mem_of_getElem? hgb)).1
    have uO:=Ct l.kind.toNat
    have hgs:iE[l.kind.toNat]?=some (iE.getD l.kind.toNat []):=by rw[List.getD_eq_getElem?_getD,List.getElem?_eq_getElem (show l.kind.toNat<iE.length by show _<6;omega)];rfl
    have hs6:iE.length=6:=rfl
    have hIl:(q.vars.map fc++(q.aY.take j).map (kh q.vars)).length≤12:=by rw[List.length_append,List.length_map,List.length_map,List.length_take];omega
    refine St.skip (St.aA (St.seq (St.block (St.sr ?_))));refine St.ee (Ev.aR (k:=j) (.mk rfl) (.mk rfl) jI mA (by omega) (by omega)) ?_;refine St.ee (Ev.fg (.mk rfl) hl Fk trivial mA en.eq) ?_;refine St.alloc KF rfl (fun b9=> ?_);refine St.sA (.mk rfl) (.mk rfl) mA ?_ (h1:=(by simp only[List.all_cons,List.all_nil,Bool.and_true,Bool.and_eq_true];exact⟨rfl,rfl,rfl⟩));refine St.nn ?_;refine St.eK [row z2 9 1 (q.vars.map fc++(q.aY.take j).map (kh q.vars)).length (rows ff (q.vars.map fc++(q.aY.take j).map (kh q.vars)))] mixed (fun np ns=> ?_);refine SW.dd 0 rfl (fun _=>Ev.move (.mk rfl)) ?_;refine SW.dd 1 rfl (fun _=>Ev.aD (.mk rfl) im) ?_;refine SW.dd 2 rfl (fun _=>Ev.cS (.mk rfl) iJ trivial (by rfl)) ?_;refine SW.dd 3 rfl (fun _=>Ev.aD (.mk rfl) mB) ?_;refine SW.dd 4 rfl (fun _=>Ev.cS (.mk rfl) bP trivial (by rfl)) ?_;refine SW.dd 5 rfl (fun _=>Ev.aR (k:=l.a.toNat) (.mk rfl) (.mk rfl) iJ tV (by omega) (by omega)) ?_;refine SW.dd 6 rfl (fun _=>Ev.eR (.mk rfl) (by omega) qe) ?_;refine SW.dd 7 rfl (fun _=>Ev.fL (.mk rfl) hga eG trivial rfl) ?_;refine SW.dd 8 rfl (fun _=>Ev.Lv (.mk rfl) lU trivial) ?_;refine SW.dd 9 rfl (fun _=>Ev.aD (.mk rfl) tW) ?_;refine SW.dd 10 rfl (fun _=>Ev.cS (.mk rfl) bP trivial (by rfl)) ?_;refine SW.dd 11 rfl (fun _=>Ev.aR (k:=l.kind.toNat) (.mk rfl) (.mk rfl) lU Dh (by omega) (by omega)) ?_;refine SW.dd 12 rfl (fun _=>Ev.fL (.mk rfl) hgs eG trivial rfl) ?_;refine SW.dd 13 rfl (fun _=>Ev.ll (.mk rfl) (.mk rfl) (by first|omega|(simp only[List.length_append,List.length_cons,List.length_nil];omega))) ?_;refine SW.dd 14 rfl (fun _=>Ev.aD (.mk rfl) im) ?_;refine SW.dd 15 rfl (fun _=>Ev.cS (.mk rfl) iJ trivial (by rfl)) ?_;refine SW.dd 16 rfl (fun _=>Ev.aD (.mk rfl) mC) ?_;refine SW.dd 17 rfl (fun _=>Ev.cS (.mk rfl) bP trivial (by rfl)) ?_;refine SW.dd 18 rfl (fun _=>Ev.aR (k:=l.b.toNat) (.mk rfl) (.mk rfl) iJ tV (by omega) (by omega)) ?_;refine SW.dd 19 rfl (fun _=>Ev.eR (.mk rfl) (by omega) qe) ?_;refine SW.dd 20 rfl (fun _=>Ev.fL (.mk rfl) hgb eG trivial rfl) ?_;refine SW.dd 21 rfl (fun _=>Ev.ll (.mk rfl) (.mk rfl) (by first|omega|(simp only[List.length_append,List.length_cons,List.length_nil];omega))) ?_;refine SW.slot 67 (sv (kh q.vars l)) rfl rfl ?_;refine SW.bG (i:=22) (by kernel_rfl) rfl ?_;refine St.cn rfl (.cons (.mk rfl) .nil) lU Dh Px rfl rfl (by simp[Value.cells]) rfl rfl (fun b68=> ?_);refine St.nn ?_;refine SW.go ?_;refine SW.bG (i:=23) (by kernel_rfl) rfl ?_;refine St.cL (.mk rfl) (.mk rfl) lU Dh Px by9 (by simp[Value.oneCell',Value.cells]) (by omega) (by omega) rfl rfl rfl rfl (fun v69 acS=> ?_);refine St.bB v69 (show _=(q.vars.map fc++(q.aY.take (j+1)).map (kh q.vars)).length by rw[cF (kh q.vars) hl,←List.append_assoc];exact eg) (show _=rows ff (q.vars.map fc++(q.aY.take (j+1)).map (kh q.vars)) by rw[cF (kh q.vars) hl,←List.append_assoc];exact th _ _) ?_;refine St.dm v69 (fun H5 _=> ?_);refine St.nn ?_;refine SW.go ?_;refine SW.dd 24 rfl (fun _=>Ev.assign (.mk rfl)) ?_;refine SW.done (by kernel_rfl) ?_;refine St.aO (St.aA (St.rg ?_));refine St.ee Ev.a0 ?_;refine St.mv ?_;refine St.nn ?_;refine St.ji (j+1) v69 ⟨by omega,H5⟩
   ·try simp only[aC]at BU
    rw[List.take_of_length_le (show q.aY.length≤j by omega)]
    have hit:=wB hq
    have Da:=H4 hq
    refine St.exit (St.aI (St.aI (St.bM (St.aA (St.seq ?_)))));refine St.aU z2 ff (lG q.vars q.aY) rfl rfl (fun s hs=>by have:=hit.1 s hs;show s.length≤140737488351232;omega) ?_;refine St.rg ?_;refine St.mv ?_;refine St.ee (Ev.jo jB (EJ z2 (lG q.vars q.aY) [32] (by have e:(Lib.join (lG q.vars q.aY) [32]).length≤10000:=Da;omega) (by omega)) Yq (.cons (.mk rfl) (.cons (.mk rfl) .nil))) ?_;refine St.ee (Ev.build (ps:=[]) (aV.nil) (fun w=>fB w)) ?_;refine St.ar ?_;refine St.sA (.mk rfl) (.mk rfl) bC ?_;refine St.nn (St.ab ?_);refine St.rT [_,_] [] Tryz.results17 ⟨rfl,⟨⟨_,_,_,_,rfl,jm.mem,.inl ⟨⟨_,gF⟩,bC,rfl⟩⟩,trivial⟩⟩ ?_
    rw[Ka,hq0];rfl
end Go.Proofs.YtolmidffiegkaaaGreatDoor
