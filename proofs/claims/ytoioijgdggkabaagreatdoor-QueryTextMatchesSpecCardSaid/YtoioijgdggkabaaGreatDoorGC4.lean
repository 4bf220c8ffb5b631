/-
  Laws of walks through programs, and facts on grammars, trees and queries.
  Conditions: none.
-/
import Derived.Test.YtoioijgdggkabaaGreatDoorGC3
import Derived.Test.YtoioijgdggkabaaGreatDoorGC2
import Derived.Laws.Small
set_option linter.unusedVariables false
set_option linter.unusedSimpArgs false
set_option maxRecDepth 20000
namespace Go.Proofs.YtoioijgdggkabaaGreatDoor
open Go Go.J
theorem yO {nt nf nn:Int}{l:gF}{k:Nat}{t:M1}(ht:l[k]?=some t):df nt nf nn k (l.drop k)=if t.1<0∨nt≤t.1 then(3,(k:Int))else if(uc nf nn k (-1) t.2).1≠0 then uc nf nn k (-1) t.2 else df nt nf nn (k+1) (l.drop (k+1)):=by rw[bS ht,df]
theorem Aw {nt nf nn:Int}{l:gF}{k:Nat}(h:l.length≤k):df nt nf nn k (l.drop k)=(0,0):=by rw[List.drop_of_length_le h,df]
theorem DF {nf nn i z:Int}{l:List (Int×Int)}{q:Nat}{x:Int×Int}(hx:l[q]?=some x):uc nf nn i z (l.drop q)=if x.1<0∨nf≤x.1∨x.2<0∨nn≤x.2 then(3,i)else if x.1≤z then(13,i)else uc nf nn i x.1 (l.drop (q+1)):=by rw[bS hx,uc]
theorem Ge {nf nn i z:Int}{l:List (Int×Int)}{q:Nat}(h:l.length≤q):uc nf nn i z (l.drop q)=(0,0):=by rw[List.drop_of_length_le h,uc]
theorem pY (g:eM):(fM g).length=g.nodes.length:=List.length_map ..
theorem mS {g:eM}{k:Nat}{t:jK}(h:g.nodes[k]?=some t):(fM g)[k]?=some (r6 t):=by unfold fM;rw[List.getElem?_map,h];rfl
set_option maxHeartbeats 2000000 in
theorem yP (tv xv:dQ)(ts:List mq)(fs:List gH)(g:eM):de Tryz.prog 79 #[.agg #[tv.1,xv.1],eN g] [sl fh tv.1 ts,sl cV xv.1 fs,bz g] (fv (e8 ts.length fs.length (fM g))):=by
 refine de.Lc (args:=[.agg #[tv.1,xv.1],eN g]) 86 Tryz.func79 rfl Tryz.ntmps79 rfl (fun c=> ?_);refine St.seq ?_
 refine St.fP (bz g) (fun _:Unit=>py g) (fun ρ h=>⟨(),h⟩) fun _=> ?_
 refine St.cast (H':=[aE (sl gI g.nv.1 g.nodes),aE (au fD g.nodes),aE (sl fh tv.1 ts),aE (sl cV xv.1 fs),aE (bz g)]) rfl ?_;refine St.wf tv.1 (fun FR AR=> ?_);refine St.wf xv.1 (fun Wn Yy=> ?_);refine St.wf g.nv.1 (fun Sm FQ=> ?_)
 have JX:=pY g
 refine St.rg ?_;refine St.dS (.mk rfl) rfl (fun b2=> ?_);refine St.dS (.mk rfl) rfl (fun b3=> ?_);refine St.alloc dR rfl (fun b4=> ?_);refine St.nn (St.seq (St.sr ?_));refine St.ee (Ev.aD (.mk rfl) gw) ?_;refine St.ee (Ev.l0 (.mk rfl) gu) ?_;refine St.ee (Ev.bA (.mk rfl) gu) ?_;refine St.ee Ev.fE ?_;refine St.mv ?_;refine St.gf _ rfl rfl (fun hg=>Ev.aD (.mk rfl) gw) rfl ?_;refine St.gf _ rfl rfl (fun hg=>Ev.cY (aL.gv rfl hg) gu trivial (by rfl)) rfl ?_;refine St.gf _ rfl rfl (fun hg=>Ev.bA (aL.gv rfl hg) gu) rfl ?_;refine St.gf _ rfl rfl (fun hg=>Ev.gtr (aL.gv rfl hg) (.mk rfl)) rfl ?_;refine St.ee Ev.o0 ?_;refine St.nn ?_;refine St.cond _ rfl (fun gz=> ?_) (fun gz=> ?_)
 ·try simp only[aA]at gz
  have hf:e8 ts.length fs.length (fM g)=(2,-2):=by unfold e8;rw[if_pos (by omega)]
  refine St.sr ?_;refine St.ee (Ev.call (e5 2 (-2)) Ab (.cons (.mk rfl) (.cons (.mk rfl) .nil))) ?_;refine St.sA (.mk rfl) (.mk rfl) aR ?_;refine St.nn (St.ae (St.a8 ?_));refine St.rT [_] [] Tryz.results79 ⟨⟨_,_,_,_,rfl,c4.mem,.inl ⟨⟨_,bC⟩,aR,rfl⟩⟩,trivial⟩ ?_;exact congrArg fv hf.symm
 ·try simp only[aA]at gz
  have hf:e8 ts.length fs.length (fM g)=df ts.length fs.length g.nodes.length 0 (fM g):=by unfold e8;rw[if_neg (by omega),JX]
  refine St.skip (St.a7 (St.seq (St.sr ?_)));refine St.ee (Ev.aD (.mk rfl) gw) ?_;refine St.ee (Ev.l0 (.mk rfl) gu) ?_;refine St.ee (Ev.bA (.mk rfl) gu) ?_;refine St.mv ?_;refine St.nn (St.block ?_);refine St.lS (ι:=Nat) (fun k T=>(24,iv k)::T) (fun k=>k≤g.nodes.length∧e8 ts.length fs.length (fM g)=df ts.length fs.length g.nodes.length k ((fM g).drop k)) (fun k=>g.nodes.length-k) 0 (aG.cons 2 rfl (aG.cons 3 rfl (aG.cons 4 rfl (aG.cons 22 rfl (aG.cons 23 rfl aG.nil))))) ⟨Nat.zero_le _,hf⟩ ?_;intro k iQ;obtain⟨hk,hv⟩:=iQ;refine St.sr ?_;refine St.ee Ev.ez ?_;refine St.nn (St.seq ?_);refine St.cond _ rfl (fun qU=> ?_) (fun qU=> ?_)
  ·try simp only[aA]at qU
   obtain⟨t,ht⟩:=aY (show k<g.nodes.length by omega)
   have qM:=List.mem_of_getElem? ht
   refine St.dK fD g.nodes (x:=t) qM ?_;refine St.iJ (sl gB t.lv.1 t.aV) [fD t] (fun ρ h=>h _ (List.mem_cons_self ..)) ?_;refine St.wf t.lv.1 (fun zf wv=> ?_)
   have cq:=yO (nt:=ts.length) (nf:=fs.length) (nn:=g.nodes.length) (mS ht)
   rw[←hv]at cq;refine St.skip (St.a7 (St.seq (St.block (St.sr ?_))));refine St.mv ?_;refine St.ee (Ev.aa (k:=k) (.mk rfl) (.mk rfl) gu jO (by omega) (by omega)) ?_;refine St.ee (Ev.iH (.mk rfl) ht Tryz.underlying139 trivial jO fw.eq) ?_;refine St.alloc zS rfl (fun b6=> ?_);refine St.ao ?_;refine St.sA (.mk rfl) (.mk rfl) jO ?_ (h1:=(by simp only[List.all_cons,List.all_nil,Bool.and_true,Bool.and_eq_true];exact⟨rfl,t.lv.2⟩));refine St.nn (St.seq (St.sr ?_));refine St.ee (Ev.aD (.mk rfl) pW) ?_;refine St.ee (Ev.l0 (.mk rfl) bf) ?_;refine St.ee Ev.ez ?_;refine St.mv ?_;refine St.gf _ rfl rfl (fun hg=>Ev.aD (.mk rfl) pW) rfl ?_;refine St.gf _ rfl rfl (fun hg=>Ev.cY (aL.gv rfl hg) bf trivial (by rfl)) rfl ?_;refine St.gf _ rfl rfl (fun hg=>Ev.aD (.mk rfl) iy) rfl ?_;refine St.gf _ rfl rfl (fun hg=>Ev.cY (aL.gv rfl hg) gQ trivial (by rfl)) rfl ?_;refine St.gf _ rfl rfl (fun hg=>Ev.bA (aL.gv rfl hg) gQ) rfl ?_;refine St.gf _ rfl rfl (fun hg=>Ev.geq (aL.gv rfl hg) (aL.gv rfl hg)) rfl ?_;refine St.ee Ev.o0 ?_;refine St.nn ?_;refine St.cond _ rfl (fun pZ=> ?_) (fun pZ=> ?_)
   ·try simp only[aA]at pZ
    rw[if_pos (show(r6 t).1<0∨(ts.length:Int)≤(r6 t).1 from(by omega:t.type<0∨(ts.length:Int)≤t.type))]at cq;refine St.sr ?_;refine St.mv ?_;refine St.ee (Ev.call (e5 3 k) Ab (.cons (.mk rfl) (.cons (.mk rfl) .nil))) ?_;refine St.sA (.mk rfl) (.mk rfl) aR ?_;refine St.nn (St.ae (St.a8 (St.aN (St.a8 (St.a8 (St.aN (St.a8 ?_)))))));refine St.rT [_] [] Tryz.results79 ⟨⟨_,_,_,_,rfl,c4.mem,.inl ⟨⟨_,bC⟩,aR,rfl⟩⟩,trivial⟩ ?_;exact congrArg fv cq.symm
   ·try simp only[aA]at pZ
    rw[if_neg (show ¬((r6 t).1<0∨(ts.length:Int)≤(r6 t).1)from(by omega:¬(t.type<0∨(ts.length:Int)≤t.type)))]at cq;refine St.skip (St.a7 (St.sr ?_));refine St.ao ?_;refine St.nn (St.sr ?_);refine St.ee (Ev.aD (.mk rfl) jP) ?_;refine St.ee (Ev.l0 (.mk rfl) fW) ?_;refine St.ee (Ev.bA (.mk rfl) fW) ?_;refine St.mv ?_;refine St.nn (St.block ?_);refine St.pH (ι:=Nat) (κ:=Int) (fun q z T=>(45,iv q)::(7,iv z)::T) (fun q z=>[aE (sl gB t.lv.1 t.aV),aZ b4 (.cells [iv 0,iv 0].toArray 28 (0,0)),aZ b2 (.cells [tv.1,xv.1].toArray 47 (0,0)),aZ b3 (.cells [g.nv.1].toArray 52 (0,0)),aE (sl gI g.nv.1 g.nodes),aE (au fD g.nodes),aE (sl fh tv.1 ts),aE (sl cV xv.1 fs),aE (bz g)]) (fun q z=>q≤t.aV.length∧uc fs.length g.nodes.length k (-1) (r6 t).2=uc fs.length g.nodes.length k z ((t.aV.map jt).drop q)) (fun q z=>t.aV.length-q) 0 (-1) (aG.cons 2 rfl (aG.cons 3 rfl (aG.cons 4 rfl (aG.cons 5 rfl (aG.cons 22 rfl (aG.cons 23 rfl (aG.cons 24 rfl (aG.cons 43 rfl (aG.cons 44 rfl aG.nil))))))))) ⟨Nat.zero_le _,rfl⟩ ?_;rintro q z ⟨hq,vm⟩;refine St.sr ?_;refine St.ee Ev.ez ?_;refine St.nn (St.seq ?_);refine St.cond _ rfl (fun r8=> ?_) (fun r8=> ?_)
    ·try simp only[aA]at r8
     obtain⟨p,hp⟩:=aY (show q<t.aV.length by omega)
     have yE:=DF (nf:=fs.length) (nn:=g.nodes.length) (i:=k) (z:=z) (l:=t.aV.map jt) (q:=q) (x:=jt p) (by rw[List.getElem?_map,hp];rfl)
     refine St.skip (St.a7 (St.seq (St.block (St.sr ?_))));refine St.ee (Ev.aa (k:=q) (.mk rfl) (.mk rfl) fW gJ (by omega) (by omega)) ?_;refine St.ee (Ev.iH (.mk rfl) hp vR trivial gJ fw.eq) ?_;refine St.alloc zT rfl (fun b9=> ?_);refine St.sA (.mk rfl) (.mk rfl) gJ ?_ (h1:=(by simp only[List.all_cons,List.all_nil,Bool.and_true,Bool.and_eq_true];exact⟨rfl,rfl⟩));refine St.nn (St.seq (St.sr ?_));refine St.ee (Ev.aD (.mk rfl) lW) ?_;refine St.ee (Ev.l0 (.mk rfl) bf) ?_;refine St.ee Ev.ez ?_;refine St.mv ?_;refine St.gf _ rfl rfl (fun hg=>Ev.aD (.mk rfl) lW) rfl ?_;refine St.gf _ rfl rfl (fun hg=>Ev.cY (aL.gv rfl hg) bf trivial (by rfl)) rfl ?_;refine St.gf _ rfl rfl (fun hg=>Ev.aD (.mk rfl) o8) rfl ?_;refine St.gf _ rfl rfl (fun hg=>Ev.cY (aL.gv rfl hg) pI trivial (by rfl)) rfl ?_;refine St.gf _ rfl rfl (fun hg=>Ev.bA (aL.gv rfl hg) pI) rfl ?_;refine St.gf _ rfl rfl (fun hg=>Ev.geq (aL.gv rfl hg) (aL.gv rfl hg)) rfl ?_;refine St.ee Ev.o0 ?_;refine St.mv ?_;refine St.gf _ rfl rfl (fun hg=>Ev.aD (.mk rfl) kG) rfl ?_;refine St.gf _ rfl rfl (fun hg=>Ev.cY (aL.gv rfl hg) bf trivial (by rfl)) rfl ?_;refine St.gf _ rfl rfl (fun hg=>Ev.lss (aL.gv rfl hg) (.mk rfl)) rfl ?_;refine St.ee Ev.o0 ?_;refine St.mv ?_;refine St.gf _ rfl rfl (fun hg=>Ev.aD (.mk rfl) kG) rfl ?_;refine St.gf _ rfl rfl (fun hg=>Ev.cY (aL.gv rfl hg) bf trivial (by rfl)) rfl ?_;refine St.gf _ rfl rfl (fun hg=>Ev.aD (.mk rfl) gw) rfl ?_;refine St.gf _ rfl rfl (fun hg=>Ev.cY (aL.gv rfl hg) gu trivial (by rfl)) rfl ?_;refine St.gf _ rfl rfl (fun hg=>Ev.bA (aL.gv rfl hg) gu) rfl ?_;refine St.gf _ rfl rfl (fun hg=>Ev.geq (aL.gv rfl hg) (aL.gv rfl hg)) rfl ?_;refine St.ee Ev.o0 ?_;refine St.nn ?_;refine St.cond _ rfl (fun ue=> ?_) (fun ue=> ?_)
     ·try simp only[aA]at ue
      rw[if_pos (show(jt p).1<0∨(fs.length:Int)≤(jt p).1∨(jt p).2<0∨(g.nodes.length:Int)≤(jt p).2 from(by omega:p.dy<0∨(fs.length:Int)≤p.dy∨p.to<0∨(g.nodes.length:Int)≤p.to))]at yE;rw[vm,yE,if_pos (by show(3:Int)≠0;decide)]at cq;refine St.sr ?_;refine St.mv ?_;refine St.ee (Ev.call (e5 3 k) Ab (.cons (.mk rfl) (.cons (.mk rfl) .nil))) ?_;refine St.sA (.mk rfl) (.mk rfl) aR ?_;refine St.nn (St.ae (St.a8 (St.aN (St.a8 (St.a8 (St.aN (St.aN (St.a8 (St.a8 (St.aN (St.a8 ?_)))))))))));refine St.rT [_] [] Tryz.results79 ⟨⟨_,_,_,_,rfl,c4.mem,.inl ⟨⟨_,bC⟩,aR,rfl⟩⟩,trivial⟩ ?_;exact congrArg fv cq.symm
     ·try simp only[aA]at ue
      rw[if_neg (show ¬((jt p).1<0∨(fs.length:Int)≤(jt p).1∨(jt p).2<0∨(g.nodes.length:Int)≤(jt p).2)from(by omega:¬(p.dy<0∨(fs.length:Int)≤p.dy∨p.to<0∨(g.nodes.length:Int)≤p.to)))]at yE;refine St.skip (St.a7 (St.seq (St.sr ?_)));refine St.ee (Ev.aD (.mk rfl) lW) ?_;refine St.ee (Ev.l0 (.mk rfl) bf) ?_;refine St.mv ?_;refine St.ee Ev.Ju ?_;refine St.nn ?_;refine St.cond _ rfl (fun DG=> ?_) (fun DG=> ?_)
      ·try simp only[aA]at DG
       rw[if_pos (show(jt p).1≤z from(by omega:p.dy≤z))]at yE;rw[vm,yE,if_pos (by show(13:Int)≠0;decide)]at cq;refine St.sr ?_;refine St.mv ?_;refine St.ee (Ev.call (e5 13 k) Ab (.cons (.mk rfl) (.cons (.mk rfl) .nil))) ?_;refine St.sA (.mk rfl) (.mk rfl) aR ?_;refine St.nn (St.ae (St.a8 (St.aN (St.a8 (St.a8 (St.aN (St.aN (St.a8 (St.a8 (St.aN (St.a8 ?_)))))))))));refine St.rT [_] [] Tryz.results79 ⟨⟨_,_,_,_,rfl,c4.mem,.inl ⟨⟨_,bC⟩,aR,rfl⟩⟩,trivial⟩ ?_;exact congrArg fv cq.symm
      ·try simp only[aA]at DG
       rw[if_neg (show ¬(jt p).1≤z from(by omega:¬p.dy≤z))]at yE;refine St.skip (St.a7 (St.rg ?_));refine St.ee (Ev.aD (.mk rfl) lW) ?_;refine St.ee (Ev.l0 (.mk rfl) bf) ?_;refine St.ao ?_;refine St.nil (St.aW (St.a7 (St.rg ?_)));refine St.ee Ev.a0 ?_;refine St.mv ?_;refine St.nn ?_;refine St.ly (q+1) p.dy ⟨by omega,by rw[vm,yE];rfl⟩
    ·try simp only[aA]at r8
     rw[Ge (by rw[List.length_map];omega)]at vm;rw[if_neg (by rw[vm];decide)]at cq;refine St.exit (St.aJ (St.aJ (St.bO (St.aW (St.a7 (St.rg ?_))))));refine St.ee Ev.a0 ?_;refine St.mv ?_;refine St.nn ?_;refine St.aS (k+1) ⟨by omega,by rw[cq]⟩
  ·try simp only[aA]at qU
   rw[Aw (by omega)]at hv;refine St.exit (St.aJ (St.aJ (St.bO (St.a7 (St.sr ?_)))));refine St.ee (Ev.build (ps:=[]) (aQ.nil) (fun w=>fK w)) ?_;refine St.sA (.mk rfl) (.mk rfl) aR ?_;refine St.nn (St.ae ?_);refine St.rT [_] [] Tryz.results79 ⟨⟨_,_,_,_,rfl,c4.mem,.inl ⟨⟨_,bC⟩,aR,rfl⟩⟩,trivial⟩ ?_;exact congrArg fv hv.symm
theorem sS {M:List Bool}{k:Nat}{b:Bool}(h:M[k]?=some b):k9 (M.drop k)=if b=false then 0 else if k9 (M.drop (k+1))<0 then-1 else k9 (M.drop (k+1))+1:=by rw[bS h,k9]
theorem DH {M:List Bool}{k:Nat}(h:M.length≤k):k9 (M.drop k)= -1:=by rw[List.drop_of_length_le h,k9]
def j2 (M:List Bool)(k:Nat):Prop:=k9 M=if k9 (M.drop k)<0 then-1 else k9 (M.drop k)+k
theorem j2.nil (M:List Bool):j2 M 0:=by
 unfold j2;rw[List.drop_zero]
 have:∀M:List Bool,k9 M= -1∨0≤k9 M:=by
  intro M
  induction M with
  |nil=>left;rfl
  |cons b M ih=>
   rw[k9]
   split
   ·right;decide
   ·split
    ·left;rfl
    ·right;omega
 rcases this M with h|h
 ·rw[h];rfl
 ·rw[if_neg (by omega)];omega
theorem j2.step {M:List Bool}{k:Nat}(h:j2 M k)(hb:M[k]?=some true):j2 M (k+1):=by
 unfold j2 at h⊢
 have e1:=sS hb
 rw[if_neg (show ¬(true=false) by decide)]at e1
 by_cases e:k9 (M.drop (k+1))<0
 ·rw[if_pos e]at e1⊢
  rw[h,e1];rfl
 ·rw[if_neg e]at e1⊢
  rw[h,e1,if_neg (by omega)];omega
theorem j2.hit {M:List Bool}{k:Nat}(h:j2 M k)(hb:M[k]?=some false):k9 M=k:=by
 unfold j2 at h
 have e1:=sS hb
 rw[if_pos rfl]at e1
 rw[h,e1,if_neg (by decide)];omega
theorem j2.fin {M:List Bool}{k:Nat}(h:j2 M k)(hb:M.length≤k):k9 M= -1:=by
 unfold j2 at h
 rw[h,DH hb];rfl
def nM:Rp Bool:=⟨1,by decide,fun a=>[.bool a],fun _=>True,fun _=>rfl,fun x u h=>by rw[List.mem_singleton.1 h];rfl⟩
theorem kI (U:List Bool):rows nM U=U.map fun a=>Value.bool a:=by
 show U.flatMap (fun a=>[Value.bool a])=_
 induction U with
 |nil=>rfl
 |cons a U ih=>rw[List.flatMap_cons,ih];rfl
theorem DI {U:List Bool}{k:Nat}{a:Bool}(h:U[k]?=some a):(rows nM U)[k*1+0]?=some (.bool a):=by
 rw[kI,Nat.mul_one,Nat.add_zero,List.getElem?_map,h];rfl
theorem vq {U:List Bool}{k:Nat}{a:Bool}:(rows nM U).set (k*1+0) (.bool a)=rows nM (U.set k a):=by
 rw[kI,kI,Nat.mul_one,Nat.add_zero,List.map_set]
theorem DJ (n:Nat):List.replicate n (Value.bool false)=rows nM (List.replicate n false):=by rw[kI,List.map_replicate]
theorem yQ (u:Value)(M:List Bool):de Tryz.prog 98 #[u,.bool false] [sl nM u M] (iv (k9 M)):=by
 refine de.mf (args:=[u,.bool false]) 19 Tryz.func98 rfl Tryz.ntmps98 rfl (fun c=> ?_);refine St.seq ?_;refine St.wf u (fun huw D8=> ?_);refine St.rg ?_;refine St.ao ?_;refine St.nn (St.seq (St.sr ?_));refine St.mv ?_;refine St.ee (Ev.bA (.mk rfl) sJ) ?_;refine St.mv ?_;refine St.nn (St.block ?_);refine St.lS (ι:=Nat) (fun k T=>(8,iv k)::T) (fun k=>k≤M.length∧j2 M k) (fun k=>M.length-k) 0 (aG.cons 0 rfl (aG.cons 1 rfl (aG.cons 7 rfl aG.nil))) ⟨Nat.zero_le _,j2.nil M⟩ ?_;intro k iQ;obtain⟨hk,Sn⟩:=iQ;refine St.sr ?_;refine St.ee Ev.ez ?_;refine St.nn (St.seq ?_);refine St.cond _ rfl (fun h9=> ?_) (fun h9=> ?_)
 ·try simp only[aA]at h9
  obtain⟨b,hb⟩:=aY (show k<M.length by omega);refine St.skip (St.a7 (St.seq (St.block (St.sr ?_))));refine St.mv ?_;refine St.ao ?_;refine St.nn (St.sr ?_);refine St.mv ?_;refine St.mv ?_;refine St.mv ?_;refine St.ee (Ev.aa (k:=k) (.mk rfl) (.mk rfl) sJ Ia (by omega) (by omega)) ?_;refine St.ee (Ev.jA (.mk rfl) hb zR trivial rfl) ?_;refine St.ee (Ev.Fg (.mk rfl) (.mk rfl) zR) ?_;refine St.nn ?_;refine St.cond _ rfl (fun zg=> ?_) (fun zg=> ?_)
  ·skip
   have N2:M[k]?=some false:=by rw[hb];cases b;rfl;cases zg
   refine St.sr ?_;refine St.mv ?_;refine St.ao ?_;refine St.nn (St.ae (St.aN (St.a8 (St.a8 (St.aN (St.a8 ?_))))));refine St.rU [_] [] Tryz.results98 ?_;exact congrArg iv (Sn.hit N2).symm
  ·skip
   have LK:M[k]?=some true:=by rw[hb];cases b;cases zg;rfl
   refine St.skip (St.aW (St.a7 (St.rg ?_)));refine St.ee Ev.a0 ?_;refine St.mv ?_;refine St.nn ?_;refine St.aS (k+1) ⟨by omega,Sn.step LK⟩
 ·try simp only[aA]at h9
  refine St.exit (St.aJ (St.aJ (St.bO (St.a7 (St.sr ?_)))));refine St.ao ?_;refine St.nn (St.ae ?_);refine St.rU [_] [] Tryz.results98 ?_;exact congrArg iv (Sn.fin (by omega)).symm
abbrev jR (l:List Nat):List Int:=l.map fun i:Nat=>(i:Int)
theorem j3 (U:List Int):rows aF U=U.map fun a=>iv a:=by
 show U.flatMap (fun a=>[iv a])=_
 induction U with
 |nil=>rfl
 |cons a U ih=>rw[List.flatMap_cons,ih];rfl
theorem Ax {l:List Nat}{i:Nat}:(rows aF (jR (l++ [i])))[l.length*1+0]?=some (iv (i:Nat)):=by
 rw[j3,Nat.mul_one,Nat.add_zero,jR,List.map_map,List.getElem?_map,List.getElem?_append_right (Nat.le_refl _),Nat.sub_self];rfl
theorem DK {l:List Nat}{i:Nat}:(rows aF (jR (l++ [i]))).take (l.length*1)=rows aF (jR l):=by
 rw[j3,j3,Nat.mul_one,jR,jR,List.map_append,List.map_append];exact List.take_left' (by simp)
theorem Ay {l:List Nat}{p:Int}(h:0≤p):rows aF (jR l)++ [iv p]=rows aF (jR (l++ [p.toNat])):=by
 rw[j3,j3,jR,jR,List.map_append,List.map_append,List.map_cons,List.map_nil,List.map_cons,List.map_nil,Int.toNat_of_nonneg h]
theorem Gf {α:Type}{l:List α}(h:0<l.length):∃m x,l=m++ [x]:=by
 rcases List.eq_nil_or_concat l with rfl|⟨m,x,rfl⟩
 ·simp at h
 ·exact⟨m,x,by rw[List.concat_eq_append]⟩
set_option maxHeartbeats 2000000 in
theorem qV (g:eM)(hg:yN (fM g))(hn:g.nodes.length≤60):de Tryz.prog 82 #[eN g] [bz g] (iv (L9 (fM g))):=by
 refine de.mf (args:=[eN g]) 58 Tryz.func82 rfl Tryz.ntmps82 rfl (fun c=> ?_);refine St.seq ?_
 refine St.fP (bz g) (fun _:Unit=>py g) (fun ρ h=>⟨(),h⟩) fun _=> ?_
 refine St.cast (H':=[aE (sl gI g.nv.1 g.nodes),aE (au fD g.nodes),aE (bz g)]) rfl ?_
 have JX:=pY g
 have nh:0<g.nodes.length:=by have:=hg.1;omega
 refine St.rg ?_;refine St.dS (.mk rfl) rfl (fun b1=> ?_);refine St.ao ?_;refine St.nn (St.sr ?_);refine St.ee (Ev.aD (.mk rfl) gw) ?_;refine St.ee (Ev.l0 (.mk rfl) gu) ?_;refine St.ee (Ev.bA (.mk rfl) gu) ?_;refine St.gn (m:=g.nodes.length) (.mk rfl) (.mk rfl) sJ Ia Yf Yg rfl rfl (by omega) rfl rfl (fun mG=> ?_);refine St.bI (.slice (some ⟨mG,0,none⟩) g.nodes.length g.nodes.length) rfl (DJ _) ?_;refine St.ao ?_;refine St.nn (St.sr ?_);refine St.mv ?_;refine St.ee (Ev.dm (k:=0) (.mk rfl) (.mk rfl) sJ Ia (by omega) (by omega)) ?_;refine St.eP (.mk rfl) (.mk rfl) Ia rfl (by omega) (by decide) ?_;refine St.bI (.slice (some ⟨mG,0,none⟩) g.nodes.length g.nodes.length) rfl vq ?_;refine St.nn (St.seq (St.sr ?_));refine St.cS rfl (.cons (.mk rfl) .nil) bJ cu dx rfl rfl (by simp[Value.cells]) rfl rfl (fun r7=> ?_);refine St.bI (.slice (some ⟨r7,0,none⟩) 1 1) (show _=([0]:List Nat).length from rfl) (show _=rows aF (jR [0])from rfl) ?_;refine St.ao ?_;refine St.nn (St.block ?_);refine St.pH (ι:=Unit) (κ:=Value×List Nat×List Bool) (fun u z T=>(4,z.1)::T) (fun u z=>[row (.slice (some ⟨mG,0,none⟩) g.nodes.length g.nodes.length) 4 1 g.nodes.length (rows nM z.2.2),row z.1 3 1 (z.2.1).length (rows aF (jR (z.2.1))),aZ b1 (.cells [g.nv.1].toArray 52 (0,0)),aE (sl gI g.nv.1 g.nodes),aE (au fD g.nodes)]) (fun u z=>Gc (fM g) z.2.2 z.2.1∧g.nodes.length-kU z.2.2+z.2.1.length≤g.nodes.length+1) (fun u z=>g.nodes.length-kU z.2.2+z.2.1.length) () ((.slice (some ⟨r7,0,none⟩) 1 1),[0],(List.replicate g.nodes.length false).set 0 true) (aG.cons 1 rfl (aG.cons 2 rfl (aG.cons 3 rfl aG.nil))) ⟨by have:=Gc.start hg.1;rw[JX]at this;exact this,by show _-_+1≤_;omega⟩ ?_;rintro u ⟨vz,st,M⟩ ⟨hd,Z0⟩
 dsimp only at hd Z0⊢
 have hML:=hd.len
 refine St.seq (St.sr ?_);refine St.mv ?_;refine St.ee (Ev.gm (.mk rfl) bJ) ?_;refine St.ee Ev.vQ ?_;refine St.nn ?_;refine St.cond _ rfl (fun yR=> ?_) (fun yR=> ?_)
 ·try simp only[aA]at yR
  obtain⟨s0,i,rfl⟩:=Gf (show 0<st.length by omega)
  have AU:(s0++ [i]).length=s0.length+1:=by rw[List.length_append];rfl
  have hiM:=cg (hd.KE i (by simp))
  obtain⟨t,ht⟩:=aY (show i<g.nodes.length by omega)
  have qM:=List.mem_of_getElem? ht
  have Bd:(fM g).getD i sG=r6 t:=by rw[List.getD_eq_getElem?_getD,mS ht];rfl
  have LJ:=hd.pop
  refine St.dK fD g.nodes (x:=t) qM ?_;refine St.iJ (sl gB t.lv.1 t.aV) [fD t] (fun ρ h=>h _ (List.mem_cons_self ..)) ?_;refine St.wf t.lv.1 (fun zf wv=> ?_);refine St.skip (St.a7 (St.block (St.sr ?_)));refine St.mv ?_;refine St.mv ?_;refine St.ee (Ev.gm (.mk rfl) bJ) ?_;refine St.ee Ev.s0 ?_;refine St.ee (Ev.dm (k:=s0.length) (.mk rfl) (.mk rfl) bJ cu (by omega) (by omega)) ?_;refine St.ee (Ev.jn (.mk rfl) bf trivial (by omega) Ax) ?_;refine St.ao ?_;refine St.nn (St.sr ?_);refine St.mv ?_;refine St.mv ?_;refine St.ee (Ev.gm (.mk rfl) bJ) ?_;refine St.ee Ev.s0 ?_;refine St.ee (Ev.xP (h:=s0.length) (.mk rfl) (.mk rfl) bJ cu (by omega) (by omega)) ?_;refine St.Ja vz s0.length (by omega) ?_;refine St.bI (Fk vz 1 0 s0.length) rfl DK ?_;refine St.ao ?_;refine St.nn (St.sr ?_);refine St.ee (Ev.aD (.mk rfl) gw) ?_;refine St.ee (Ev.l0 (.mk rfl) gu) ?_;refine St.mv ?_;refine St.ee (Ev.aa (k:=i) (.mk rfl) (.mk rfl) gu jO (by omega) (by omega)) ?_;refine St.ee (Ev.eY (.mk rfl) (by omega) jP) ?_;refine St.ee (Ev.jA (.mk rfl) ht fW trivial rfl) ?_;refine St.ee (Ev.bA (.mk rfl) fW) ?_;refine St.mv ?_;refine St.nn (St.block ?_);refine St.pH (ι:=Nat) (κ:=Value×List Nat×List Bool) (fun q z T=>(36,iv q)::(4,z.1)::T) (fun q z=>[row (.slice (some ⟨mG,0,none⟩) g.nodes.length g.nodes.length) 4 1 g.nodes.length (rows nM z.2.2),row z.1 3 1 (z.2.1).length (rows aF (jR (z.2.1))),aZ b1 (.cells [g.nv.1].toArray 52 (0,0)),aE (sl gB t.lv.1 t.aV),aE (sl gI g.nv.1 g.nodes),aE (au fD g.nodes)]) (fun q z=>q≤t.aV.length∧mH (fM g) i q z.2.2 z.2.1∧g.nodes.length-kU z.2.2+z.2.1.length=g.nodes.length-kU M+s0.length) (fun q z=>t.aV.length-q) 0 (Fk vz 1 0 s0.length,s0,M) (aG.cons 1 rfl (aG.cons 2 rfl (aG.cons 3 rfl (aG.cons 34 rfl (aG.cons 35 rfl aG.nil))))) ⟨Nat.zero_le _,LJ,rfl⟩ ?_;rintro q ⟨wz,sw,W⟩ ⟨hq,qR,rn⟩
  dsimp only at qR rn⊢
  have hWL:=qR.len
  have hWm:=uI W
  refine St.sr ?_;refine St.ee Ev.ez ?_;refine St.nn (St.seq ?_);refine St.cond _ rfl (fun Ak=> ?_) (fun Ak=> ?_)
  ·try simp only[aA]at Ak
   obtain⟨p,hp⟩:=aY (show q<t.aV.length by omega)
   have FU:((fM g).getD i sG).2[q]?=some (jt p):=by rw[Bd];show(t.aV.map jt)[q]?=_;rw[List.getElem?_map,hp];rfl
   obtain⟨_,N3,Wp⟩:=hg.at_ (List.mem_of_getElem? FU)
   replace N3:0≤p.to:=N3
   replace Wp:p.to.toNat<(fM g).length:=Wp
   obtain⟨b,hb⟩:=aY (show p.to.toNat<W.length by omega);refine St.skip (St.a7 (St.seq (St.block (St.sr ?_))));refine St.ee (Ev.aa (k:=q) (.mk rfl) (.mk rfl) fW gJ (by omega) (by omega)) ?_;refine St.ee (Ev.iH (.mk rfl) hp vR trivial gJ fw.eq) ?_;refine St.alloc zT rfl (fun b7=> ?_);refine St.sA (.mk rfl) (.mk rfl) gJ ?_ (h1:=(by simp only[List.all_cons,List.all_nil,Bool.and_true,Bool.and_eq_true];exact⟨rfl,rfl⟩));refine St.nn (St.sr ?_);refine St.mv ?_;refine St.ee (Ev.aD (.mk rfl) kG) ?_;refine St.ee (Ev.l0 (.mk rfl) bf) ?_;refine St.ee (Ev.dm (k:=p.to.toNat) (.mk rfl) (.mk rfl) sJ Ia (by omega) (by omega)) ?_;refine St.ee (Ev.jn (.mk rfl) zR trivial (by omega) (DI hb)) ?_;refine St.ee (Ev.not (.mk rfl)) ?_;refine St.nn ?_;refine St.cond _ rfl (fun sM=> ?_) (fun sM=> ?_)
   ·skip
    have N2:W[p.to.toNat]?=some false:=by rw[hb];cases b;rfl;cases sM
    have Z1:=Gd N2
    have WL:=uI (W.set p.to.toNat true)
    rw[List.length_set]at WL
    have Fj:=qR.new hg FU
    refine St.sr ?_;refine St.mv ?_;refine St.ee (Ev.aD (.mk rfl) kG) ?_;refine St.ee (Ev.l0 (.mk rfl) bf) ?_;refine St.ee (Ev.dm (k:=p.to.toNat) (.mk rfl) (.mk rfl) sJ Ia (by omega) (by omega)) ?_;refine St.eP (.mk rfl) (.mk rfl) Ia rfl (by omega) (by decide) ?_;refine St.bI (.slice (some ⟨mG,0,none⟩) g.nodes.length g.nodes.length) rfl vq ?_;refine St.nn (St.rg ?_);refine St.mv ?_;refine St.ee (Ev.aD (.mk rfl) kG) ?_;refine St.ee (Ev.l0 (.mk rfl) bf) ?_;refine St.cS rfl (.cons (.mk rfl) .nil) bJ cu dx rfl rfl (by simp[Value.cells]) rfl rfl (fun So=> ?_);refine St.cT (.mk rfl) (.mk rfl) bJ cu dx Mi (by simp[Value.oneCell',Value.cells]) (by omega) (by omega) rfl rfl rfl rfl (fun Sp Z2=> ?_);refine St.bI Sp (show _=(sw++ [p.to.toNat]).length from eR) (show _=rows aF (jR (sw++ [p.to.toNat]))from Ay N3) ?_;refine St.ao ?_;refine St.nil (St.aW (St.a7 (St.rg ?_)));refine St.ee Ev.a0 ?_;refine St.mv ?_;refine St.nn ?_;refine St.ly (q+1) (Sp,sw++ [p.to.toNat],W.set p.to.toNat true) ⟨by omega,Fj,by rw[Z1,List.length_append];simp only[List.length_cons,List.length_nil];omega⟩
   ·skip
    have LK:W[p.to.toNat]?=some true:=by rw[hb];cases b;cases sM;rfl
    have hold:=qR.wi FU LK
    refine St.skip (St.aW (St.a7 (St.rg ?_)));refine St.ee Ev.a0 ?_;refine St.mv ?_;refine St.nn ?_;refine St.ly (q+1) (wz,sw,W) ⟨by omega,hold,rn⟩
  ·try simp only[aA]at Ak
   obtain rfl:q=t.aV.length:=by omega
   refine St.exit (St.aJ (St.aJ (St.bO (St.aW (St.a7 ?_)))));rw[show t.aV.length=((fM g).getD i sG).2.length by rw[Bd];exact(List.length_map _).symm]at qR;refine St.zE () (wz,sw,W) ⟨qR.done,by dsimp only;omega⟩ (by dsimp only;rw[List.length_append];simp only[List.length_cons,List.length_nil];omega) (by repeat(first|exact Sub.nil|refine Sub.cons (by first|rfl|exact congrArg (fun z=>some (iv z)) (by first|omega|(dsimp only;omega))|exact congrArg (fun z=>some (Value.bool z)) (by first|assumption|exact Eq.symm (by assumption))) ?_)) (fun _ hw=>hw.sub)
 ·try simp only[aA]at yR
  obtain rfl:st=[]:=List.eq_nil_of_length_eq_zero (by omega)
  have yS:=hd.fin hg
  refine St.aM (.slice (some ⟨mG,0,none⟩) g.nodes.length g.nodes.length) nM M rfl (by omega) (fun _ _=>trivial) ?_;refine St.exit (St.aJ (St.aJ (St.bO (St.a7 (St.sr ?_)))));refine St.mv ?_;refine St.ee (Ev.call (yQ (.slice (some ⟨mG,0,none⟩) g.nodes.length g.nodes.length) M) SV (.cons (.mk rfl) (.cons (.mk rfl) .nil))) ?_;refine St.ao ?_;refine St.nn (St.ae ?_);refine St.rU [_] [] Tryz.results82 ?_;exact congrArg iv (by rw[yS];rfl)
theorem DL {nf nn i:Int}:∀{l:List (Int×Int)} {z:Int},(uc nf nn i z l).1=0→∀x∈l,0≤x.1∧x.1<nf∧0≤x.2∧x.2<nn
 | [],_,_=>fun x hx=>by cases hx
 |y::l,z,h=>by
  rw[uc]at h
  by_cases h1:y.1<0∨nf≤y.1∨y.2<0∨nn≤y.2
  ·rw[if_pos h1]at h;exact absurd h (by simp)
  rw[if_neg h1]at h
  by_cases h2:y.1≤z
  ·rw[if_pos h2]at h;exact absurd h (by simp)
  rw[if_neg h2]at h;intro x hx
  rcases List.mem_cons.1 hx with rfl|hx
  ·omega
  ·exact DL h x hx
theorem nN {nt nf nn:Int}:∀{l:gF} {i:Nat},(df nt nf nn i l).1=0→∀n∈l,(0≤n.1∧n.1<nt)∧∀x∈n.2,0≤x.1∧x.1<nf∧0≤x.2∧x.2<nn
 | [],_,_=>fun x hx=>by cases hx
 |y::l,i,h=>by
  rw[df]at h
  by_cases h1:y.1<0∨nt≤y.1
  ·rw[if_pos h1]at h;exact absurd h (by simp)
  rw[if_neg h1]at h
  by_cases h2:(uc nf nn i (-1) y.2).1≠0
  ·rw[if_pos h2]at h;exact absurd h h2
  rw[if_neg h2]at h;intro x hx
  rcases List.mem_cons.1 hx with rfl|hx
  ·exact⟨by omega,DL (Decidable.not_not.1 h2)⟩
  ·exact nN h x hx
theorem qW {nt nf:Int}{g:gF}(h:(e8 nt nf g).1=0):0<g.length∧g.length≤60∧∀n∈g,(0≤n.1∧n.1<nt)∧∀x∈n.2,0≤x.1∧x.1<nf∧0≤x.2∧x.2<g.length:=by
 unfold e8 at h
 by_cases h1:g.length=0∨60<g.length
 ·rw[if_pos h1]at h;exact absurd h (by simp)
 rw[if_neg h1]at h;exact⟨by omega,by omega,nN h⟩
theorem DM {nt nf:Int}{g:gF}(h:(e8 nt nf g).1=0):yN g:=by
 obtain⟨h1,_,h3⟩:=qW h;exact⟨h1,fun n hn x hx=>by have:=(h3 n hn).2 x hx;omega⟩
theorem sU (w1 w2:dQ)(T:List dh)(hT:iR T)(i j:Int)(hi:0≤i∧i.toNat<T.length)(hj:0≤j∧j.toNat<T.length):de Tryz.prog 80 #[qQ w1 w2,iv i,iv j] [sl dU w1.1 (iz T),sl dU w2.1 (j0 T)] (.bool (eS T i.toNat j.toNat)):=by
 have:=D7 w1 w2 T hT i.toNat j.toNat hi.2 hj.2
 rw[Int.toNat_of_nonneg hi.1,Int.toNat_of_nonneg hj.1]at this;exact this
theorem DN {T:List dh}{Fs:List kR}{G:gF}{k:Nat}(hk:k<G.length)(h:mu T Fs G k=true)(hb:∀i,i<k→mu T Fs G i=false):im T Fs G=some k:=by
 unfold im;rw[List.find?_range_eq_some]
 exact⟨h,List.mem_range.2 hk,fun j hj=>by rw[hb j hj];rfl⟩
theorem DP {T:List dh}{Fs:List kR}{G:gF}(hb:∀i,i<G.length→mu T Fs G i=false):im T Fs G=none:=by
 unfold im;rw[List.find?_eq_none]
 intro b h;rw[hb b (List.mem_range.1 h)];decide
theorem sV {T:List dh}{Fs:List kR}{G:gF}(h:(e8 T.length Fs.length G).1≠0):cO T Fs G=e8 T.length Fs.length G:=by unfold cO;rw[if_pos h]
theorem Az {T:List dh}{Fs:List kR}{G:gF}{i:Nat}(h:¬(e8 T.length Fs.length G).1≠0)(h2:im T Fs G=some i):cO T Fs G=(12,(i:Int)):=by unfold cO;rw[if_neg h,h2]
theorem B0 {T:List dh}{Fs:List kR}{G:gF}(h:¬(e8 T.length Fs.length G).1≠0)(h2:im T Fs G=none):cO T Fs G=if 0≤L9 G then(5,L9 G)else(0,0):=by unfold cO;rw[if_neg h,h2]
set_option maxHeartbeats 2000000 in
theorem lD (tv xv w1 w2:dQ)(ts:List mq)(fs:List gH)(g:eM)(hT:iR (ts.map ck))(hF:∀f∈fs,0≤f.sD∧f.sD<ts.length∧0≤f.value∧f.value<ts.length):de Tryz.prog 58 #[.agg #[tv.1,xv.1],qQ w1 w2,eN g] [sl fh tv.1 ts,sl cV xv.1 fs,sl dU w1.1 (iz (ts.map ck)),sl dU w2.1 (j0 (ts.map ck)),bz g] (fv (cO (ts.map ck) (fs.map ey) (fM g))):=by
 refine de.Lv (args:=[.agg #[tv.1,xv.1],qQ w1 w2,eN g]) 74 Tryz.func58 rfl Tryz.ntmps58 rfl (fun c=> ?_);refine St.seq ?_
 refine St.fP (bz g) (fun _:Unit=>py g) (fun ρ h=>⟨(),h⟩) fun _=> ?_
 refine St.cast (H':=[aE (sl gI g.nv.1 g.nodes),aE (au fD g.nodes),aE (sl fh tv.1 ts),aE (sl cV xv.1 fs),aE (sl dU w1.1 (iz (ts.map ck))),aE (sl dU w2.1 (j0 (ts.map ck))),aE (bz g)]) rfl ?_
 have JX:=pY g
 have Ii:(ts.map ck).length=ts.length:=List.length_map ..
 have KD:(fs.map ey).length=fs.length:=List.length_map ..
 refine St.wf g.nv.1 (fun Sm FQ=> ?_);refine St.rg ?_;refine St.dS (.mk rfl) rfl (fun b3=> ?_);refine St.dS (.mk rfl) rfl (fun b4=> ?_);refine St.dS (.mk rfl) rfl (fun b5=> ?_);refine St.alloc dR rfl (fun b6=> ?_);refine St.nn (St.seq (St.sr ?_));refine St.ee (Ev.an (.mk rfl) rK trivial (by exact o9)) ?_;refine St.ee (Ev.an (.mk rfl) tr trivial (by exact qE)) ?_;refine St.ee (Ev.call (yP tv xv ts fs g) SX (.cons (.mk rfl) (.cons (.mk rfl) .nil))) ?_;refine St.alloc dR rfl (fun b7=> ?_);refine St.sA (.mk rfl) (.mk rfl) aR ?_;refine St.nn (St.sr ?_);refine St.ee (Ev.aD (.mk rfl) cW) ?_;refine St.ee (Ev.l0 (.mk rfl) bf) ?_;refine St.ee Ev.kz ?_;refine St.nn ?_;refine St.cond _ rfl (fun gz=> ?_) (fun gz=> ?_)
 ·skip
  have hb:(e8 (ts.map ck).length (fs.map ey).length (fM g)).1≠0:=by rw[Ii,KD];simpa using gz
  have rD:=sV hb
  rw[Ii,KD]at rD;refine St.sr ?_;refine St.ee (Ev.an (.mk rfl) bC trivial (by exact aR)) ?_;refine St.sA (.mk rfl) (.mk rfl) aR ?_;refine St.nn (St.ae (St.a8 ?_));refine St.rT [_] [] Tryz.results58 ⟨⟨_,_,_,_,rfl,c4.mem,.inl ⟨⟨_,bC⟩,aR,rfl⟩⟩,trivial⟩ ?_;exact congrArg fv rD.symm
 ·skip
  have hb:¬(e8 (ts.map ck).length (fs.map ey).length (fM g)).1≠0:=by rw[Ii,KD];simpa using gz
  have FU:=DM (Decidable.not_not.1 hb)
  obtain⟨WJ,Z3,zL⟩:=qW (Decidable.not_not.1 hb);refine St.skip (St.a7 (St.seq (St.sr ?_)));refine St.ee (Ev.aD (.mk rfl) gw) ?_;refine St.ee (Ev.l0 (.mk rfl) gu) ?_;refine St.ee (Ev.bA (.mk rfl) gu) ?_;refine St.mv ?_;refine St.nn (St.block ?_);refine St.lS (ι:=Nat) (fun k T=>(24,iv k)::T) (fun k=>k≤g.nodes.length∧∀i,i<k→mu (ts.map ck) (fs.map ey) (fM g) i=false) (fun k=>g.nodes.length-k) 0 (aG.cons 3 rfl (aG.cons 4 rfl (aG.cons 5 rfl (aG.cons 6 rfl (aG.cons 22 rfl (aG.cons 23 rfl aG.nil)))))) ⟨Nat.zero_le _,fun i hi=>absurd hi (by omega)⟩ ?_;intro k iQ;obtain⟨hk,Qp⟩:=iQ;refine St.sr ?_;refine St.ee Ev.ez ?_;refine St.nn (St.seq ?_);refine St.cond _ rfl (fun qU=> ?_) (fun qU=> ?_)
  ·try simp only[aA]at qU
   obtain⟨t,ht⟩:=aY (show k<g.nodes.length by omega)
   have qM:=List.mem_of_getElem? ht
   refine St.dK fD g.nodes (x:=t) qM ?_;refine St.iJ (sl gB t.lv.1 t.aV) [fD t] (fun ρ h=>h _ (List.mem_cons_self ..)) ?_;refine St.wf t.lv.1 (fun zf wv=> ?_)
   have Bd:(fM g).getD k sG=r6 t:=by rw[List.getD_eq_getElem?_getD,mS ht];rfl
   obtain⟨FJ,Sr⟩:=zL (r6 t) (List.mem_of_getElem? (mS ht))
   replace FJ:0≤t.type∧t.type<((ts.map ck).length:Int):=FJ
   refine St.skip (St.a7 (St.seq (St.block (St.sr ?_))));refine St.mv ?_;refine St.ee (Ev.aa (k:=k) (.mk rfl) (.mk rfl) gu jO (by omega) (by omega)) ?_;refine St.ee (Ev.iH (.mk rfl) ht Tryz.underlying139 trivial jO fw.eq) ?_;refine St.alloc zS rfl (fun b9=> ?_);refine St.ao ?_;refine St.sA (.mk rfl) (.mk rfl) jO ?_ (h1:=(by simp only[List.all_cons,List.all_nil,Bool.and_true,Bool.and_eq_true];exact⟨rfl,t.lv.2⟩));refine St.nn (St.sr ?_);refine St.ee (Ev.aD (.mk rfl) jP) ?_;refine St.ee (Ev.l0 (.mk rfl) fW) ?_;refine St.ee (Ev.bA (.mk rfl) fW) ?_;refine St.mv ?_;refine St.nn (St.block ?_);refine St.lS (ι:=Nat) (fun q T=>(32,iv q)::T) (fun q=>q≤t.aV.length∧∀j,j<q→∀x,(r6 t).2[j]?=some x→zK (ts.map ck) (fs.map ey) (fM g) t.type x=false) (fun q=>t.aV.length-q) 0 (aG.cons 3 rfl (aG.cons 4 rfl (aG.cons 5 rfl (aG.cons 6 rfl (aG.cons 8 rfl (aG.cons 9 rfl (aG.cons 22 rfl (aG.cons 23 rfl (aG.cons 24 rfl (aG.cons 30 rfl (aG.cons 31 rfl aG.nil))))))))))) ⟨Nat.zero_le _,fun j hj=>absurd hj (by omega)⟩ ?_;intro q iQ;obtain⟨hq,qR⟩:=iQ;refine St.sr ?_;refine St.ee Ev.ez ?_;refine St.nn (St.seq ?_);refine St.cond _ rfl (fun nZ=> ?_) (fun nZ=> ?_)
   ·try simp only[aA]at nZ
    obtain⟨p,hp⟩:=aY (show q<t.aV.length by omega)
    have KF:(r6 t).2[q]?=some (jt p):=by show(t.aV.map jt)[q]?=_;rw[List.getElem?_map,hp];rfl
    have Ss:=Sr (jt p) (List.mem_of_getElem? KF)
    replace Ss:0≤p.dy∧p.dy<((fs.map ey).length:Int)∧0≤p.to∧p.to<((fM g).length:Int):=Ss
    obtain⟨fe,Su⟩:=aY (show p.dy.toNat<fs.length by omega);obtain⟨u,hu⟩:=aY (show p.to.toNat<g.nodes.length by omega)
    have hfo:=hF fe (List.mem_of_getElem? Su)
    have Wq:=(zL (r6 u) (List.mem_of_getElem? (mS hu))).1
    replace Wq:0≤u.type∧u.type<((ts.map ck).length:Int):=Wq
    have n5:(!eS (ts.map ck) t.type.toNat fe.sD.toNat|| !eS (ts.map ck) u.type.toNat fe.value.toNat)=zK (ts.map ck) (fs.map ey) (fM g) t.type (jt p):=by
     unfold zK
     rw[show(jt p).1=p.dy from rfl,show(jt p).2=p.to from rfl,List.getD_eq_getElem?_getD,List.getElem?_map,Su,List.getD_eq_getElem?_getD,mS hu];rfl
    refine St.skip (St.a7 (St.seq (St.block (St.sr ?_))));refine St.ee (Ev.aa (k:=q) (.mk rfl) (.mk rfl) fW gJ (by omega) (by omega)) ?_;refine St.ee (Ev.iH (.mk rfl) hp vR trivial gJ fw.eq) ?_;refine St.alloc zT rfl (fun mG=> ?_);refine St.sA (.mk rfl) (.mk rfl) gJ ?_ (h1:=(by simp only[List.all_cons,List.all_nil,Bool.and_true,Bool.and_eq_true];exact⟨rfl,rfl⟩));refine St.nn (St.sr ?_);refine St.ee (Ev.aD (.mk rfl) o8) ?_;refine St.ee (Ev.l0 (.mk rfl) pI) ?_;refine St.ee (Ev.aD (.mk rfl) lW) ?_;refine St.ee (Ev.l0 (.mk rfl) bf) ?_;refine St.ee (Ev.aa (k:=p.dy.toNat) (.mk rfl) (.mk rfl) pI xj (by omega) (by omega)) ?_;refine St.ee (Ev.iH (.mk rfl) Su Tryz.underlying91 trivial xj fw.eq) ?_;refine St.alloc Jz rfl (fun Ij=> ?_);refine St.sA (.mk rfl) (.mk rfl) xj ?_ (h1:=(by simp only[List.all_cons,List.all_nil,Bool.and_true,Bool.and_eq_true];exact⟨rfl,rfl,rfl⟩));refine St.nn (St.seq ?_);refine St.rq mixed (by kernel_rfl) (Mm.drawn _ _) ?_;refine Sq.ee (Ev.an (.mk rfl) mA trivial (by exact gD)) ?_;refine Sq.ee (Ev.aD (.mk rfl) pW) ?_;refine Sq.ee (Ev.l0 (.mk rfl) bf) ?_;refine Sq.ee (Ev.aD (.mk rfl) xo) ?_;refine Sq.ee (Ev.l0 (.mk rfl) bf) ?_;refine Sq.ee (Ev.call (sU w1 w2 (ts.map ck) hT t.type fe.sD ⟨by omega,by omega⟩ ⟨by omega,by omega⟩) Mj (.cons (.mk rfl) (.cons (.mk rfl) (.cons (.mk rfl) .nil)))) ?_;refine Sq.ee (Ev.not (.mk rfl)) ?_;refine Sq.ee (Ev.move (.mk rfl)) ?_;refine Sq.gf _ rfl rfl (fun hg=>Ev.an (.mk rfl) mA trivial (by exact gD)) rfl ?_;refine Sq.gf _ rfl rfl (fun hg=>Ev.aD (.mk rfl) gw) rfl ?_;refine Sq.gf _ rfl rfl (fun hg=>Ev.cY (aL.gv rfl hg) gu trivial (by rfl)) rfl ?_;refine Sq.gf _ rfl rfl (fun hg=>Ev.aD (.mk rfl) kG) rfl ?_;refine Sq.gf _ rfl rfl (fun hg=>Ev.cY (aL.gv rfl hg) bf trivial (by rfl)) rfl ?_;refine Sq.gf _ rfl rfl (fun hg=>Ev.aa (k:=p.to.toNat) (aL.gv rfl hg) (aL.gv rfl hg) gu jO (by first|omega|(simp only[aA]at hg;omega)) (by first|omega|(simp only[aA]at hg;omega))) rfl ?_;refine Sq.gf _ rfl rfl (fun hg=>Ev.eY (aL.gv rfl hg) (by first|omega|(simp only[aA]at hg;omega)) pW) rfl ?_;refine Sq.gf _ rfl rfl (fun hg=>Ev.jA (aL.gv rfl hg) hu bf trivial rfl) rfl ?_;refine Sq.gf _ rfl rfl (fun hg=>Ev.aD (.mk rfl) xu) rfl ?_;refine Sq.gf _ rfl rfl (fun hg=>Ev.cY (aL.gv rfl hg) bf trivial (by rfl)) rfl ?_;refine Sq.gf _ rfl rfl (fun hg=>Ev.call (sU w1 w2 (ts.map ck) hT u.type fe.value ⟨by omega,by omega⟩ ⟨by omega,by omega⟩) Mj (.cons (aL.gv rfl hg) (.cons (aL.gv rfl hg) (.cons (aL.gv rfl hg) .nil)))) rfl ?_;refine Sq.gf _ rfl rfl (fun hg=>Ev.not (aL.gv rfl hg)) rfl ?_;refine Sq.ee Ev.o0 ?_;refine Sq.nil ?_;refine St.a7 ?_;refine St.cond _ rfl (fun qP=> ?_) (fun qP=> ?_)
    ·skip
     rw[n5]at qP
     have Qx:mu (ts.map ck) (fs.map ey) (fM g) k=true:=by unfold mu;rw[Bd,List.any_eq_true];exact⟨jt p,List.mem_of_getElem? KF,qP⟩
     have rD:=Az hb (DN (by omega) Qx Qp)
     refine St.sr ?_;refine St.mv ?_;refine St.ee (Ev.call (e5 12 k) Ab (.cons (.mk rfl) (.cons (.mk rfl) .nil))) ?_;refine St.sA (.mk rfl) (.mk rfl) aR ?_;refine St.nn (St.ae (St.aN (St.a8 (St.a8 (St.aN (St.aN (St.a8 (St.a8 (St.aN (St.a8 ?_))))))))));refine St.rT [_] [] Tryz.results58 ⟨⟨_,_,_,_,rfl,c4.mem,.inl ⟨⟨_,bC⟩,aR,rfl⟩⟩,trivial⟩ ?_;exact congrArg fv rD.symm
    ·skip
     rw[n5]at qP;refine St.skip (St.aW (St.a7 (St.rg ?_)));refine St.ee Ev.a0 ?_;refine St.mv ?_;refine St.nn ?_;refine St.aS (q+1) ⟨by omega,fun j hj x hx=>by rcases Nat.lt_or_ge j q with h|h;exact qR j h x hx;rw[show j=q by omega,KF]at hx;cases hx;exact qP⟩
   ·try simp only[aA]at nZ
    refine St.exit (St.aJ (St.aJ (St.bO (St.aW (St.a7 (St.rg ?_))))));refine St.ee Ev.a0 ?_;refine St.mv ?_;refine St.nn ?_
    have Qx:mu (ts.map ck) (fs.map ey) (fM g) k=false:=by
     unfold mu;rw[Bd,List.any_eq_false]
     intro x hx;obtain⟨j,hj⟩:=List.getElem?_of_mem hx
     rw[show(r6 t).1=t.type from rfl,qR j (by have:=cg hj;rw[show(r6 t).2.length=t.aV.length from List.length_map _]at this;omega) x hj];decide
    refine St.aS (k+1) ⟨by omega,fun i hi=>by rcases Nat.lt_or_ge i k with h|h;exact Qp i h;rw[show i=k by omega];exact Qx⟩
  ·try simp only[aA]at qU
   have rD:=B0 hb (DP (by rw[JX];intro i hi;exact Qp i (by omega)))
   refine St.exit (St.aJ (St.aJ (St.bO (St.a7 (St.seq (St.sr ?_))))));refine St.ee (Ev.an (.mk rfl) tr trivial (by exact qE)) ?_;refine St.ee (Ev.call (qV g FU (by omega)) SY (.cons (.mk rfl) .nil)) ?_;refine St.ao ?_;refine St.nn (St.sr ?_);refine St.mv ?_;refine St.ee Ev.xi ?_;refine St.nn ?_;refine St.cond _ rfl (fun sN=> ?_) (fun sN=> ?_)
   ·try simp only[aA]at sN
    rw[if_pos (by omega)]at rD;refine St.sr ?_;refine St.mv ?_;refine St.ee (Ev.call (e5 5 (L9 (fM g))) Ab (.cons (.mk rfl) (.cons (.mk rfl) .nil))) ?_;refine St.sA (.mk rfl) (.mk rfl) aR ?_;refine St.nn (St.ae (St.a8 ?_));refine St.rT [_] [] Tryz.results58 ⟨⟨_,_,_,_,rfl,c4.mem,.inl ⟨⟨_,bC⟩,aR,rfl⟩⟩,trivial⟩ ?_;exact congrArg fv rD.symm
   ·try simp only[aA]at sN
    rw[if_neg (by omega)]at rD;refine St.skip (St.a7 (St.sr ?_));refine St.ee (Ev.build (ps:=[]) (aQ.nil) (fun w=>fK w)) ?_;refine St.sA (.mk rfl) (.mk rfl) aR ?_;refine St.nn (St.ae ?_);refine St.rT [_] [] Tryz.results58 ⟨⟨_,_,_,_,rfl,c4.mem,.inl ⟨⟨_,bC⟩,aR,rfl⟩⟩,trivial⟩ ?_;exact congrArg fv rD.symm
def qX (a b:Int):Int:=if a<b then-1 else if b<a then 1 else 0
def Asc (l:List fp):Prop:=∀(i j:Nat) (x y:fp),i<j→l[i]?=some x→l[j]?=some y→x.dy<y.dy
def N4 (l:List fp)(k:Int)(v:Value):Prop:=∃(i:Nat) (b:Bool),v= .tuple #[iv i,.bool b]∧(b=true→∃x,l[i]?=some x∧x.dy=k)∧(b=false→∀x∈l,x.dy≠k)
theorem qY (x:Int):de Tryz.prog 113 #[iv x] [] (.bool false):=by
 refine de.iZ (args:=[iv x]) 6 Tryz.func113 rfl Tryz.ntmps113 rfl (fun c=> ?_);refine St.sr ?_;refine St.ao ?_;refine St.nn (St.sr ?_);refine St.mv ?_;refine St.mv ?_;refine St.ee Ev.kz ?_;refine St.ao ?_;refine St.nn (St.ae ?_);refine St.rU [_] [] Tryz.results113 ?_;exact be (by simp)
theorem uJ (x y:Int):de Tryz.prog 108 #[iv x,iv y] [] (iv (qX x y)):=by
 refine de.iZ (args:=[iv x,iv y]) 20 Tryz.func108 rfl Tryz.ntmps108 rfl (fun c=> ?_);refine St.sr ?_;refine St.ao ?_;refine St.nn (St.sr ?_);refine St.mv ?_;refine St.ee (Ev.call (qY x) Ib (.cons (.mk rfl) .nil)) ?_;refine St.ao ?_;refine St.nn (St.sr ?_);refine St.mv ?_;refine St.ee (Ev.call (qY y) Ib (.cons (.mk rfl) .nil)) ?_;refine St.ao ?_;refine St.nn (St.seq (St.sr ?_));refine St.mv ?_;refine St.nn ?_;refine St.ph _ rfl rfl ?_;refine St.skip (St.a7 (St.seq (St.sr ?_)));refine St.mv ?_;refine St.nn ?_;refine St.ph _ rfl rfl ?_;refine St.skip (St.a7 (St.seq (St.sr ?_)));refine St.mv ?_;refine St.mv ?_;refine St.ee Ev.ez ?_;refine St.nn ?_;refine St.cond _ rfl (fun zg=> ?_) (fun zg=> ?_)
 ·try simp only[aA]at zg
  refine St.sr ?_;refine St.ao ?_;refine St.nn (St.ae (St.a8 ?_));refine St.rU [_] [] Tryz.results108 ?_;exact ie (by unfold qX;rw[if_pos zg])
 ·try simp only[aA]at zg
  refine St.skip (St.a7 (St.seq (St.sr ?_)));refine St.mv ?_;refine St.mv ?_;refine St.ee Ev.vQ ?_;refine St.nn ?_;refine St.cond _ rfl (fun gz=> ?_) (fun gz=> ?_)
  ·try simp only[aA]at gz
   refine St.sr ?_;refine St.ao ?_;refine St.nn (St.ae (St.a8 ?_));refine St.rU [_] [] Tryz.results108 ?_;exact ie (by unfold qX;rw[if_neg (by omega),if_pos (by omega)])
  ·try simp only[aA]at gz
   refine St.skip (St.a7 (St.sr ?_));refine St.ao ?_;refine St.nn (St.ae ?_);refine St.rU [_] [] Tryz.results108 ?_;exact ie (by unfold qX;rw[if_neg (by omega),if_neg (by omega)])
theorem nO (x:fp)(k:Int):de Tryz.prog 107 ([Value.agg #[iv x.dy,iv x.to],iv k]++ []).toArray [] (iv (qX x.dy k)):=by
 refine de.iZ (args:=[Value.agg #[iv x.dy,iv x.to],iv k]++ []) 9 Tryz.func107 rfl Tryz.ntmps107 rfl (fun c=> ?_);refine St.sr ?_;refine St.dS (.mk rfl) rfl (fun b2=> ?_);refine St.ao ?_;refine St.nn (St.sr ?_);refine St.ee (Ev.aD (.mk rfl) lW) ?_;refine St.ee (Ev.l0 (.mk rfl) bf) ?_;refine St.mv ?_;refine St.ee (Ev.call (uJ x.dy k) Mk (.cons (.mk rfl) (.cons (.mk rfl) .nil))) ?_;refine St.ao ?_;refine St.nn (St.ae ?_);refine St.rU [_] [] Tryz.results107 ?_;rfl
set_option maxHeartbeats 1000000 in
theorem DQ (u:Value)(l:List fp)(k:Int)(ha:Asc l)(hl:l.length≤1000000):eI Tryz.prog 106 #[u,iv k,.func (.func 107) #[] #[]] ([sl gB u l].map aE) (fun v H'=>N4 l k v∧H'=[]):=by
 refine eI.body (args:=[u,iv k,.func (.func 107) #[] #[]]) 49 Tryz.func106 rfl Tryz.ntmps106 rfl (fun c=> ?_);refine St.cast (H':=[aE (sl gB u l)]) rfl ?_;refine St.sr ?_;refine St.ao ?_;refine St.ao ?_;refine St.nn (St.sr ?_);refine St.mv ?_;refine St.ee (Ev.bA (.mk rfl) fW) ?_;refine St.ao ?_;refine St.nn (St.sr ?_);refine St.mv ?_;refine St.ao ?_;refine St.ao ?_;refine St.nn (St.seq (St.block ?_));refine St.lS (ι:=Nat×Nat) (fun x T=>(9,iv x.1)::(10,iv x.2)::T) (fun x=>x.1≤x.2∧x.2≤l.length∧(∀j y,j<x.1→l[j]?=some y→y.dy<k)∧(∀j y,x.2≤j→l[j]?=some y→k≤y.dy)) (fun x=>x.2-x.1) (0,l.length) (aG.cons 0 rfl (aG.cons 1 rfl (aG.cons 2 rfl (aG.cons 6 rfl (aG.cons 7 rfl (aG.cons 8 rfl aG.nil)))))) ⟨Nat.zero_le _,Nat.le_refl _,fun j y hj=>absurd hj (Nat.not_lt_zero j),fun j y hj h=>by have:=cg h;omega⟩ ?_;rintro ⟨i,j⟩ ⟨pQ,I5,B1,oI⟩
 dsimp only at pQ I5 B1 oI⊢
 refine St.seq (St.sr ?_);refine St.mv ?_;refine St.mv ?_;refine St.ee Ev.ez ?_;refine St.nn ?_;refine St.cond _ rfl (fun yR=> ?_) (fun yR=> ?_)
 ·try simp only[aA]at yR
  have AF:i≤(i+j)/2:=by omega
  have rn:(i+j)/2<j:=by omega
  obtain⟨y,hy⟩:=aY (show(i+j)/2<l.length by omega);refine St.skip (St.a7 (St.block (St.sr ?_)));refine St.mv ?_;refine St.mv ?_;refine St.ee Ev.a0 ?_;refine St.ee (Ev.Jf ((i+j)) (.mk rfl) (by rw[bf];rfl) vS (by omega)) ?_;refine St.ee (Ev.Je 1 2 (by decide) (.mk rfl) (.mk rfl) (by decide)) ?_;refine St.ee (Ev.Jg (.mk rfl) (by rw[vS];rfl) bf (by omega)) ?_;refine St.ao ?_;refine St.nn (St.sr ?_);refine St.mv ?_;refine St.mv ?_;refine St.mv ?_;refine St.ee (Ev.aa (k:=((i+j)/2)) (.mk rfl) (.mk rfl) fW gJ (by omega) (by omega)) ?_;refine St.ee (Ev.iH (.mk rfl) hy vR trivial gJ fw.eq) ?_;refine St.mv ?_;refine St.ee (Ev.cp (nO y k) Ic (.mk rfl) (.cons (.mk rfl) (.cons (.mk rfl) .nil))) ?_;refine St.ee Ev.ez ?_;refine St.nn ?_;refine St.cond _ rfl (fun pX=> ?_) (fun pX=> ?_)
  ·try simp only[aA]at pX
   have Gg:y.dy<k:=by unfold qX at pX;split at pX<;>first|assumption|(split at pX<;>omega)
   refine St.rg ?_;refine St.mv ?_;refine St.ee Ev.a0 ?_;refine St.ao ?_;refine St.nil (St.aW (St.a7 ?_));refine St.aS ((i+j)/2+1,j) ⟨by show(i+j)/2+1≤j;omega,I5,fun q z hq hz=>by rcases Nat.lt_or_ge q ((i+j)/2)with g|g;exact Int.lt_trans (ha _ _ _ _ g hz hy) Gg;rw[show q=(i+j)/2 from Nat.le_antisymm (Nat.le_of_lt_succ hq) g,hy]at hz;cases hz;exact Gg,oI⟩
  ·try simp only[aA]at pX
   have Gg:k≤y.dy:=by unfold qX at pX;split at pX<;>omega
   refine St.rg ?_;refine St.mv ?_;refine St.ao ?_;refine St.nil (St.aW (St.a7 ?_));refine St.aS (i,(i+j)/2) ⟨AF,by show(i+j)/2≤l.length;omega,B1,fun q z hq hz=>by rcases Nat.lt_or_ge ((i+j)/2) q with g|g;exact Int.le_trans Gg (Int.le_of_lt (ha _ _ _ _ g hy hz));rw[show q=(i+j)/2 from Nat.le_antisymm g hq,hy]at hz;cases hz;exact Gg⟩
 ·try simp only[aA]at yR
  have Ql:i=j:=by omega
  subst Ql;refine St.exit (St.aJ (St.aJ (St.bO (St.a7 (St.sr ?_)))));refine St.mv ?_;refine St.mv ?_;refine St.mv ?_;refine St.ee Ev.ez ?_;refine St.split 38 _ rfl (fun KG=> ?_) (fun KG=> ?_)
  ·have Wr:i<l.length:=by simpa using KG
   obtain⟨y,hy⟩:=aY Wr;refine St.mv ?_;refine St.bh rfl rfl ?_;refine St.mv ?_;refine St.bh rfl rfl ?_;refine St.mv ?_;refine St.bh rfl rfl ?_;refine St.mv ?_;refine St.bh rfl rfl ?_;refine St.ee (Ev.aa (k:=i) (.mk rfl) (.mk rfl) fW gJ (by omega) (by omega)) ?_;refine St.bh rfl rfl ?_;refine St.ee (Ev.iH (.mk rfl) hy vR trivial gJ fw.eq) ?_;refine St.bh rfl rfl ?_;refine St.mv ?_;refine St.bh rfl rfl ?_;refine St.ee (Ev.cp (nO y k) Ic (.mk rfl) (.cons (.mk rfl) (.cons (.mk rfl) .nil))) ?_;refine St.bh rfl rfl ?_;refine St.ee Ev.fE ?_;refine St.split 47 _ rfl (fun KH=> ?_) (fun KH=> ?_)
   ·refine St.ee (Ev.eQ (.mk rfl) rfl (.mk rfl)) ?_
    refine St.ao ?_;refine St.ao ?_;refine St.nn (St.ae ?_);refine St.rT [_,_] [] Tryz.results106 ⟨rfl,⟨rfl,trivial⟩⟩ ?_
    have hc:qX y.dy k=0:=by simpa using KH
    have Gg:y.dy=k:=by unfold qX at hc;split at hc;cases hc;split at hc;cases hc;omega
    exact⟨⟨i,true,rfl,fun _=>⟨y,hy,Gg⟩,fun h=>(by cases h)⟩,rfl⟩
   ·refine St.ee (Ev.eQ (.mk rfl) rfl (.mk rfl)) ?_
    refine St.ao ?_;refine St.ao ?_;refine St.nn (St.ae ?_);refine St.rT [_,_] [] Tryz.results106 ⟨rfl,⟨rfl,trivial⟩⟩ ?_
    have hc:qX y.dy k≠0:=by simpa using KH
    have Gg:y.dy≠k:=fun e=>hc (by unfold qX;rw[if_neg (by omega),if_neg (by omega)])
    have LI:=oI i y (Nat.le_refl _) hy
    exact⟨⟨i,false,rfl,fun h=>(by cases h),fun _ z hz=>by obtain⟨q,hq⟩:=List.getElem?_of_mem hz;rcases Nat.lt_trichotomy q i with g|g|g;have:=B1 q z g hq;omega;rw[g,hy]at hq;cases hq;exact Gg;have:=ha _ _ _ _ g hy hq;omega⟩,rfl⟩
  ·have Wr:l.length≤i:=by simpa using KG
   refine St.mv ?_;refine St.oX rfl rfl rfl ?_;refine St.oX rfl rfl rfl ?_;refine St.oX rfl rfl rfl ?_;refine St.oX rfl rfl rfl ?_;refine St.oX rfl rfl rfl ?_;refine St.oX rfl rfl rfl ?_;refine St.oX rfl rfl rfl ?_;refine St.oX rfl rfl rfl ?_;refine St.ee (Ev.uz (.mk rfl) rfl (.mk rfl)) ?_;refine St.ao ?_;refine St.ao ?_;refine St.nn (St.ae ?_);refine St.rT [_,_] [] Tryz.results106 ⟨rfl,⟨rfl,trivial⟩⟩ ?_;exact⟨⟨i,false,rfl,fun h=>(by cases h),fun _ z hz=>by obtain⟨q,hq⟩:=List.getElem?_of_mem hz;have h1:=cg hq;have h2:=B1 q z (by omega) hq;omega⟩,rfl⟩
def zh (G:gF)(i:Nat)(k:Int):Int:=match(G.getD i sG).2.find? fun x=>x.1==k with
 |some x=>x.2
 |none=> -1
theorem DR (G:gF)(k:Int):zh G 0 k=M3 G k:=rfl
theorem Gh {l:List fp}(ha:Asc l){j:Nat}{x:fp}{k:Int}(hx:l[j]?=some x)(hk:x.dy=k):(l.map jt).find? (fun y=>y.1==k)=some (jt x):=by
 cases h:(l.map jt).find? (fun y=>y.1==k)with
 |none=>
  rw[List.find?_eq_none]at h;exact absurd (show((jt x).1==k)=true by rw[beq_iff_eq];exact hk) (h (jt x) (List.mem_map_of_mem (List.mem_of_getElem? hx)))
 |some y=>
  have h1:=List.find?_some h
  obtain⟨z,hz,rfl⟩:=List.mem_map.1 (List.mem_of_find?_eq_some h)
  have uf:z.dy=k:=by simpa[jt]using h1
  obtain⟨q,hq⟩:=List.getElem?_of_mem hz
  rcases Nat.lt_trichotomy q j with g|g|g
  ·have:=ha _ _ _ _ g hq hx;omega
  ·rw[g,hx]at hq;cases hq;rfl
  ·have:=ha _ _ _ _ g hx hq;omega
theorem DS {l:List fp}{k:Int}(h:∀x∈l,x.dy≠k):(l.map jt).find? (fun y=>y.1==k)=none:=by
 rw[List.find?_eq_none];intro y hy;obtain⟨z,hz,rfl⟩:=List.mem_map.1 hy
 rw[beq_iff_eq];exact h z hz
theorem zi {nf nn i:Int}:∀{l:List fp} {z:Int},(uc nf nn i z (l.map jt)).1=0→(∀x∈l,z<x.dy)∧Asc l
 | [],_,_=>⟨fun x hx=>(by cases hx),fun i j x y _ hi=>(by simp at hi)⟩
 |y::l,z,h=>by
  rw[List.map_cons,uc]at h
  by_cases h1:(jt y).1<0∨nf≤(jt y).1∨(jt y).2<0∨nn≤(jt y).2
  ·rw[if_pos h1]at h;exact absurd h (by simp)
  rw[if_neg h1]at h
  by_cases h2:(jt y).1≤z
  ·rw[if_pos h2]at h;exact absurd h (by simp)
  rw[if_neg h2]at h;obtain⟨k1,k2⟩:=zi h
  replace k1:∀x∈l,y.dy<x.dy:=k1
  replace h2:¬y.dy≤z:=h2
  refine⟨fun x hx=> ?_,fun i j a b Ql ha hb=> ?_⟩
  ·rcases List.mem_cons.1 hx with rfl|hx
   ·omega
   ·have:=k1 x hx;omega
  ·obtain⟨j,rfl⟩:∃j',j=j'+1:=⟨j-1,by omega⟩
   rw[List.getElem?_cons_succ]at hb
   cases i with
   |zero=>rw[List.getElem?_cons_zero]at ha;cases ha;exact k1 b (List.mem_of_getElem? hb)
   |succ i=>rw[List.getElem?_cons_succ]at ha;exact k2 i j a b (by omega) ha hb
theorem mI {nt nf nn:Int}:∀{l:List jK} {i:Nat},(df nt nf nn i (l.map r6)).1=0→∀n∈l,Asc n.aV
 | [],_,_=>fun x hx=>by cases hx
 |y::l,i,h=>by
  rw[List.map_cons,df]at h
  by_cases h1:(r6 y).1<0∨nt≤(r6 y).1
  ·rw[if_pos h1]at h;exact absurd h (by simp)
  rw[if_neg h1]at h
  by_cases h2:(uc nf nn i (-1) (r6 y).2).1≠0
  ·rw[if_pos h2]at h;exact absurd h h2
  rw[if_neg h2]at h;intro x hx
  rcases List.mem_cons.1 hx with rfl|hx
  ·exact(zi (Decidable.not_not.1 h2)).2
  ·exact mI h x hx
theorem sW {nt nf:Int}{g:eM}(h:(e8 nt nf (fM g)).1=0):∀n∈g.nodes,Asc n.aV:=by
 unfold e8 at h
 by_cases h1:(fM g).length=0∨60<(fM g).length
 ·rw[if_pos h1]at h;exact absurd h (by simp)
 rw[if_neg h1]at h;exact mI h
set_option maxHeartbeats 1000000 in
theorem vw (g:eM)(i:Nat)(k:Int)(hi:i<g.nodes.length)(ha:∀n∈g.nodes,Asc n.aV∧n.aV.length≤1000000):de Tryz.prog 92 #[eN g,iv i,iv k] [bz g] (iv (zh (fM g) i k)):=by
 refine de.mf (args:=[eN g,iv i,iv k]) 32 Tryz.func92 rfl Tryz.ntmps92 rfl (fun c=> ?_);refine St.seq ?_
 refine St.fP (bz g) (fun _:Unit=>py g) (fun ρ h=>⟨(),h⟩) fun _=> ?_
 refine St.cast (H':=[aE (sl gI g.nv.1 g.nodes),aE (au fD g.nodes),aE (bz g)]) rfl ?_;obtain⟨t,ht⟩:=aY hi
 have qM:=List.mem_of_getElem? ht
 refine St.dK fD g.nodes (x:=t) qM ?_;refine St.iJ (sl gB t.lv.1 t.aV) [fD t] (fun ρ h=>h _ (List.mem_cons_self ..)) ?_
 have Bd:(fM g).getD i sG=r6 t:=by rw[List.getD_eq_getElem?_getD,mS ht];rfl
 have Qy:zh (fM g) i k=match(t.aV.map jt).find? (fun x=>x.1==k)with|some x=>x.2|none=> -1:=by unfold zh;rw[Bd];rfl
 obtain⟨N5,LL⟩:=ha t qM;refine St.rg ?_;refine St.dS (.mk rfl) rfl (fun b3=> ?_);refine St.ao ?_;refine St.nn (St.sr ?_);refine St.ee (Ev.aD (.mk rfl) gw) ?_;refine St.ee (Ev.l0 (.mk rfl) gu) ?_;refine St.mv ?_;refine St.ee (Ev.aa (k:=i) (.mk rfl) (.mk rfl) gu jO (by omega) (by omega)) ?_;refine St.ee (Ev.eY (.mk rfl) (by omega) jP) ?_;refine St.ee (Ev.jA (.mk rfl) ht fW trivial rfl) ?_;refine St.mv ?_;refine St.ag (DQ t.lv.1 t.aV k N5 LL) Ml (.cons (.mk rfl) (.cons (.mk rfl) (.cons (.mk rfl) .nil))) rfl ?_;rintro Ws _ ⟨⟨j,b,rfl,LK,N2⟩,rfl⟩;refine St.aC ?_;refine St.mv ?_;refine St.ee (Ev.extract (.mk rfl) rfl) ?_;refine St.ee (Ev.extract (.mk rfl) rfl) ?_;refine St.ao ?_;refine St.ao ?_;refine St.nn (St.seq (St.sr ?_));refine St.mv ?_;refine St.ee (Ev.not (.mk rfl)) ?_;refine St.nn ?_;refine St.cond _ rfl (fun qJ=> ?_) (fun qJ=> ?_)
 ·skip
  have Z4:b=false:=by simpa using qJ
  rw[DS (N2 Z4)]at Qy;refine St.sr ?_;refine St.ao ?_;refine St.nn (St.ae (St.a8 ?_));refine St.rU [_] [] Tryz.results92 ?_;exact ie Qy.symm
 ·skip
  have M5:b=true:=by simpa using qJ
  obtain⟨x,hx,Z5⟩:=LK M5
  have Rm:=cg hx
  rw[Gh N5 hx Z5]at Qy;refine St.skip (St.a7 (St.sr ?_));refine St.ee (Ev.aD (.mk rfl) gw) ?_;refine St.ee (Ev.l0 (.mk rfl) gu) ?_;refine St.mv ?_;refine St.ee (Ev.aa (k:=i) (.mk rfl) (.mk rfl) gu jO (by omega) (by omega)) ?_;refine St.ee (Ev.eY (.mk rfl) (by omega) jP) ?_;refine St.ee (Ev.jA (.mk rfl) ht fW trivial rfl) ?_;refine St.mv ?_;refine St.ee (Ev.aa (k:=j) (.mk rfl) (.mk rfl) fW gJ (by omega) (by omega)) ?_;refine St.ee (Ev.eY (.mk rfl) (by omega) kG) ?_;refine St.ee (Ev.jA (.mk rfl) hx bf trivial rfl) ?_;refine St.ao ?_;refine St.nn (St.ae ?_);refine St.rU [_] [] Tryz.results92 ?_;exact ie Qy.symm
theorem vx (g:eM)(kids:Int)(hn:0<g.nodes.length)(ha:∀n∈g.nodes,Asc n.aV∧n.aV.length≤1000000):de Tryz.prog 77 #[eN g,iv kids] [bz g] (.bool (mw (fM g) kids)):=by
 refine de.mf (args:=[eN g,iv kids]) 18 Tryz.func77 rfl Tryz.ntmps77 rfl (fun c=> ?_);refine St.sr ?_;refine St.dS (.mk rfl) rfl (fun b2=> ?_);refine St.ao ?_;refine St.nn (St.seq (St.sr ?_));refine St.mv ?_;refine St.nn (St.block ?_);refine St.lS (ι:=Nat) (fun k T=>(6,iv k)::T) (fun k=>k≤4∧∀j,j<k→(decide (0≤M3 (fM g) (j:Nat))==decide (((j:Nat):Int)≤kids))=true) (fun k=>4-k) 0 (aG.cons 1 rfl (aG.cons 2 rfl aG.nil)) ⟨Nat.zero_le _,fun j hj=>absurd hj (by omega)⟩ ?_;intro k iQ;obtain⟨hk,qR⟩:=iQ;refine St.sr ?_;refine St.ee Ev.ez ?_;refine St.nn (St.seq ?_);refine St.cond _ rfl (fun h7=> ?_) (fun h7=> ?_)
 ·try simp only[aA]at h7
  refine St.skip (St.a7 (St.seq (St.block (St.sr ?_))));refine St.mv ?_;refine St.ao ?_;refine St.nn (St.sr ?_);refine St.ee (Ev.an (.mk rfl) tr trivial (by exact qE)) ?_;refine St.mv ?_;refine St.ee (Ev.call (vw g 0 k hn ha) SZ (.cons (.mk rfl) (.cons (.mk rfl) (.cons (.mk rfl) .nil)))) ?_;refine St.ee Ev.xi ?_;refine St.mv ?_;refine St.mv ?_;refine St.ee Ev.Ju ?_;refine St.ee (Ev.zF (.mk rfl) (.mk rfl) zR) ?_;refine St.nn ?_;refine St.cond _ rfl (fun zg=> ?_) (fun zg=> ?_)
  ·skip
   have N6:(decide (0≤M3 (fM g) (k:Nat))==decide (((k:Nat):Int)≤kids))=false:=by rw[beq_eq_false_iff_ne];simp[DR]at zg;exact zg
   refine St.sr ?_;refine St.ao ?_;refine St.nn (St.ae (St.aN (St.a8 (St.a8 (St.aN (St.a8 ?_))))));refine St.rU [_] [] Tryz.results77 ?_;exact be (by unfold mw;symm;rw[List.all_eq_false];exact⟨k,List.mem_range.2 (by omega),by rw[N6];decide⟩)
  ·skip
   have N6:(decide (0≤M3 (fM g) (k:Nat))==decide (((k:Nat):Int)≤kids))=true:=by rw[beq_iff_eq];simp[DR]at zg;exact zg
   refine St.skip (St.aW (St.a7 (St.rg ?_)));refine St.ee Ev.a0 ?_;refine St.mv ?_;refine St.nn ?_;refine St.aS (k+1) ⟨by omega,fun j hj=>by rcases Nat.lt_or_ge j k with h|h;exact qR j h;rw[show j=k by omega];exact N6⟩
 ·try simp only[aA]at h7
  refine St.exit (St.aJ (St.aJ (St.bO (St.a7 (St.sr ?_)))));refine St.ao ?_;refine St.nn (St.ae ?_);refine St.rU [_] [] Tryz.results77 ?_;exact be (by unfold mw;symm;rw[List.all_eq_true];intro j hj;exact qR j (by have:=List.mem_range.1 hj;omega))
theorem DT {l:List fp}(ha:Asc l)(h0:∀x∈l,0≤x.dy):∀(i:Nat) (x:fp),l[i]?=some x→(i:Int)≤x.dy
 |0,x,hx=>h0 x (List.mem_of_getElem? hx)
 |i+1,x,hx=>by
  obtain⟨y,hy⟩:=aY (show i<l.length by have:=cg hx;omega)
  have h1:=DT ha h0 i y hy
  have h2:=ha i (i+1) y x (Nat.lt_succ_self i) hy hx
  omega
theorem Gi {l:List fp}(ha:Asc l){nf:Nat}(h0:∀x∈l,0≤x.dy∧x.dy<nf):l.length≤nf:=by
 rcases Nat.eq_zero_or_pos l.length with h|h
 ·omega
 ·obtain⟨y,hy⟩:=aY (show l.length-1<l.length by omega)
  have h1:=DT ha (fun x hx=>(h0 x hx).1) _ y hy
  have h2:=(h0 y (List.mem_of_getElem? hy)).2
  omega
theorem sX {n:Int}:∀{l:List kR} {known:List ax} {i:Nat},(il n known i l).1=0→∀f∈l,0≤f.2.1∧f.2.1<n∧0≤f.2.2∧f.2.2<n
 | [],_,_,_=>fun f hf=>by cases hf
 |t::l,known,i,h=>by
  rw[il]at h
  by_cases h1:isName t.1=false
  ·rw[if_pos h1]at h;exact absurd h (by simp)
  rw[if_neg h1]at h
  by_cases h2:t.1∈known
  ·rw[if_pos h2]at h;exact absurd h (by simp)
  rw[if_neg h2]at h
  by_cases h3:t.2.1<0∨n≤t.2.1∨t.2.2<0∨n≤t.2.2
  ·rw[if_pos h3]at h;exact absurd h (by simp)
  rw[if_neg h3]at h;intro f hf
  rcases List.mem_cons.1 hf with rfl|hf
  ·omega
  ·exact sX h f hf
theorem Gj {T:List dh}{Fs:List kR}(h:(fq T Fs).1=0):0<T.length∧iR T∧Fs.length≤40∧∀f∈Fs,0≤f.2.1∧f.2.1<T.length∧0≤f.2.2∧f.2.2<T.length:=by
 unfold fq at h
 by_cases h1:40<Fs.length
 ·rw[if_pos h1]at h;exact absurd h (by simp)
 rw[if_neg h1]at h
 by_cases h2:(sF T).1≠0
 ·rw[if_pos h2]at h;exact absurd h h2
 rw[if_neg h2]at h;obtain⟨_,k1,k2⟩:=Cv (Decidable.not_not.1 h2)
 cases e:oc T with
 |some b=>rw[e]at h;exact absurd h (by simp)
 |none=>rw[e]at h;exact⟨k1,k2,by omega,sX h⟩
theorem sY:∀{vs:List bL} {known:List ax} {i:Nat},(dp known i vs).1=0→dp known i vs=(0,0)∧∀v∈vs,1≤v.kind∧v.kind≤4∧isName v.name=true∧(v.kind=2→isName v.label=true)∧(v.kind=3→isWord v.label=true)∧((v.kind=1∨v.kind=4)→v.label=[])
 | [],_,_,_=>by rw[dp];exact⟨rfl,fun v hv=>by cases hv⟩
 |v::vs,known,i,h=>by
  rw[dp]at h⊢
  by_cases h1:v.kind<1∨4<v.kind
  ·rw[if_pos h1]at h;exact absurd h (by simp)
  rw[if_neg h1]at h⊢
  by_cases h2:isName v.name=false∨(v.kind=2∧isName v.label=false)∨(v.kind=3∧isWord v.label=false)
  ·rw[if_pos h2]at h;exact absurd h (by simp)
  rw[if_neg h2]at h⊢
  by_cases h3:v.name∈known
  ·rw[if_pos h3]at h;exact absurd h (by simp)
  rw[if_neg h3]at h⊢
  by_cases h4:(v.kind=1∨v.kind=4)∧v.label≠ []
  ·rw[if_pos h4]at h;exact absurd h (by simp)
  rw[if_neg h4]at h⊢;obtain⟨k1,k2⟩:=sY h;refine⟨k1,fun u hu=> ?_⟩
  rcases List.mem_cons.1 hu with rfl|hu
  ·simp only[not_or,not_and,Bool.not_eq_false,ne_eq,Decidable.not_not]at h2 h4
   exact⟨by omega,by omega,h2.1,h2.2.1,h2.2.2,h4⟩
  ·exact k2 u hu
theorem sZ {n:Int}:∀{ls:List cL} {i:Nat},(fI n i ls).1=0→fI n i ls=(0,0)∧∀l∈ls,1≤l.kind∧l.kind≤5∧0≤l.a∧l.a<n∧0≤l.b∧l.b<n∧l.a≠l.b
 | [],_,_=>by rw[fI];exact⟨rfl,fun v hv=>by cases hv⟩
 |l::ls,i,h=>by
  rw[fI]at h⊢
  by_cases h1:l.kind<1∨5<l.kind
  ·rw[if_pos h1]at h;exact absurd h (by simp)
  rw[if_neg h1]at h⊢
  by_cases h2:l.a<0∨n≤l.a∨l.b<0∨n≤l.b
  ·rw[if_pos h2]at h;exact absurd h (by simp)
  rw[if_neg h2]at h⊢
  by_cases h3:l.a=l.b
  ·rw[if_pos h3]at h;exact absurd h (by simp)
  rw[if_neg h3]at h⊢;obtain⟨k1,k2⟩:=sZ h;refine⟨k1,fun u hu=> ?_⟩
  rcases List.mem_cons.1 hu with rfl|hu
  ·exact⟨by omega,by omega,by omega,by omega,by omega,by omega,h3⟩
  ·exact k2 u hu
structure oy (vs:List bL)(ks:List cL):Prop where
 pos:0<vs.length
 LM:vs.length≤4
 aV:ks.length≤8
 var:∀v∈vs,1≤v.kind∧v.kind≤4∧isName v.name=true∧(v.kind=2→isName v.label=true)∧(v.kind=3→isWord v.label=true)∧((v.kind=1∨v.kind=4)→v.label=[])
 link:∀l∈ks,1≤l.kind∧l.kind≤5∧0≤l.a∧l.a<vs.length∧0≤l.b∧l.b<vs.length∧l.a≠l.b
theorem la {vs:List bL}{ks:List cL}(h:(ec vs ks).1=0):ec vs ks=(0,0)∧oy vs ks:=by
 unfold ec at h⊢
 by_cases h1:4<vs.length∨8<ks.length
 ·rw[if_pos h1]at h;exact absurd h (by simp)
 rw[if_neg h1]at h⊢
 by_cases h2:vs.length=0
 ·rw[if_pos h2]at h;exact absurd h (by simp)
 rw[if_neg h2]at h⊢
 by_cases h3:(dp [] 0 vs).1≠0
 ·rw[if_pos h3]at h;exact absurd h h3
 rw[if_neg h3]at h⊢;obtain⟨k1,k2⟩:=sZ h;exact⟨k1,by omega,by omega,by omega,(sY (Decidable.not_not.1 h3)).2,k2⟩
def mT (g:mP)(vs:List bL)(ks:List cL)(t:gU):List (List Nat):=vP (o7 g t 0 (-1) 0) ks vs []
def vy (g:mP)(vs:List bL)(ks:List cL)(t:gU):List (List Nat)×(Int×Int):=
 if(q7 g).1≠0 then([],q7 g)else if(ec vs ks).1≠0 then([],ec vs ks)else if(km g t).1≠0 then([],km g t)
 else if 500<(mT g vs ks t).length then([],(17,0))else(mT g vs ks t,(0,0))
theorem sa {T:List dh}{Fs:List kR}:∀{l:List nX} {known:List ax} {i:Nat},(fi T Fs known i l).1=0→∀r∈l,1≤r.kids∧r.kids≤3∧0≤r.weight∧isName r.name=true
 | [],_,_,_=>fun r hr=>by cases hr
 |r::l,known,i,h=>by
  rw[fi]at h
  by_cases h1:isName r.name=false
  ·rw[if_pos h1]at h;exact absurd h (by simp)
  rw[if_neg h1]at h
  by_cases h2:r.name∈known
  ·rw[if_pos h2]at h;exact absurd h (by simp)
  rw[if_neg h2]at h
  by_cases h3:kk T Fs r≠0
  ·rw[if_pos h3]at h;exact absurd h h3
  rw[if_neg h3]at h;intro u hu
  rcases List.mem_cons.1 hu with rfl|hu
  ·have h4:=Decidable.not_not.1 h3
   unfold kk at h4
   by_cases h5:u.kids<1∨3<u.kids∨u.weight<0∨1000000<u.weight
   ·rw[if_pos h5]at h4;exact absurd h4 (by simp)
   ·exact⟨by omega,by omega,by omega,by simpa using h1⟩
  ·exact sa h u hu
theorem sb {T:List dh}{Fs:List kR}:∀{l:List FK} {i:Nat},(fj T Fs i l).1=0→∀x∈l,isWord x.word=true
 | [],_,_=>fun r hr=>by cases hr
 |x::l,i,h=>by
  rw[fj]at h
  by_cases h3:pz T Fs x≠0
  ·rw[if_pos h3]at h;exact absurd h h3
  rw[if_neg h3]at h;intro u hu
  rcases List.mem_cons.1 hu with rfl|hu
  ·have h4:=Decidable.not_not.1 h3
   unfold pz at h4
   by_cases h5:isWord u.word=false
   ·rw[if_pos h5]at h4;exact absurd h4 (by simp)
   ·simpa using h5
  ·exact sb h u hu
structure N7 (g:mP):Prop where
 rules:g.rules.length≤40
 bK:g.bK.length≤100
 eV:∀r∈g.rules,1≤r.kids∧r.kids≤3∧0≤r.weight∧isName r.name=true
 word:∀x∈g.bK,isWord x.word=true
theorem Gk {g:mP}(h:(q7 g).1=0):N7 g:=by
 unfold q7 at h
 by_cases h1:(fq g.types g.c8).1≠0
 ·rw[if_pos h1]at h;exact absurd h h1
 rw[if_neg h1]at h
 by_cases h2:g.c8.length≤3
 ·rw[if_pos h2]at h;exact absurd h (by simp)
 rw[if_neg h2]at h
 by_cases h3:40<g.rules.length∨100<g.bK.length
 ·rw[if_pos h3]at h;exact absurd h (by simp)
 rw[if_neg h3]at h
 by_cases h4:(fi g.types g.c8 [] 0 g.rules).1≠0
 ·rw[if_pos h4]at h;exact absurd h h4
 rw[if_neg h4]at h
 by_cases h5:(fj g.types g.c8 0 g.bK).1≠0
 ·rw[if_pos h5]at h;exact absurd h h5
 exact⟨by omega,by omega,sa (Decidable.not_not.1 h4),sb (Decidable.not_not.1 h5)⟩
structure KI (g:mP)(t:gU):Prop where
 Z6:ir g.rules.length g.bK.length t
 size:wq t≤200
 leaves:tg t≤12
theorem DU {g:mP}{t:gU}(hg:(q7 g).1=0)(h:(km g t).1=0):KI g t:=by
 have hk:∀k∈g.rules.map nX.kids,1≤k:=fun k hk=>by
  obtain⟨r,hr,rfl⟩:=List.mem_map.1 hk;exact((Gk hg).eV r hr).1
 unfold km at h
 by_cases h1:(ju (g.rules.map nX.kids) g.bK.length t 1 0 ⟨0,0⟩).2.1≠0
 ·rw[if_pos h1]at h;exact absurd h h1
 rw[if_neg h1]at h;obtain⟨k1,k2,k3,k4⟩:=CK hk t 1 0 ⟨0,0⟩ (Decidable.not_not.1 h1)
 by_cases h2:12<(ju (g.rules.map nX.kids) g.bK.length t 1 0 ⟨0,0⟩).1.leaves
 ·rw[if_pos h2]at h;exact absurd h (by simp)
 rw[List.length_map]at k1
 dsimp only at k2 k4
 exact⟨k1,by omega,by omega⟩
theorem zj:ak Tryz.prog 100 0=some 0:=by kernel_rfl
theorem KJ:aU Tryz.prog 43:=⟨_,Tryz.func43,rfl,by kernel_rfl⟩
theorem zm:ak Tryz.prog 100 2=some 2:=by kernel_rfl
theorem Gl:ak Tryz.prog 100 1=some 1:=by kernel_rfl
theorem KK:aU Tryz.prog 58:=⟨_,Tryz.func58,rfl,by kernel_rfl⟩
theorem Gm:ak Tryz.prog 100 3=some 3:=by kernel_rfl
theorem N8:aU Tryz.prog 78:=⟨_,Tryz.func78,rfl,by kernel_rfl⟩
theorem uK:ak Tryz.prog 98 2=some 2:=by kernel_rfl
theorem DV:ak Tryz.prog 98 3=some 3:=by kernel_rfl
theorem DW:ak Tryz.prog 98 1=some 1:=by kernel_rfl
theorem Sv:aU Tryz.prog 77:=⟨_,Tryz.func77,rfl,by kernel_rfl⟩
theorem KL:ak Tryz.prog 98 4=some 4:=by kernel_rfl
theorem Sw:aU Tryz.prog 53:=⟨_,Tryz.func53,rfl,by kernel_rfl⟩
theorem yT:aU Tryz.prog 54:=⟨_,Tryz.func54,rfl,by kernel_rfl⟩
theorem uL:ak Tryz.prog 98 0=some 0:=by kernel_rfl
theorem Sy:aU Tryz.prog 56:=⟨_,Tryz.func56,rfl,by kernel_rfl⟩
theorem Sz:aU Tryz.prog 57:=⟨_,Tryz.func57,rfl,by kernel_rfl⟩
theorem cN:ak Tryz.prog 25 0=some 0:=by kernel_rfl
theorem dz:ak Tryz.prog 25 1=some 1:=by kernel_rfl
theorem mU:aU Tryz.prog 20:=⟨_,Tryz.func20,rfl,by kernel_rfl⟩
theorem cv:(Tryz.prog.info? 38).map (·.size)=some 3:=by kernel_rfl
theorem pM:(Tryz.prog.info? 38).bind (fun i=>i.zero.map Value.cells)=some #[.string ⟨#[]⟩,.int .i64 0,.string ⟨#[]⟩]:=by kernel_rfl
theorem fm:ak Tryz.prog 38 0=some 0:=by kernel_rfl
theorem db:ak Tryz.prog 38 1=some 1:=by kernel_rfl
theorem fL:ak Tryz.prog 38 2=some 2:=by kernel_rfl
theorem gj:(Tryz.prog.info? 40).map (·.size)=some 3:=by kernel_rfl
theorem B2:(Tryz.prog.info? 40).bind (fun i=>i.zero.map Value.cells)=some #[.int .i64 0,.int .i64 0,.int .i64 0]:=by kernel_rfl
theorem mV:ak Tryz.prog 40 0=some 0:=by kernel_rfl
theorem hG:ak Tryz.prog 40 1=some 1:=by kernel_rfl
theorem hJ:ak Tryz.prog 40 2=some 2:=by kernel_rfl
theorem B3:aU Tryz.prog 60:=⟨_,Tryz.func60,rfl,by kernel_rfl⟩
theorem lE:ak Tryz.prog 58 0=some 0:=by kernel_rfl
theorem uM:ak Tryz.prog 58 1=some 1:=by kernel_rfl
theorem yU:ak Tryz.prog 58 2=some 2:=by kernel_rfl
theorem kV:(Tryz.prog.info? 58).map (·.size)=some 3:=by kernel_rfl
theorem yV:(Tryz.prog.info? 58).bind (fun i=>i.zero.map Value.cells)=some #[.int .i64 0,.int .i64 0,.slice none 0 0]:=by kernel_rfl
theorem N9:aU Tryz.prog 59:=⟨_,Tryz.func59,rfl,by kernel_rfl⟩
theorem NA:(Tryz.prog.info? 133).bind (fun i=>i.zero.map Value.cells)=some #[.nilFunc]:=by kernel_rfl
theorem NB:(Tryz.prog.info? 133).map (·.size)=some 1:=by kernel_rfl
theorem T0 (w:World):cj Tryz.prog 82 w= .ok #[(0,1),(1,1),(2,1),(3,1),(4,1),(5,1)] w:=by kernel_rfl
theorem T1:(Tryz.prog.info? 82).bind (fun i=>i.zero.map Value.cells)=some #[.bool false,.string ⟨#[]⟩,.int .i64 0,.int .i64 0,.int .i64 0,.int .i64 0]:=by kernel_rfl
theorem lF:(Tryz.prog.info? 82).map (·.size)=some 6:=by kernel_rfl
theorem NC:(Tryz.prog.info? 82).bind (·.zero)=some (Value.agg #[.bool false,.string ⟨#[]⟩,.int .i64 0,.int .i64 0,.int .i64 0,.int .i64 0]):=by kernel_rfl
theorem T2:(Tryz.prog.info? 82).map (·.bytes)=some 56:=by kernel_rfl
theorem ND:(Tryz.prog.info? 77).map (·.size)=some 1:=by kernel_rfl
theorem uN:ak Tryz.prog 82 0=some 0:=by kernel_rfl
theorem uO:ak Tryz.prog 82 1=some 1:=by kernel_rfl
theorem NF:aU Tryz.prog 61:=⟨_,Tryz.func61,rfl,by kernel_rfl⟩
theorem DX:ak Tryz.prog 82 3=some 3:=by kernel_rfl
theorem yW:ak Tryz.prog 82 5=some 5:=by kernel_rfl
theorem NG:(Tryz.prog.info? 77).bind (fun i=>i.zero.map Value.cells)=some #[.slice none 0 0]:=by kernel_rfl
theorem NH:(Tryz.prog.info? 134).bind (fun i=>i.zero.map Value.cells)=some #[.nilFunc]:=by kernel_rfl
theorem NI:(Tryz.prog.info? 134).map (·.size)=some 1:=by kernel_rfl
theorem yX:ak Tryz.prog 82 2=some 2:=by kernel_rfl
theorem DY:ak Tryz.prog 82 4=some 4:=by kernel_rfl
theorem Gn:(Tryz.prog.info? 61).map (·.bytes)=some 24:=by kernel_rfl
theorem Gp:(Tryz.prog.info? 41).map (·.size)=some 1:=by kernel_rfl
theorem T6:aU Tryz.prog 30:=⟨_,Tryz.func30,rfl,by kernel_rfl⟩
theorem T7:aU Tryz.prog 31:=⟨_,Tryz.func31,rfl,by kernel_rfl⟩
theorem NJ:aU Tryz.prog 29:=⟨_,Tryz.func29,rfl,by kernel_rfl⟩
theorem T8:aU Tryz.prog 26:=⟨_,Tryz.func26,rfl,by kernel_rfl⟩
theorem dX:(Tryz.prog.info? 25).map (·.size)=some 2:=by kernel_rfl
theorem KM:aU Tryz.prog 15:=⟨_,Tryz.func15,rfl,by kernel_rfl⟩
theorem T9:aU Tryz.prog 27:=⟨_,Tryz.func27,rfl,by kernel_rfl⟩
theorem TA:aU Tryz.prog 28:=⟨_,Tryz.func28,rfl,by kernel_rfl⟩
theorem TB:(Tryz.prog.info? 41).bind (fun i=>i.zero.map Value.cells)=some #[.slice none 0 0]:=by kernel_rfl
theorem TC:(Tryz.prog.info? 61).bind (fun i=>i.zero.map Value.cells)=some #[.slice none 0 0]:=by kernel_rfl
theorem TD:(Tryz.prog.info? 79).bind (fun i=>i.zero.map Value.cells)=some #[.nilFunc]:=by kernel_rfl
theorem TE:(Tryz.prog.info? 79).map (·.size)=some 1:=by kernel_rfl
theorem KN (w:World):cj Tryz.prog 58 w= .ok #[(0,1),(1,1),(2,1)] w:=by kernel_rfl
theorem NK:(Tryz.prog.info? 58).bind (·.zero)=some (Value.agg #[.int .i64 0,.int .i64 0,.slice none 0 0]):=by kernel_rfl
theorem B4 {u2 u4:Value}(h2:u2.oneCell'=true)(h4:u4.oneCell'=true)(w:World):(Instr.build 82 #[(2,u2),(4,u4)]).run Tryz.prog w= .ok (.agg #[.bool false,.string ⟨#[]⟩,u2,.int .i64 0,u4,.int .i64 0]) w:=
 bP T1 (T0 w) (by simp[Instr.fill,J.bR,J.aB h2,J.aB h4])
theorem sc {u0 u1:Value}(h0:u0.oneCell'=true)(h1:u1.oneCell'=true)(w:World):(Instr.build 58 #[(0,u0),(1,u1)]).run Tryz.prog w= .ok (.agg #[u0,u1,.slice none 0 0]) w:=
 bP yV (KN w) (by simp[Instr.fill,J.bR,J.aB h0,J.aB h1])
theorem B5 {u0 u2:Value}(h0:u0.oneCell'=true)(h2:u2.oneCell'=true)(w:World):(Instr.build 58 #[(0,u0),(2,u2)]).run Tryz.prog w= .ok (.agg #[u0,.int .i64 0,u2]) w:=
 bP yV (KN w) (by simp[Instr.fill,J.bR,J.aB h0,J.aB h2])
theorem Gq {u2:Value}(h2:u2.oneCell'=true)(w:World):(Instr.build 58 #[(2,u2)]).run Tryz.prog w= .ok (.agg #[.int .i64 0,.int .i64 0,u2]) w:=
 bP yV (KN w) (by simp[Instr.fill,J.bR,J.aB h2])
mutual
theorem yY {rk:List Int}{nl:Nat}:∀(t:gU) (d ch:Nat) (s:AO),(ju rk nl t d ch s).2.1=0→s.leaves≤s.nodes→(ju rk nl t d ch s).1.nodes≤200∧(ju rk nl t d ch s).1.leaves≤(ju rk nl t d ch s).1.nodes
 | .mk r x l,d,ch,s,h,hs=>by
  rw[ju]at h⊢
  by_cases h1:200<s.nodes+1∨48<d
  ·rw[if_pos h1]at h;exact absurd h (by simp)
  rw[if_neg h1]at h⊢
  by_cases h2:r< -1∨rk.length≤r∨(r= -1∧(x<0∨nl≤x))
  ·rw[if_pos h2]at h;exact absurd h (by simp)
  rw[if_neg h2]at h⊢
  by_cases h3:0≤r∧x≠0
  ·rw[if_pos h3]at h;exact absurd h (by simp)
  rw[if_neg h3]at h⊢
  by_cases h4:(l.length:Int)≠(if 0≤r then rk.getD r.toNat 0 else 0)
  ·rw[if_pos h4]at h;exact absurd h (by simp)
  rw[if_neg h4]at h⊢
  by_cases h5:3<(if l.length=1 then ch+1 else 0)
  ·rw[if_pos h5]at h;exact absurd h (by simp)
  rw[if_neg h5]at h⊢;exact zo l _ _ _ h (show s.nodes+1≤200 by omega) (by dsimp only;split<;>omega)
theorem zo {rk:List Int}{nl:Nat}:∀(l:List gU) (d ch:Nat) (s:AO),(jE rk nl l d ch s).2.1=0→s.nodes≤200→s.leaves≤s.nodes→(jE rk nl l d ch s).1.nodes≤200∧(jE rk nl l d ch s).1.leaves≤(jE rk nl l d ch s).1.nodes
 | [],d,ch,s,_,hs,hl=>by rw[jE];exact⟨hs,hl⟩
 |x::l,d,ch,s,h,hs,hl=>by
  rw[jE]at h⊢
  by_cases h1:(ju rk nl x d ch s).2.1≠0
  ·rw[if_pos h1]at h;exact absurd h h1
  rw[if_neg h1]at h⊢;obtain⟨a1,a2⟩:=yY x d ch s (Decidable.not_not.1 h1) hl;exact zo l d ch _ h a1 a2
end
theorem NL (rk:List Int)(nl:Nat)(x:bV)(d ch:Nat)(s:AO):ju rk nl (ay x) d ch s=
 if 200<s.nodes+1∨48<d then(⟨s.nodes+1,s.leaves⟩,1,(s.nodes:Int))
 else if x.eV< -1∨rk.length≤x.eV∨(x.eV= -1∧(x.lex<0∨nl≤x.lex))then(⟨s.nodes+1,s.leaves⟩,3,(s.nodes:Int))
 else if 0≤x.eV∧x.lex≠0 then(⟨s.nodes+1,s.leaves⟩,5,(s.nodes:Int))
 else if(x.kids.length:Int)≠(if 0≤x.eV then rk.getD x.eV.toNat 0 else 0)then(⟨s.nodes+1,if 0≤x.eV then s.leaves else s.leaves+1⟩,9,(s.nodes:Int))
 else if 3<(if x.kids.length=1 then ch+1 else 0)then(⟨s.nodes+1,if 0≤x.eV then s.leaves else s.leaves+1⟩,14,(s.nodes:Int))
 else jE rk nl (x.kids.map ay) (d+1) (if x.kids.length=1 then ch+1 else 0) ⟨s.nodes+1,if 0≤x.eV then s.leaves else s.leaves+1⟩:=by
 cases x with
 |mk r y v l=>rw[ay,gN,ju,List.length_map];rfl
theorem B6 {rk:List Int}{nl:Nat}{l:List bV}{k:Nat}{y:bV}(h:l[k]?=some y)(d ch:Nat)(s:AO):jE rk nl ((l.map ay).drop k) d ch s=if(ju rk nl (ay y) d ch s).2.1≠0 then ju rk nl (ay y) d ch s else jE rk nl ((l.map ay).drop (k+1)) d ch (ju rk nl (ay y) d ch s).1:=by
 rw[bS (show(l.map ay)[k]?=some (ay y) by rw[List.getElem?_map,h];rfl),jE]
theorem DZ {rk:List Int}{nl:Nat}{l:List bV}{k:Nat}(h:l.length≤k)(d ch:Nat)(s:AO):jE rk nl ((l.map ay).drop k) d ch s=(s,0,0):=by
 rw[List.drop_of_length_le (by rw[List.length_map];exact h),jE]
theorem Gr (g:k7)(t:bV):km (iW g) (ay t)=if(ju (g.rules.map bm.kids) g.bK.length (ay t) 1 0 ⟨0,0⟩).2.1≠0 then(ju (g.rules.map bm.kids) g.bK.length (ay t) 1 0 ⟨0,0⟩).2
 else if 12<(ju (g.rules.map bm.kids) g.bK.length (ay t) 1 0 ⟨0,0⟩).1.leaves then(2,-2)else(0,0):=by
 have e1:(iW g).rules.map nX.kids=g.rules.map bm.kids:=by show(g.rules.map pE).map nX.kids=_;rw[List.map_map];rfl
 have e2:(iW g).bK.length=g.bK.length:=List.length_map ..
 unfold km;rw[e1,e2]
set_option maxHeartbeats 4000000 in
theorem rS (bn bg bl bw:Nat)(g:k7):∀(x:bV) (d ch:Nat) (s:AO),fR.wf x→d≤100→ch≤100→s.nodes≤200→s.leaves≤s.nodes→eI Tryz.prog 59 ([kp x,iv (d:Nat),iv (ch:Nat)]++ [Value.pointer (some ⟨bn,0,none⟩),Value.pointer (some ⟨bg,0,none⟩),Value.pointer (some ⟨bl,0,none⟩),Value.pointer (some ⟨bw,0,none⟩)]).toArray [aE (dV x),aZ bn (.cells [iv ((s.nodes:Nat):Int)].toArray 3 (0,0)),aZ bg (.cells [g.tv.1,g.fv.1,g.rv.1,g.xv.1,g.start.nv.1].toArray 54 (0,0)),aZ bl (.cells [iv ((s.leaves:Nat):Int)].toArray 3 (0,0)),aZ bw (.cells [(.func (.func 59) #[] [Value.pointer (some ⟨bn,0,none⟩),Value.pointer (some ⟨bg,0,none⟩),Value.pointer (some ⟨bl,0,none⟩),Value.pointer (some ⟨bw,0,none⟩)].toArray)].toArray 133 (0,0)),aE (sl cJ g.rv.1 g.rules),aE (sl c6 g.xv.1 g.bK)] (fun v H'=>v=fv (ju (g.rules.map bm.kids) g.bK.length (ay x) d ch s).2∧H'=[aZ bn (.cells [iv (((ju (g.rules.map bm.kids) g.bK.length (ay x) d ch s).1.nodes:Nat):Int)].toArray 3 (0,0)),aZ bg (.cells [g.tv.1,g.fv.1,g.rv.1,g.xv.1,g.start.nv.1].toArray 54 (0,0)),aZ bl (.cells [iv (((ju (g.rules.map bm.kids) g.bK.length (ay x) d ch s).1.leaves:Nat):Int)].toArray 3 (0,0)),aZ bw (.cells [(.func (.func 59) #[] [Value.pointer (some ⟨bn,0,none⟩),Value.pointer (some ⟨bg,0,none⟩),Value.pointer (some ⟨bl,0,none⟩),Value.pointer (some ⟨bw,0,none⟩)].toArray)].toArray 133 (0,0))]):=by
 intro x
 induction x using bV.ind
 rename_i x ih
 intro d ch s hw hd hch TF AU;refine eI.body (args:=[kp x,iv (d:Nat),iv (ch:Nat)]++ [Value.pointer (some ⟨bn,0,none⟩),Value.pointer (some ⟨bg,0,none⟩),Value.pointer (some ⟨bl,0,none⟩),Value.pointer (some ⟨bw,0,none⟩)]) 118 Tryz.func59 rfl Tryz.ntmps59 rfl (fun c=> ?_);refine St.seq ?_
 have dC:=NL (g.rules.map bm.kids) g.bK.length x d ch s
 have wv:(g.rules.map bm.kids).length=g.rules.length:=List.length_map ..
 refine St.vL x ?_;refine St.wf x.kv.1 (fun nY uu=> ?_);obtain⟨sn,Gs⟩:=s
 dsimp only at dC TF AU⊢
 refine St.wf g.rv.1 (fun _ Z7=> ?_);refine St.wf g.xv.1 (fun _ Z8=> ?_)
 generalize wu:(if 0≤x.eV then(g.rules.map bm.kids).getD x.eV.toNat 0 else 0)=kn at dC
 generalize NM:(if 0≤x.eV then Gs else Gs+1)=lv at dC
 generalize wk:(if x.kids.length=1 then ch+1 else 0)=c2 at dC
 refine St.rg ?_;refine St.dS (.mk rfl) rfl (fun b7=> ?_);refine St.alloc dR rfl (fun iC=> ?_);refine St.nn (St.sr ?_);refine St.ee (Ev.l0 (.mk rfl) bf) ?_;refine St.ao ?_;refine St.nn (St.sr ?_);refine St.ee (Ev.l0 (.mk rfl) bf) ?_;refine St.ee Ev.a0 ?_;refine St.bQ (.mk rfl) (.mk rfl) cu rfl (by rfl) ?_;refine St.hS bn (L':=[iv ((sn+1:Nat):Int)]) rfl ?_;refine St.nn (St.sr ?_);refine St.ao ?_;refine St.nn ?_;refine St.join (ι:=Unit) (fun u T=>(12,iv kn)::T) (fun u=>[aZ b7 (.cells (vJ x).toArray 58 (0,0)),aZ iC (.cells [iv 0,iv 0].toArray 28 (0,0)),aZ bn (.cells [iv ((sn+1:Nat):Int)].toArray 3 (0,0)),aZ bg (.cells [g.tv.1,g.fv.1,g.rv.1,g.xv.1,g.start.nv.1].toArray 54 (0,0)),aZ bl (.cells [iv ((lv:Nat):Int)].toArray 3 (0,0)),aZ bw (.cells [(.func (.func 59) #[] [Value.pointer (some ⟨bn,0,none⟩),Value.pointer (some ⟨bg,0,none⟩),Value.pointer (some ⟨bl,0,none⟩),Value.pointer (some ⟨bw,0,none⟩)].toArray)].toArray 133 (0,0)),aE (sl fR x.kv.1 x.kids),aE (au dV x.kids),aE (sl cJ g.rv.1 g.rules),aE (sl c6 g.xv.1 g.bK)]) (fun u=>(ju (g.rules.map bm.kids) g.bK.length (ay x) d ch ⟨sn,Gs⟩=if(x.kids.length:Int)≠kn then(⟨sn+1,lv⟩,9,(sn:Int))else if 3<c2 then(⟨sn+1,lv⟩,14,(sn:Int))else jE (g.rules.map bm.kids) g.bK.length (x.kids.map ay) (d+1) c2 ⟨sn+1,lv⟩)∧sn+1≤200∧d≤48) (aG.cons 1 rfl (aG.cons 2 rfl (aG.cons 6 rfl (aG.cons 7 rfl (aG.cons 10 rfl (aG.cons 11 rfl aG.nil)))))) ?_ ?_
 ·refine St.block (St.sr ?_)
  refine St.ee (Ev.l0 (.mk rfl) bf) ?_;refine St.ee Ev.vQ ?_;refine St.mv ?_;refine St.gf _ rfl rfl (fun hg=>Ev.move (.mk rfl)) rfl ?_;refine St.gf _ rfl rfl (fun hg=>Ev.gtr (aL.gv rfl hg) (.mk rfl)) rfl ?_;refine St.ee Ev.o0 ?_;refine St.ao ?_;refine St.nn ?_;refine St.cond _ rfl (fun qJ=> ?_) (fun qJ=> ?_)
  ·try simp only[aA]at qJ
   rw[if_pos (by omega)]at dC;refine St.sr ?_;refine St.mv ?_;refine St.ee (Ev.call (dg 1 sn) B3 (.cons (.mk rfl) (.cons (.mk rfl) .nil))) ?_;refine St.sA (.mk rfl) (.mk rfl) aR ?_;refine St.nn (St.ae (St.aN (St.a8 ?_)));refine St.rT [_] [aZ bn (.cells [iv ((sn+1:Nat):Int)].toArray 3 (0,0)),aZ bg (.cells [g.tv.1,g.fv.1,g.rv.1,g.xv.1,g.start.nv.1].toArray 54 (0,0)),aZ bl (.cells [iv ((Gs:Nat):Int)].toArray 3 (0,0)),aZ bw (.cells [(.func (.func 59) #[] [Value.pointer (some ⟨bn,0,none⟩),Value.pointer (some ⟨bg,0,none⟩),Value.pointer (some ⟨bl,0,none⟩),Value.pointer (some ⟨bw,0,none⟩)].toArray)].toArray 133 (0,0))] Tryz.results59 ⟨⟨_,_,_,_,rfl,c4.mem,.inl ⟨⟨_,bC⟩,aR,rfl⟩⟩,trivial⟩ ?_;rw[dC];exact⟨rfl,rfl⟩
  ·try simp only[aA]at qJ
   rw[if_neg (by omega)]at dC;refine St.sr ?_;refine St.ee (Ev.aD (.mk rfl) lE) ?_;refine St.ee (Ev.l0 (.mk rfl) bf) ?_;refine St.ee Ev.ez ?_;refine St.mv ?_;refine St.gf _ rfl rfl (fun hg=>Ev.aD (.mk rfl) lE) rfl ?_;refine St.gf _ rfl rfl (fun hg=>Ev.cY (aL.gv rfl hg) bf trivial (by rfl)) rfl ?_;refine St.gf _ rfl rfl (fun hg=>Ev.aD (.mk rfl) oA) rfl ?_;refine St.gf _ rfl rfl (fun hg=>Ev.cY (aL.gv rfl hg) pJ trivial (by rfl)) rfl ?_;refine St.gf _ rfl rfl (fun hg=>Ev.bA (aL.gv rfl hg) pJ) rfl ?_;refine St.gf _ rfl rfl (fun hg=>Ev.geq (aL.gv rfl hg) (aL.gv rfl hg)) rfl ?_;refine St.ee Ev.o0 ?_;refine St.mv ?_;refine St.gf _ rfl rfl (fun hg=>Ev.aD (.mk rfl) lE) rfl ?_;refine St.gf _ rfl rfl (fun hg=>Ev.cY (aL.gv rfl hg) bf trivial (by rfl)) rfl ?_;refine St.gf _ rfl rfl (fun hg=>Ev.eql (aL.gv rfl hg) (.mk rfl)) rfl ?_;refine St.gf _ rfl rfl (fun hg=>Ev.move (aL.gv rfl hg)) rfl ?_;refine St.kW _ rfl rfl (fun hg=>Ev.aD (.mk rfl) uM) rfl ?_;refine St.kW _ rfl rfl (fun hg=>Ev.cY (aL.gv rfl hg) bf trivial (by rfl)) rfl ?_;refine St.kW _ rfl rfl (fun hg=>Ev.lss (aL.gv rfl hg) (.mk rfl)) rfl ?_;refine St.kW _ rfl rfl (fun hg=>Ev.move (aL.gv rfl hg)) rfl ?_;refine St.xE _ rfl rfl (fun hg=>Ev.aD (.mk rfl) uM) rfl ?_;refine St.xE _ rfl rfl (fun hg=>Ev.cY (aL.gv rfl hg) bf trivial (by rfl)) rfl ?_;refine St.xE _ rfl rfl (fun hg=>Ev.aD (.mk rfl) l3) rfl ?_;refine St.xE _ rfl rfl (fun hg=>Ev.cY (aL.gv rfl hg) kS trivial (by rfl)) rfl ?_;refine St.xE _ rfl rfl (fun hg=>Ev.bA (aL.gv rfl hg) kS) rfl ?_;refine St.xE _ rfl rfl (fun hg=>Ev.geq (aL.gv rfl hg) (aL.gv rfl hg)) rfl ?_;refine St.kW _ rfl rfl (fun hg=>Ev.or (aL.gv rfl hg) (fun hp=>aL.gv rfl (ji hg hp))) rfl ?_;refine St.gf _ rfl rfl (fun hg=>Ev.and (aL.gv rfl hg) (fun hp=>aL.gv rfl (ji hg hp))) rfl ?_;refine St.ee Ev.o0 ?_;refine St.ao ?_;refine St.nn ?_;refine St.cond _ rfl (fun l8=> ?_) (fun l8=> ?_)
   ·try simp only[aA]at l8
    rw[if_pos (by omega)]at dC;refine St.sr ?_;refine St.mv ?_;refine St.ee (Ev.call (dg 3 sn) B3 (.cons (.mk rfl) (.cons (.mk rfl) .nil))) ?_;refine St.sA (.mk rfl) (.mk rfl) aR ?_;refine St.nn (St.ae (St.aN (St.a8 ?_)));refine St.rT [_] [aZ bn (.cells [iv ((sn+1:Nat):Int)].toArray 3 (0,0)),aZ bg (.cells [g.tv.1,g.fv.1,g.rv.1,g.xv.1,g.start.nv.1].toArray 54 (0,0)),aZ bl (.cells [iv ((Gs:Nat):Int)].toArray 3 (0,0)),aZ bw (.cells [(.func (.func 59) #[] [Value.pointer (some ⟨bn,0,none⟩),Value.pointer (some ⟨bg,0,none⟩),Value.pointer (some ⟨bl,0,none⟩),Value.pointer (some ⟨bw,0,none⟩)].toArray)].toArray 133 (0,0))] Tryz.results59 ⟨⟨_,_,_,_,rfl,c4.mem,.inl ⟨⟨_,bC⟩,aR,rfl⟩⟩,trivial⟩ ?_;rw[dC];exact⟨rfl,rfl⟩
   ·try simp only[aA]at l8
    rw[if_neg (by omega)]at dC;refine St.sr ?_;refine St.ee (Ev.aD (.mk rfl) lE) ?_;refine St.ee (Ev.l0 (.mk rfl) bf) ?_;refine St.ee Ev.xi ?_;refine St.mv ?_;refine St.gt _ rfl rfl (fun hg=>Ev.aD (.mk rfl) uM) rfl ?_;refine St.gt _ rfl rfl (fun hg=>Ev.cY (aL.gv rfl hg) bf trivial (by rfl)) rfl ?_;refine St.gt _ rfl rfl (fun hg=>Ev.neq (aL.gv rfl hg) (.mk rfl)) rfl ?_;refine St.ee Ev.n0 ?_;refine St.ao ?_;refine St.nn ?_;refine St.cond _ rfl (fun qP=> ?_) (fun qP=> ?_)
    ·try simp only[aA]at qP
     rw[if_pos (by omega)]at dC;refine St.sr ?_;refine St.mv ?_;refine St.ee (Ev.call (dg 5 sn) B3 (.cons (.mk rfl) (.cons (.mk rfl) .nil))) ?_;refine St.sA (.mk rfl) (.mk rfl) aR ?_;refine St.nn (St.ae (St.aN (St.a8 ?_)));refine St.rT [_] [aZ bn (.cells [iv ((sn+1:Nat):Int)].toArray 3 (0,0)),aZ bg (.cells [g.tv.1,g.fv.1,g.rv.1,g.xv.1,g.start.nv.1].toArray 54 (0,0)),aZ bl (.cells [iv ((Gs:Nat):Int)].toArray 3 (0,0)),aZ bw (.cells [(.func (.func 59) #[] [Value.pointer (some ⟨bn,0,none⟩),Value.pointer (some ⟨bg,0,none⟩),Value.pointer (some ⟨bl,0,none⟩),Value.pointer (some ⟨bw,0,none⟩)].toArray)].toArray 133 (0,0))] Tryz.results59 ⟨⟨_,_,_,_,rfl,c4.mem,.inl ⟨⟨_,bC⟩,aR,rfl⟩⟩,trivial⟩ ?_;rw[dC];exact⟨rfl,rfl⟩
    ·try simp only[aA]at qP
     rw[if_neg (by omega)]at dC;refine St.sr ?_;refine St.ee (Ev.aD (.mk rfl) lE) ?_;refine St.ee (Ev.l0 (.mk rfl) bf) ?_;refine St.ee Ev.xi ?_;refine St.ao ?_;refine St.nn ?_;refine St.cond _ rfl (fun Gt=> ?_) (fun Gt=> ?_)
     ·try simp only[aA]at Gt
      obtain⟨ru,NN⟩:=aY (show x.eV.toNat<g.rules.length by omega)
      have NO:kn=ru.kids:=by rw[←wu,if_pos (by omega),List.getD_eq_getElem?_getD,List.getElem?_map,NN];rfl
      have LL:lv=Gs:=by rw[←NM,if_pos (by omega)]
      refine St.rg ?_;refine St.ee (Ev.aD (.mk rfl) oA) ?_;refine St.ee (Ev.l0 (.mk rfl) pJ) ?_;refine St.ee (Ev.aD (.mk rfl) lE) ?_;refine St.ee (Ev.l0 (.mk rfl) bf) ?_;refine St.ee (Ev.aa (k:=x.eV.toNat) (.mk rfl) (.mk rfl) pJ xk (by omega) (by omega)) ?_;refine St.ee (Ev.eY (.mk rfl) (by omega) uK) ?_;refine St.ee (Ev.jA (.mk rfl) NN bf trivial rfl) ?_;refine St.slot 83 (iv kn) rfl (congrArg iv NO.symm) ?_;refine St.hS bl (L':=[iv ((lv:Nat):Int)]) (by rw[LL]) ?_;refine St.ao ?_;refine St.nil (St.aW (St.a7 ?_));refine St.mE () ⟨dC,by omega,by omega⟩
     ·try simp only[aA]at Gt
      have NO:kn=0:=by rw[←wu,if_neg (by omega)]
      have LL:lv=Gs+1:=by rw[←NM,if_neg (by omega)]
      refine St.slot 12 (iv kn) rfl (congrArg iv NO.symm) ?_;refine St.rg ?_;refine St.ee (Ev.l0 (.mk rfl) bf) ?_;refine St.ee Ev.a0 ?_;refine St.bQ (.mk rfl) (.mk rfl) cu rfl (by rfl) ?_;refine St.hS bl (L':=[iv ((lv:Nat):Int)]) (by rw[LL];rfl) ?_;refine St.nil (St.aW (St.a7 ?_));refine St.mE () ⟨dC,by omega,by omega⟩
 ·rintro _ ⟨dC,Z9,ZA⟩
  refine St.seq (St.sr ?_);refine St.ee (Ev.aD (.mk rfl) yU) ?_;refine St.ee (Ev.l0 (.mk rfl) rL) ?_;refine St.ee (Ev.bA (.mk rfl) rL) ?_;refine St.mv ?_;refine St.ee Ev.kz ?_;refine St.nn ?_;refine St.cond _ rfl (fun yZ=> ?_) (fun yZ=> ?_)
  ·try simp only[aA]at yZ
   rw[if_pos (by omega)]at dC;refine St.sr ?_;refine St.mv ?_;refine St.ee (Ev.call (dg 9 sn) B3 (.cons (.mk rfl) (.cons (.mk rfl) .nil))) ?_;refine St.sA (.mk rfl) (.mk rfl) aR ?_;refine St.nn (St.ae (St.a8 ?_));refine St.rT [_] [aZ bn (.cells [iv ((sn+1:Nat):Int)].toArray 3 (0,0)),aZ bg (.cells [g.tv.1,g.fv.1,g.rv.1,g.xv.1,g.start.nv.1].toArray 54 (0,0)),aZ bl (.cells [iv ((lv:Nat):Int)].toArray 3 (0,0)),aZ bw (.cells [(.func (.func 59) #[] [Value.pointer (some ⟨bn,0,none⟩),Value.pointer (some ⟨bg,0,none⟩),Value.pointer (some ⟨bl,0,none⟩),Value.pointer (some ⟨bw,0,none⟩)].toArray)].toArray 133 (0,0))] Tryz.results59 ⟨⟨_,_,_,_,rfl,c4.mem,.inl ⟨⟨_,bC⟩,aR,rfl⟩⟩,trivial⟩ ?_;rw[dC];exact⟨rfl,rfl⟩
  ·try simp only[aA]at yZ
   rw[if_neg (by omega)]at dC;refine St.skip (St.a7 ?_);refine St.join (ι:=Unit) (fun u T=>(2,iv (c2:Nat))::T) (fun u=>[aZ b7 (.cells (vJ x).toArray 58 (0,0)),aZ iC (.cells [iv 0,iv 0].toArray 28 (0,0)),aZ bn (.cells [iv ((sn+1:Nat):Int)].toArray 3 (0,0)),aZ bg (.cells [g.tv.1,g.fv.1,g.rv.1,g.xv.1,g.start.nv.1].toArray 54 (0,0)),aZ bl (.cells [iv ((lv:Nat):Int)].toArray 3 (0,0)),aZ bw (.cells [(.func (.func 59) #[] [Value.pointer (some ⟨bn,0,none⟩),Value.pointer (some ⟨bg,0,none⟩),Value.pointer (some ⟨bl,0,none⟩),Value.pointer (some ⟨bw,0,none⟩)].toArray)].toArray 133 (0,0)),aE (sl fR x.kv.1 x.kids),aE (au dV x.kids),aE (sl cJ g.rv.1 g.rules),aE (sl c6 g.xv.1 g.bK)]) (fun u=>True) (aG.cons 1 rfl (aG.cons 6 rfl (aG.cons 7 rfl (aG.cons 10 rfl (aG.cons 11 rfl aG.nil))))) ?_ ?_
   ·refine St.sr ?_
    refine St.mv ?_;refine St.ee Ev.a0 ?_;refine St.ao ?_;refine St.nn (St.sr ?_);refine St.mv ?_;refine St.ee Ev.kz ?_;refine St.nn ?_;refine St.cond _ rfl (fun TG=> ?_) (fun TG=> ?_)
    ·try simp only[aA]at TG
     have KO:c2=0:=by rw[←wk,if_neg (by omega)]
     refine St.rg ?_;refine St.ao ?_;refine St.nn ?_;refine St.mE () trivial
    ·try simp only[aA]at TG
     have KO:c2=ch+1:=by rw[←wk,if_pos (by omega)]
     refine St.skip (St.a7 ?_);refine St.mE () trivial
   ·intro _ _
    refine St.seq (St.sr ?_);refine St.mv ?_;refine St.ee Ev.vQ ?_;refine St.nn ?_;refine St.cond _ rfl (fun TH=> ?_) (fun TH=> ?_)
    ·try simp only[aA]at TH
     rw[if_pos (by omega)]at dC;refine St.sr ?_;refine St.mv ?_;refine St.ee (Ev.call (dg 14 sn) B3 (.cons (.mk rfl) (.cons (.mk rfl) .nil))) ?_;refine St.sA (.mk rfl) (.mk rfl) aR ?_;refine St.nn (St.ae (St.a8 ?_));refine St.rT [_] [aZ bn (.cells [iv ((sn+1:Nat):Int)].toArray 3 (0,0)),aZ bg (.cells [g.tv.1,g.fv.1,g.rv.1,g.xv.1,g.start.nv.1].toArray 54 (0,0)),aZ bl (.cells [iv ((lv:Nat):Int)].toArray 3 (0,0)),aZ bw (.cells [(.func (.func 59) #[] [Value.pointer (some ⟨bn,0,none⟩),Value.pointer (some ⟨bg,0,none⟩),Value.pointer (some ⟨bl,0,none⟩),Value.pointer (some ⟨bw,0,none⟩)].toArray)].toArray 133 (0,0))] Tryz.results59 ⟨⟨_,_,_,_,rfl,c4.mem,.inl ⟨⟨_,bC⟩,aR,rfl⟩⟩,trivial⟩ ?_;rw[dC];exact⟨rfl,rfl⟩
    ·try simp only[aA]at TH
     rw[if_neg (by omega)]at dC;refine St.skip (St.a7 (St.seq (St.sr ?_)));refine St.ee (Ev.aD (.mk rfl) yU) ?_;refine St.ee (Ev.l0 (.mk rfl) rL) ?_;refine St.ee (Ev.bA (.mk rfl) rL) ?_;refine St.mv ?_;refine St.nn (St.block ?_);refine St.pH (ι:=Nat) (κ:=AO) (fun k z T=>(102,iv k)::T) (fun k z=>[aZ iC (.cells [iv 0,iv 0].toArray 28 (0,0)),aZ bn (.cells [iv ((z.nodes:Nat):Int)].toArray 3 (0,0)),aZ bg (.cells [g.tv.1,g.fv.1,g.rv.1,g.xv.1,g.start.nv.1].toArray 54 (0,0)),aZ bl (.cells [iv ((z.leaves:Nat):Int)].toArray 3 (0,0)),aZ bw (.cells [(.func (.func 59) #[] [Value.pointer (some ⟨bn,0,none⟩),Value.pointer (some ⟨bg,0,none⟩),Value.pointer (some ⟨bl,0,none⟩),Value.pointer (some ⟨bw,0,none⟩)].toArray)].toArray 133 (0,0)),aE (sl fR x.kv.1 x.kids),aE (au dV x.kids),aE (sl cJ g.rv.1 g.rules),aE (sl c6 g.xv.1 g.bK)]) (fun k z=>k≤x.kids.length∧ju (g.rules.map bm.kids) g.bK.length (ay x) d ch ⟨sn,Gs⟩=jE (g.rules.map bm.kids) g.bK.length ((x.kids.map ay).drop k) (d+1) c2 z∧z.nodes≤200∧z.leaves≤z.nodes) (fun k z=>x.kids.length-k) 0 ⟨sn+1,lv⟩ (aG.cons 1 rfl (aG.cons 2 rfl (aG.cons 6 rfl (aG.cons 10 rfl (aG.cons 100 rfl (aG.cons 101 rfl aG.nil)))))) ⟨Nat.zero_le _,dC,by dsimp only;omega,by dsimp only;rw[←NM];split<;>omega⟩ ?_;rintro k ⟨zn,zl⟩ ⟨hk,NQ,Wt,Lg⟩
     dsimp only at Wt Lg⊢
     refine St.sr ?_;refine St.ee Ev.ez ?_;refine St.nn (St.seq ?_);refine St.cond _ rfl (fun oJ=> ?_) (fun oJ=> ?_)
     ·try simp only[aA]at oJ
      obtain⟨y,hy⟩:=aY (show k<x.kids.length by omega)
      have rO:=List.mem_of_getElem? hy
      refine St.dK dV x.kids (x:=y) rO ?_
      have gL:=B6 (rk:=(g.rules.map bm.kids)) (nl:=g.bK.length) hy (d+1) c2 ⟨zn,zl⟩
      refine St.skip (St.a7 (St.seq (St.block (St.sr ?_))));refine St.ee (Ev.aa (k:=k) (.mk rfl) (.mk rfl) rL kV (by omega) (by omega)) ?_;refine St.ee (Ev.iH (.mk rfl) hy rM trivial kV fw.eq) ?_;refine St.alloc yV rfl (fun r7=> ?_);refine St.sA (.mk rfl) (.mk rfl) kV ?_ (h1:=(by simp only[List.all_cons,List.all_nil,Bool.and_true,Bool.and_eq_true];exact⟨rfl,rfl,y.kv.2⟩));refine St.nn (St.seq ?_);refine St.dup (sl cJ g.rv.1 g.rules) ?_;refine St.dup (sl c6 g.xv.1 g.bK) ?_;refine St.rg ?_;refine St.ee (Ev.l0 (.mk rfl) Tryz.underlying133) ?_;refine St.ee (Ev.an (.mk rfl) rM trivial (by exact kV)) ?_;refine St.mv ?_;refine St.ee Ev.a0 ?_;refine St.slot 109 (iv ((d+1:Nat):Int)) rfl rfl ?_;refine St.mv ?_;refine St.cp (ih y rO (d+1) c2 ⟨zn,zl⟩ (nY y rO) (by omega) (by omega) Wt Lg) N9 (.mk rfl) (.cons (.mk rfl) (.cons (.mk rfl) (.cons (.mk rfl) .nil))) rfl ?_;rintro ZB _ ⟨rfl,rfl⟩;refine St.JR ?_;refine St.alloc dR rfl (fun ZC=> ?_);refine St.sA (.mk rfl) (.mk rfl) aR ?_;refine St.nn (St.sr ?_);refine St.ee (Ev.aD (.mk rfl) cW) ?_;refine St.ee (Ev.l0 (.mk rfl) bf) ?_;refine St.ee Ev.kz ?_;refine St.nn ?_;refine St.cond _ rfl (fun KP=> ?_) (fun KP=> ?_)
      ·skip
       rw[if_pos (show(ju (g.rules.map bm.kids) g.bK.length (ay y) (d+1) c2 ⟨zn,zl⟩).2.1≠0 by simpa using KP)]at gL;rw[gL]at NQ;refine St.sr ?_;refine St.ee (Ev.an (.mk rfl) bC trivial (by exact aR)) ?_;refine St.sA (.mk rfl) (.mk rfl) aR ?_;refine St.nn (St.ae (St.aN (St.a8 (St.a8 (St.aN (St.a8 ?_))))));refine St.rT [_] [aZ bn (.cells [iv (((ju (g.rules.map bm.kids) g.bK.length (ay y) (d+1) c2 ⟨zn,zl⟩).1.nodes:Nat):Int)].toArray 3 (0,0)),aZ bg (.cells [g.tv.1,g.fv.1,g.rv.1,g.xv.1,g.start.nv.1].toArray 54 (0,0)),aZ bl (.cells [iv (((ju (g.rules.map bm.kids) g.bK.length (ay y) (d+1) c2 ⟨zn,zl⟩).1.leaves:Nat):Int)].toArray 3 (0,0)),aZ bw (.cells [(.func (.func 59) #[] [Value.pointer (some ⟨bn,0,none⟩),Value.pointer (some ⟨bg,0,none⟩),Value.pointer (some ⟨bl,0,none⟩),Value.pointer (some ⟨bw,0,none⟩)].toArray)].toArray 133 (0,0))] Tryz.results59 ⟨⟨_,_,_,_,rfl,c4.mem,.inl ⟨⟨_,bC⟩,aR,rfl⟩⟩,trivial⟩ ?_
       rw[NQ];exact⟨rfl,rfl⟩
      ·skip
       have LN:¬(ju (g.rules.map bm.kids) g.bK.length (ay y) (d+1) c2 ⟨zn,zl⟩).2.1≠0:=by simpa using KP
       rw[if_neg LN]at gL
       have fx:=yY (ay y) (d+1) c2 ⟨zn,zl⟩ (Decidable.not_not.1 LN) Lg
       refine St.skip (St.aW (St.a7 (St.rg ?_)));refine St.ee Ev.a0 ?_;refine St.mv ?_;refine St.nn ?_;refine St.ly (k+1) (ju (g.rules.map bm.kids) g.bK.length (ay y) (d+1) c2 ⟨zn,zl⟩).1 ⟨by omega,NQ.trans gL,fx.1,fx.2⟩
     ·try simp only[aA]at oJ
      rw[DZ (by omega)]at NQ;refine St.exit (St.aJ (St.aJ (St.bO (St.a7 (St.sr ?_)))));refine St.ee (Ev.build (ps:=[]) (aQ.nil) (fun w=>fK w)) ?_;refine St.sA (.mk rfl) (.mk rfl) aR ?_;refine St.nn (St.ae ?_);refine St.rT [_] [aZ bn (.cells [iv ((zn:Nat):Int)].toArray 3 (0,0)),aZ bg (.cells [g.tv.1,g.fv.1,g.rv.1,g.xv.1,g.start.nv.1].toArray 54 (0,0)),aZ bl (.cells [iv ((zl:Nat):Int)].toArray 3 (0,0)),aZ bw (.cells [(.func (.func 59) #[] [Value.pointer (some ⟨bn,0,none⟩),Value.pointer (some ⟨bg,0,none⟩),Value.pointer (some ⟨bl,0,none⟩),Value.pointer (some ⟨bw,0,none⟩)].toArray)].toArray 133 (0,0))] Tryz.results59 ⟨⟨_,_,_,_,rfl,c4.mem,.inl ⟨⟨_,bC⟩,aR,rfl⟩⟩,trivial⟩ ?_
      rw[NQ];exact⟨rfl,rfl⟩
set_option maxHeartbeats 2000000 in
theorem B7 (g:k7)(t:bV)(hw:fR.wf t):de Tryz.prog 27 #[pG g,kp t] [jD g,dV t] (fv (km (iW g) (ay t))):=by
 unfold de;refine eI.body (args:=[pG g,kp t]) 21 Tryz.func27 rfl Tryz.ntmps27 rfl (fun c=> ?_);refine St.cast (H':=[aE (jD g),aE (dV t)]) rfl ?_;refine St.seq ?_
 refine St.fP (jD g) (fun _:Unit=>G2 g) (fun ρ h=>⟨(),h⟩) fun _=> ?_
 refine St.cast (H':=[aE (sl fh g.tv.1 g.types),aE (au hY g.types),aE (sl cV g.fv.1 g.c8),aE (sl cJ g.rv.1 g.rules),aE (au cK g.rules),aE (sl c6 g.xv.1 g.bK),aE (au dn g.bK),aE (bz g.start),aE (jD g),aE (dV t)]) rfl ?_
 have dC:=Gr g t
 refine St.rg ?_;refine St.dS (.mk rfl) rfl (fun b2=> ?_);refine St.dS (.mk rfl) rfl (fun b3=> ?_);refine St.alloc dR rfl (fun b4=> ?_);refine St.nn (St.sr ?_);refine St.alloc LG rfl (fun b5=> ?_);refine St.alloc LG rfl (fun b6=> ?_);refine St.bQ (.mk rfl) (.mk rfl) cu rfl (by rfl) ?_;refine St.hS b5 (L':=[iv ((0:Nat):Int)]) rfl ?_;refine St.bQ (.mk rfl) (.mk rfl) cu rfl (by rfl) ?_;refine St.hS b6 (L':=[iv ((0:Nat):Int)]) rfl ?_;refine St.nn (St.sr ?_);refine St.alloc NA rfl (fun b7=> ?_);refine St.nn (St.sr ?_);refine St.ee (Ev.func (.cons (.mk rfl) (.cons (.mk rfl) (.cons (.mk rfl) (.cons (.mk rfl) .nil))))) ?_;refine St.bQ (.mk rfl) (.mk rfl) NB rfl (by rfl) ?_;refine St.nn (St.seq (St.seq ?_));refine St.dup (sl cJ g.rv.1 g.rules) ?_;refine St.dup (sl c6 g.xv.1 g.bK) ?_;refine St.dup (dV t) ?_;refine St.rg ?_;refine St.ee (Ev.l0 (.mk rfl) Tryz.underlying133) ?_;refine St.ee (Ev.an (.mk rfl) rM trivial (by exact kV)) ?_;refine St.cp (rS b5 b2 b6 b7 g t 1 0 ⟨0,0⟩ hw (by omega) (by omega) (by simp) (by simp)) N9 (.mk rfl) (.cons (.mk rfl) (.cons (.mk rfl) (.cons (.mk rfl) .nil))) rfl ?_;rintro v12 _ ⟨rfl,rfl⟩;refine St.JR ?_;refine St.alloc dR rfl (fun b8=> ?_);refine St.sA (.mk rfl) (.mk rfl) aR ?_;refine St.nn (St.sr ?_);refine St.ee (Ev.aD (.mk rfl) cW) ?_;refine St.ee (Ev.l0 (.mk rfl) bf) ?_;refine St.ee Ev.kz ?_;refine St.nn ?_;refine St.cond _ rfl (fun GS=> ?_) (fun GS=> ?_)
 ·skip
  rw[if_pos (show(ju (g.rules.map bm.kids) g.bK.length (ay t) 1 0 ⟨0,0⟩).2.1≠0 by simpa using GS)]at dC;refine St.sr ?_;refine St.ee (Ev.an (.mk rfl) bC trivial (by exact aR)) ?_;refine St.sA (.mk rfl) (.mk rfl) aR ?_;refine St.nn (St.ae (St.a8 ?_));refine St.rT [_] [] Tryz.results27 ⟨⟨_,_,_,_,rfl,c4.mem,.inl ⟨⟨_,bC⟩,aR,rfl⟩⟩,trivial⟩ ?_;exact congrArg fv dC.symm
 ·skip
  have LN:¬(ju (g.rules.map bm.kids) g.bK.length (ay t) 1 0 ⟨0,0⟩).2.1≠0:=by simpa using GS
  rw[if_neg LN]at dC
  have fx:=yY (ay t) 1 0 ⟨0,0⟩ (Decidable.not_not.1 LN) (Nat.le_refl _)
  refine St.skip (St.a7 (St.seq (St.sr ?_)));refine St.ee (Ev.l0 (.mk rfl) bf) ?_;refine St.ee Ev.vQ ?_;refine St.nn ?_;refine St.cond _ rfl (fun eT=> ?_) (fun eT=> ?_)
  ·try simp only[aA]at eT
   rw[if_pos (by omega)]at dC;refine St.sr ?_;refine St.ee (Ev.call (dg 2 (-2)) B3 (.cons (.mk rfl) (.cons (.mk rfl) .nil))) ?_;refine St.sA (.mk rfl) (.mk rfl) aR ?_;refine St.nn (St.ae (St.a8 ?_));refine St.rT [_] [] Tryz.results27 ⟨⟨_,_,_,_,rfl,c4.mem,.inl ⟨⟨_,bC⟩,aR,rfl⟩⟩,trivial⟩ ?_;exact congrArg fv dC.symm
  ·try simp only[aA]at eT
   rw[if_neg (by omega)]at dC;refine St.skip (St.a7 (St.sr ?_));refine St.ee (Ev.build (ps:=[]) (aQ.nil) (fun w=>fK w)) ?_;refine St.sA (.mk rfl) (.mk rfl) aR ?_;refine St.nn (St.ae ?_);refine St.rT [_] [] Tryz.results27 ⟨⟨_,_,_,_,rfl,c4.mem,.inl ⟨⟨_,bC⟩,aR,rfl⟩⟩,trivial⟩ ?_;exact congrArg fv dC.symm
end Go.Proofs.YtoioijgdggkabaaGreatDoor
namespace Go.J
open Go
abbrev ints (l:List Nat):List Int:=l.map (fun i:Nat=>(i:Int))
theorem Da (l:List Int)(k:Nat)(x:Int):(rows aF l).set (k*1+0) (iv x)=rows aF (l.set k x):=by
 rw[Nat.mul_one,Nat.add_zero,ry (Rr:=aF) rfl rfl]
theorem wA (l:List Nat):(ints l).length=l.length:=List.length_map _
section
variable {P:Program}{n:Nat}{F:Fr}{A:World→Prop}{x y:Operand}{ty:TypeId}
end
end Go.J
namespace Go.J
open Go Go.Proofs Go.Proofs.YtoioijgdggkabaaGreatDoor
section
variable {P:Program}{n:Nat}{F:Fr}{A:World→Prop}{c:Ctx}{H R:List bE}{ty:TypeId}{x y:Operand}{v:Value}{Q:Exit→Act→World→Prop}{ops:Array Oper}{rest:List Oper}{d size:Nat}
 {pos:String} {after:Array Edge} {t e:TypeId} {m k:Nat} {cs:List Value}
theorem Ev.Db {off o i b o' cap:Nat}{s:TypeId}(hv:v= .slice (some ⟨b,o',none⟩) m cap)(hx:aL F x (di v size k off))(ho:ak P s i=some o):Ev P n F A (.fieldAddr s x i) ty (di v size k (off+o)):= .of_run fun a w ha _=>by
 subst hv;rw[dk]at hx
 simp[execOp,hx.eval ha,jI ho,dk,Addr.add_lit,Nat.add_assoc]
theorem Ev.TI {a b:Int}{rB:Array TypeId}(hx:aL F x (iv a))(hy:aL F y (iv b)):
 Ev P n F A (.call {callee:= .builtin .max,args:= #[x,y],argTypes:=rB}) ty (iv (if b>a then b else a)):= .of_run fun a w ha _=>by
 simp[execOp,resolve,invoke,builtin,hx.eval ha,hy.eval ha,run_max_int2,iv]
theorem St.mW {v2:Value}{m2:Nat}{news:List Value}{zv:Value}{ux:Nat}[t1:jH v H e size m cs R][r2:tH v2 R e size m2 news]
 (hx:aL F x v) (hy:aL F y v2) (ht:P.underlying t=some (.slice e)) (hs:(P.info? e).map (·.size)=some size) (hz:(P.info? e).bind (·.zero)=some zv) (hb:(P.info? e).map (·.bytes)=some ux)
 (Fh:∀u∈news,u.oneCell'=true) (hlen:m+m2≤9223372036854775807) (m7:(m+m2)*ux≤140737488355328) (I7:zv.cells.size=size) (nh:Nat.ble 1 size=true) (er:1≤m2) (hd:Nat.ble (d+1) n=true)
 (h:∀v',(v'= .slice none 0 0↔v= .slice none 0 0∧m2=0)→St n ((d,v')::F) (Mm c (row v' e size (m+m2) (cs++news)::R)) (wpList P ops Q rest)):
 St n F (Mm c H) (wpList P ops Q ({dst:=some d,op:= .call {callee:= .builtin .append,args:= #[x,y],argTypes:= #[t,t]},type:=ty,pos:=pos,after:=after,guard:=none}::rest)):=by
 refine St.I1 (K:=fun v' H'=>(v'= .slice none 0 0↔v= .slice none 0 0∧m2=0)∧H'=row v' e size (m+m2) (cs++news)::R) ?_ hd ?_
 ·intro a w ρ ha hm
  have rn:=hm.perm t1.perm
  have hr:=e6.1 (rn.ct _ (List.mem_cons_self ..))
  have FI:=rn.drop.row r2
  obtain⟨i,hi,fx⟩:=Option.map_eq_some_iff.1 hs;obtain⟨q1,q2,q3⟩:=mh hs hz hb hi
  rcases FI.2 with⟨_,rfl⟩|⟨g2,xM,Lk,rfl,_,Ll,xK,wk,Lm,Bp⟩
  ·omega
  ·obtain⟨v',w',rC,how,Bq,xN,Rj,gL⟩:=m6 (P:=P) (w:=w) t ty e ht hi q2 q1 q3 I7 (Nat.le_of_ble_eq_true nh) v m cs hr ⟨g2,0,none⟩ m2 xM news FI.1
    (fun j u hj=>by
     rw[Addr.add_lit,Nat.zero_add,bp Ll];rw[←Bp,List.getElem?_take]at hj
     split at hj
     ·simpa using hj
     ·simp at hj) Fh (by unfold maxLen;omega) m7
   refine⟨.value v',w',ρ,_,?_,⟨_,.inl rfl,xN,rfl⟩,?_⟩
   ·simp[execOp,resolve,invoke,builtin,hx.eval ha,hy.eval ha,rC]
   ·refine rn.alter Bq.os ⟨Bq.tape,gL⟩ Bq.output Bq.size (fun j hj er=> ?_) (e6.2 how) (fun b' jC=> ?_)
    ·rw[eL]at er;exact Bq.block j hj (fun e=>er e.symm)
    ·rw[eL]at jC⊢;exact Rj b' jC
 ·rintro _ _ ⟨h1,rfl⟩
  exact h _ h1
end
section
variable {n:Nat}{F:Fr}{c:Ctx}{R:List bE}{T:Act→World→Prop}
theorem St.NR {a b d e f g h i:bE}(k:St n F (Mm c (a::b::d::e::f::g::h::i::R)) T):St n F (Mm c ([a,b,d,e,f,g,h,i]++R)) T:=k
end
theorem qZ {L:List Nq}{cs:List Value}{j:Nat}{u:Value}:(rows fU L++cs).set (L.length*6+j) u=rows fU L++cs.set j u:=by
 have hl:(rows fU L).length=L.length*6:=fo _ _
 rw[List.set_append,if_neg (by rw[hl];omega),hl,Nat.add_sub_cancel_left]
theorem Gu {L K:List Nq}{x:Nq}:rows fU (L++x::K)=rows fU L++(fU.cells x++rows fU K):=by
 simp[rows]
end Go.J
namespace Go.Proofs.YtoioijgdggkabaaGreatDoor
open Go Go.J
theorem NS (x:bV):wq (ay x)=1+nA (x.kids.map ay):=by cases x;rw[ay,gN,wq];rfl
theorem NT (x:bV):tg (ay x)=(if x.eV<0 then 1 else 0)+kq (x.kids.map ay):=by cases x;rw[ay,gN,tg];rfl
theorem NU (G:mP)(x:bV)(k:Nat)(up:Int)(w:Nat):o7 G (ay x) k up w=⟨k,decide (x.eV<0),CF G x.eV x.lex,up,k+(1+nA (x.kids.map ay)),w,w+((if x.eV<0 then 1 else 0)+kq (x.kids.map ay))⟩::oh G (x.kids.map ay) (k+1) k (w+(if x.eV<0 then 1 else 0)):=by
 cases x;rw[ay,gN,o7];rfl
theorem se {nr nl:Nat}:∀{l:List gU},kr nr nl l→∀t∈l,ir nr nl t
 | [],_,t,h=>by cases h
 |x::l,h,t,ht=>by
  rw[kr]at h
  rcases List.mem_cons.1 ht with rfl|ht
  ·exact h.1
  ·exact se h.2 t ht
theorem Gv {nr nl:Nat}(x:bV)(h:ir nr nl (ay x)):(-1≤x.eV∧x.eV<nr)∧(x.eV<0→x.kids=[]∧0≤x.lex∧x.lex<nl)∧∀y∈x.kids,ir nr nl (ay y):=by
 cases x with
 |mk r y v l=>
  rw[ay,gN,ir]at h;refine⟨h.1,fun hr=> ?_,fun y hy=>se h.2.2.2 _ (List.mem_map_of_mem hy)⟩;obtain⟨h1,h2,h3⟩:=h.2.1 hr;exact⟨List.map_eq_nil_iff.1 h1,h2,h3⟩
theorem zp:∀l m:List gU,nA (l++m)=nA l+nA m
 | [],m=>by rw[List.nil_append,nA];omega
 |x::l,m=>by rw[List.cons_append,nA,zp l,nA];omega
theorem uP:∀l m:List gU,kq (l++m)=kq l+kq m
 | [],m=>by rw[List.nil_append,kq];omega
 |x::l,m=>by rw[List.cons_append,kq,uP l,kq];omega
theorem zq (G:mP):∀(l m:List gU) (k:Nat) (up:Int) (w:Nat),oh G (l++m) k up w=oh G l k up w++oh G m (k+nA l) up (w+kq l)
 | [],m,k,up,w=>by rw[List.nil_append,oh,nA,kq];rfl
 |x::l,m,k,up,w=>by rw[List.cons_append,oh,zq G l,oh,nA,kq,List.append_assoc,Nat.add_assoc,Nat.add_assoc]
def wy (G:mP)(l:List gU)(n w k:Nat):List Nq:=oh G (l.take k) (n+1) n w
theorem wB (G:mP)(l:List gU)(n w:Nat):wy G l n w 0=[]:=by unfold wy;rw[List.take_zero,oh]
theorem wC (G:mP){l:List gU}{k:Nat}{t:gU}(h:l[k]?=some t)(n w:Nat):wy G l n w (k+1)=wy G l n w k++o7 G t (n+1+nA (l.take k)) n (w+kq (l.take k)):=by
 unfold wy;rw[bD h,zq,oh,oh,List.append_nil]
theorem Gw (G:mP)(l:List gU)(n w k:Nat):(wy G l n w k).length=nA (l.take k):=th ..
theorem zr (G:mP)(l:List gU)(n w:Nat){k:Nat}(h:l.length≤k):wy G l n w k=oh G l (n+1) n w:=by unfold wy;rw[List.take_of_length_le h]
theorem Dc {l:List gU}{k:Nat}{t:gU}(h:l[k]?=some t):nA (l.take k)+wq t≤nA l:=by
 conv=>rhs;rw[←List.take_append_drop k l]
 rw[bS h,zp,nA];omega
theorem Dd {l:List gU}{k:Nat}{t:gU}(h:l[k]?=some t):kq (l.take (k+1))=kq (l.take k)+tg t∧kq (l.take k)+tg t≤kq l:=by
 refine⟨by rw[bD h,uP,kq,kq];omega,?_⟩
 conv=>rhs;rw[←List.take_append_drop k l]
 rw[bS h,uP,kq];omega
set_option maxHeartbeats 4000000 in
theorem qa (bl bw bg bk:Nat)(g:k7):∀(x:bV) (up:Int) (L:List Nq) (w:Nat) (vl:Value),vl.oneCell'=true→fR.wf x→ir g.rules.length g.bK.length (ay x)→L.length+wq (ay x)≤200→w+tg (ay x)≤200→eI Tryz.prog 61 ([kp x,iv up]++ [Value.pointer (some ⟨bl,0,none⟩),Value.pointer (some ⟨bw,0,none⟩),Value.pointer (some ⟨bg,0,none⟩),Value.pointer (some ⟨bk,0,none⟩)]).toArray [aE (dV x),aZ bl (.cells [vl].toArray 77 (0,0)),row vl 82 6 (L).length (rows fU (L)),aZ bw (.cells [iv ((w:Nat):Int)].toArray 3 (0,0)),aZ bg (.cells [g.tv.1,g.fv.1,g.rv.1,g.xv.1,g.start.nv.1].toArray 54 (0,0)),aZ bk (.cells [(.func (.func 61) #[] [Value.pointer (some ⟨bl,0,none⟩),Value.pointer (some ⟨bw,0,none⟩),Value.pointer (some ⟨bg,0,none⟩),Value.pointer (some ⟨bk,0,none⟩)].toArray)].toArray 134 (0,0)),aE (sl cJ g.rv.1 g.rules),aE (sl c6 g.xv.1 g.bK)] (fun v H'=>∃v2,v2.oneCell'=true∧H'=[aZ bl (.cells [v2].toArray 77 (0,0)),row v2 82 6 (L++o7 (iW g) (ay x) L.length up w).length (rows fU (L++o7 (iW g) (ay x) L.length up w)),aZ bw (.cells [iv ((w+tg (ay x):Nat):Int)].toArray 3 (0,0)),aZ bg (.cells [g.tv.1,g.fv.1,g.rv.1,g.xv.1,g.start.nv.1].toArray 54 (0,0)),aZ bk (.cells [(.func (.func 61) #[] [Value.pointer (some ⟨bl,0,none⟩),Value.pointer (some ⟨bw,0,none⟩),Value.pointer (some ⟨bg,0,none⟩),Value.pointer (some ⟨bk,0,none⟩)].toArray)].toArray 134 (0,0))]):=by
 intro x
 induction x using bV.ind
 rename_i x ih
 intro up L w vl rV hw hg fx dC;refine eI.body (args:=[kp x,iv up]++ [Value.pointer (some ⟨bl,0,none⟩),Value.pointer (some ⟨bw,0,none⟩),Value.pointer (some ⟨bg,0,none⟩),Value.pointer (some ⟨bk,0,none⟩)]) 73 Tryz.func61 rfl Tryz.ntmps61 rfl (fun c=> ?_);refine St.seq ?_
 have hE:=NU (iW g) x L.length up w
 obtain⟨TJ,hle,ZD⟩:=Gv x hg;rw[NS]at fx
 have NV:=NT x
 rw[NV]at dC;refine St.vL x ?_;refine St.wf x.kv.1 (fun nY uu=> ?_)
 have TK:(L++ [(⟨L.length,false,[],up,0,w,0⟩:Nq)]).length=L.length+1:=by rw[List.length_append];rfl
 obtain⟨w1,FV⟩:∃w1,w1=w+(if x.eV<0 then 1 else 0):=⟨_,rfl⟩
 obtain⟨lf,TL⟩:∃lf,lf=decide (x.eV<0):=⟨_,rfl⟩
 obtain⟨wD,KQ⟩:∃wD,wD=CF (iW g) x.eV x.lex:=⟨_,rfl⟩
 have Wu:(L++ [(⟨L.length,lf,wD,up,0,w,0⟩:Nq)]).length=L.length+1:=by rw[List.length_append];rfl
 rw[←FV,←TL,←KQ]at hE
 have ZE:w1≤w+(if x.eV<0 then 1 else 0):=by omega
 refine St.rg ?_;refine St.dS (.mk rfl) rfl (fun b6=> ?_);refine St.nn (St.sr ?_);refine St.ee (Ev.l0 (.mk rfl) fk) ?_;refine St.ee (Ev.gm (.mk rfl) fk) ?_;refine St.ao ?_;refine St.nn (St.sr ?_);refine St.ee (Ev.l0 (.mk rfl) fk) ?_;refine St.mv ?_;refine St.ee (Ev.l0 (.mk rfl) bf) ?_;refine St.ee (Ev.build (ps:=[(2,(.tmp 14)),(4,(.tmp 15))]) (aQ.cons (aL.mk rfl) (aQ.cons (aL.mk rfl) aQ.nil)) (fun w=>B4 rfl rfl w)) ?_;refine St.cS rfl (.cons (.mk rfl) .nil) fk lF NC rfl rfl (by simp[Value.cells]) rfl rfl (fun KR=> ?_);refine St.cT (.mk rfl) (.mk rfl) fk lF NC T2 (by simp[Value.oneCell',Value.cells]) (by omega) (by omega) rfl rfl rfl rfl (fun fu B8=> ?_);refine St.bI fu (show _=(L++ [(⟨L.length,false,[],up,0,w,0⟩:Nq)]).length from TK.symm) (show _=rows fU (L++ [(⟨L.length,false,[],up,0,w,0⟩:Nq)]) by rw[dA];rfl) ?_;refine St.e7 fu (fun eT _=> ?_);refine St.vB fu (by omega) (fun bs cs De=> ?_);refine St.bQ (.mk rfl) (.mk rfl) ND eT (by rfl) ?_;refine St.nn ?_;refine St.join (ι:=Unit) (fun u T=>T) (fun u=>[aZ b6 (.cells (vJ x).toArray 58 (0,0)),aZ bl (.cells [fu].toArray 77 (0,0)),row fu 82 6 (L++ [(⟨L.length,lf,wD,up,0,w,0⟩:Nq)]).length (rows fU (L++ [(⟨L.length,lf,wD,up,0,w,0⟩:Nq)])),aZ bw (.cells [iv ((w1:Nat):Int)].toArray 3 (0,0)),aZ bg (.cells [g.tv.1,g.fv.1,g.rv.1,g.xv.1,g.start.nv.1].toArray 54 (0,0)),aZ bk (.cells [(.func (.func 61) #[] [Value.pointer (some ⟨bl,0,none⟩),Value.pointer (some ⟨bw,0,none⟩),Value.pointer (some ⟨bg,0,none⟩),Value.pointer (some ⟨bk,0,none⟩)].toArray)].toArray 134 (0,0)),aE (sl fR x.kv.1 x.kids),aE (au dV x.kids),aE (sl cJ g.rv.1 g.rules),aE (sl c6 g.xv.1 g.bK)]) (fun u=>True) (aG.cons 2 rfl (aG.cons 3 rfl (aG.cons 5 rfl (aG.cons 6 rfl (aG.cons 8 rfl aG.nil))))) ?_ ?_
 ·refine St.sr ?_
  refine St.ee (Ev.aD (.mk rfl) lE) ?_;refine St.ee (Ev.l0 (.mk rfl) bf) ?_;refine St.ee Ev.ez ?_;refine St.nn ?_;refine St.cond _ rfl (fun qJ=> ?_) (fun qJ=> ?_)
  ·try simp only[aA]at qJ
   obtain⟨Qz,ML,Gx⟩:=hle qJ;obtain⟨lx,ow⟩:=aY (show x.lex.toNat<g.bK.length by omega)
   have KS:lf=true:=by rw[TL];exact decide_eq_true qJ
   have Ik:wD=lx.word:=by rw[KQ,CF,if_pos qJ,List.getD_eq_getElem?_getD,show(iW g).bK=g.bK.map k8 from rfl,List.getElem?_map,ow];rfl
   have TM:w1=w+1:=by rw[FV,if_pos qJ]
   subst KS;subst Ik
   refine St.seq ?_;refine St.ek [row fu 82 6 (L++ [(⟨L.length,false,[],up,0,w,0⟩:Nq)]).length (rows fU (L++ [(⟨L.length,false,[],up,0,w,0⟩:Nq)]))] mixed (fun np ns=> ?_);refine SW.dd 0 rfl (fun _=>Ev.cY (.mk rfl) fk trivial (by rfl)) ?_;refine SW.dd 1 rfl (fun _=>Ev.move (.mk rfl)) ?_;refine SW.dd 2 rfl (fun _=>Ev.cY (.mk rfl) fk trivial (by rfl)) ?_;refine SW.dd 3 rfl (fun _=>Ev.move (.mk rfl)) ?_;refine SW.dd 4 rfl (fun _=>Ev.aD (.mk rfl) l3) ?_;refine SW.dd 5 rfl (fun _=>Ev.cY (.mk rfl) kS trivial (by rfl)) ?_;refine SW.dd 6 rfl (fun _=>Ev.aD (.mk rfl) uM) ?_;refine SW.dd 7 rfl (fun _=>Ev.cY (.mk rfl) bf trivial (by rfl)) ?_;refine SW.dd 8 rfl (fun _=>Ev.aa (k:=x.lex.toNat) (.mk rfl) (.mk rfl) kS l4 (by omega) (by omega)) ?_;refine SW.dd 9 rfl (fun _=>Ev.eY (.mk rfl) (by omega) zj) ?_;refine SW.dd 10 rfl (fun _=>Ev.jA (.mk rfl) ow cZ trivial rfl) ?_;refine SW.dd 11 rfl (fun _=>Ev.pD (k:=L.length) De (.mk rfl) (.mk rfl) fk lF (by omega) (by omega)) ?_;refine SW.dd 12 rfl (fun _=>Ev.Db De (.mk rfl) uN) ?_;refine SW.ar (i:=13) (by kernel_rfl) rfl ?_;refine St.eP (.mk rfl) (.mk rfl) Ia rfl (by omega) (by decide) ?_;refine St.nn ?_;refine SW.go ?_;refine SW.dd 14 rfl (fun _=>Ev.pD (k:=L.length) De (.mk rfl) (.mk rfl) fk lF (by omega) (by omega)) ?_;refine SW.dd 15 rfl (fun _=>Ev.Db De (.mk rfl) uO) ?_;refine SW.ar (i:=16) (by kernel_rfl) rfl ?_;refine St.eP (.mk rfl) (.mk rfl) tt rfl (by omega) (by decide) ?_;refine St.nn ?_;refine SW.go ?_;refine SW.done (by kernel_rfl) ?_;refine St.a7 (St.rg ?_);refine St.ee (Ev.l0 (.mk rfl) bf) ?_;refine St.ee Ev.a0 ?_;refine St.bQ (.mk rfl) (.mk rfl) cu rfl (by rfl) ?_;refine St.hS bw (L':=[iv ((w+1:Nat):Int)]) rfl ?_;refine St.nn ?_;refine St.bI fu (TK.trans Wu.symm) (show _=rows fU (L++ [(⟨L.length,true,lx.word,up,0,w,0⟩:Nq)])from(by simp only[dA,qZ];rfl)) ?_;refine St.hS bw (L':=[iv ((w1:Nat):Int)]) (by rw[TM]) ?_;refine St.mE () trivial
  ·try simp only[aA]at qJ
   obtain⟨ru,NN⟩:=aY (show x.eV.toNat<g.rules.length by omega)
   have KS:lf=false:=by rw[TL];exact decide_eq_false (by omega)
   have Ik:wD=ru.name:=by rw[KQ,CF,if_neg (by omega),List.getD_eq_getElem?_getD,show(iW g).rules=g.rules.map pE from rfl,List.getElem?_map,NN];rfl
   have TM:w1=w:=by rw[FV,if_neg (by omega)];rfl
   subst KS;subst Ik
   refine St.ek [row fu 82 6 (L++ [(⟨L.length,false,[],up,0,w,0⟩:Nq)]).length (rows fU (L++ [(⟨L.length,false,[],up,0,w,0⟩:Nq)]))] mixed (fun np ns=> ?_);refine SW.dd 0 rfl (fun _=>Ev.cY (.mk rfl) fk trivial (by rfl)) ?_;refine SW.dd 1 rfl (fun _=>Ev.move (.mk rfl)) ?_;refine SW.dd 2 rfl (fun _=>Ev.aD (.mk rfl) oA) ?_;refine SW.dd 3 rfl (fun _=>Ev.cY (.mk rfl) pJ trivial (by rfl)) ?_;refine SW.dd 4 rfl (fun _=>Ev.aD (.mk rfl) lE) ?_;refine SW.dd 5 rfl (fun _=>Ev.cY (.mk rfl) bf trivial (by rfl)) ?_;refine SW.dd 6 rfl (fun _=>Ev.aa (k:=x.eV.toNat) (.mk rfl) (.mk rfl) pJ xk (by omega) (by omega)) ?_;refine SW.dd 7 rfl (fun _=>Ev.eY (.mk rfl) (by omega) uL) ?_;refine SW.dd 8 rfl (fun _=>Ev.jA (.mk rfl) NN cZ trivial rfl) ?_;refine SW.dd 9 rfl (fun _=>Ev.pD (k:=L.length) De (.mk rfl) (.mk rfl) fk lF (by omega) (by omega)) ?_;refine SW.dd 10 rfl (fun _=>Ev.Db De (.mk rfl) uO) ?_;refine SW.ar (i:=11) (by kernel_rfl) rfl ?_;refine St.eP (.mk rfl) (.mk rfl) tt rfl (by omega) (by decide) ?_;refine St.nn ?_;refine SW.go ?_;refine SW.done (by kernel_rfl) ?_;refine St.a7 ?_;refine St.bI fu (TK.trans Wu.symm) (show _=rows fU (L++ [(⟨L.length,false,ru.name,up,0,w,0⟩:Nq)])from(by simp only[dA,qZ];rfl)) ?_;refine St.hS bw (L':=[iv ((w1:Nat):Int)]) (by rw[TM]) ?_;refine St.mE () trivial
 ·intro _ _
  refine St.seq (St.sr ?_);refine St.ee (Ev.aD (.mk rfl) yU) ?_;refine St.ee (Ev.l0 (.mk rfl) rL) ?_;refine St.ee (Ev.bA (.mk rfl) rL) ?_;refine St.mv ?_;refine St.nn (St.block ?_);refine St.bI fu (show _=(L++(⟨L.length,lf,wD,up,0,w,0⟩:Nq)::wy (iW g) (x.kids.map ay) L.length w1 0).length by rw[wB]) (show _=rows fU (L++(⟨L.length,lf,wD,up,0,w,0⟩:Nq)::wy (iW g) (x.kids.map ay) L.length w1 0) by rw[wB]) ?_;refine St.hS bw (L':=[iv ((w1+kq ((x.kids.map ay).take 0):Nat):Int)]) (by rw[List.take_zero,kq];rfl) ?_;refine St.pH (ι:=Nat) (κ:=Value) (fun k z T=>(53,iv k)::T) (fun k z=>[aZ bl (.cells [z].toArray 77 (0,0)),row z 82 6 (L++(⟨L.length,lf,wD,up,0,w,0⟩:Nq)::wy (iW g) (x.kids.map ay) L.length w1 k).length (rows fU (L++(⟨L.length,lf,wD,up,0,w,0⟩:Nq)::wy (iW g) (x.kids.map ay) L.length w1 k)),aZ bw (.cells [iv ((w1+kq ((x.kids.map ay).take k):Nat):Int)].toArray 3 (0,0)),aZ bg (.cells [g.tv.1,g.fv.1,g.rv.1,g.xv.1,g.start.nv.1].toArray 54 (0,0)),aZ bk (.cells [(.func (.func 61) #[] [Value.pointer (some ⟨bl,0,none⟩),Value.pointer (some ⟨bw,0,none⟩),Value.pointer (some ⟨bg,0,none⟩),Value.pointer (some ⟨bk,0,none⟩)].toArray)].toArray 134 (0,0)),aE (sl fR x.kv.1 x.kids),aE (au dV x.kids),aE (sl cJ g.rv.1 g.rules),aE (sl c6 g.xv.1 g.bK)]) (fun k z=>k≤x.kids.length∧z.oneCell'=true) (fun k z=>x.kids.length-k) 0 fu (aG.cons 2 rfl (aG.cons 3 rfl (aG.cons 5 rfl (aG.cons 8 rfl (aG.cons 51 rfl (aG.cons 52 rfl aG.nil)))))) ⟨Nat.zero_le _,eT⟩ ?_;rintro k z ⟨hk,Wv⟩
  have R0:(L++(⟨L.length,lf,wD,up,0,w,0⟩:Nq)::wy (iW g) (x.kids.map ay) L.length w1 k).length=L.length+1+nA ((x.kids.map ay).take k):=by rw[List.length_append,List.length_cons,Gw];omega
  refine St.sr ?_;refine St.ee Ev.ez ?_;refine St.nn (St.seq ?_);refine St.cond _ rfl (fun uD=> ?_) (fun uD=> ?_)
  ·try simp only[aA]at uD
   obtain⟨y,hy⟩:=aY (show k<x.kids.length by omega)
   have rO:=List.mem_of_getElem? hy
   have rX:(x.kids.map ay)[k]?=some (ay y):=by rw[List.getElem?_map,hy];rfl
   refine St.dK dV x.kids (x:=y) rO ?_
   have hnt:=Dc rX
   obtain⟨KT,K5⟩:=Dd rX;refine St.skip (St.a7 (St.seq (St.block (St.sr ?_))));refine St.ee (Ev.aa (k:=k) (.mk rfl) (.mk rfl) rL kV (by omega) (by omega)) ?_;refine St.ee (Ev.iH (.mk rfl) hy rM trivial kV fw.eq) ?_;refine St.alloc yV rfl (fun iC=> ?_);refine St.sA (.mk rfl) (.mk rfl) kV ?_ (h1:=(by simp only[List.all_cons,List.all_nil,Bool.and_true,Bool.and_eq_true];exact⟨rfl,rfl,y.kv.2⟩));refine St.nn ?_;refine St.dup (sl cJ g.rv.1 g.rules) ?_;refine St.dup (sl c6 g.xv.1 g.bK) ?_;refine St.rg ?_;refine St.ee (Ev.l0 (.mk rfl) Tryz.underlying134) ?_;refine St.ee (Ev.an (.mk rfl) rM trivial (by exact kV)) ?_;refine St.mv ?_;refine St.cp (ih y rO (L.length:Nat) (L++(⟨L.length,lf,wD,up,0,w,0⟩:Nq)::wy (iW g) (x.kids.map ay) L.length w1 k) (w1+kq ((x.kids.map ay).take k)) z Wv (nY y rO) (ZD y rO) (by omega) (by omega)) NF (.mk rfl) (.cons (.mk rfl) (.cons (.mk rfl) .nil)) rfl ?_;rintro v60 _ ⟨Ww,oI,rfl⟩;refine St.AV ?_;refine St.bI Ww (show _=(L++(⟨L.length,lf,wD,up,0,w,0⟩:Nq)::wy (iW g) (x.kids.map ay) L.length w1 (k+1)).length by rw[R0,wC _ rX,List.append_assoc];rfl) (show _=rows fU (L++(⟨L.length,lf,wD,up,0,w,0⟩:Nq)::wy (iW g) (x.kids.map ay) L.length w1 (k+1)) by rw[R0,wC _ rX,List.append_assoc];rfl) ?_;refine St.hS bw (L':=[iv ((w1+kq ((x.kids.map ay).take (k+1)):Nat):Int)]) (by rw[KT,Nat.add_assoc]) ?_;refine St.nil (St.aW (St.a7 (St.rg ?_)));refine St.ee Ev.a0 ?_;refine St.mv ?_;refine St.nn ?_;refine St.ly (k+1) Ww ⟨by omega,oI⟩
  ·try simp only[aA]at uD
   have wv:(x.kids.map ay).length≤k:=by rw[List.length_map];omega
   rw[zr _ _ _ _ wv,List.take_of_length_le wv];rw[zr _ _ _ _ wv,List.take_of_length_le wv]at R0;refine St.vB z (by omega) (fun bs cs De=> ?_);refine St.exit (St.aJ (St.aJ (St.bO (St.a7 ?_))));refine St.ek [row z 82 6 (L++(⟨L.length,lf,wD,up,0,w,0⟩:Nq)::oh (iW g) (x.kids.map ay) (L.length+1) L.length w1).length (rows fU (L++(⟨L.length,lf,wD,up,0,w,0⟩:Nq)::oh (iW g) (x.kids.map ay) (L.length+1) L.length w1))] mixed (fun np ns=> ?_);refine SW.dd 0 rfl (fun _=>Ev.cY (.mk rfl) fk trivial (by rfl)) ?_;refine SW.dd 1 rfl (fun _=>Ev.move (.mk rfl)) ?_;refine SW.dd 2 rfl (fun _=>Ev.cY (.mk rfl) fk trivial (by rfl)) ?_;refine SW.dd 3 rfl (fun _=>Ev.move (.mk rfl)) ?_;refine SW.dd 4 rfl (fun _=>Ev.cY (.mk rfl) fk trivial (by rfl)) ?_;refine SW.dd 6 rfl (fun _=>Ev.cY (.mk rfl) bf trivial (by rfl)) ?_;refine SW.slot 68 (iv ((w+((if x.eV<0 then 1 else 0)+kq (x.kids.map ay)):Nat):Int)) rfl (congrArg iv (by rw[FV];omega)) ?_;refine SW.ar (i:=5) (by kernel_rfl) rfl ?_;refine St.ee (Ev.gm (.mk rfl) fk) ?_;refine St.slot 67 (iv ((L.length+(1+nA (x.kids.map ay)):Nat):Int)) rfl (congrArg iv (by rw[R0];omega)) ?_;refine St.nn ?_;refine SW.go ?_;refine SW.dd 7 rfl (fun _=>Ev.pD (k:=L.length) De (.mk rfl) (.mk rfl) fk lF (by omega) (by omega)) ?_;refine SW.dd 8 rfl (fun _=>Ev.Db De (.mk rfl) DX) ?_;refine SW.ar (i:=9) (by kernel_rfl) rfl ?_;refine St.eP (.mk rfl) (.mk rfl) cu rfl (by omega) (by decide) ?_;refine St.nn ?_;refine SW.go ?_;refine SW.dd 10 rfl (fun _=>Ev.pD (k:=L.length) De (.mk rfl) (.mk rfl) fk lF (by omega) (by omega)) ?_;refine SW.dd 11 rfl (fun _=>Ev.Db De (.mk rfl) yW) ?_;refine SW.ar (i:=12) (by kernel_rfl) rfl ?_;refine St.eP (.mk rfl) (.mk rfl) cu rfl (by omega) (by decide) ?_;refine St.nn ?_;refine SW.go ?_;refine SW.done (by kernel_rfl) ?_;refine St.gX ?_;refine St.bI z (show _=(L++o7 (iW g) (ay x) L.length up w).length by rw[hE,List.length_append,List.length_append];rfl) (show _=rows fU (L++o7 (iW g) (ay x) L.length up w) by rw[hE];simp only[Gu,qZ];rfl) ?_;refine St.hS bw (L':=[iv ((w+tg (ay x):Nat):Int)]) (by rw[NV,FV,Nat.add_assoc]) ?_;refine St.rT [] [aZ bl (.cells [z].toArray 77 (0,0)),row z 82 6 (L++o7 (iW g) (ay x) L.length up w).length (rows fU (L++o7 (iW g) (ay x) L.length up w)),aZ bw (.cells [iv ((w+tg (ay x):Nat):Int)].toArray 3 (0,0)),aZ bg (.cells [g.tv.1,g.fv.1,g.rv.1,g.xv.1,g.start.nv.1].toArray 54 (0,0)),aZ bk (.cells [(.func (.func 61) #[] [Value.pointer (some ⟨bl,0,none⟩),Value.pointer (some ⟨bw,0,none⟩),Value.pointer (some ⟨bg,0,none⟩),Value.pointer (some ⟨bk,0,none⟩)].toArray)].toArray 134 (0,0))] Tryz.results61 trivial ?_;exact⟨z,Wv,rfl⟩
set_option maxHeartbeats 2000000 in
theorem ya (g:k7)(t:bV)(hw:fR.wf t)(hg:ir g.rules.length g.bK.length (ay t))(fx:wq (ay t)≤200)(NM:tg (ay t)≤200):eI Tryz.prog 28 #[pG g,kp t] ([jD g,dV t].map aE) (fun v H'=>v.oneCell'=true∧H'=[aE (sl fU v (o7 (iW g) (ay t) 0 (-1) 0))]):=by
 refine eI.body (args:=[pG g,kp t]) 13 Tryz.func28 rfl Tryz.ntmps28 rfl (fun c=> ?_);refine St.cast (H':=[aE (jD g),aE (dV t)]) rfl ?_;refine St.seq ?_
 refine St.fP (jD g) (fun _:Unit=>G2 g) (fun ρ h=>⟨(),h⟩) fun _=> ?_
 refine St.cast (H':=[aE (sl fh g.tv.1 g.types),aE (au hY g.types),aE (sl cV g.fv.1 g.c8),aE (sl cJ g.rv.1 g.rules),aE (au cK g.rules),aE (sl c6 g.xv.1 g.bK),aE (au dn g.bK),aE (bz g.start),aE (jD g),aE (dV t)]) rfl ?_;refine St.rg ?_;refine St.dS (.mk rfl) rfl (fun b2=> ?_);refine St.dS (.mk rfl) rfl (fun b3=> ?_);refine St.ao ?_;refine St.nn (St.sr ?_);refine St.alloc NG rfl (fun b5=> ?_);refine St.nn (St.sr ?_);refine St.alloc LG rfl (fun b6=> ?_);refine St.bQ (.mk rfl) (.mk rfl) cu rfl (by rfl) ?_;refine St.hS b6 (L':=[iv ((0:Nat):Int)]) rfl ?_;refine St.nn (St.sr ?_);refine St.alloc NH rfl (fun b7=> ?_);refine St.nn (St.sr ?_);refine St.ee (Ev.func (.cons (.mk rfl) (.cons (.mk rfl) (.cons (.mk rfl) (.cons (.mk rfl) .nil))))) ?_;refine St.bQ (.mk rfl) (.mk rfl) NI rfl (by rfl) ?_;refine St.nn (St.seq ?_);refine St.dup (sl cJ g.rv.1 g.rules) ?_;refine St.dup (sl c6 g.xv.1 g.bK) ?_;refine St.dup (dV t) ?_;refine St.ic 82 6 ?_;refine St.bI (.slice none 0 0) (show _=([]:List Nq).length from rfl) (show _=rows fU []from rfl) ?_;refine St.rg ?_;refine St.ee (Ev.l0 (.mk rfl) Tryz.underlying134) ?_;refine St.ee (Ev.an (.mk rfl) rM trivial (by exact kV)) ?_;refine St.cp (qa b5 b6 b2 b7 g t (-1) [] 0 (.slice none 0 0) rfl hw hg (by simpa using fx) (by simpa using NM)) NF (.mk rfl) (.cons (.mk rfl) (.cons (.mk rfl) .nil)) rfl ?_;rintro v11 _ ⟨v2,oI,rfl⟩;refine St.AV ?_;refine St.nn (St.sr ?_);refine St.ee (Ev.l0 (.mk rfl) fk) ?_;refine St.ao ?_;refine St.nn (St.ae ?_);refine St.bI v2 (show _=(o7 (iW g) (ay t) 0 (-1) 0).length from rfl) (show _=rows fU (o7 (iW g) (ay t) 0 (-1) 0)from rfl) ?_;refine St.aM v2 fU (o7 (iW g) (ay t) 0 (-1) 0) rfl rfl (fun _ _=>trivial) ?_;refine St.rU [_] [aE (sl fU v2 (o7 (iW g) (ay t) 0 (-1) 0))] Tryz.results28 ?_;exact⟨oI,rfl⟩
theorem B9 (va:bL)(x:Nq):de Tryz.prog 30 #[.agg #[sv va.name,iv va.kind,sv va.label],.agg #[.bool x.leaf,sv x.label,iv x.up,iv (x.fin:Int),iv (x.AY:Int),iv (x.to:Int)]] [] (.bool (om va x)):=by
 refine de.iZ (args:=[.agg #[sv va.name,iv va.kind,sv va.label],.agg #[.bool x.leaf,sv x.label,iv x.up,iv (x.fin:Int),iv (x.AY:Int),iv (x.to:Int)]]) 34 Tryz.func30 rfl Tryz.ntmps30 rfl (fun c=> ?_);refine St.sr ?_;refine St.dS (.mk rfl) rfl (fun b2=> ?_);refine St.dS (.mk rfl) rfl (fun b3=> ?_);refine St.ao ?_;refine St.nn (St.seq (St.sr ?_));refine St.ee (Ev.aD (.mk rfl) db) ?_;refine St.ee (Ev.l0 (.mk rfl) bf) ?_;refine St.nn (St.block (St.sr ?_));refine St.ee Ev.fE ?_;refine St.ao ?_;refine St.nn ?_;refine St.cond _ rfl (fun h7=> ?_) (fun h7=> ?_)
 ·try simp only[aA]at h7
  refine St.sr ?_;refine St.ee (Ev.aD (.mk rfl) uN) ?_;refine St.ee (Ev.l0 (.mk rfl) zR) ?_;refine St.ee (Ev.not (.mk rfl)) ?_;refine St.mv ?_;refine St.gt _ rfl rfl (fun hg=>Ev.aD (.mk rfl) uO) rfl ?_;refine St.gt _ rfl rfl (fun hg=>Ev.cY (aL.gv rfl hg) cZ trivial (by rfl)) rfl ?_;refine St.gt _ rfl rfl (fun hg=>Ev.aD (.mk rfl) fL) rfl ?_;refine St.gt _ rfl rfl (fun hg=>Ev.cY (aL.gv rfl hg) cZ trivial (by rfl)) rfl ?_;refine St.gt _ rfl rfl (fun hg=>Ev.fC (aL.gv rfl hg) (aL.gv rfl hg)) rfl ?_;refine St.ee Ev.n0 ?_;refine St.ao ?_;refine St.nn (St.ae (St.aN (St.a8 ?_)));refine St.rU [_] [] Tryz.results30 ?_;exact be (by unfold om;rw[if_pos h7];congr 1;rw[Bool.eq_iff_iff,beq_iff_eq,decide_eq_true_eq])
 ·try simp only[aA]at h7
  refine St.sr ?_;refine St.ee Ev.fE ?_;refine St.ao ?_;refine St.nn ?_;refine St.cond _ rfl (fun gz=> ?_) (fun gz=> ?_)
  ·try simp only[aA]at gz
   refine St.sr ?_;refine St.ee (Ev.aD (.mk rfl) uN) ?_;refine St.ee (Ev.l0 (.mk rfl) zR) ?_;refine St.mv ?_;refine St.gt _ rfl rfl (fun hg=>Ev.aD (.mk rfl) uO) rfl ?_;refine St.gt _ rfl rfl (fun hg=>Ev.cY (aL.gv rfl hg) cZ trivial (by rfl)) rfl ?_;refine St.gt _ rfl rfl (fun hg=>Ev.aD (.mk rfl) fL) rfl ?_;refine St.gt _ rfl rfl (fun hg=>Ev.cY (aL.gv rfl hg) cZ trivial (by rfl)) rfl ?_;refine St.gt _ rfl rfl (fun hg=>Ev.fC (aL.gv rfl hg) (aL.gv rfl hg)) rfl ?_;refine St.ee Ev.n0 ?_;refine St.ao ?_;refine St.nn (St.ae (St.aN (St.a8 ?_)));refine St.rU [_] [] Tryz.results30 ?_;exact be (by unfold om;rw[if_neg h7,if_pos gz];congr 1;rw[Bool.eq_iff_iff,beq_iff_eq,decide_eq_true_eq])
  ·try simp only[aA]at gz
   refine St.sr ?_;refine St.ee Ev.fE ?_;refine St.ao ?_;refine St.nn ?_;refine St.cond _ rfl (fun l8=> ?_) (fun l8=> ?_)
   ·try simp only[aA]at l8
    refine St.sr ?_;refine St.ee (Ev.aD (.mk rfl) uN) ?_;refine St.ee (Ev.l0 (.mk rfl) zR) ?_;refine St.ao ?_;refine St.nn (St.ae (St.aN (St.a8 ?_)));refine St.rU [_] [] Tryz.results30 ?_;exact be (by unfold om;rw[if_neg h7,if_neg gz,if_pos l8])
   ·try simp only[aA]at l8
    refine St.skip (St.aW (St.a7 (St.sr ?_)));refine St.ao ?_;refine St.nn (St.ae ?_);refine St.rU [_] [] Tryz.results30 ?_;exact be (by unfold om;rw[if_neg h7,if_neg gz,if_neg l8])
theorem wE (v:Value)(L:List Nq)(k:Int)(a b:Nat)(ha:a<L.length)(hb:b<L.length):de Tryz.prog 31 #[v,iv k,iv a,iv b] [sl fU v L] (.bool (qB L k a b)):=by
 refine de.mf (args:=[v,iv k,iv a,iv b]) 75 Tryz.func31 rfl Tryz.ntmps31 rfl (fun c=> ?_);refine St.seq ?_
 have Il:=getD_some ha
 have Im:=getD_some hb
 refine St.wf v (fun _ rV=> ?_)
 generalize R2:L.getD a tf=A at Il
 generalize R3:L.getD b tf=B at Im
 refine St.rg ?_;refine St.ao ?_;refine St.nn (St.seq (St.sr ?_));refine St.mv ?_;refine St.nn (St.block (St.sr ?_));refine St.ee Ev.fE ?_;refine St.ao ?_;refine St.nn ?_;refine St.cond _ rfl (fun sR=> ?_) (fun sR=> ?_)
 ·try simp only[aA]at sR
  refine St.sr ?_;refine St.mv ?_;refine St.mv ?_;refine St.ee (Ev.aa (k:=b) (.mk rfl) (.mk rfl) fk lF (by omega) (by omega)) ?_;refine St.ee (Ev.eY (.mk rfl) (by omega) yX) ?_;refine St.ee (Ev.jA (.mk rfl) Im bf trivial rfl) ?_;refine St.mv ?_;refine St.ee Ev.fE ?_;refine St.ao ?_;refine St.nn (St.ae (St.aN (St.a8 ?_)));refine St.rU [_] [] Tryz.results31 ?_;exact be (by unfold qB;rw[if_pos sR,R3])
 ·try simp only[aA]at sR
  refine St.sr ?_;refine St.ee Ev.fE ?_;refine St.ao ?_;refine St.nn ?_;refine St.cond _ rfl (fun gz=> ?_) (fun gz=> ?_)
  ·try simp only[aA]at gz
   refine St.sr ?_;refine St.mv ?_;refine St.mv ?_;refine St.ee Ev.ez ?_;refine St.mv ?_;refine St.gt _ rfl rfl (fun hg=>Ev.move (.mk rfl)) rfl ?_;refine St.gt _ rfl rfl (fun hg=>Ev.move (.mk rfl)) rfl ?_;refine St.gt _ rfl rfl (fun hg=>Ev.move (.mk rfl)) rfl ?_;refine St.gt _ rfl rfl (fun hg=>Ev.aa (k:=a) (aL.gv rfl hg) (aL.gv rfl hg) fk lF (by first|omega|(simp only[aA]at hg;omega)) (by omega)) rfl ?_;refine St.gt _ rfl rfl (fun hg=>Ev.eY (aL.gv rfl hg) (by first|omega|(simp only[aA]at hg;omega)) DX) rfl ?_;refine St.gt _ rfl rfl (fun hg=>Ev.jA (aL.gv rfl hg) Il bf trivial rfl) rfl ?_;refine St.gt _ rfl rfl (fun hg=>Ev.lss (aL.gv rfl hg) (aL.gv rfl hg)) rfl ?_;refine St.ee Ev.n0 ?_;refine St.ao ?_;refine St.nn (St.ae (St.aN (St.a8 ?_)));refine St.rU [_] [] Tryz.results31 ?_;exact be (by unfold qB;rw[if_neg sR,if_pos gz,R2];congr 1<;>exact decide_eq_decide.2 (by omega))
  ·try simp only[aA]at gz
   refine St.sr ?_;refine St.ee Ev.fE ?_;refine St.ao ?_;refine St.nn ?_;refine St.cond _ rfl (fun nZ=> ?_) (fun nZ=> ?_)
   ·try simp only[aA]at nZ
    refine St.seq ?_;refine St.rq mixed (by kernel_rfl) (Mm.drawn _ _) ?_;refine Sq.ee (Ev.move (.mk rfl)) ?_;refine Sq.ee (Ev.move (.mk rfl)) ?_;refine Sq.ee (Ev.aa (k:=a) (.mk rfl) (.mk rfl) fk lF (by omega) (by omega)) ?_;refine Sq.ee (Ev.eY (.mk rfl) (by omega) yW) ?_;refine Sq.ee (Ev.jA (.mk rfl) Il bf trivial rfl) ?_;refine Sq.ee (Ev.move (.mk rfl)) ?_;refine Sq.ee (Ev.move (.mk rfl)) ?_;refine Sq.ee (Ev.aa (k:=b) (.mk rfl) (.mk rfl) fk lF (by omega) (by omega)) ?_;refine Sq.ee (Ev.eY (.mk rfl) (by omega) DY) ?_;refine Sq.ee (Ev.jA (.mk rfl) Im bf trivial rfl) ?_;refine Sq.ee Ev.Ju ?_;refine Sq.ee (Ev.assign (.mk rfl)) ?_;refine Sq.nil ?_;refine St.a7 (St.ae (St.aN (St.a8 ?_)));refine St.rU [_] [] Tryz.results31 ?_;exact be (by unfold qB;rw[if_neg sR,if_neg gz,if_pos nZ,R2,R3];exact decide_eq_decide.2 (by omega))
   ·try simp only[aA]at nZ
    refine St.sr ?_;refine St.ee Ev.fE ?_;refine St.ao ?_;refine St.nn ?_;refine St.cond _ rfl (fun r8=> ?_) (fun r8=> ?_)
    ·try simp only[aA]at r8
     refine St.seq ?_;refine St.rq mixed (by kernel_rfl) (Mm.drawn _ _) ?_;refine Sq.ee (Ev.move (.mk rfl)) ?_;refine Sq.ee (Ev.move (.mk rfl)) ?_;refine Sq.ee (Ev.aa (k:=a) (.mk rfl) (.mk rfl) fk lF (by omega) (by omega)) ?_;refine Sq.ee (Ev.eY (.mk rfl) (by omega) yW) ?_;refine Sq.ee (Ev.jA (.mk rfl) Il bf trivial rfl) ?_;refine Sq.ee (Ev.move (.mk rfl)) ?_;refine Sq.ee (Ev.move (.mk rfl)) ?_;refine Sq.ee (Ev.aa (k:=b) (.mk rfl) (.mk rfl) fk lF (by omega) (by omega)) ?_;refine Sq.ee (Ev.eY (.mk rfl) (by omega) DY) ?_;refine Sq.ee (Ev.jA (.mk rfl) Im bf trivial rfl) ?_;refine Sq.ee Ev.fE ?_;refine Sq.ee (Ev.assign (.mk rfl)) ?_;refine Sq.nil ?_;refine St.a7 (St.ae (St.aN (St.a8 ?_)));refine St.rU [_] [] Tryz.results31 ?_;exact be (by unfold qB;rw[if_neg sR,if_neg gz,if_neg nZ,if_pos r8,R2,R3];exact decide_eq_decide.2 (by omega))
    ·try simp only[aA]at r8
     refine St.skip (St.aW (St.a7 (St.seq ?_)));refine St.rq mixed (by kernel_rfl) (Mm.drawn _ _) ?_;refine Sq.ee (Ev.move (.mk rfl)) ?_;refine Sq.ee (Ev.move (.mk rfl)) ?_;refine Sq.ee Ev.kz ?_;refine Sq.ee (Ev.move (.mk rfl)) ?_;refine Sq.gt _ rfl rfl (fun hg=>Ev.move (.mk rfl)) rfl ?_;refine Sq.gt _ rfl rfl (fun hg=>Ev.move (.mk rfl)) rfl ?_;refine Sq.gt _ rfl rfl (fun hg=>Ev.aa (k:=a) (aL.gv rfl hg) (aL.gv rfl hg) fk lF (by first|omega|(simp only[aA]at hg;omega)) (by first|omega|(simp only[aA]at hg;omega))) rfl ?_;refine Sq.gt _ rfl rfl (fun hg=>Ev.eY (aL.gv rfl hg) (by first|omega|(simp only[aA]at hg;omega)) yX) rfl ?_;refine Sq.gt _ rfl rfl (fun hg=>Ev.jA (aL.gv rfl hg) Il bf trivial rfl) rfl ?_;refine Sq.gt _ rfl rfl (fun hg=>Ev.move (.mk rfl)) rfl ?_;refine Sq.gt _ rfl rfl (fun hg=>Ev.move (.mk rfl)) rfl ?_;refine Sq.gt _ rfl rfl (fun hg=>Ev.aa (k:=b) (aL.gv rfl hg) (aL.gv rfl hg) fk lF (by first|omega|(simp only[aA]at hg;omega)) (by first|omega|(simp only[aA]at hg;omega))) rfl ?_;refine Sq.gt _ rfl rfl (fun hg=>Ev.eY (aL.gv rfl hg) (by first|omega|(simp only[aA]at hg;omega)) yX) rfl ?_;refine Sq.gt _ rfl rfl (fun hg=>Ev.jA (aL.gv rfl hg) Im bf trivial rfl) rfl ?_;refine Sq.gt _ rfl rfl (fun hg=>Ev.eql (aL.gv rfl hg) (aL.gv rfl hg)) rfl ?_;refine Sq.ee Ev.n0 ?_;refine Sq.ee (Ev.assign (.mk rfl)) ?_;refine Sq.nil ?_;refine St.a7 (St.ae ?_);refine St.rU [_] [] Tryz.results31 ?_;exact be (by unfold qB;rw[if_neg sR,if_neg gz,if_neg nZ,if_neg r8,R2,R3];rw[Bool.eq_iff_iff];simp only[Bool.and_eq_true,decide_eq_true_eq,bne_iff_ne,beq_iff_eq,ne_eq,Int.ofNat_inj,Int.natCast_inj,Bool.not_eq_true',decide_eq_false_iff_not])
theorem zt {W:List Int}{k:Nat}{x:Int}(h:W[k]?=some x):(rows aF W)[k*1+0]?=some (iv x):=by
 rw[j3,Nat.mul_one,Nat.add_zero,List.getElem?_map,h];rfl
theorem Df (n:Nat):List.replicate n (iv 0)=rows aF (List.replicate n 0):=by rw[j3,List.map_replicate]
theorem qb {l:List Nat}(h:∀i∈l,i≤9223372036854775807):∀x∈ints l,aF.wf x:=by
 intro x hx;obtain⟨i,hi,rfl⟩:=List.mem_map.1 hx
 have:=h i hi
 show aj (i:Int)
 unfold aj;omega
def kP (L:List Nq)(ks:List cL)(v:bL)(vs:List bL)(p:List Nat)(O:List (List Nat))(i:Nat):List (List Nat):=if 500<O.length then O else if FN L ks v p i then rI L ks vs (p++ [i]) O else O
theorem BA (L:List Nq)(ks:List cL)(v:bL)(vs:List bL)(p:List Nat)(O:List (List Nat)):rI L ks (v::vs) p O=(List.range L.length).foldl (kP L ks v vs p) O:=rfl
theorem fold_succ {α:Type}(f:α→Nat→α)(O:α)(i:Nat):(List.range (i+1)).foldl f O=f ((List.range i).foldl f O) i:=by rw[List.range_succ,List.foldl_append];rfl
theorem sf {L:List Nq}{ks:List cL}{v:bL}{vs:List bL}{p:List Nat}{O:List (List Nat)}{i:Nat}(h:500<((List.range i).foldl (kP L ks v vs p) O).length):∀m,(List.range (i+m)).foldl (kP L ks v vs p) O=(List.range i).foldl (kP L ks v vs p) O
 |0=>rfl
 |m+1=>by
  have ih:=sf h m
  rw[show i+(m+1)=(i+m)+1 by omega,fold_succ,ih]
  unfold kP;rw[if_pos];exact h
theorem Dg (L:List Nq)(ks:List cL)(vs:List bL)(p:List Nat)(O:List (List Nat))(h:O.length≤501)(h2:vs=[]→O.length≤500):(rI L ks vs p O).length≤501:=by
 rw[ti L ks vs p O h h2,List.length_take];omega
theorem zu {B:List Int}{r:List Nat}{m j:Nat}(h:B.take m=ints r)(hm:r.length=m)(hj:j<m):B[j]?=some ((r.getD j 0:Nat):Int):=by
 have h1:(B.take m)[j]?=B[j]?:=by rw[List.getElem?_take,if_pos hj]
 rw[←h1,h,ints,List.getElem?_map,List.getD_eq_getElem?_getD,List.getElem?_eq_getElem (by omega)];rfl
theorem take_set {A:List Int}{p:List Nat}{i:Nat}(h:A.take p.length=ints p)(hl:p.length<A.length):(A.set p.length (i:Int)).take (p.length+1)=ints (p++ [i]):=by
 have h0:(A.set p.length (i:Int))[p.length]?=some (i:Int):=by rw[List.getElem?_set_self hl]
 rw[bD h0,List.take_set,h,ints,ints,List.map_append,List.set_eq_of_length_le (by rw[List.length_map];exact Nat.le_refl _)];rfl
theorem sg {A B:List Int}{p:List Nat}{i:Nat}(h:A.take (p++ [i]).length=ints (p++ [i])):A.take p.length=ints p:=by
 have h1:(A.take (p++ [i]).length).take p.length=A.take p.length:=by rw[List.take_take,List.length_append];congr 1;simp only[List.length_cons,List.length_nil];omega
 rw[←h1,h,ints,ints,List.map_append,List.take_left' (by simp)]
theorem wF {p:List Nat}{n j:Nat}(h:∀y∈p,y<n)(hj:j<p.length):p.getD j 0<n:=by
 rw[List.getD_eq_getElem?_getD,List.getElem?_eq_getElem hj];exact h _ (List.getElem_mem hj)
theorem drop_cons {α:Type}{l:List α}{k:Nat}{v:α}{vs:List α}(h:l.drop k=v::vs):l[k]?=some v∧l.drop (k+1)=vs:=by
 have h1:l[k]?=some v:=by
  have:=congrArg (fun m=>m[0]?) h
  rw[List.getElem?_drop,Nat.add_zero]at this;exact this
 refine⟨h1,?_⟩
 have h2:=bS h1
 rw[h,List.cons.injEq]at h2;exact h2.2.symm
set_option maxHeartbeats 4000000 in
theorem uQ (ba bo bl bq bt:Nat)(va vl:Value)(L:List Nq)(q:cF)(hq:oy q.vars q.aV):∀(m:Nat) (vs:List bL) (p:List Nat) (O:List (List Nat)) (A:List Int) (vo:Value) (us:List dQ) (T:List (List Nat)),vs.length=m→T=rI L q.aV vs p O→q.vars.drop p.length=vs→p.length+vs.length=q.vars.length→A.length=q.vars.length→A.take p.length=ints p→(∀y∈p,y<L.length)→vo.oneCell'=true→us.length=O.length→O.length≤501→(vs=[]→O.length≤500)→
 eI Tryz.prog 29 ([iv ((p.length:Nat):Int)]++ [Value.pointer (some ⟨ba,0,none⟩),Value.pointer (some ⟨bo,0,none⟩),Value.pointer (some ⟨bl,0,none⟩),Value.pointer (some ⟨bq,0,none⟩),Value.pointer (some ⟨bt,0,none⟩)]).toArray [aZ ba (.cells [va].toArray 61 (0,0)),row va 3 1 q.vars.length (rows aF (A)),aZ bo (.cells [vo].toArray 41 (0,0)),row vo 61 1 (O).length (rows br (us)),aE (mL aF (us) ((O).map ints)),aZ bl (.cells [vl].toArray 77 (0,0)),aZ bq (.cells [q.vv.1,q.kv.1].toArray 25 (0,0)),aZ bt (.cells [(.func (.func 29) #[] [Value.pointer (some ⟨ba,0,none⟩),Value.pointer (some ⟨bo,0,none⟩),Value.pointer (some ⟨bl,0,none⟩),Value.pointer (some ⟨bq,0,none⟩),Value.pointer (some ⟨bt,0,none⟩)].toArray)].toArray 79 (0,0)),aE (sl fU vl L),aE (sl cC q.vv.1 q.vars),aE (sl cE q.kv.1 q.aV)] (fun v H'=>∃A' TN TP,A'.length=q.vars.length∧A'.take p.length=ints p∧TN.oneCell'=true∧TP.length=T.length∧H'=[aZ ba (.cells [va].toArray 61 (0,0)),row va 3 1 q.vars.length (rows aF (A')),aZ bo (.cells [TN].toArray 41 (0,0)),row TN 61 1 (T).length (rows br (TP)),aE (mL aF (TP) ((T).map ints)),aZ bl (.cells [vl].toArray 77 (0,0)),aZ bq (.cells [q.vv.1,q.kv.1].toArray 25 (0,0)),aZ bt (.cells [(.func (.func 29) #[] [Value.pointer (some ⟨ba,0,none⟩),Value.pointer (some ⟨bo,0,none⟩),Value.pointer (some ⟨bl,0,none⟩),Value.pointer (some ⟨bq,0,none⟩),Value.pointer (some ⟨bt,0,none⟩)].toArray)].toArray 79 (0,0))]):=by
 intro m
 induction m using Nat.strongRecOn
 rename_i m ih
 intro vs p O A vo us T hm hT NW hlen hA LO R4 NX D8 hO ZF;refine eI.body (args:=[iv ((p.length:Nat):Int)]++ [Value.pointer (some ⟨ba,0,none⟩),Value.pointer (some ⟨bo,0,none⟩),Value.pointer (some ⟨bl,0,none⟩),Value.pointer (some ⟨bq,0,none⟩),Value.pointer (some ⟨bt,0,none⟩)]) 82 Tryz.func29 rfl Tryz.ntmps29 rfl (fun c=> ?_);refine St.seq (St.seq ?_);refine St.wf vl (fun _ LL=> ?_);refine St.wf q.vv.1 (fun yb _=> ?_)
 have ZG:=hq.LM
 have hN0:=hq.pos
 have ZH:=hq.aV
 refine St.rg ?_;refine St.mv ?_;refine St.ee (Ev.l0 (.mk rfl) bJ) ?_;refine St.ee (Ev.gm (.mk rfl) bJ) ?_;refine St.ee Ev.fE ?_;refine St.nn ?_;refine St.cond _ rfl (fun uE=> ?_) (fun uE=> ?_)
 ·try simp only[aA]at uE
  have LP:vs=[]:=List.eq_nil_of_length_eq_zero (by omega)
  have TQ:A=ints p:=by rw[←LO,List.take_of_length_le (by omega)]
  have hO5:=ZF LP
  have Be:T=O++ [p]:=by rw[hT,LP];rfl
  have vj:(ints p).length=p.length:=wA p
  refine St.seq ?_;refine St.ek [aZ bo (.cells [vo].toArray 41 (0,0)),row vo 61 1 (O).length (rows br (us))] mixed (fun np ns=> ?_);refine SW.dd 2 rfl (fun _=>Ev.cY (.mk rfl) bJ trivial (by rfl)) ?_;refine SW.ig (i:=0) (j:=1) (by kernel_rfl) rfl rfl ?_ ?_
  ·refine St.ee (Ev.l0 (.mk rfl) dM) ?_
   refine St.nn ?_;refine SW.go ?_;refine SW.ar (i:=1) (by kernel_rfl) rfl ?_;refine St.cS rfl (.nil) bJ cu dx rfl rfl (by simp[Value.cells]) rfl rfl (fun NY=> ?_);refine St.nn ?_;refine SW.go ?_;refine SW.ar (i:=3) (by kernel_rfl) rfl ?_;refine St.mW (.mk rfl) (.mk rfl) bJ cu dx Mi (pj _ _) (by omega) (by omega) rfl rfl (by omega) rfl (fun fu B8=> ?_);refine St.bI fu (show _=(ints p).length by rw[vj];omega) (show _=rows aF (ints p) by rw[TQ];rfl) ?_;refine St.e7 fu (fun eT _=> ?_);refine St.aM fu aF (ints p) rfl rfl (qb fun i hi=>by have:=R4 i hi;omega) ?_;refine St.nn ?_;refine SW.go ?_;refine SW.ar (i:=4) (by kernel_rfl) rfl ?_;refine St.cS rfl (.cons (.mk rfl) .nil) dM e9 ef rfl rfl (by simp[J.aB eT]) rfl rfl (fun TR=> ?_);refine St.nn ?_;refine SW.go ?_;refine SW.ar (i:=5) (by kernel_rfl) rfl ?_;refine St.cT (.mk rfl) (.mk rfl) dM e9 ef Gn (by simp[J.aB eT,eT]) (by omega) (by omega) rfl rfl rfl rfl (fun v20 KU=> ?_);refine St.bI v20 (show _=T.length by rw[Be,List.length_append];rfl) (show _=rows br (us++ [⟨fu,eT⟩]) by rw[dA];simp[J.aB eT];rfl) ?_;refine St.e7 v20 (fun qc _=> ?_);refine St.nn ?_;refine SW.go ?_;refine SW.ar (i:=6) (by kernel_rfl) rfl ?_;refine St.bQ (.mk rfl) (.mk rfl) Gp qc (by rfl) ?_;refine St.nn ?_;refine SW.go ?_;refine SW.done (by kernel_rfl) ?_;refine St.a7 (St.ae (St.a8 ?_));refine St.pR us ⟨fu,eT⟩ (by rw[List.length_map];exact D8) ?_;rw[show O.map ints++ [ints p]=T.map ints by rw[Be,List.map_append];rfl];refine St.rT [] [aZ ba (.cells [va].toArray 61 (0,0)),row va 3 1 q.vars.length (rows aF (A)),aZ bo (.cells [v20].toArray 41 (0,0)),row v20 61 1 (T).length (rows br (us++ [⟨fu,eT⟩])),aE (mL aF (us++ [⟨fu,eT⟩]) ((T).map ints)),aZ bl (.cells [vl].toArray 77 (0,0)),aZ bq (.cells [q.vv.1,q.kv.1].toArray 25 (0,0)),aZ bt (.cells [(.func (.func 29) #[] [Value.pointer (some ⟨ba,0,none⟩),Value.pointer (some ⟨bo,0,none⟩),Value.pointer (some ⟨bl,0,none⟩),Value.pointer (some ⟨bq,0,none⟩),Value.pointer (some ⟨bt,0,none⟩)].toArray)].toArray 79 (0,0))] Tryz.results29 trivial ?_;exact⟨A,v20,us++ [⟨fu,eT⟩],hA,LO,qc,by rw[Be,List.length_append,List.length_append,D8];rfl,rfl⟩
  ·refine St.cS rfl (.nil) bJ cu dx rfl rfl (by simp[Value.cells]) rfl rfl (fun NY=> ?_)
   refine St.nn ?_;refine SW.go ?_;refine SW.ig (i:=0) (j:=3) (by kernel_rfl) rfl rfl ?_ ?_
   ·refine St.ee (Ev.l0 (.mk rfl) dM) ?_
    refine St.nn ?_;refine SW.go ?_;refine SW.ar (i:=3) (by kernel_rfl) rfl ?_;refine St.mW (.mk rfl) (.mk rfl) bJ cu dx Mi (pj _ _) (by omega) (by omega) rfl rfl (by omega) rfl (fun fu B8=> ?_);refine St.bI fu (show _=(ints p).length by rw[vj];omega) (show _=rows aF (ints p) by rw[TQ];rfl) ?_;refine St.e7 fu (fun eT _=> ?_);refine St.aM fu aF (ints p) rfl rfl (qb fun i hi=>by have:=R4 i hi;omega) ?_;refine St.nn ?_;refine SW.go ?_;refine SW.ar (i:=4) (by kernel_rfl) rfl ?_;refine St.cS rfl (.cons (.mk rfl) .nil) dM e9 ef rfl rfl (by simp[J.aB eT]) rfl rfl (fun TR=> ?_);refine St.nn ?_;refine SW.go ?_;refine SW.ar (i:=5) (by kernel_rfl) rfl ?_;refine St.cT (.mk rfl) (.mk rfl) dM e9 ef Gn (by simp[J.aB eT,eT]) (by omega) (by omega) rfl rfl rfl rfl (fun v20 KU=> ?_);refine St.bI v20 (show _=T.length by rw[Be,List.length_append];rfl) (show _=rows br (us++ [⟨fu,eT⟩]) by rw[dA];simp[J.aB eT];rfl) ?_;refine St.e7 v20 (fun qc _=> ?_);refine St.nn ?_;refine SW.go ?_;refine SW.ar (i:=6) (by kernel_rfl) rfl ?_;refine St.bQ (.mk rfl) (.mk rfl) Gp qc (by rfl) ?_;refine St.nn ?_;refine SW.go ?_;refine SW.done (by kernel_rfl) ?_;refine St.a7 (St.ae (St.a8 ?_));refine St.pR us ⟨fu,eT⟩ (by rw[List.length_map];exact D8) ?_;rw[show O.map ints++ [ints p]=T.map ints by rw[Be,List.map_append];rfl];refine St.rT [] [aZ ba (.cells [va].toArray 61 (0,0)),row va 3 1 q.vars.length (rows aF (A)),aZ bo (.cells [v20].toArray 41 (0,0)),row v20 61 1 (T).length (rows br (us++ [⟨fu,eT⟩])),aE (mL aF (us++ [⟨fu,eT⟩]) ((T).map ints)),aZ bl (.cells [vl].toArray 77 (0,0)),aZ bq (.cells [q.vv.1,q.kv.1].toArray 25 (0,0)),aZ bt (.cells [(.func (.func 29) #[] [Value.pointer (some ⟨ba,0,none⟩),Value.pointer (some ⟨bo,0,none⟩),Value.pointer (some ⟨bl,0,none⟩),Value.pointer (some ⟨bq,0,none⟩),Value.pointer (some ⟨bt,0,none⟩)].toArray)].toArray 79 (0,0))] Tryz.results29 trivial ?_;exact⟨A,v20,us++ [⟨fu,eT⟩],hA,LO,qc,by rw[Be,List.length_append,List.length_append,D8];rfl,rfl⟩
   ·refine St.mW (.mk rfl) (.mk rfl) bJ cu dx Mi (pj _ _) (by omega) (by omega) rfl rfl (by omega) rfl (fun fu B8=> ?_)
    refine St.bI fu (show _=(ints p).length by rw[vj];omega) (show _=rows aF (ints p) by rw[TQ];rfl) ?_;refine St.e7 fu (fun eT _=> ?_);refine St.aM fu aF (ints p) rfl rfl (qb fun i hi=>by have:=R4 i hi;omega) ?_;refine St.nn ?_;refine SW.go ?_;refine SW.ig (i:=0) (j:=4) (by kernel_rfl) rfl rfl ?_ ?_
    ·refine St.ee (Ev.l0 (.mk rfl) dM) ?_
     refine St.nn ?_;refine SW.go ?_;refine SW.ar (i:=4) (by kernel_rfl) rfl ?_;refine St.cS rfl (.cons (.mk rfl) .nil) dM e9 ef rfl rfl (by simp[J.aB eT]) rfl rfl (fun TR=> ?_);refine St.nn ?_;refine SW.go ?_;refine SW.ar (i:=5) (by kernel_rfl) rfl ?_;refine St.cT (.mk rfl) (.mk rfl) dM e9 ef Gn (by simp[J.aB eT,eT]) (by omega) (by omega) rfl rfl rfl rfl (fun v20 KU=> ?_);refine St.bI v20 (show _=T.length by rw[Be,List.length_append];rfl) (show _=rows br (us++ [⟨fu,eT⟩]) by rw[dA];simp[J.aB eT];rfl) ?_;refine St.e7 v20 (fun qc _=> ?_);refine St.nn ?_;refine SW.go ?_;refine SW.ar (i:=6) (by kernel_rfl) rfl ?_;refine St.bQ (.mk rfl) (.mk rfl) Gp qc (by rfl) ?_;refine St.nn ?_;refine SW.go ?_;refine SW.done (by kernel_rfl) ?_;refine St.a7 (St.ae (St.a8 ?_));refine St.pR us ⟨fu,eT⟩ (by rw[List.length_map];exact D8) ?_;rw[show O.map ints++ [ints p]=T.map ints by rw[Be,List.map_append];rfl];refine St.rT [] [aZ ba (.cells [va].toArray 61 (0,0)),row va 3 1 q.vars.length (rows aF (A)),aZ bo (.cells [v20].toArray 41 (0,0)),row v20 61 1 (T).length (rows br (us++ [⟨fu,eT⟩])),aE (mL aF (us++ [⟨fu,eT⟩]) ((T).map ints)),aZ bl (.cells [vl].toArray 77 (0,0)),aZ bq (.cells [q.vv.1,q.kv.1].toArray 25 (0,0)),aZ bt (.cells [(.func (.func 29) #[] [Value.pointer (some ⟨ba,0,none⟩),Value.pointer (some ⟨bo,0,none⟩),Value.pointer (some ⟨bl,0,none⟩),Value.pointer (some ⟨bq,0,none⟩),Value.pointer (some ⟨bt,0,none⟩)].toArray)].toArray 79 (0,0))] Tryz.results29 trivial ?_;exact⟨A,v20,us++ [⟨fu,eT⟩],hA,LO,qc,by rw[Be,List.length_append,List.length_append,D8];rfl,rfl⟩
    ·refine St.cS rfl (.cons (.mk rfl) .nil) dM e9 ef rfl rfl (by simp[J.aB eT]) rfl rfl (fun TR=> ?_)
     refine St.nn ?_;refine SW.go ?_;refine SW.ar (i:=0) (by kernel_rfl) rfl ?_;refine St.ee (Ev.l0 (.mk rfl) dM) ?_;refine St.nn ?_;refine SW.go ?_;refine SW.ar (i:=5) (by kernel_rfl) rfl ?_;refine St.cT (.mk rfl) (.mk rfl) dM e9 ef Gn (by simp[J.aB eT,eT]) (by omega) (by omega) rfl rfl rfl rfl (fun v20 KU=> ?_);refine St.bI v20 (show _=T.length by rw[Be,List.length_append];rfl) (show _=rows br (us++ [⟨fu,eT⟩]) by rw[dA];simp[J.aB eT];rfl) ?_;refine St.e7 v20 (fun qc _=> ?_);refine St.nn ?_;refine SW.go ?_;refine SW.ar (i:=6) (by kernel_rfl) rfl ?_;refine St.bQ (.mk rfl) (.mk rfl) Gp qc (by rfl) ?_;refine St.nn ?_;refine SW.go ?_;refine SW.done (by kernel_rfl) ?_;refine St.a7 (St.ae (St.a8 ?_));refine St.pR us ⟨fu,eT⟩ (by rw[List.length_map];exact D8) ?_;rw[show O.map ints++ [ints p]=T.map ints by rw[Be,List.map_append];rfl];refine St.rT [] [aZ ba (.cells [va].toArray 61 (0,0)),row va 3 1 q.vars.length (rows aF (A)),aZ bo (.cells [v20].toArray 41 (0,0)),row v20 61 1 (T).length (rows br (us++ [⟨fu,eT⟩])),aE (mL aF (us++ [⟨fu,eT⟩]) ((T).map ints)),aZ bl (.cells [vl].toArray 77 (0,0)),aZ bq (.cells [q.vv.1,q.kv.1].toArray 25 (0,0)),aZ bt (.cells [(.func (.func 29) #[] [Value.pointer (some ⟨ba,0,none⟩),Value.pointer (some ⟨bo,0,none⟩),Value.pointer (some ⟨bl,0,none⟩),Value.pointer (some ⟨bq,0,none⟩),Value.pointer (some ⟨bt,0,none⟩)].toArray)].toArray 79 (0,0))] Tryz.results29 trivial ?_;exact⟨A,v20,us++ [⟨fu,eT⟩],hA,LO,qc,by rw[Be,List.length_append,List.length_append,D8];rfl,rfl⟩
 ·try simp only[aA]at uE
  obtain⟨vr,ws,LP⟩:=List.exists_cons_of_length_pos (show 0<vs.length by omega);subst LP;rw[BA]at hT;obtain⟨ZI,gL⟩:=drop_cons NW;rw[List.length_cons]at hlen hm;refine St.skip (St.a7 (St.sr ?_));refine St.ee (Ev.l0 (.mk rfl) fk) ?_;refine St.ee (Ev.bA (.mk rfl) fk) ?_;refine St.mv ?_;refine St.nn (St.block ?_);refine St.pH (ι:=Nat) (κ:=List Int×Value×List dQ×List (List Nat)) (fun i z T=>(23,iv i)::T) (fun i z=>[aZ ba (.cells [va].toArray 61 (0,0)),row va 3 1 q.vars.length (rows aF (z.1)),aZ bo (.cells [z.2.1].toArray 41 (0,0)),row z.2.1 61 1 (z.2.2.2).length (rows br (z.2.2.1)),aE (mL aF (z.2.2.1) ((z.2.2.2).map ints)),aZ bl (.cells [vl].toArray 77 (0,0)),aZ bq (.cells [q.vv.1,q.kv.1].toArray 25 (0,0)),aZ bt (.cells [(.func (.func 29) #[] [Value.pointer (some ⟨ba,0,none⟩),Value.pointer (some ⟨bo,0,none⟩),Value.pointer (some ⟨bl,0,none⟩),Value.pointer (some ⟨bq,0,none⟩),Value.pointer (some ⟨bt,0,none⟩)].toArray)].toArray 79 (0,0)),aE (sl fU vl L),aE (sl cC q.vv.1 q.vars),aE (sl cE q.kv.1 q.aV)]) (fun i z=>i≤L.length∧z.1.length=q.vars.length∧z.1.take p.length=ints p∧z.2.1.oneCell'=true∧z.2.2.1.length=z.2.2.2.length∧z.2.2.2.length≤501∧z.2.2.2=(List.range i).foldl (kP L q.aV vr ws p) O) (fun i z=>L.length-i) 0 (A,vo,us,O) (aG.cons 0 rfl (aG.cons 1 rfl (aG.cons 2 rfl (aG.cons 3 rfl (aG.cons 4 rfl (aG.cons 5 rfl (aG.cons 22 rfl aG.nil))))))) ⟨Nat.zero_le _,hA,LO,NX,D8,hO,rfl⟩ ?_;rintro i ⟨B,wo,Dh,Oc⟩ ⟨hi,hB,NZ,LQ,KV,Di,KX⟩
  dsimp only at hB NZ LQ KV Di KX⊢
  refine St.sr ?_;refine St.ee Ev.ez ?_;refine St.nn (St.seq ?_);refine St.cond _ rfl (fun y0=> ?_) (fun y0=> ?_)
  ·try simp only[aA]at y0
   obtain⟨nq,Wx⟩:=aY (show i<L.length by omega)
   have IC:L.getD i tf=nq:=by rw[List.getD_eq_getElem?_getD,Wx];rfl
   have KY:∀y∈p++ [i],y<L.length:=fun y hy=>by rcases List.mem_append.1 hy with h|h;exact R4 y h;rw[List.mem_singleton.1 h];omega
   refine St.skip (St.a7 (St.seq (St.block (St.sr ?_))));refine St.mv ?_;refine St.ao ?_;refine St.nn (St.seq (St.sr ?_));refine St.ee (Ev.l0 (.mk rfl) dM) ?_;refine St.ee (Ev.gm (.mk rfl) dM) ?_;refine St.ee Ev.vQ ?_;refine St.nn ?_;refine St.cond _ rfl (fun GQ=> ?_) (fun GQ=> ?_)
   ·try simp only[aA]at GQ
    have TT:Oc=T:=by rw[hT,show L.length=i+(L.length-i) by omega,sf (by rw[←KX];omega),KX]
    subst TT;refine St.ae (St.a8 (St.aN (St.a8 (St.a8 (St.aN ?_)))));refine St.rT [] [aZ ba (.cells [va].toArray 61 (0,0)),row va 3 1 q.vars.length (rows aF (B)),aZ bo (.cells [wo].toArray 41 (0,0)),row wo 61 1 (Oc).length (rows br (Dh)),aE (mL aF (Dh) ((Oc).map ints)),aZ bl (.cells [vl].toArray 77 (0,0)),aZ bq (.cells [q.vv.1,q.kv.1].toArray 25 (0,0)),aZ bt (.cells [(.func (.func 29) #[] [Value.pointer (some ⟨ba,0,none⟩),Value.pointer (some ⟨bo,0,none⟩),Value.pointer (some ⟨bl,0,none⟩),Value.pointer (some ⟨bq,0,none⟩),Value.pointer (some ⟨bt,0,none⟩)].toArray)].toArray 79 (0,0))] Tryz.results29 trivial ?_;exact⟨B,wo,Dh,hB,NZ,LQ,KV,rfl⟩
   ·try simp only[aA]at GQ
    refine St.skip (St.a7 (St.seq (St.seq ?_)));refine St.rq mixed (by kernel_rfl) (Mm.drawn _ _) ?_;refine Sq.ee (Ev.aD (.mk rfl) cN) ?_;refine Sq.ee (Ev.l0 (.mk rfl) cM) ?_;refine Sq.ee (Ev.move (.mk rfl)) ?_;refine Sq.ee (Ev.aa (k:=p.length) (.mk rfl) (.mk rfl) cM cv (by omega) (by omega)) ?_;refine Sq.ee (Ev.iH (.mk rfl) ZI gP trivial cv fw.eq) ?_;refine Sq.ee (Ev.l0 (.mk rfl) fk) ?_;refine Sq.ee (Ev.move (.mk rfl)) ?_;refine Sq.ee (Ev.aa (k:=i) (.mk rfl) (.mk rfl) fk lF (by omega) (by omega)) ?_;refine Sq.ee (Ev.iH (.mk rfl) Wx Tryz.underlying82 trivial lF fw.eq) ?_;refine Sq.ee (Ev.call (B9 vr nq) T6 (.cons (.mk rfl) (.cons (.mk rfl) .nil))) ?_;refine Sq.ee (Ev.not (.mk rfl)) ?_;refine Sq.nil ?_;refine St.a7 ?_;refine St.cond _ rfl (fun pZ=> ?_) (fun pZ=> ?_)
    ·skip
     have TU:om vr nq=false:=by simpa using pZ
     have Na:FN L q.aV vr p i=false:=by unfold FN;rw[IC,TU];rfl
     have cq:Oc=(List.range (i+1)).foldl (kP L q.aV vr ws p) O:=by rw[fold_succ,←KX,kP,if_neg (by omega),Na];rfl
     refine St.exit (St.aJ (St.bO (St.a7 (St.rg ?_))));refine St.ee Ev.a0 ?_;refine St.mv ?_;refine St.nn ?_;refine St.ly (i+1) (B,wo,Dh,Oc) ⟨by omega,hB,NZ,LQ,KV,Di,cq⟩
    ·skip
     have TU:om vr nq=true:=by simpa using pZ
     refine St.skip (St.a7 (St.sr ?_));refine St.ee (Ev.l0 (.mk rfl) bJ) ?_;refine St.mv ?_;refine St.mv ?_;refine St.ee (Ev.dm (k:=p.length) (.mk rfl) (.mk rfl) bJ cu (by omega) (by omega)) ?_;refine St.eP (.mk rfl) (.mk rfl) cu rfl (by omega) (by decide) ?_;refine St.Lo va (Da _ _ _) ?_
     have hC:=take_set (i:=i) NZ (by omega)
     have TV:(B.set p.length (i:Int)).length=q.vars.length:=by rw[List.length_set];exact hB
     generalize hBC:B.set p.length (i:Int)=C at hC TV⊢
     have Gy:(p++ [i]).length=p.length+1:=by rw[List.length_append];rfl
     refine St.nn (St.sr ?_);refine St.ao ?_;refine St.nn (St.seq (St.sr ?_));refine St.ee (Ev.aD (.mk rfl) dz) ?_;refine St.ee (Ev.l0 (.mk rfl) dw) ?_;refine St.ee (Ev.bA (.mk rfl) dw) ?_;refine St.mv ?_;refine St.nn (St.block ?_);refine St.lH (ι:=Nat) (fun j T=>(47,iv j)::(8,.bool true)::T) (fun j=>[aZ ba (.cells [va].toArray 61 (0,0)),row va 3 1 q.vars.length (rows aF (C)),aZ bo (.cells [wo].toArray 41 (0,0)),row wo 61 1 (Oc).length (rows br (Dh)),aE (mL aF (Dh) ((Oc).map ints)),aZ bl (.cells [vl].toArray 77 (0,0)),aZ bq (.cells [q.vv.1,q.kv.1].toArray 25 (0,0)),aZ bt (.cells [(.func (.func 29) #[] [Value.pointer (some ⟨ba,0,none⟩),Value.pointer (some ⟨bo,0,none⟩),Value.pointer (some ⟨bl,0,none⟩),Value.pointer (some ⟨bq,0,none⟩),Value.pointer (some ⟨bt,0,none⟩)].toArray)].toArray 79 (0,0)),aE (sl fU vl L),aE (sl cC q.vv.1 q.vars),aE (sl cE q.kv.1 q.aV)]) (fun j=>j≤q.aV.length∧∀x∈q.aV.take j,oo L (p++ [i]) x=true) (fun j=>q.aV.length-j) 0 (aG.cons 0 rfl (aG.cons 1 rfl (aG.cons 2 rfl (aG.cons 3 rfl (aG.cons 4 rfl (aG.cons 5 rfl (aG.cons 22 rfl (aG.cons 23 rfl (aG.cons 45 rfl (aG.cons 46 rfl aG.nil)))))))))) ⟨Nat.zero_le _,fun x hx=>by simp at hx⟩ ?_;rintro j ⟨hj,ej⟩;refine St.sr ?_;refine St.ee Ev.ez ?_;refine St.nn (St.seq ?_);refine St.cond _ rfl (fun BB=> ?_) (fun BB=> ?_)
     ·try simp only[aA]at BB
      obtain⟨x,hx⟩:=aY (show j<q.aV.length by omega)
      have FT:=List.mem_of_getElem? hx
      obtain⟨Gx,Ip,Nb,Nc,ZJ,ZK,ZL⟩:=hq.link x FT;refine St.skip (St.a7 (St.seq (St.block (St.sr ?_))));refine St.ee (Ev.aa (k:=j) (.mk rfl) (.mk rfl) dw gj (by omega) (by omega)) ?_;refine St.ee (Ev.iH (.mk rfl) hx tq trivial gj fw.eq) ?_;refine St.alloc B2 rfl (fun iC=> ?_);refine St.sA (.mk rfl) (.mk rfl) gj ?_ (h1:=(by simp only[List.all_cons,List.all_nil,Bool.and_true,Bool.and_eq_true];exact⟨rfl,rfl,rfl⟩));refine St.nn (St.seq ?_);refine St.ek [] mixed (fun np ns=> ?_);refine SW.dd 0 rfl (fun _=>Ev.aD (.mk rfl) hG) ?_;refine SW.dd 1 rfl (fun _=>Ev.cY (.mk rfl) bf trivial (by rfl)) ?_;refine SW.dd 2 rfl (fun _=>Ev.aD (.mk rfl) hJ) ?_;refine SW.dd 3 rfl (fun _=>Ev.cY (.mk rfl) bf trivial (by rfl)) ?_;refine SW.dd 4 rfl (fun _=>Ev.TI (.mk rfl) (.mk rfl)) ?_;refine SW.dd 5 rfl (fun _=>Ev.move (.mk rfl)) ?_;refine SW.dd 6 rfl (fun _=>Ev.fE) ?_;refine SW.split 57 _ rfl (fun Dj=> ?_) (fun Dj=> ?_)
      ·have Wy:max x.a x.b=((p++ [i]).length:Int)-1:=by rw[Gy];simp only[decide_eq_true_eq,beq_iff_eq]at Dj;split at Dj<;>omega
       have R5:x.a.toNat<p.length+1:=by omega
       have R6:x.b.toNat<p.length+1:=by omega
       have ZM:=zu hC Gy R5
       have Dk:=zu hC Gy R6
       have LR:=wF KY (show x.a.toNat<(p++ [i]).length by omega)
       have Ik:=wF KY (show x.b.toNat<(p++ [i]).length by omega)
       refine SW.dd 7 rfl (fun _=>Ev.move (.mk rfl)) ?_;refine SW.slot 58 (.bool true) rfl (congrArg Value.bool rfl) ?_;refine SW.gt 8 _ np ns rfl rfl rfl (fun R _=>Ev.cY (.mk rfl) fk trivial (by rfl)) (by kernel_rfl) rfl ?_;refine SW.slot 59 _ rfl (c7 rfl _) ?_;refine SW.gt 9 _ np ns rfl rfl rfl (fun R _=>Ev.aD (.mk rfl) mV) (by kernel_rfl) rfl ?_;refine SW.slot 60 _ rfl (c7 rfl _) ?_;refine SW.gt 10 _ np ns rfl rfl rfl (fun R _=>Ev.cY (.mk rfl) bf trivial (by rfl)) (by kernel_rfl) rfl ?_;refine SW.slot 61 _ rfl (c7 rfl _) ?_;refine SW.gt 11 _ np ns rfl rfl rfl (fun R _=>Ev.cY (.mk rfl) bJ trivial (by rfl)) (by kernel_rfl) rfl ?_;refine SW.slot 62 _ rfl (c7 rfl _) ?_;refine SW.gt 12 _ np ns rfl rfl rfl (fun R _=>Ev.aD (.mk rfl) hG) (by kernel_rfl) rfl ?_;refine SW.slot 63 _ rfl (c7 rfl _) ?_;refine SW.gt 13 _ np ns rfl rfl rfl (fun R _=>Ev.cY (.mk rfl) bf trivial (by rfl)) (by kernel_rfl) rfl ?_;refine SW.slot 64 _ rfl (c7 rfl _) ?_;refine SW.gt 14 _ np ns rfl rfl rfl (fun R _=>Ev.dm (k:=x.a.toNat) (.mk rfl) (.mk rfl) bJ cu (by omega) (by omega)) (by kernel_rfl) rfl ?_;refine SW.slot 65 _ rfl (c7 rfl _) ?_;refine SW.gt 15 _ np ns rfl rfl rfl (fun R _=>Ev.jn (.mk rfl) bf trivial (by omega) (zt ZM)) (by kernel_rfl) rfl ?_;refine SW.slot 66 _ rfl (c7 rfl _) ?_;refine SW.gt 16 _ np ns rfl rfl rfl (fun R _=>Ev.cY (.mk rfl) bJ trivial (by rfl)) (by kernel_rfl) rfl ?_;refine SW.slot 67 _ rfl (c7 rfl _) ?_;refine SW.gt 17 _ np ns rfl rfl rfl (fun R _=>Ev.aD (.mk rfl) hJ) (by kernel_rfl) rfl ?_;refine SW.slot 68 _ rfl (c7 rfl _) ?_;refine SW.gt 18 _ np ns rfl rfl rfl (fun R _=>Ev.cY (.mk rfl) bf trivial (by rfl)) (by kernel_rfl) rfl ?_;refine SW.slot 69 _ rfl (c7 rfl _) ?_;refine SW.gt 19 _ np ns rfl rfl rfl (fun R _=>Ev.dm (k:=x.b.toNat) (.mk rfl) (.mk rfl) bJ cu (by omega) (by omega)) (by kernel_rfl) rfl ?_;refine SW.slot 70 _ rfl (c7 rfl _) ?_;refine SW.gt 20 _ np ns rfl rfl rfl (fun R _=>Ev.jn (.mk rfl) bf trivial (by omega) (zt Dk)) (by kernel_rfl) rfl ?_;refine SW.slot 71 _ rfl (c7 rfl _) ?_;refine SW.gt 21 _ np ns rfl rfl rfl (fun R _=>Ev.call (wE vl L x.kind _ _ LR Ik) T7 (.cons (.mk rfl) (.cons (.mk rfl) (.cons (.mk rfl) (.cons (.mk rfl) .nil))))) (by kernel_rfl) rfl ?_;refine SW.slot 72 _ rfl (c7 rfl _) ?_;refine SW.gt 22 _ np ns rfl rfl rfl (fun R _=>Ev.not (.mk rfl)) (by kernel_rfl) rfl ?_;refine SW.slot 73 _ rfl (c7 rfl _) ?_;refine SW.dd 23 rfl (fun _=>Ev.eQ (.mk rfl) rfl (.mk rfl)) ?_;refine SW.done (by kernel_rfl) ?_;refine St.a7 ?_;refine St.cond _ rfl (fun xA=> ?_) (fun xA=> ?_)
       ·skip
        have ZN:oo L (p++ [i]) x=false:=by unfold oo;rw[decide_eq_true Wy];simpa using xA
        have zL:okB L q.aV (p++ [i])=false:=by unfold okB;rw[List.all_eq_false];exact⟨x,FT,by rw[ZN];decide⟩
        have Na:FN L q.aV vr p i=false:=by unfold FN;rw[zL,Bool.and_false]
        have cq:Oc=(List.range (i+1)).foldl (kP L q.aV vr ws p) O:=by rw[fold_succ,←KX,kP,if_neg (by omega),Na];rfl
        refine St.sr ?_;refine St.ao ?_;refine St.nn (St.exit (St.Fc rfl (St.aJ (St.aJ (St.bO (St.a7 (St.sr ?_)))))));refine St.mv ?_;refine St.nn ?_;refine St.ph _ rfl rfl ?_;refine St.skip (St.aW (St.a7 (St.rg ?_)));refine St.ee Ev.a0 ?_;refine St.mv ?_;refine St.nn ?_;refine St.ly (i+1) (C,wo,Dh,Oc) ⟨by omega,TV,sg (B:=C) (i:=i) (by rw[Gy];exact hC),LQ,KV,Di,cq⟩
       ·skip
        have KT:oo L (p++ [i]) x=true:=by unfold oo;rw[decide_eq_true Wy];simpa using xA
        refine St.skip (St.aW (St.a7 (St.rg ?_)));refine St.ee Ev.a0 ?_;refine St.mv ?_;refine St.nn ?_;refine St.aH (j+1) ⟨by omega,fun z hz=>by rw[bD hx]at hz;rcases List.mem_append.1 hz with h|h;exact ej z h;rw[List.mem_singleton.1 h];exact KT⟩
      ·have KT:oo L (p++ [i]) x=true:=by unfold oo;rw[decide_eq_false (by rw[Gy];simp only[decide_eq_false_iff_not,beq_eq_false_iff_ne]at Dj;split at Dj<;>omega)];rfl
       refine SW.dd 7 rfl (fun _=>Ev.move (.mk rfl)) ?_;refine SW.slot 58 (.bool false) rfl (congrArg Value.bool rfl) ?_;refine SW.gt 8 undef np ns rfl rfl rfl (fun R hg=>by cases hg) (by kernel_rfl) rfl ?_;refine SW.slot 59 undef rfl (az rfl _) ?_;refine SW.gt 9 undef np ns rfl rfl rfl (fun R hg=>by cases hg) (by kernel_rfl) rfl ?_;refine SW.slot 60 undef rfl (az rfl _) ?_;refine SW.gt 10 undef np ns rfl rfl rfl (fun R hg=>by cases hg) (by kernel_rfl) rfl ?_;refine SW.slot 61 undef rfl (az rfl _) ?_;refine SW.gt 11 undef np ns rfl rfl rfl (fun R hg=>by cases hg) (by kernel_rfl) rfl ?_;refine SW.slot 62 undef rfl (az rfl _) ?_;refine SW.gt 12 undef np ns rfl rfl rfl (fun R hg=>by cases hg) (by kernel_rfl) rfl ?_;refine SW.slot 63 undef rfl (az rfl _) ?_;refine SW.gt 13 undef np ns rfl rfl rfl (fun R hg=>by cases hg) (by kernel_rfl) rfl ?_;refine SW.slot 64 undef rfl (az rfl _) ?_;refine SW.gt 14 undef np ns rfl rfl rfl (fun R hg=>by cases hg) (by kernel_rfl) rfl ?_;refine SW.slot 65 undef rfl (az rfl _) ?_;refine SW.gt 15 undef np ns rfl rfl rfl (fun R hg=>by cases hg) (by kernel_rfl) rfl ?_;refine SW.slot 66 undef rfl (az rfl _) ?_;refine SW.gt 16 undef np ns rfl rfl rfl (fun R hg=>by cases hg) (by kernel_rfl) rfl ?_;refine SW.slot 67 undef rfl (az rfl _) ?_;refine SW.gt 17 undef np ns rfl rfl rfl (fun R hg=>by cases hg) (by kernel_rfl) rfl ?_;refine SW.slot 68 undef rfl (az rfl _) ?_;refine SW.gt 18 undef np ns rfl rfl rfl (fun R hg=>by cases hg) (by kernel_rfl) rfl ?_;refine SW.slot 69 undef rfl (az rfl _) ?_;refine SW.gt 19 undef np ns rfl rfl rfl (fun R hg=>by cases hg) (by kernel_rfl) rfl ?_;refine SW.slot 70 undef rfl (az rfl _) ?_;refine SW.gt 20 undef np ns rfl rfl rfl (fun R hg=>by cases hg) (by kernel_rfl) rfl ?_;refine SW.slot 71 undef rfl (az rfl _) ?_;refine SW.gt 21 undef np ns rfl rfl rfl (fun R hg=>by cases hg) (by kernel_rfl) rfl ?_;refine SW.slot 72 undef rfl (az rfl _) ?_;refine SW.gt 22 undef np ns rfl rfl rfl (fun R hg=>by cases hg) (by kernel_rfl) rfl ?_;refine SW.slot 73 undef rfl (az rfl _) ?_;refine SW.dd 23 rfl (fun _=>Ev.uz (.mk rfl) rfl (.mk rfl)) ?_;refine SW.done (by kernel_rfl) ?_;refine St.a7 ?_;refine St.cond _ rfl (fun xA=> ?_) (fun xA=> ?_)
       ·skip
        cases xA
       ·skip
        refine St.skip (St.aW (St.a7 (St.rg ?_)));refine St.ee Ev.a0 ?_;refine St.mv ?_;refine St.nn ?_;refine St.aH (j+1) ⟨by omega,fun z hz=>by rw[bD hx]at hz;rcases List.mem_append.1 hz with h|h;exact ej z h;rw[List.mem_singleton.1 h];exact KT⟩
     ·try simp only[aA]at BB
      have zL:okB L q.aV (p++ [i])=true:=by unfold okB;rw[List.all_eq_true];intro z hz;exact ej z (by rw[List.take_of_length_le (by omega)];exact hz)
      have Na:FN L q.aV vr p i=true:=by unfold FN;rw[IC,TU,zL];rfl
      refine St.exit (St.aJ (St.aJ (St.bO (St.a7 (St.sr ?_)))));refine St.mv ?_;refine St.nn ?_;refine St.LY _ rfl rfl ?_;refine St.dup (sl fU vl L) ?_;refine St.dup (sl cC q.vv.1 q.vars) ?_;refine St.dup (sl cE q.kv.1 q.aV) ?_
      obtain⟨T3,TW⟩:∃T3,T3=rI L q.aV ws (p++ [i]) Oc:=⟨_,rfl⟩
      refine St.rg ?_;refine St.ee (Ev.l0 (.mk rfl) Tryz.underlying79) ?_;refine St.mv ?_;refine St.ee Ev.a0 ?_;refine St.slot 79 (iv (((p++ [i]).length:Nat):Int)) rfl (congrArg iv (by rw[Gy];rfl)) ?_;refine St.cp (ih ws.length (by omega) ws (p++ [i]) Oc C wo Dh T3 rfl TW (by rw[Gy];exact gL) (by rw[Gy];omega) TV (by rw[Gy];exact hC) KY LQ KV Di (fun _=>by omega)) NJ (.mk rfl) (.cons (.mk rfl) .nil) rfl ?_;rintro v80 _ ⟨C3,ZO,ZP,ZQ,TX,TY,TZ,rfl⟩;refine St.NR ?_
      have cq:T3=(List.range (i+1)).foldl (kP L q.aV vr ws p) O:=by rw[fold_succ,←KX,kP,if_neg (by omega),Na,TW];rfl
      have Ta:T3.length≤501:=by rw[TW];exact Dg _ _ _ _ _ Di (fun _=>by omega)
      refine St.nil (St.aW (St.a7 (St.rg ?_)));refine St.ee Ev.a0 ?_;refine St.mv ?_;refine St.nn ?_;refine St.ly (i+1) (C3,ZO,ZP,T3) ⟨by omega,ZQ,sg (B:=C3) (i:=i) TX,TY,TZ,Ta,cq⟩
  ·try simp only[aA]at y0
   obtain rfl:i=L.length:=by omega
   have TT:Oc=T:=by rw[KX,hT]
   subst TT;refine St.exit (St.aJ (St.aJ (St.bO ?_)));refine St.gX ?_;refine St.rT [] [aZ ba (.cells [va].toArray 61 (0,0)),row va 3 1 q.vars.length (rows aF (B)),aZ bo (.cells [wo].toArray 41 (0,0)),row wo 61 1 (Oc).length (rows br (Dh)),aE (mL aF (Dh) ((Oc).map ints)),aZ bl (.cells [vl].toArray 77 (0,0)),aZ bq (.cells [q.vv.1,q.kv.1].toArray 25 (0,0)),aZ bt (.cells [(.func (.func 29) #[] [Value.pointer (some ⟨ba,0,none⟩),Value.pointer (some ⟨bo,0,none⟩),Value.pointer (some ⟨bl,0,none⟩),Value.pointer (some ⟨bq,0,none⟩),Value.pointer (some ⟨bt,0,none⟩)].toArray)].toArray 79 (0,0))] Tryz.results29 trivial ?_;exact⟨B,wo,Dh,hB,NZ,LQ,KV,rfl⟩
end Go.Proofs.YtoioijgdggkabaaGreatDoor
