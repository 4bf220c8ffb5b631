/-
  Laws of walks through programs, and facts on grammars, trees and queries.
  Conditions: none.
-/
import Derived.Test.YtiefglecbgdaiaaGreatDoorGF6
import Derived.Shelf.SortM.Plain
import Derived.Shelf.SortM.SortNone
import Derived.Shelf.SlGeneric
set_option maxHeartbeats 4000000
set_option maxRecDepth 20000
set_option linter.unusedVariables false
set_option linter.unusedSimpArgs false
namespace Go.Proofs.YtiefglecbgdaiaaGreatDoor
open Go Go.J Tryz
theorem Ea (v0:Value)(xs:List Int)(y:Int):cX prog 150 #[v0,iv y] [sl aI v0 xs] (iv (ix (λx=>decide (y=x)) xs)):=by
 refine cX.l6 (args:=[v0,iv y]) 19 func150 rfl ntmps150 rfl (λc=> ?_);refine go ?_;refine St.wf v0 (λf hlen=> ?_);refine g13 ?_;refine St.lS (ι:=Nat) (λk T=>(8,iv k)::T) (λk=>k≤xs.length∧(xs.take k).all (λx=> !decide (y=x))=true) (λk=>xs.length-k) 0 (aC.k3 0 1 7) ⟨aP _,rfl⟩ ?_;intro k d;obtain⟨hk,a⟩:=d;refine g6 ?_;refine St.cq (λe=> ?_) (λe=> ?_)
 ·obtain⟨x,hx⟩:=aF (show k<xs.length by omega)
  refine g20 ?_;refine St.cq (λb=> ?_) (λb=> ?_)
  ·refine g12 ?_
   refine St.rV [_] [] ?_;exact ie (Fl a hx (by simpa using b)).symm
  ·refine g8 ?_
   refine St.aS (k+1) ⟨by omega,kO a hx (by simpa using b)⟩
 ·refine g11 ?_
  refine St.rV [_] [] ?_;exact ie (L5 a zE).symm
theorem qH (v0:Value)(xs:List Int)(y:Int):cX prog 101 #[v0,iv y] [sl aI v0 xs] (.bool (xs.any (λx=>decide (y=x)))):=by
 refine cX.l6 (args:=[v0,iv y]) 9 func101 rfl ntmps101 rfl (λc=> ?_);refine g9 ?_;refine St.ee (Ev.call (Ea v0 xs y) ab7 (.ah rfl rfl)) ?_;refine g5 ?_;refine St.rV [_] [] ?_;exact be (Bf _ _)
theorem tK (v0:Value)(xs:List Int)(a:FuncId)(e:aG prog a)(caps:List Value)(ds:List dQ)(pr:Int→Bool)(f:∀p∈xs,cX prog a ([iv p]++caps).toArray ds (.bool (pr p))):
 cX prog 103 #[v0,.func (.func a) #[] caps.toArray] (sl aI v0 xs::ds) (iv (ix pr xs)):=by
 refine cX.Ol (args:=[v0,.func (.func a) #[] caps.toArray]) 19 func103 rfl ntmps103 rfl (λc=> ?_);refine go ?_;refine St.wf v0 (λi hlen=> ?_);refine g13 ?_;refine St.lS (ι:=Nat) (λk T=>(8,iv k)::T) (λk=>k≤xs.length∧(xs.take k).all (λy=> !pr y)=true) (λk=>xs.length-k) 0 (aC.k3 0 1 7) ⟨aP _,rfl⟩ ?_;intro k g;obtain⟨hk,b⟩:=g;refine g6 ?_;refine St.cq (λh=> ?_) (λh=> ?_)
 ·obtain⟨p,hp⟩:=aF (show k<xs.length by omega)
  refine g17 ?_;refine St.ee (Ev.fg (f p (aa hp)) e (.mk rfl) (.ay rfl)) ?_;refine g2 ?_;refine St.cond _ rfl (λd=> ?_) (λd=> ?_)
  ·skip
   refine g12 ?_;refine St.JX [_] _ results103 ⟨rfl,trivial⟩ ?_ (λ_ hw=>hw);exact ie (Fl b hp d).symm
  ·skip
   refine g8 ?_;refine St.OP (k+1) ⟨by omega,kO b hp (by simpa using d)⟩ (by first|omega|(dsimp only;omega)) (by repeat(first|exact Sub.nil|refine Sub.cons (by first|rfl|exact congrArg (λz=>some (iv z)) (by first|omega|(dsimp only;omega))|exact congrArg (λz=>some (Value.bool z)) (by first|assumption|exact ke (by assumption))) ?_)) (λ_ hw=>hw)
 ·refine g11 ?_
  refine St.JX [_] _ results103 ⟨rfl,trivial⟩ ?_ (λ_ hw=>hw);exact ie (L5 b zE).symm
theorem pW (v0:Value)(xs:List Int)(a:FuncId)(b:aG prog a)(caps:List Value)(ds:List dQ)(pr:Int→Bool)(d:∀p∈xs,cX prog a ([iv p]++caps).toArray ds (.bool (pr p))):
 cX prog 145 #[v0,.func (.func a) #[] caps.toArray] (sl aI v0 xs::ds) (.bool (xs.any pr)):=by
 refine cX.Ol (args:=[v0,.func (.func a) #[] caps.toArray]) 9 func145 rfl ntmps145 rfl (λc=> ?_);refine g9 ?_;refine St.ee (Ev.call (tK v0 xs a b caps ds pr d) Wa (.ah rfl rfl)) ?_;refine g5 ?_;refine St.JX [_] _ results145 ⟨rfl,trivial⟩ ?_ (λ_ hw=>hw);exact be (Bf _ _)
theorem Cq (f:kQ)(k:yB f)(i:List Value)(j:(i.drop 7).take 6=Ua f)(b rule a:Nat)(l:rule<f.nr)(hk:1≤a)(m:a≤1000)(d e g:Nat)(top:Int)(ht:bR top):dR prog 206 #[iv top,tW d,tW e,tW g] ([fx d (tW b),fx e (iv (rule:Nat)),fx g (iv (a:Nat)),ir b i,gm f].map aD) (λv H'=>v= .bool (qO f rule a top)∧H'=[]):=by
 refine dR.body (args:=[iv top,tW d,tW e,tW g]) 14 func206 rfl ntmps206 rfl (λc=> ?_);refine St.cast (H':=[aD (fx d (tW b)),aD (fx e (iv (rule:Nat))),aD (fx g (iv (a:Nat))),aD (ir b i),aD (gm f)]) rfl ?_;refine g6 ?_;refine St.dZ [] mixed (λn o=> ?_);refine SW.gd 0 ?_;refine SW.gd 1 ?_;refine SW.gd 2 ?_;refine SW.dd 3 rfl (λ_=>Ev.LB 6 (.mk rfl) underlying217 trivial Lm j rfl) ?_;refine SW.slot 9 (MZ f) rfl rfl ?_;refine SW.gd 4 ?_;refine SW.gd 5 ?_;refine SW.gd 6 ?_;refine SW.dd 7 rfl (λ_=>Ev.call ((EW f k rule a l hk m top ht).mono λ_ _ h=>h.1) acO (.pL rfl rfl rfl rfl)) ?_;refine SW.gd 8 ?_;refine SW.dn ?_;refine g2 ?_;refine St.rV [_] [] ?_;exact⟨rfl,rfl⟩
theorem tQ (f:kQ)(o:yB f)(d:List Value)(i:(d.drop 7).take 6=Ua f)(a rule b:Nat)(p:rule<f.nr)(hk:1≤b)(q:b≤1000)(g:aY)(j:d[13]?=some g.1)(its:List cK)(e:Nat)(x:cK)(hx:its[e]?=some x)(n:∀t∈x.bW,bR t):dR prog 171 #[tW a,iv (rule:Nat),iv (b:Nat),iv (e:Nat)] [aD (gm f),aU a (.cells d.toArray 223 (0,0)),row g.1 229 6 its.length (rows eE its),row x.tv.1 3 1 x.bW.length (rows aI x.bW)] (λv H'=>v= .bool (x.bW.any (qO f rule b))∧H'=[aU a (.cells d.toArray 223 (0,0)),row g.1 229 6 its.length (rows eE its),row x.tv.1 3 1 x.bW.length (rows aI x.bW)]):=by
 refine dR.body (args:=[tW a,iv (rule:Nat),iv (b:Nat),iv (e:Nat)]) 19 func171 rfl ntmps171 rfl (λc=> ?_);refine go ?_
 have r:=ag hx
 refine go ?_;refine St.Ej (.mk rfl) rfl rfl (λk=> ?_);refine St.Ej (.mk rfl) rfl rfl (λl=> ?_);refine St.Ej (.mk rfl) rfl rfl (λm=> ?_);refine g8 ?_;refine St.ee (Ev.gh (.mk rfl) oX trivial j) ?_;refine g3 ?_;refine St.ee (Ev.cx (.mk rfl) cP trivial zE (eP eE _ e 5 _ hx (by decide))) ?_;refine St.ee (Ev.func (.fk rfl rfl rfl)) ?_;refine St.ee (Ev.qQ (pW x.tv.1 x.bW 206 acN [tW k,tW l,tW m] [fx k (tW a),fx l (iv (rule:Nat)),fx m (iv (b:Nat)),ir a d,gm f] (qO f rule b) (λt ht=>(Cq f o d i a rule b p hk q k l m t (n t ht)).mono λ_ _ h=>h.1)) Wi (.ah rfl rfl) (cm.row (cm.aU (cm.aU (cm.aU (cm.agS (cm.aD cm.nil))))) rfl rfl rfl n)) ?_;refine g4 ?_;refine St.rV [_] [aU a (.cells d.toArray 223 (0,0)),row g.1 229 6 its.length (rows eE its),row x.tv.1 3 1 x.bW.length (rows aI x.bW)] ?_;exact⟨rfl,rfl⟩
theorem Ev.NG {P:Program}{n:Nat}{F:Fr}{A:World→Prop}{ty:TypeId}{x:Operand}{b o' cap m size k off:Nat}{v:Value}(a:v= .slice (some ⟨b,o',none⟩) m cap)(hx:aX F x (gx v size k off)):Ev P n F A (.nilCheck x) ty (gx v size k off):= .of_run λac w c _=>by
 subst a;rw[dY]at hx
 simp[execOp,hx.eval c,dY]
def ma (g:ei)(a b:aY)(f:kQ)(n:Nat)(c vs:Value)(d:Nat):List Value:=jj g++ [a.1,b.1]++Ua f++ [c,iv (n:Nat),vs,.map (some d)]
instance (g:ei)(a b:aY)(f:kQ)(n:Nat)(d vs u:Value)(c:Nat):Ed (ma g a b f n d vs c) 13 u (ma g a b f n u vs c):=⟨rfl⟩
theorem GA {α:Type}(l:List α)(a:α)(f:α→α):(l++ [a]).modify l.length f=l++ [f a]:=by
 induction l with
 |nil=>rfl
 |cons b l c=>rw[jg,eU,List.modify_succ_cons,c];rfl
theorem IU {α:Type}(l:List α)(a:α):(l++ [a]).eraseIdx l.length=l:=by
 induction l with
 |nil=>rfl
 |cons b l c=>rw[jg,eU,List.eraseIdx_cons_succ,c]
theorem si {α β:Type}(g:α→β)(f:β→β):∀{l:List α} {i:Nat} {a b:α},l[i]?=some a→g b=f (g a)→(l.set i b).map g=(l.map g).modify i f
 | [],_,_,_,h,_=>by cases h
 |c::l,0,a,b,h,d=>by
  obtain rfl:=Option.some.inj h;rw[xB,eV,eV,List.modify_zero_cons,d]
 |c::l,i+1,a,b,h,d=>by
  rw[HV,eV,eV,List.modify_succ_cons,si g f (l:=l) h d]
structure ko (d:mm):Prop where
 bW:∀x∈d.its,∀t∈x.bW,bR t
 keys:xF d.m (d.its.map dW)
 nd:((d.its.map dW).map λx=>fD x.ed).Nodup
theorem ZA {its:List iq}{k:ab}{i:Nat}(h:xN its k=some i):i<its.length:=by
 obtain⟨it,h1,_⟩:=zB h;exact ag h1
structure WO (n frm tqo:Nat)(d:mm)(e:o8)(i:Nat)(x:cK)(its:List cK)(bf:List (aY×List Nat))(m:List (ab×Value)):Prop where
 at_:its[i]?=some x
 keys:xF m (its.map dW)
 bW:∀x∈its,∀t∈x.bW,bR t
 Hg:bf.length=d.bf.length
 Zb:∀k,k≠slt n frm tqo→bf[k]?=d.bf[k]?
 fin:∀w:o9,iK n d.cs e w=⟨(its.map dW).modify i λit=>it.put w,bf.map Prod.snd⟩
 nd:((its.map dW).map λx=>fD x.ed).Nodup
theorem WO.AO {n frm tqo:Nat}{d:mm}(h:ko d){e:o8}{i:Nat}(hk:xN (d.its.map dW) (fD e)=some i){x:cK}(hx:d.its[i]?=some x):WO n frm tqo d e i x d.its d.bf d.m:=
 ⟨hx,h.keys,h.bW,rfl,λ_ _=>rfl,λw=>by unfold iK;rw[show d.cs.its=d.its.map dW from rfl,hk];rfl,h.nd⟩
theorem WO.new {n frm tqo cV:Nat}{d:mm}(h:ko d){g:ct}(hk:xN (d.its.map dW) (fD ⟨frm,tqo,cV,ao g⟩)=none){q:aY×List Nat}(c:d.bf[slt n frm tqo]?=some q)(u:aY):
 WO n frm tqo d ⟨frm,tqo,cV,ao g⟩ d.its.length ⟨frm,tqo,cV,g,cF,[],cF,[]⟩ (d.its++ [⟨frm,tqo,cV,g,cF,[],cF,[]⟩]) (d.bf.set (slt n frm tqo) (u,q.2++ [d.its.length])) (jP d.m (fD ⟨frm,tqo,cV,ao g⟩) (iv d.its.length)):=by
 refine⟨by simp,?_,λx hx t ht=> ?_,by rw[List.length_set],λk hk=>by rw[gV (λh=>hk h.symm)],λw=> ?_,?_⟩
 ·have:=h.keys.new (it:=⟨⟨frm,tqo,cV,ao g⟩,[],[]⟩) hk
  rw[aR]at this;rw[cL];exact this
 ·rcases cI.1 hx with hx|hx
  ·exact h.bW x hx t ht
  ·rw[bN.1 hx]at ht;cases ht
 ·unfold iK
  rw[show d.cs.its=d.its.map dW from rfl,hk]
  dsimp only
  congr 1
  ·rw[cL,show d.its.length=(d.its.map dW).length from(aR _).symm]
   exact(GA (d.its.map dW) ⟨⟨frm,tqo,cV,ao g⟩,[],[]⟩ (λit=>it.put w)).symm
  ·rw[aR]
   exact(si Prod.snd (λl=>l++ [d.its.length]) c rfl).symm
 ·rw[cL,cL,List.nodup_append]
  refine⟨h.nd,by simp,λa e b f=> ?_⟩;obtain⟨it,hit,rfl⟩:=cA.1 e
  have i:b=fD ⟨frm,tqo,cV,ao g⟩:=bN.1 f
  subst i;exact Q9 hk it hit
theorem Gc {its:List cK}{i:Nat}{x:cK}(h:its[i]?=some x)(u:aY)(l:List nW):(rows eE its).set (i*6+4) u.1=rows eE (its.set i ⟨x.frm,x.tqo,x.cV,x.gr,u,l,x.tv,x.bW⟩):=by
 induction its generalizing i with
 |nil=>cases h
 |cons a its b=>
  cases i with
  |zero=>obtain rfl:=Option.some.inj h;rfl
  |succ i=>
   have:=b (i:=i) h
   show(eE.cells a++rows eE its).set ((i+1)*6+4) u.1=eE.cells a++rows eE (its.set i _)
   rw[←this,mV _ _ (by show 6≤_;omega)]
   congr 2
   show(i+1)*6+4-6=_
   omega
theorem RM {its:List cK}{i:Nat}{x:cK}(h:its[i]?=some x)(u:aY)(l:List Int):(rows eE its).set (i*6+5) u.1=rows eE (its.set i ⟨x.frm,x.tqo,x.cV,x.gr,x.wv,x.bb,u,l⟩):=by
 induction its generalizing i with
 |nil=>cases h
 |cons a its b=>
  cases i with
  |zero=>obtain rfl:=Option.some.inj h;rfl
  |succ i=>
   have:=b (i:=i) h
   show(eE.cells a++rows eE its).set ((i+1)*6+5) u.1=eE.cells a++rows eE (its.set i _)
   rw[←this,mV _ _ (by show 6≤_;omega)]
   congr 2
   show(i+1)*6+5-6=_
   omega
theorem pP (f:cK→List ai)(g:aY×List Nat→List ai)(its:List cK){bf:List (aY×List Nat)}{k:Nat}{q:aY×List Nat}(h:bf[k]?=some q):(bK f its++bK g bf).Perm (g q++(bK f its++bK g (bf.eraseIdx k))):=by
 refine((r6 g h).append_left (bK f its)).trans ?_;rw[←cr,←cr];exact kB.append_right _
theorem afW (f:cK→List ai)(g:aY×List Nat→List ai)(its:List cK){bf:List (aY×List Nat)}{k:Nat}(q:aY×List Nat)(h:k<bf.length):(g q++(bK f its++bK g (bf.eraseIdx k))).Perm (bK f its++bK g (bf.set k q)):=by
 refine List.Perm.trans ?_ ((vN g q h).append_left (bK f its));rw[←cr,←cr];exact kB.append_right _
theorem z7 (f:cK→List ai)(X:List ai){its:List cK}{i:Nat}{x:cK}(h:its[i]?=some x):(bK f its++X).Perm (f x++(bK f (its.eraseIdx i)++X)):=by
 rw[←cr];exact(r6 f h).append_right X
theorem aeM (f:cK→List ai)(X:List ai){its:List cK}{i:Nat}(x:cK)(h:i<its.length):(f x++(bK f (its.eraseIdx i)++X)).Perm (bK f (its.set i x)++X):=by
 rw[←cr];exact(vN f x h).append_right X
theorem Si (b a:TypeId)(X:List ai){its:List cK}{i:Nat}(x:cK){bb:List nW}{w:nW}(hw:x.bb=bb++ [w])(h:i<its.length):
 ([row x.wv.1 b 3 x.bb.length (rows lY x.bb),row x.tv.1 a 1 x.bW.length (rows aI x.bW),row w.kv.1 a 1 w.kids.length (rows aI (bx w.kids))]++(bK (iy a) bb++(bK (eR b a) (its.eraseIdx i)++X))).Perm (bK (eR b a) (its.set i x)++X):=by
 refine List.Perm.trans ?_ (aeM (eR b a) X x h)
 show(row x.wv.1 b 3 x.bb.length (rows lY x.bb)::row x.tv.1 a 1 x.bW.length (rows aI x.bW)::(iy a w++(bK (iy a) bb++(bK (eR b a) (its.eraseIdx i)++X)))).Perm (row x.wv.1 b 3 x.bb.length (rows lY x.bb)::row x.tv.1 a 1 x.bW.length (rows aI x.bW)::(bK (iy a) x.bb++(bK (eR b a) (its.eraseIdx i)++X)))
 refine .cons _ (.cons _ ?_);rw[hw,Up,show bK (iy a) [w]=iy a w from fV _,←cr];exact kB.append_right _
theorem LK {n frm tqo:Nat}{d:mm}{e:o8}{i:Nat}{x x3:cK}{its:List cK}{bf:List (aY×List Nat)}{m:List (ab×Value)}(h:WO n frm tqo d e i x its bf m){w:o9}(f:dW x3=(dW x).put w)(ht:∀t∈x3.bW,bR t)(b:aY):
 (⟨b,its.set i x3,d.nG,bf,m⟩:mm).cs=iK n d.cs e w∧ko ⟨b,its.set i x3,d.nG,bf,m⟩:=by
 have a:(its.set i x3).map dW=(its.map dW).modify i λit=>it.put w:=si dW _ h.at_ f
 refine⟨?_,?_,?_,?_⟩
 ·rw[h.fin w];show(⟨(its.set i x3).map dW,_⟩:Cs)=_;rw[a]
 ·intro y hy
  rcases nP hy with hy|rfl
  ·exact h.bW y hy
  ·exact ht
 ·show xF m ((its.set i x3).map dW)
  rw[a];exact h.keys.put i w
 ·show((((its.set i x3).map dW)).map λx=>fD x.ed).Nodup
  have e2:(((its.set i x3).map dW).map λx=>fD x.ed)=(its.map dW).map λx=>fD x.ed:=by
   rw[a]
   refine jh λk=> ?_
   rw[aw,aw,List.getElem?_modify]
   cases (its.map dW)[k]? with
   |none=>rfl
   |some y=>by_cases c:i=k<;>simp[c,iq.put]
  rw[e2];exact h.nd
theorem vA (g:ei)(G H:aY)(f:kQ)(n:Nat)(hn:n≤12)(d:mm)(hp:ko d)(C s frm tqo cV:Nat)(gr:ct)(U:gr.nodes.length≤100)(hgl:∀t∈gr.nodes,t.aW.length≤1000)(V:frm≤n)(hto:tqo≤n)
 (rule lex:Int) (Uz:bR rule) (hle: -1000000≤lex∧lex≤1000000) (kv:aY) (kids:List Nat) (q:aY×List Nat) (Q:d.bf[slt n frm tqo]?=some q) (hql:q.2.length≤1400000000000) (L0:d.its.length+1≤1400000000000) (Mq:∀x∈d.its,x.bb.length+1≤3000000000000∧x.bW.length≤x.bb.length):
 dR prog 167 #[tW C,IQ frm tqo cV gr.nv.1,.agg #[iv rule,iv lex,kv.1]] (aD (aJ gr)::aD (aL (λx:cK=>aJ x.gr) (d.its))::tI C (ma g G H f n d.fj.1 d.nG.1 s) 223::aU s (df mkStr (d.m))::row d.fj.1 229 6 (d.its).length (rows eE (d.its))::row d.nG.1 35 1 (d.bf).length (rows bU ((d.bf).map Prod.fst))::row kv.1 3 1 kids.length (rows aI (bx kids))::(bK (eR 234 3) (d.its)++bK (fa 3) (d.bf)))
  (λv H'=>∃d2:mm,d2.cs=iK n d.cs (⟨frm,tqo,cV,ao gr⟩:o8) (⟨rule,lex,kids⟩:o9)∧d2.nG=d.nG∧ko d2∧d2.bf.length=d.bf.length∧(∀k,k≠slt n frm tqo→d2.bf[k]?=d.bf[k]?)∧H'=aD (aL (λx:cK=>aJ x.gr) (d2.its))::tI C (ma g G H f n d2.fj.1 d.nG.1 s) 223::aU s (df mkStr (d2.m))::row d2.fj.1 229 6 (d2.its).length (rows eE (d2.its))::row d2.nG.1 35 1 (d2.bf).length (rows bU ((d2.bf).map Prod.fst))::(bK (eR 234 3) (d2.its)++bK (fa 3) (d2.bf))):=by
 refine dR.body (args:=[tW C,IQ frm tqo cV gr.nv.1,.agg #[iv rule,iv lex,kv.1]]) 96 func167 rfl ntmps167 rfl (λc=> ?_);refine go ?_
 have W:=ag Q
 have ak1:=Uz.1
 have ak2:=Uz.2
 refine go ?_;refine St.cW (.mk rfl) rfl (λb4=> ?_);refine St.cW (.mk rfl) rfl (λb5=> ?_);refine g9 ?_;refine St.join (ι:=Int) (λtop T=>(6,iv top)::T) (λtop=>tI b4 [iv (frm:Nat),iv (tqo:Nat),iv (cV:Nat),gr.nv.1] 226::tI b5 [iv rule,iv lex,kv.1] 234::aD (aJ gr)::aD (aL (λx:cK=>aJ x.gr) (d.its))::tI C (ma g G H f n d.fj.1 d.nG.1 s) 223::aU s (df mkStr (d.m))::row d.fj.1 229 6 (d.its).length (rows eE (d.its))::row d.nG.1 35 1 (d.bf).length (rows bU ((d.bf).map Prod.fst))::row kv.1 3 1 kids.length (rows aI (bx kids))::(bK (eR 234 3) (d.its)++bK (fa 3) (d.bf))) (λtop=>top=sx (⟨rule,lex,kids⟩:o9)) (aC.k3 0 4 5) ?_ ?_
 ·refine g6 ?_
  refine St.cq (λh14=> ?_) (λh14=> ?_)
  ·refine g7 ?_
   refine St.mE (1000+lex) (by unfold sx;rw[aB (show rule<0 by omega)])
  ·refine g2 ?_
   refine St.mE rule (by unfold sx;rw[aA (show ¬rule<0 by omega)])
 ·intro top R
  refine g3 ?_;refine St.slot 18 (IQ frm tqo cV gr.nv.1) rfl rfl ?_;refine St.ee (Ev.call ((Q8 frm tqo cV gr U hgl).mono λ_ _ h=>h.1) acL (.ay rfl)) ?_;refine g4 ?_
  have A:=hp.keys (fD (⟨frm,tqo,cV,ao gr⟩:o8))
  refine g6 ?_;refine St.ee (Ev.r8 mkStr (k:=(fD (⟨frm,tqo,cV,ao gr⟩:o8))) (.mk rfl) (.mk rfl) nL (by exact oc) jF) ?_;refine g7 ?_;refine St.join (ι:=Nat×cK×List cK×List cK×List (aY×List Nat)×List (ab×Value)×aY) (λ⟨i,a,b,L,l,m1,o⟩ T=>(8,iv ((i:Nat):Int))::T) (λ⟨i,a,b,L,l,m1,o⟩=>tI b4 [iv (frm:Nat),iv (tqo:Nat),iv (cV:Nat),gr.nv.1] 226::tI b5 [iv rule,iv lex,kv.1] 234::tI C (ma g G H f n o.1 d.nG.1 s) 223::aU s (df mkStr (m1))::row o.1 229 6 (b).length (rows eE (b))::row d.nG.1 35 1 (l).length (rows bU ((l).map Prod.fst))::row kv.1 3 1 kids.length (rows aI (bx kids))::aD (aL (λx:cK=>aJ x.gr) (b))::aD (aJ gr)::row a.wv.1 234 3 (a.bb).length (rows lY (a.bb))::row a.tv.1 3 1 (a.bW).length (rows aI (a.bW))::(bK (iy 3) a.bb++(bK (eR 234 3) L++bK (fa 3) l))) (λ⟨i,a,b,L,l,m1,o⟩=>WO n frm tqo d (⟨frm,tqo,cV,ao gr⟩:o8) i a b l m1∧L=b.eraseIdx i∧b.length≤1400000000000∧a.bb.length+1≤3000000000000∧a.bW.length≤a.bb.length) (aC.k3 0 5 6) ?_ ?_
  ·refine g6 ?_
   refine St.cq (λM=> ?_) (λM=> ?_)
   ·have Ny:xN (d.its.map dW) (fD (⟨frm,tqo,cV,ao gr⟩:o8))=none:=by cases X:xN (d.its.map dW) (fD (⟨frm,tqo,cV,ao gr⟩:o8))with|none=>rfl|some j=>rw[X]at A;rw[A]at M;simp at M
    refine g18 ?_;refine St.mapUpdate mkStr (k:=(fD (⟨frm,tqo,cV,ao gr⟩:o8))) (.mk rfl) (.mk rfl) (.mk rfl) nL (by exact oc) ?_;refine g3 ?_;refine St.dZ (tI C (ma g G H f n d.fj.1 d.nG.1 s) 223::row d.fj.1 229 6 (d.its).length (rows eE (d.its))::(bK (eR 234 3) (d.its)++bK (fa 3) (d.bf))) mixed (λnp ns=> ?_);refine SW.gd 0 ?_;refine SW.gd 1 ?_;refine SW.gd 2 ?_;refine SW.gd 3 ?_;refine SW.gd 5 ?_;refine SW.slot 47 (IQ frm tqo cV gr.nv.1) rfl rfl ?_;refine SW.dd 6 rfl (λ_=>Ev.build (ps:=[(0,(.tmp 47))]) (bC.ay rfl) (λw=>Oh w)) ?_;refine SW.slot 48 (.agg #[iv (frm:Nat),iv (tqo:Nat),iv (cV:Nat),gr.nv.1,(.slice none 0 0),(.slice none 0 0)]) rfl rfl ?_;refine SW.t2 4 7 ?_ ?_
    focus
     refine g3 ?_;refine SW.go ?_;refine SW.t1 7 ?_;refine St.hS rfl (.ay rfl) oX oV HX rfl rfl (by simp[Value.cells]) rfl rfl (λY=> ?_);refine g2 ?_;refine SW.go ?_;refine SW.t1 8 ?_;refine St.aq (.mk rfl) (.mk rfl) oX oV HX Ot (by intro u hu;have B:u∈[iv (frm:Nat),iv (tqo:Nat),iv (cV:Nat),gr.nv.1,.slice none 0 0,.slice none 0 0]:=hu;simp only[List.mem_cons,List.not_mem_nil,or_false]at B;rcases B with rfl|rfl|rfl|rfl|rfl|rfl;exact rfl;exact rfl;exact rfl;exact gr.nv.2;exact rfl;exact rfl) zE zE rfl rfl rfl rfl (λv50 Z=> ?_);refine St.aN v50 (show _=(d.its++ [(⟨frm,tqo,cV,gr,cF,[],cF,[]⟩:cK)]).length by rw[bJ];rfl) (show _=rows eE (d.its++ [(⟨frm,tqo,cV,gr,cF,[],cF,[]⟩:cK)]) by rw[bB];rfl) ?_;refine St.bQ v50 (λS _=> ?_);refine g2 ?_;refine SW.go ?_;refine SW.gd 9 ?_;refine SW.gd 10 ?_;refine SW.t1 11 ?_;refine St.bL (.mk rfl) (.mk rfl) Lj S (by rfl) ?_;refine g2 ?_;refine SW.go ?_;refine SW.dn ?_
    rotate_left
    focus
     refine St.hS rfl (.ay rfl) oX oV HX rfl rfl (by simp[Value.cells]) rfl rfl (λY=> ?_);refine g2 ?_;refine SW.go ?_;refine SW.t1 4 ?_;refine g3 ?_;refine SW.go ?_;refine SW.t1 8 ?_;refine St.aq (.mk rfl) (.mk rfl) oX oV HX Ot (by intro u hu;have B:u∈[iv (frm:Nat),iv (tqo:Nat),iv (cV:Nat),gr.nv.1,.slice none 0 0,.slice none 0 0]:=hu;simp only[List.mem_cons,List.not_mem_nil,or_false]at B;rcases B with rfl|rfl|rfl|rfl|rfl|rfl;exact rfl;exact rfl;exact rfl;exact gr.nv.2;exact rfl;exact rfl) zE zE rfl rfl rfl rfl (λv50 Z=> ?_);refine St.aN v50 (show _=(d.its++ [(⟨frm,tqo,cV,gr,cF,[],cF,[]⟩:cK)]).length by rw[bJ];rfl) (show _=rows eE (d.its++ [(⟨frm,tqo,cV,gr,cF,[],cF,[]⟩:cK)]) by rw[bB];rfl) ?_;refine St.bQ v50 (λS _=> ?_);refine g2 ?_;refine SW.go ?_;refine SW.gd 9 ?_;refine SW.gd 10 ?_;refine SW.t1 11 ?_;refine St.bL (.mk rfl) (.mk rfl) Lj S (by rfl) ?_;refine g2 ?_;refine SW.go ?_;refine SW.dn ?_
    all_goals
     refine go ?_;refine St.tail (bK (eR 234 3) (d.its)++bK (fa 3) (d.bf)) (row q.1.1 3 1 (q.2).length (rows aI (bx (q.2)))::(bK (eR 234 3) (d.its)++bK (fa 3) (d.bf.eraseIdx (slt n frm tqo)))) (pP _ _ _ Q) ?_;refine St.dZ (row d.nG.1 35 1 (d.bf).length (rows bU ((d.bf).map Prod.fst))::row q.1.1 3 1 (q.2).length (rows aI (bx (q.2)))::(bK (eR 234 3) (d.its)++bK (fa 3) (d.bf.eraseIdx (slt n frm tqo)))) mixed (λnp ns=> ?_);refine SW.gd 0 ?_;refine SW.gd 1 ?_;refine SW.gd 2 ?_;refine SW.dd 3 rfl (λ_=>Ev.iz 2 (.mk rfl) CL trivial CD rfl rfl) ?_;refine SW.slot 56 (.agg #[iv (n:Nat),d.nG.1]) rfl rfl ?_;refine SW.gd 4 ?_;refine SW.gd 5 ?_;refine SW.gd 6 ?_;refine SW.gd 7 ?_;refine SW.gd 8 ?_;refine SW.t1 9 ?_;refine St.call (Jm n frm tqo (slt n frm tqo) hn V hto rfl d.nG d.bf q Q d.its.length zE hql) acM (.pL rfl rfl rfl rfl) rfl ?_;rintro v62 _ ⟨u,rfl⟩;refine St.mZ ?_;refine g2 ?_;refine SW.go ?_;refine SW.dn ?_;refine go ?_;refine St.dH 234 3 ?_;refine St.aN (.slice none 0 0) (show _=([]:List nW).length from rfl) (show _=rows lY []from rfl) ?_;refine St.dH 3 1 ?_;refine St.aN (.slice none 0 0) (show _=([]:List Int).length from rfl) (show _=rows aI []from rfl) ?_;refine St.pQ [row u.1 3 1 (q.2++ [d.its.length]).length (rows aI (bx (q.2++ [d.its.length])))] (bK (eR 234 3) (d.its)++bK (fa 3) (d.bf.eraseIdx (slt n frm tqo))) (bK (iy 3) ([]:List nW)++(bK (eR 234 3) (d.its)++bK (fa 3) (d.bf.set (slt n frm tqo) (u,q.2++ [d.its.length])))) (afW (eR 234 3) (fa 3) d.its (u,q.2++ [d.its.length]) W) ?_;refine St.gW (aL (λx:cK=>aJ x.gr) (d.its++ [(⟨frm,tqo,cV,gr,cF,[],cF,[]⟩:cK)])) [aL (λx:cK=>aJ x.gr) d.its,aJ gr] (λρ h x hx=>by rcases cI.1 hx with hx|hx;exact h _ (aV ..) x hx;rw[bN.1 hx];exact h _ (bV _ (aV ..))) ?_;refine St.mE ⟨d.its.length,(⟨frm,tqo,cV,gr,cF,[],cF,[]⟩:cK),d.its++ [(⟨frm,tqo,cV,gr,cF,[],cF,[]⟩:cK)],d.its,d.bf.set (slt n frm tqo) (u,q.2++ [d.its.length]),jP d.m (fD (⟨frm,tqo,cV,ao gr⟩:o8)) (iv d.its.length),⟨v50,S⟩⟩ ⟨WO.new hp Ny Q u,(IU _ _).symm,by rw[bJ];exact L0,by show 0+1≤3000000000000;omega,aP _⟩
   ·obtain⟨i0,I⟩:∃i,xN (d.its.map dW) (fD (⟨frm,tqo,cV,ao gr⟩:o8))=some i:=by cases X:xN (d.its.map dW) (fD (⟨frm,tqo,cV,ao gr⟩:o8))with|none=>(rw[X]at A;rw[A]at M;simp at M)|some j=>exact⟨j,rfl⟩
    have N:=ZA I
    rw[aR]at N;obtain⟨x0,V1⟩:=aF N
    have hxw:=Mq x0 (aa V1)
    refine St.slot 8 (iv ((i0:Nat):Int)) rfl (by rw[A,I];rfl) ?_;refine g2 ?_;refine St.tail (bK (eR 234 3) (d.its)++bK (fa 3) (d.bf)) (row x0.wv.1 234 3 (x0.bb).length (rows lY (x0.bb))::row x0.tv.1 3 1 (x0.bW).length (rows aI (x0.bW))::(bK (iy 3) x0.bb++(bK (eR 234 3) (d.its.eraseIdx i0)++bK (fa 3) (d.bf)))) (z7 _ _ V1) ?_;refine St.mE ⟨i0,x0,d.its,d.its.eraseIdx i0,d.bf,d.m,d.fj⟩ ⟨WO.AO hp I V1,rfl,by omega,hxw⟩
  ·rintro ⟨i,a,b,L,l,m1,o⟩ ⟨p,O,hi1,hw1,ht1⟩
   refine go ?_
   have F:=ag p.at_
   have J:=aa p.at_
   refine St.j6 o.1 zE (λbs cs z=> ?_);refine g6 ?_;refine St.ee (Ev.kF (k:=i) z (.mk rfl) (.mk rfl) oX oV zE zE) ?_;refine g4 ?_;refine St.dZ (row o.1 229 6 (b).length (rows eE (b))::row a.wv.1 234 3 (a.bb).length (rows lY (a.bb))::(bK (iy 3) a.bb++(bK (eR 234 3) L++bK (fa 3) l))) mixed (λnp ns=> ?_);refine SW.gd 0 ?_;refine SW.gd 1 ?_;refine SW.dd 2 rfl (λ_=>Ev.NG z (.mk rfl)) ?_;refine SW.dd 3 rfl (λ_=>Ev.pA z (.mk rfl) tm) ?_;refine SW.gd 5 ?_;refine SW.slot 74 (.agg #[iv rule,iv lex,kv.1]) rfl rfl ?_;refine SW.t2 4 6 ?_ ?_
   focus
    refine St.ee (Ev.cx (.mk rfl) ue trivial zE (eP eE _ i 4 _ p.at_ (by decide))) ?_;refine g2 ?_;refine SW.go ?_;refine SW.t1 6 ?_;refine St.hS rfl (.ay rfl) ue uZ MC rfl rfl (by simp[Value.cells]) rfl rfl (λb75=> ?_);refine g2 ?_;refine SW.go ?_;refine SW.t1 7 ?_;refine St.aq (.mk rfl) (.mk rfl) ue uZ MC WY (by intro u hu;have B:u∈[iv rule,iv lex,kv.1]:=hu;simp only[List.mem_cons,List.not_mem_nil,or_false]at B;rcases B with rfl|rfl|rfl;exact rfl;exact rfl;exact kv.2) zE zE rfl rfl rfl rfl (λv76 ai3=> ?_);refine St.aN v76 (show _=(a.bb++ [(⟨rule,lex,kv,kids⟩:nW)]).length from cH) (show _=rows lY (a.bb++ [(⟨rule,lex,kv,kids⟩:nW)]) by rw[bB];rfl) ?_;refine St.bQ v76 (λe _=> ?_);refine g2 ?_;refine SW.go ?_;refine SW.dd 8 rfl (λ_=>Ev.NG z (.mk rfl)) ?_;refine SW.dd 9 rfl (λ_=>Ev.pA z (.mk rfl) tm) ?_;refine SW.t1 10 ?_;refine St.bz (.mk rfl) (.mk rfl) Xf e zE (by decide) ?_
    obtain⟨D,K⟩:∃D:cK,D=⟨a.frm,a.tqo,a.cV,a.gr,⟨v76,e⟩,a.bb++ [⟨rule,lex,kv,kids⟩],a.tv,a.bW⟩:=⟨_,rfl⟩
    refine St.aN o.1 (show _=(b.set i D).length by rw[eC]) (show _=rows eE (b.set i D) by rw[K];exact Gc p.at_ ⟨v76,e⟩ _) ?_;refine g2 ?_;refine SW.go ?_;refine SW.dn ?_
   rotate_left
   focus
    refine St.hS rfl (.ay rfl) ue uZ MC rfl rfl (by simp[Value.cells]) rfl rfl (λb75=> ?_);refine g2 ?_;refine SW.go ?_;refine SW.t1 4 ?_;refine St.ee (Ev.cx (.mk rfl) ue trivial zE (eP eE _ i 4 _ p.at_ (by decide))) ?_;refine g2 ?_;refine SW.go ?_;refine SW.t1 7 ?_;refine St.aq (.mk rfl) (.mk rfl) ue uZ MC WY (by intro u hu;have B:u∈[iv rule,iv lex,kv.1]:=hu;simp only[List.mem_cons,List.not_mem_nil,or_false]at B;rcases B with rfl|rfl|rfl;exact rfl;exact rfl;exact kv.2) zE zE rfl rfl rfl rfl (λv76 ai3=> ?_);refine St.aN v76 (show _=(a.bb++ [(⟨rule,lex,kv,kids⟩:nW)]).length from cH) (show _=rows lY (a.bb++ [(⟨rule,lex,kv,kids⟩:nW)]) by rw[bB];rfl) ?_;refine St.bQ v76 (λe _=> ?_);refine g2 ?_;refine SW.go ?_;refine SW.dd 8 rfl (λ_=>Ev.NG z (.mk rfl)) ?_;refine SW.dd 9 rfl (λ_=>Ev.pA z (.mk rfl) tm) ?_;refine SW.t1 10 ?_;refine St.bz (.mk rfl) (.mk rfl) Xf e zE (by decide) ?_
    obtain⟨D,K⟩:∃D:cK,D=⟨a.frm,a.tqo,a.cV,a.gr,⟨v76,e⟩,a.bb++ [⟨rule,lex,kv,kids⟩],a.tv,a.bW⟩:=⟨_,rfl⟩
    refine St.aN o.1 (show _=(b.set i D).length by rw[eC]) (show _=rows eE (b.set i D) by rw[K];exact Gc p.at_ ⟨v76,e⟩ _) ?_;refine g2 ?_;refine SW.go ?_;refine SW.dn ?_
   all_goals
    refine g4 ?_;refine St.ee (Ev.NG z (.mk rfl)) ?_;refine St.ee (Ev.pA z (.mk rfl) tn) ?_;refine St.ee (Ev.cx (.mk rfl) cP trivial (by rw[eC];exact F) (eP eE _ i 5 _ (fp F) (by decide))) ?_;refine St.slot 82 a.tv.1 rfl (by rw[K]) ?_;refine go ?_;refine St.ee (Ev.qQ (qH a.tv.1 a.bW top) WZ (.ah rfl rfl) (cm.row cm.nil rfl rfl rfl (p.bW a J))) ?_;refine g3 ?_;refine St.cq (λE=> ?_) (λE=> ?_)
    ·have hnt:top∉a.bW:=λhm=>by simp at E;exact E top hm rfl
     refine g3 ?_;refine St.ee (Ev.NG z (.mk rfl)) ?_;refine St.ee (Ev.pA z (.mk rfl) tn) ?_;refine St.ee (Ev.cx (.mk rfl) cP trivial (by rw[eC];exact F) (eP eE _ i 5 _ (fp F) (by decide))) ?_;refine St.slot 90 a.tv.1 rfl (by rw[K]) ?_;refine go ?_;refine St.hS rfl (.ay rfl) cP eL jF rfl rfl (by simp[Value.cells]) rfl rfl (λb92=> ?_);refine St.aq (.mk rfl) (.mk rfl) cP eL jF vD (by simp[Value.oneCell',Value.cells]) zE zE rfl rfl rfl rfl (λv93 alM=> ?_);refine St.aN v93 (show _=(a.bW++ [top]).length from cH) (show _=rows aI (a.bW++ [top]) by rw[bB];rfl) ?_;refine St.bQ v93 (λr _=> ?_);refine St.ee (Ev.NG z (.mk rfl)) ?_;refine St.ee (Ev.pA z (.mk rfl) tn) ?_;refine St.bz (.mk rfl) (.mk rfl) jm r (by rw[eC];exact F) (by decide) ?_;refine St.aN o.1 (show _=(b.set i (⟨a.frm,a.tqo,a.cV,a.gr,⟨v76,e⟩,a.bb++ [⟨rule,lex,kv,kids⟩],⟨v93,r⟩,a.bW++ [top]⟩:cK)).length by rw[eC,eC]) (show _=rows eE (b.set i (⟨a.frm,a.tqo,a.cV,a.gr,⟨v76,e⟩,a.bb++ [⟨rule,lex,kv,kids⟩],⟨v93,r⟩,a.bW++ [top]⟩:cK)) by rw[RM (fp F) ⟨v93,r⟩ (a.bW++ [top]),List.set_set,K]) ?_;refine go ?_;refine St.fL ?_;subst O;refine St.pQ [row v76 234 3 (a.bb++ [(⟨rule,lex,kv,kids⟩:nW)]).length (rows lY (a.bb++ [(⟨rule,lex,kv,kids⟩:nW)])),row (⟨v93,r⟩:aY).1 3 1 (a.bW++ [top]).length (rows aI (a.bW++ [top])),row kv.1 3 1 kids.length (rows aI (bx kids))] (bK (iy 3) a.bb++(bK (eR 234 3) (b.eraseIdx i)++bK (fa 3) l)) (bK (eR 234 3) (b.set i (⟨a.frm,a.tqo,a.cV,a.gr,⟨v76,e⟩,a.bb++ [⟨rule,lex,kv,kids⟩],⟨v93,r⟩,a.bW++ [top]⟩:cK))++bK (fa 3) (l)) (Si 234 3 (bK (fa 3) l) (⟨a.frm,a.tqo,a.cV,a.gr,⟨v76,e⟩,a.bb++ [⟨rule,lex,kv,kids⟩],⟨v93,r⟩,a.bW++ [top]⟩:cK) rfl F) ?_;refine St.gW (aL (λx:cK=>aJ x.gr) (b.set i (⟨a.frm,a.tqo,a.cV,a.gr,⟨v76,e⟩,a.bb++ [⟨rule,lex,kv,kids⟩],⟨v93,r⟩,a.bW++ [top]⟩:cK))) [aL (λx:cK=>aJ x.gr) b] (λρ h y hy=>by rcases nP hy with hy|rfl;exact h _ (aV ..) y hy;exact h _ (aV ..) a J) ?_;refine St.rV [] (aD (aL (λx:cK=>aJ x.gr) (b.set i (⟨a.frm,a.tqo,a.cV,a.gr,⟨v76,e⟩,a.bb++ [⟨rule,lex,kv,kids⟩],⟨v93,r⟩,a.bW++ [top]⟩:cK)))::tI C (ma g G H f n o.1 d.nG.1 s) 223::aU s (df mkStr (m1))::row o.1 229 6 (b.set i (⟨a.frm,a.tqo,a.cV,a.gr,⟨v76,e⟩,a.bb++ [⟨rule,lex,kv,kids⟩],⟨v93,r⟩,a.bW++ [top]⟩:cK)).length (rows eE (b.set i (⟨a.frm,a.tqo,a.cV,a.gr,⟨v76,e⟩,a.bb++ [⟨rule,lex,kv,kids⟩],⟨v93,r⟩,a.bW++ [top]⟩:cK)))::row d.nG.1 35 1 (l).length (rows bU ((l).map Prod.fst))::(bK (eR 234 3) (b.set i (⟨a.frm,a.tqo,a.cV,a.gr,⟨v76,e⟩,a.bb++ [⟨rule,lex,kv,kids⟩],⟨v93,r⟩,a.bW++ [top]⟩:cK))++bK (fa 3) (l))) ?_
     have P:=LK (x3:=(⟨a.frm,a.tqo,a.cV,a.gr,⟨v76,e⟩,a.bb++ [⟨rule,lex,kv,kids⟩],⟨v93,r⟩,a.bW++ [top]⟩:cK)) (w:=(⟨rule,lex,kids⟩:o9)) p (by show(⟨_,_,_⟩:iq)=⟨_,_,_⟩;congr 1;exact cL;show a.bW++ [top]=if sx (⟨rule,lex,kids⟩:o9)∈a.bW then a.bW else a.bW++ [sx (⟨rule,lex,kids⟩:o9)];rw[←R,aA hnt]) (λt ht=>by first|exact p.bW a J t ht|(rcases cI.1 ht with ht|ht;exact p.bW a J t ht;rw[bN.1 ht,R];unfold sx bR;dsimp only;split<;>omega)) o
     exact⟨⟨o,b.set i (⟨a.frm,a.tqo,a.cV,a.gr,⟨v76,e⟩,a.bb++ [⟨rule,lex,kv,kids⟩],⟨v93,r⟩,a.bW++ [top]⟩:cK),d.nG,l,m1⟩,P.1,rfl,P.2,p.Hg,p.Zb,rfl⟩
    ·have hnt:top∈a.bW:=by simpa using E
     subst K;refine go ?_;refine St.fL ?_;subst O;refine St.pQ [row v76 234 3 (a.bb++ [(⟨rule,lex,kv,kids⟩:nW)]).length (rows lY (a.bb++ [(⟨rule,lex,kv,kids⟩:nW)])),row a.tv.1 3 1 (a.bW).length (rows aI (a.bW)),row kv.1 3 1 kids.length (rows aI (bx kids))] (bK (iy 3) a.bb++(bK (eR 234 3) (b.eraseIdx i)++bK (fa 3) l)) (bK (eR 234 3) (b.set i (⟨a.frm,a.tqo,a.cV,a.gr,⟨v76,e⟩,a.bb++ [⟨rule,lex,kv,kids⟩],a.tv,a.bW⟩:cK))++bK (fa 3) (l)) (Si 234 3 (bK (fa 3) l) (⟨a.frm,a.tqo,a.cV,a.gr,⟨v76,e⟩,a.bb++ [⟨rule,lex,kv,kids⟩],a.tv,a.bW⟩:cK) rfl F) ?_;refine St.gW (aL (λx:cK=>aJ x.gr) (b.set i (⟨a.frm,a.tqo,a.cV,a.gr,⟨v76,e⟩,a.bb++ [⟨rule,lex,kv,kids⟩],a.tv,a.bW⟩:cK))) [aL (λx:cK=>aJ x.gr) b] (λρ h y hy=>by rcases nP hy with hy|rfl;exact h _ (aV ..) y hy;exact h _ (aV ..) a J) ?_;refine St.rV [] (aD (aL (λx:cK=>aJ x.gr) (b.set i (⟨a.frm,a.tqo,a.cV,a.gr,⟨v76,e⟩,a.bb++ [⟨rule,lex,kv,kids⟩],a.tv,a.bW⟩:cK)))::tI C (ma g G H f n o.1 d.nG.1 s) 223::aU s (df mkStr (m1))::row o.1 229 6 (b.set i (⟨a.frm,a.tqo,a.cV,a.gr,⟨v76,e⟩,a.bb++ [⟨rule,lex,kv,kids⟩],a.tv,a.bW⟩:cK)).length (rows eE (b.set i (⟨a.frm,a.tqo,a.cV,a.gr,⟨v76,e⟩,a.bb++ [⟨rule,lex,kv,kids⟩],a.tv,a.bW⟩:cK)))::row d.nG.1 35 1 (l).length (rows bU ((l).map Prod.fst))::(bK (eR 234 3) (b.set i (⟨a.frm,a.tqo,a.cV,a.gr,⟨v76,e⟩,a.bb++ [⟨rule,lex,kv,kids⟩],a.tv,a.bW⟩:cK))++bK (fa 3) (l))) ?_
     have P:=LK (x3:=(⟨a.frm,a.tqo,a.cV,a.gr,⟨v76,e⟩,a.bb++ [⟨rule,lex,kv,kids⟩],a.tv,a.bW⟩:cK)) (w:=(⟨rule,lex,kids⟩:o9)) p (by show(⟨_,_,_⟩:iq)=⟨_,_,_⟩;congr 1;exact cL;show a.bW=if sx (⟨rule,lex,kids⟩:o9)∈a.bW then a.bW else a.bW++ [sx (⟨rule,lex,kids⟩:o9)];rw[←R,aB hnt]) (λt ht=>by first|exact p.bW a J t ht|(rcases cI.1 ht with ht|ht;exact p.bW a J t ht;rw[bN.1 ht,R];unfold sx bR;dsimp only;split<;>omega)) o
     exact⟨⟨o,b.set i (⟨a.frm,a.tqo,a.cV,a.gr,⟨v76,e⟩,a.bb++ [⟨rule,lex,kv,kids⟩],a.tv,a.bW⟩:cK),d.nG,l,m1⟩,P.1,rfl,P.2,p.Hg,p.Zb,rfl⟩
theorem PH (a b:Int):oE a b=kf a b:=rfl
def GO:List Int→Int
 | []=>0
 |a::l=>sc a (GO l)
theorem LP (a:Int):sc a 0=a:=by unfold sc;split;omega;rfl
theorem Bp {l:List Int}{k:Nat}{x:Int}(h:l[k]?=some x):GO (l.drop k)=if x=0 then GO (l.drop (k+1))else x:=by rw[bA h];rfl
theorem oD (a b:Int): -1≤kf a b∧kf a b≤1:=by unfold kf;split;omega;split<;>omega
theorem Qu {a b:Int}(h: -1≤a∧a≤1)(k: -1≤b∧b≤1): -1≤sc a b∧sc a b≤1:=by unfold sc;split<;>omega
theorem ya {α:Type}{f:α→α→Int}(h:∀a b,-1≤f a b∧f a b≤1):∀l m:List α,-1≤jA f l m∧jA f l m≤1
 | [],[]=>by simp[jA]
 | [],_::_=>by simp[jA]
 |_::_,[]=>by simp[jA]
 |a::l,b::m=>by rw[jA];split;exact h a b;exact ya h l m
theorem PI (a b:Int×Int): -1≤Ex a b∧Ex a b≤1:=Qu (oD _ _) (oD _ _)
theorem YT (a b:Nw): -1≤xI a b∧xI a b≤1:=Qu (oD _ _) (Qu (oD _ _) (ya PI _ _))
theorem abE {x:Int}(h: -1≤x∧x≤1):aI.wf x:=by show bR x;unfold bR;omega
theorem Cx {l:List Int}(h:∀x∈l,-1≤x∧x≤1):∀x∈l,aI.wf x:=λx hx=>abE (h x hx)
theorem oC {α:Type}{f:α→α→Int}{l m:List α}{k:Nat}{x y:α}(hx:l[k]?=some x)(hy:m[k]?=some y):jA f (l.drop k) (m.drop k)=if f x y≠0 then f x y else jA f (l.drop (k+1)) (m.drop (k+1)):=by rw[bA hx,bA hy];rfl
theorem yc {α:Type}{f:α→α→Int}{l m:List α}{k:Nat}{x:α}(hx:l[k]?=some x)(hm:m.length≤k):jA f (l.drop k) (m.drop k)=1:=by rw[bA hx,fS hm];rfl
theorem vF {α:Type}{f:α→α→Int}{l m:List α}{k:Nat}{y:α}(hy:m[k]?=some y)(a:l.length≤k):jA f (l.drop k) (m.drop k)= -1:=by rw[bA hy,fS a];rfl
theorem yb {α:Type}{f:α→α→Int}{l m:List α}{k:Nat}(a:l.length≤k)(hm:m.length≤k):jA f (l.drop k) (m.drop k)=0:=by rw[fS a,fS hm];rfl
theorem qK (v0:Value)(p:List Int):cX prog 121 #[v0] [sl aI v0 p] (iv (GO p)):=by
 refine cX.l6 (args:=[v0]) 18 func121 rfl ntmps121 rfl (λc=> ?_);refine go ?_;refine St.wf v0 (λf hlen=> ?_);refine g18 ?_;refine St.lS (ι:=Nat) (λk T=>(8,iv k)::T) (λk=>k≤p.length∧GO p=GO (p.drop k)) (λk=>p.length-k) 0 (aC.k3 3 6 7) ⟨aP _,rfl⟩ ?_;intro k d;obtain⟨hk,a⟩:=d;refine g6 ?_;refine St.cq (λe=> ?_) (λe=> ?_)
 ·obtain⟨x,hx⟩:=aF (show k<p.length by omega)
  refine g18 ?_;refine St.cq (λb=> ?_) (λb=> ?_)
  ·refine g12 ?_
   refine St.rV [_] [] ?_;exact ie (by rw[a,Bp hx,aA b])
  ·refine g8 ?_
   refine St.aS (k+1) ⟨by omega,by rw[a,Bp hx,aB zE]⟩
 ·refine g12 ?_
  refine St.rV [_] [] ?_;exact ie (by rw[a,fS zE];rfl)
theorem ri (v0 v1:Value)(a b:List Int):cX prog 124 #[v0,v1] [sl aI v0 a,sl aI v1 b] (iv (jA kf a b)):=by
 refine cX.lj (args:=[v0,v1]) 36 func124 rfl ntmps124 rfl (λc=> ?_);refine go ?_;refine St.wf v0 (λg n=> ?_);refine St.wf v1 (λi o=> ?_);refine g13 ?_;refine St.lS (ι:=Nat) (λk T=>(11,iv k)::T) (λk=>k≤a.length∧k≤b.length∧jA kf a b=jA kf (a.drop k) (b.drop k)) (λk=>a.length-k) 0 (aC.k4 0 1 9 10) ⟨aP _,aP _,rfl⟩ ?_;intro k j;obtain⟨hk,p,d⟩:=j;refine g6 ?_;refine St.cq (λl=> ?_) (λl=> ?_)
 ·obtain⟨x,hx⟩:=aF (show k<a.length by omega)
  refine g22 ?_;refine St.cq (λm=> ?_) (λm=> ?_)
  ·refine g12 ?_
   refine St.rV [_] [] ?_;exact ie (by rw[d,yc hx zE])
  ·obtain⟨y,hy⟩:=aF (show k<b.length by omega)
   refine g15 ?_;refine St.ee (Ev.call (eA _ _) mr (.ah rfl rfl)) ?_;refine g9 ?_;refine St.cq (λf=> ?_) (λf=> ?_)
   ·refine g12 ?_
    refine St.rV [_] [] ?_;exact ie (by rw[d,oC hx hy,aB (by rw[←PH];exact f)];rfl)
   ·refine g8 ?_
    refine St.aS (k+1) ⟨by omega,by omega,by rw[d,oC hx hy,aA (λh=>h (by rw[←PH];omega))]⟩
 ·refine g15 ?_
  refine St.cq (λe=> ?_) (λe=> ?_)
  ·refine g7 ?_
   refine St.rV [_] [] ?_;exact ie (by obtain⟨y,hy⟩:=aF (show k<b.length by omega);rw[d,vF hy zE])
  ·refine g8 ?_
   refine St.rV [_] [] ?_;exact ie (by rw[d,yb zE zE])
theorem Ch (x y:dq):cX prog 242 #[Value.agg #[iv x.cu,iv x.tqo],Value.agg #[iv y.cu,iv y.tqo]] [] (iv (Ex (fB x) (fB y))):=by
 refine cX.l5 (args:=[Value.agg #[iv x.cu,iv x.tqo],Value.agg #[iv y.cu,iv y.tqo]]) 17 func242 rfl ntmps242 rfl (λc=> ?_);refine g2 ?_;refine St.cW (.mk rfl) rfl (λb=> ?_);refine St.cW (.mk rfl) rfl (λd=> ?_);refine g4 ?_;refine St.qe [] mixed (λe f=> ?_);refine SW.gd 0 ?_;refine SW.gd 1 ?_;refine SW.gd 2 ?_;refine SW.gd 3 ?_;refine SW.dd 4 rfl (λ_=>Ev.call (eA _ _) mr (.ah rfl rfl)) ?_;refine SW.gd 5 ?_;refine SW.gd 6 ?_;refine SW.gd 7 ?_;refine SW.gd 8 ?_;refine SW.dd 9 rfl (λ_=>Ev.call (eA _ _) mr (.ah rfl rfl)) ?_;refine SW.t1 10 ?_;refine St.hS rfl (.ah rfl rfl) cP eL jF rfl rfl (by simp[Value.cells]) rfl rfl (λa=> ?_);refine St.aN (tO a 2 2) (show _=([(kf x.cu y.cu),(kf x.tqo y.tqo)]).length from rfl) (show _=rows aI ([(kf x.cu y.cu),(kf x.tqo y.tqo)])from rfl) ?_;refine g2 ?_;refine SW.go ?_;refine SW.t1 11 ?_;refine St.ee (Ev.qQ (qK (tO a 2 2) [(kf x.cu y.cu),(kf x.tqo y.tqo)]) Ep (.ay rfl) (cm.row cm.nil rfl rfl rfl (Cx (λx hx=>by simp only[List.mem_cons,List.not_mem_nil,or_false]at hx;rcases hx with rfl|rfl;exact oD _ _;exact oD _ _)))) ?_;refine g2 ?_;refine SW.go ?_;refine SW.gd 12 ?_;refine SW.dn ?_;refine g2 ?_;refine St.rV [_] [] ?_;exact ie (show sc _ (sc _ 0)=_ by rw[LP];rfl)
theorem AR (x y:dq):cX prog 242 ([Value.agg #[iv x.cu,iv x.tqo],Value.agg #[iv y.cu,iv y.tqo]]++ []).toArray [] (iv (Ex (fB x) (fB y))):=Ch x y
theorem AU (v0 v1:Value)(a b:List dq):cX prog 241 #[v0,v1,.func (.func 242) #[] #[]] [sl an v0 a,sl an v1 b] (iv (jA Ex (a.map fB) (b.map fB))):=by
 refine cX.lj (args:=[v0,v1,.func (.func 242) #[] #[]]) 39 func241 rfl ntmps241 rfl (λc=> ?_);refine go ?_;refine St.wf v0 (λi p=> ?_);refine St.wf v1 (λj q=> ?_);refine g13 ?_;refine St.lS (ι:=Nat) (λk T=>(13,iv k)::T) (λk=>k≤a.length∧k≤b.length∧jA Ex (a.map fB) (b.map fB)=jA Ex ((a.map fB).drop k) ((b.map fB).drop k)) (λk=>a.length-k) 0 (aC.k5 0 1 2 11 12) ⟨aP _,aP _,rfl⟩ ?_;intro k l;obtain⟨hk,r,d⟩:=l;refine g6 ?_;refine St.cq (λm=> ?_) (λm=> ?_)
 ·obtain⟨x,hx⟩:=aF (show k<a.length by omega)
  have f:(a.map fB)[k]?=some (fB x):=by rw[aw,hx];rfl
  refine g8 ?_;refine St.ee (Ev.j2 (.mk rfl) hx kY trivial da gX.eq) ?_;refine St.al (λs=> ?_);refine go ?_;refine St.sA (.mk rfl) (.mk rfl) da ?_ (h1:=(j8.2 λu hu=>an.one x u hu));refine g11 ?_;refine St.cq (λn=> ?_) (λn=> ?_)
  ·refine g12 ?_
   refine St.rV [_] [] ?_;exact ie (by rw[d,yc f (by rw[aR];omega)])
  ·obtain⟨y,hy⟩:=aF (show k<b.length by omega)
   have e:(b.map fB)[k]?=some (fB y):=by rw[aw,hy];rfl
   refine g7 ?_;refine St.ee (Ev.j2 (.mk rfl) hy kY trivial da gX.eq) ?_;refine St.al (λt=> ?_);refine St.sA (.mk rfl) (.mk rfl) da ?_ (h1:=(j8.2 λu hu=>an.one y u hu));refine g6 ?_;refine St.slot 27 (Value.agg #[iv x.cu,iv x.tqo]) rfl rfl ?_;refine go ?_;refine St.slot 28 (Value.agg #[iv y.cu,iv y.tqo]) rfl rfl ?_;refine St.ee (Ev.fg (AR x y) acV (.mk rfl) (.ah rfl rfl)) ?_;refine g9 ?_;refine St.cq (λg=> ?_) (λg=> ?_)
   ·refine g12 ?_
    refine St.rV [_] [] ?_;exact ie (by rw[d,oC f e,aB g])
   ·refine g8 ?_
    refine St.aS (k+1) ⟨by omega,by omega,by rw[d,oC f e,aA (λh=>h g)]⟩
 ·refine g15 ?_
  refine St.cq (λo=> ?_) (λo=> ?_)
  ·refine g7 ?_
   refine St.rV [_] [] ?_;exact ie (by obtain⟨y,hy⟩:=aF (show k<(b.map fB).length by rw[aR];omega);rw[d,vF hy (by rw[aR];omega)])
  ·refine g8 ?_
   refine St.rV [_] [] ?_;exact ie (by rw[d,yb (by rw[aR];omega) (by rw[aR];omega)])
theorem Ci (x y:dy):cX prog 240 #[Value.agg #[iv x.type,x.lv.1],Value.agg #[iv y.type,y.lv.1]] [cE x,cE y] (iv (xI (lR x) (lR y))):=by
 refine cX.lj (args:=[Value.agg #[iv x.type,x.lv.1],Value.agg #[iv y.type,y.lv.1]]) 24 func240 rfl ntmps240 rfl (λc=> ?_);refine go ?_;refine St.gW (sl an x.lv.1 x.aW) [cE x] (λρ h=>h _ (aV ..)) ?_;refine St.gW (sl an y.lv.1 y.aW) [cE y] (λρ h=>h _ (aV ..)) ?_;refine go ?_;refine St.cW (.mk rfl) rfl (λb=> ?_);refine St.cW (.mk rfl) rfl (λd=> ?_);refine g4 ?_;refine St.qe [] mixed (λe f=> ?_);refine SW.gd 0 ?_;refine SW.gd 1 ?_;refine SW.gd 2 ?_;refine SW.gd 3 ?_;refine SW.dd 4 rfl (λ_=>Ev.call (eA _ _) mr (.ah rfl rfl)) ?_;refine SW.gd 5 ?_;refine SW.gd 6 ?_;refine SW.gd 7 ?_;refine SW.gd 8 ?_;refine SW.gd 9 ?_;refine SW.gd 10 ?_;refine SW.dd 11 rfl (λ_=>Ev.call (eA _ _) mr (.ah rfl rfl)) ?_;refine SW.gd 12 ?_;refine SW.gd 13 ?_;refine SW.gd 14 ?_;refine SW.gd 15 ?_;refine SW.dd 16 rfl (λ_=>Ev.call (AU x.lv.1 y.lv.1 x.aW y.aW) acU (.fk rfl rfl rfl)) ?_;refine SW.t1 17 ?_;refine St.hS rfl (.fk rfl rfl rfl) cP eL jF rfl rfl (by simp[Value.cells]) rfl rfl (λa=> ?_);refine St.aN (tO a 3 3) (show _=([(kf x.type y.type),(kf (x.aW.length:Nat) (y.aW.length:Nat)),(jA Ex (x.aW.map fB) (y.aW.map fB))]).length from rfl) (show _=rows aI ([(kf x.type y.type),(kf (x.aW.length:Nat) (y.aW.length:Nat)),(jA Ex (x.aW.map fB) (y.aW.map fB))])from rfl) ?_;refine g2 ?_;refine SW.go ?_;refine SW.t1 18 ?_;refine St.ee (Ev.qQ (qK (tO a 3 3) [(kf x.type y.type),(kf (x.aW.length:Nat) (y.aW.length:Nat)),(jA Ex (x.aW.map fB) (y.aW.map fB))]) Ep (.ay rfl) (cm.row cm.nil rfl rfl rfl (Cx (λx hx=>by simp only[List.mem_cons,List.not_mem_nil,or_false]at hx;rcases hx with rfl|rfl|rfl;exact oD _ _;exact oD _ _;exact ya PI _ _)))) ?_;refine g2 ?_;refine SW.go ?_;refine SW.gd 19 ?_;refine SW.dn ?_;refine g2 ?_;refine St.rV [_] [] ?_;exact ie (show sc _ (sc _ (sc _ 0))=_ by rw[LP];unfold xI lR;rw[aR,aR])
theorem AV (x y:dy):cX prog 240 ([Value.agg #[iv x.type,x.lv.1],Value.agg #[iv y.type,y.lv.1]]++ []).toArray [cE x,cE y] (iv (xI (lR x) (lR y))):=Ci x y
theorem AW (v0 v1:Value)(a b:List dy):cX prog 239 #[v0,v1,.func (.func 240) #[] #[]] [sl cD v0 a,sl cD v1 b,aL cE a,aL cE b] (iv (jA xI (a.map lR) (b.map lR))):=by
 refine cX.BN (args:=[v0,v1,.func (.func 240) #[] #[]]) 39 func239 rfl ntmps239 rfl (λc=> ?_);refine go ?_;refine St.wf v0 (λi p=> ?_);refine St.wf v1 (λj q=> ?_);refine g13 ?_;refine St.lS (ι:=Nat) (λk T=>(13,iv k)::T) (λk=>k≤a.length∧k≤b.length∧jA xI (a.map lR) (b.map lR)=jA xI ((a.map lR).drop k) ((b.map lR).drop k)) (λk=>a.length-k) 0 (aC.k5 0 1 2 11 12) ⟨aP _,aP _,rfl⟩ ?_;intro k l;obtain⟨hk,r,d⟩:=l;refine g6 ?_;refine St.cq (λm=> ?_) (λm=> ?_)
 ·obtain⟨x,hx⟩:=aF (show k<a.length by omega)
  have f:(a.map lR)[k]?=some (lR x):=by rw[aw,hx];rfl
  refine g8 ?_;refine St.ee (Ev.j2 (.mk rfl) hx wq trivial jb gX.eq) ?_;refine St.al (λs=> ?_);refine go ?_;refine St.sA (.mk rfl) (.mk rfl) jb ?_ (h1:=(j8.2 λu hu=>cD.one x u hu));refine g11 ?_;refine St.cq (λn=> ?_) (λn=> ?_)
  ·refine g12 ?_
   refine St.rV [_] [] ?_;exact ie (by rw[d,yc f (by rw[aR];omega)])
  ·obtain⟨y,hy⟩:=aF (show k<b.length by omega)
   have e:(b.map lR)[k]?=some (lR y):=by rw[aw,hy];rfl
   refine g7 ?_;refine St.ee (Ev.j2 (.mk rfl) hy wq trivial jb gX.eq) ?_;refine St.al (λt=> ?_);refine St.sA (.mk rfl) (.mk rfl) jb ?_ (h1:=(j8.2 λu hu=>cD.one y u hu));refine g6 ?_;refine St.slot 27 (Value.agg #[iv x.type,x.lv.1]) rfl rfl ?_;refine go ?_;refine St.slot 28 (Value.agg #[iv y.type,y.lv.1]) rfl rfl ?_;refine St.cN cE a (x:=x) (aa hx) ?_;refine St.cN cE b (x:=y) (aa hy) ?_;refine St.ee (Ev.fg (AV x y) acT (.mk rfl) (.ah rfl rfl)) ?_;refine g9 ?_;refine St.cq (λg=> ?_) (λg=> ?_)
   ·refine g12 ?_
    refine St.rV [_] [] ?_;exact ie (by rw[d,oC f e,aB g])
   ·refine g8 ?_
    refine St.aS (k+1) ⟨by omega,by omega,by rw[d,oC f e,aA (λh=>h g)]⟩
 ·refine g15 ?_
  refine St.cq (λo=> ?_) (λo=> ?_)
  ·refine g7 ?_
   refine St.rV [_] [] ?_;exact ie (by obtain⟨y,hy⟩:=aF (show k<(b.map lR).length by rw[aR];omega);rw[d,vF hy (by rw[aR];omega)])
  ·refine g8 ?_
   refine St.rV [_] [] ?_;exact ie (by rw[d,yb (by rw[aR];omega) (by rw[aR];omega)])
theorem AQ (x y:ct):cX prog 209 #[au x,au y] [aJ x,aJ y] (iv (jA xI (ao x) (ao y))):=by
 refine cX.lj (args:=[au x,au y]) 10 func209 rfl ntmps209 rfl (λc=> ?_);refine go ?_
 refine St.gG (aJ x) (λ_:Unit=>jV x) (λρ h=>⟨(),h⟩) λ_=> ?_
 refine St.cast (H':=[aD (sl cD x.nv.1 x.nodes),aD (aL cE x.nodes),aD (aJ x),aD (aJ y)]) rfl ?_
 refine St.gG (aJ y) (λ_:Unit=>jV y) (λρ h=>⟨(),h⟩) λ_=> ?_
 refine St.cast (H':=[aD (sl cD y.nv.1 y.nodes),aD (aL cE y.nodes),aD (sl cD x.nv.1 x.nodes),aD (aL cE x.nodes),aD (aJ x),aD (aJ y)]) rfl ?_;refine go ?_;refine St.cW (.mk rfl) rfl (λa=> ?_);refine St.cW (.mk rfl) rfl (λb=> ?_);refine g9 ?_;refine St.ee (Ev.call (AW x.nv.1 y.nv.1 x.nodes y.nodes) acS (.fk rfl rfl rfl)) ?_;refine g4 ?_;refine St.rV [_] [] ?_;exact ie rfl
theorem Cg (x y:cK):cX prog 175 #[IQ x.frm x.tqo x.cV x.gr.nv.1,IQ y.frm y.tqo y.cV y.gr.nv.1] [aJ x.gr,aJ y.gr] (iv (xZ (dW x).ed (dW y).ed)):=by
 refine cX.lj (args:=[IQ x.frm x.tqo x.cV x.gr.nv.1,IQ y.frm y.tqo y.cV y.gr.nv.1]) 27 func175 rfl ntmps175 rfl (λc=> ?_);refine g2 ?_;refine St.cW (.mk rfl) rfl (λb=> ?_);refine St.cW (.mk rfl) rfl (λd=> ?_);refine g4 ?_;refine St.qe [] mixed (λe f=> ?_);refine SW.gd 0 ?_;refine SW.gd 1 ?_;refine SW.gd 2 ?_;refine SW.gd 3 ?_;refine SW.dd 4 rfl (λ_=>Ev.call (eA _ _) mr (.ah rfl rfl)) ?_;refine SW.gd 5 ?_;refine SW.gd 6 ?_;refine SW.gd 7 ?_;refine SW.gd 8 ?_;refine SW.dd 9 rfl (λ_=>Ev.call (eA _ _) mr (.ah rfl rfl)) ?_;refine SW.gd 10 ?_;refine SW.gd 11 ?_;refine SW.gd 12 ?_;refine SW.gd 13 ?_;refine SW.dd 14 rfl (λ_=>Ev.call (eA _ _) mr (.ah rfl rfl)) ?_;refine SW.gd 15 ?_;refine SW.dd 16 rfl (λ_=>Ev.iz 1 (.mk rfl) mh trivial jk rfl rfl) ?_;refine SW.slot 21 (au x.gr) rfl rfl ?_;refine SW.gd 17 ?_;refine SW.dd 18 rfl (λ_=>Ev.iz 1 (.mk rfl) mh trivial jk rfl rfl) ?_;refine SW.slot 23 (au y.gr) rfl rfl ?_;refine SW.dd 19 rfl (λ_=>Ev.call (AQ x.gr y.gr) acP (.ah rfl rfl)) ?_;refine SW.t1 20 ?_;refine St.hS rfl (.pL rfl rfl rfl rfl) cP eL jF rfl rfl (by simp[Value.cells]) rfl rfl (λa=> ?_);refine St.aN (tO a 4 4) (show _=([(kf (x.frm:Nat) (y.frm:Nat)),(kf (x.tqo:Nat) (y.tqo:Nat)),(kf (x.cV:Nat) (y.cV:Nat)),(jA xI (ao x.gr) (ao y.gr))]).length from rfl) (show _=rows aI ([(kf (x.frm:Nat) (y.frm:Nat)),(kf (x.tqo:Nat) (y.tqo:Nat)),(kf (x.cV:Nat) (y.cV:Nat)),(jA xI (ao x.gr) (ao y.gr))])from rfl) ?_;refine g2 ?_;refine SW.go ?_;refine SW.t1 21 ?_;refine St.ee (Ev.qQ (qK (tO a 4 4) [(kf (x.frm:Nat) (y.frm:Nat)),(kf (x.tqo:Nat) (y.tqo:Nat)),(kf (x.cV:Nat) (y.cV:Nat)),(jA xI (ao x.gr) (ao y.gr))]) Ep (.ay rfl) (cm.row cm.nil rfl rfl rfl (Cx (λx hx=>by simp only[List.mem_cons,List.not_mem_nil,or_false]at hx;rcases hx with rfl|rfl|rfl|rfl;exact oD _ _;exact oD _ _;exact oD _ _;exact ya YT _ _)))) ?_;refine g2 ?_;refine SW.go ?_;refine SW.gd 22 ?_;refine SW.dn ?_;refine g2 ?_;refine St.rV [_] [] ?_;exact ie (show sc _ (sc _ (sc _ (sc _ 0)))=_ by rw[LP];rfl)
theorem Jh (a b:Nat)(fj:aY)(its:List cK)(i j:Nat)(x y:cK)(hx:its[i]?=some x)(hy:its[j]?=some y):cX prog 174 #[iv (i:Nat),iv (j:Nat),tW a] [fx a (tW b),fx b fj.1,sl eE fj.1 its,aL (λx:cK=>aJ x.gr) its] (iv (xZ (dW x).ed (dW y).ed)):=by
 refine cX.BN (args:=[iv (i:Nat),iv (j:Nat),tW a]) 23 func174 rfl ntmps174 rfl (λc=> ?_);refine go ?_;refine St.gW (aJ x.gr) [aL (λx:cK=>aJ x.gr) its] (λρ h=>h _ (aV ..) x (aa hx)) ?_;refine St.gW (aJ y.gr) [aL (λx:cK=>aJ x.gr) its] (λρ h=>h _ (aV ..) y (aa hy)) ?_
 have e:=ag hx
 have d:=ag hy
 refine g5 ?_;refine St.rq mixed (by kernel_rfl) (Mm.drawn _ _) ?_;refine g7 ?_;refine Sq.ee (Ev.N7 (Rr:=eE) (sz:=4) (.mk rfl) hx underlying226 trivial Ln (by decide) (by decide)) ?_;refine Sq.slot 13 (IQ x.frm x.tqo x.cV x.gr.nv.1) rfl rfl ?_;refine g7 ?_;refine Sq.ee (Ev.N7 (Rr:=eE) (sz:=4) (.mk rfl) hy underlying226 trivial Ln (by decide) (by decide)) ?_;refine Sq.slot 21 (IQ y.frm y.tqo y.cV y.gr.nv.1) rfl rfl ?_;refine Sq.ee (Ev.call (Cg x y) acG (.ah rfl rfl)) ?_;refine g4 ?_;refine St.rV [_] [] ?_;exact ie rfl
end Go.Proofs.YtiefglecbgdaiaaGreatDoor
namespace Go.J
open Go Go.Proofs Go.Shelf Go.RowKit Go.Lib Go.Sort
section
variable {P:Program}{tD:Ren}
theorem uW (L:SlLaysF.n6 P tD)(fv v:Value)(e:TypeId)(D:dQ):dR P (tD.f 6) #[v,fv] ([D].map aD++ [row v e 1 0 []]) (λu H'=>u= .tuple #[]∧H'=[row v e 1 0 []]):=by
 intro w ρ st
 have d:=dP.1 (st.dC (row v e 1 0 []) (iY _ (pq _)))
 have none:∀(p:Option Addr) (cap:Nat),v= .slice p 0 cap→Calls P (tD.f 6) #[v,fv] w λg w'=>∃b H',g= .returned b∧(b= .tuple #[]∧H'=[row v e 1 0 []])∧Mm ⟨w,ρ,j0 ([D].map aD++ [row v e 1 0 []]),True⟩ H' w':=by
  intro p cap a
  have c:=AnyF.slices_SortFunc_none (P:=P) (ρ:=tD) {L with} p cap fv w
  rw[←a]at c;refine c.mono ?_;rintro h w' ⟨rfl,rfl⟩;exact⟨_,_,rfl,⟨rfl,rfl⟩,st.stays⟩
 rcases d.2 with⟨a,_⟩|⟨g0,cap,cur,a,_⟩
 ·exact none _ _ a
 ·exact none _ _ a
theorem EA (L:SlLaysF.n6 P tD){m:Nat}(enc:Nat→Value)(h1:∀i,i<m→(enc i).oneCell'=true)(cf:Nat→Nat→Int)(n:∀a,a<m→¬cf a a<0)(p:∀a b c,a<m→b<m→c<m→cf a b<0→cf b c<0→cf a c<0)
 (q:∀a b c,a<m→b<m→c<m→¬cf a b<0→¬cf b c<0→¬cf a c<0) (g:Nat) (r:aG P g) (caps:List Value) (D:dQ)
 (s:∀a b,a<m→b<m→cX P g ([enc a,enc b]++caps).toArray [D] (iv (cf a b))) (v:Value) (e:TypeId) (hm:m<4611686018427387904):
 dR P (tD.f 6) #[v,.func (.func g) #[] caps.toArray] ([D].map aD++ [row v e 1 m ((List.range m).map enc)]) (λu H'=>u= .tuple #[]∧∃l:List Nat,l.Perm (List.range m)∧l.Pairwise (λa b=>¬cf b a<0)∧H'=[row v e 1 m (l.map enc)]):=by
 rcases Nat.eq_zero_or_pos m with rfl|t
 ·exact(uW L (.func (.func g) #[] caps.toArray) v e D).mono λu H' ⟨h1,j⟩=>⟨h1,[],List.Perm.refl _,List.Pairwise.nil,j⟩
 ·haveI:Inhabited {i:Nat//i<m}:=⟨⟨0,t⟩⟩
  let d:List {i:Nat//i<m}:=(List.range m).attach.map λx=>⟨x.1,cU.1 x.2⟩
  have o:d.length=m:=by simp[d]
  have k:d.map (λx=>x.1)=List.range m:=by simp[d,List.map_map,Function.comp_def]
  have A:d.map (λx=>enc x.1)=(List.range m).map enc:=by rw[←k];simp[List.map_map,Function.comp_def]
  have hO:SWO (ltOf λ(x y:{i:Nat//i<m})=>cf x.1 y.1):=by
   refine⟨λx=>e9 (n x.1 x.2),λx y z h1 j=>dI (p _ _ _ x.2 y.2 z.2 (gU h1) (gU j)),λx y z h1 j=>e9 (q _ _ _ x.2 y.2 z.2 (l3 h1) (l3 j))⟩
  have main:=sD L (λx:{i:Nat//i<m}=>enc x.1) (λx=>h1 x.1 x.2) (λx y=>cf x.1 y.1) hO g caps.toArray (λargs w=>r.run) [D] (λx y=>by have:=s x.1 y.1 x.2 y.2;simpa using this) v e d zE
  rw[o,A]at main;refine main.mono ?_;rintro u H' ⟨hu,B,hp,C,hH⟩;refine⟨hu,B.map (λx=>x.1),?_,?_,?_⟩
  ·have:=hp.map (λx=>x.1);rw[k]at this;exact this
  ·rw[oq]
   exact C.imp λh=>l3 h
  ·rw[hH];simp[List.map_map,Function.comp_def]
end
section
variable {P:Program}{tD:Ren}
theorem Aw (L:SlLaysF.n6 P tD){n:Nat}{key:Nat→List Int}{cf:Nat→Nat→Int}(A:nT n key cf)(g:Nat)(B:aG P g)(caps:List Value)(D:dQ)
 (C:∀a b,a<n→b<n→cX P g ([iv a,iv b]++caps).toArray [D] (iv (cf a b))) (v:Value) (e:TypeId) (l0:List Nat) (m:l0.Perm (List.range n)) (K:n<4611686018427387904):
 dR P (tD.f 6) #[v,.func (.func g) #[] caps.toArray] ([D].map aD++ [row v e 1 n (rows aI (ints l0))]) (λu H'=>u= .tuple #[]∧∃l:List Nat,l.Perm (List.range n)∧nU cf l∧H'=[row v e 1 n (rows aI (ints l))]):=by
 have r:l0.length=n:=by rw[m.length_eq,db]
 rcases Nat.eq_zero_or_pos n with rfl|E
 ·obtain rfl:l0=[]:=gg r
  exact(uW L (.func (.func g) #[] caps.toArray) v e D).mono λu H' ⟨h1,c⟩=>⟨h1,[],m,λj k _ hk=>by simp at hk,c⟩
 ·haveI:Inhabited {i:Nat//i<n}:=⟨⟨0,E⟩⟩
  have F:∀i∈l0,i<n:=λi G=>cU.1 (m.mem_iff.1 G)
  let d:List {i:Nat//i<n}:=l0.attach.map λx=>⟨x.1,F x.1 x.2⟩
  have o:d.length=n:=by simp[d,r]
  have h:d.map (λx=>x.1)=l0:=by simp[d,List.map_map,Function.comp_def]
  have H:d.map (λx=>iv (x.1:Nat))=rows aI (ints l0):=by
   rw[gN,←h];simp[List.map_map,Function.comp_def]
  have hO:SWO (ltOf λ(x y:{i:Nat//i<n})=>cf x.1 y.1):=by
   have q:∀x y:{i:Nat//i<n},ltOf (λ(x y:{i:Nat//i<n})=>cf x.1 y.1) x y=eb (key x.1) (key y.1):=λx y=>by
    unfold ltOf;rw[rh,eJ];exact A.lt _ _ x.2 y.2
   refine⟨λx=>by rw[q,fQ],λx y z h1 c=>by rw[q]at*;exact ef h1 c,λx y z h1 c=> ?_⟩;rw[q]at*
   cases p:eb (key x.1) (key z.1)with
   |false=>rfl
   |true=>
    rcases iD (key x.1) (key y.1)with t|t|t
    ·rw[h1]at t;cases t
    ·rw[t,c]at p;cases p
    ·have:=ef t p;rw[c]at this;cases this
  have main:=sD L (λx:{i:Nat//i<n}=>iv (x.1:Nat)) (λ_=>rfl) (λx y=>cf x.1 y.1) hO g caps.toArray (λargs w=>B.run) [D] (λx y=>by have:=C x.1 y.1 x.2 y.2;simpa using this) v e d zE
  rw[o,H]at main;refine main.mono ?_;rintro u H' ⟨hu,s,hp,I,hH⟩;refine⟨hu,s.map (λx=>x.1),?_,?_,?_⟩
  ·have:=hp.map (λx=>x.1);rw[h]at this;exact this.trans m
  ·intro j k J hk
   rw[aR]at hk
   have h1:=List.pairwise_iff_getElem.1 I j k zE hk J
   rw[aZ,aZ,aw,aw,aj hk,aj (show j<s.length by omega)]
   simpa[ltOf]using h1
  ·rw[hH,gN];simp[List.map_map,Function.comp_def]
end
end Go.J
namespace Go.J
open Go Go.Proofs.YtiefglecbgdaiaaGreatDoor
section
variable {P:Program}{n:Nat}{F:Fr}{c:Ctx}{H H' R:List ai}{ty t e:TypeId}{x y:Operand}{v:Value}{Q:Exit→Act→World→Prop}{ops:Array Oper}{rest:List Oper}{d:Nat}{pos:String}{after:Array Edge}{m k:Nat}{α:Type}{T:Act→World→Prop}
theorem Ev.J7 {Rr:Rp α}{l:List α}{g:α}{dd:TypeDesc}{sz off:Nat}[i:tJ v H e Rr.size m (rows Rr l)](hx:aX F x (gx v Rr.size k off))(o:l[k]?=some g)(ht:P.underlying t=some dd)(s:(match dd with| .struct _| .array _ _=>True|_=>False))
 (y:(P.info? t).map (·.size)=some sz) (hk:k<m) (E:off+sz≤Rr.size) (p:off<Rr.size):Ev P n F (Mm c H) (.load t x) ty (.agg (((Rr.cells g).drop off).take sz).toArray):= .of_run λa w z hw=>by
 obtain⟨ρ,hm⟩:=hw.out
 have q:(rows Rr l)[k*Rr.size+off]?=(Rr.cells g)[off]?:=eP Rr l k off g o p
 have d:(Rr.cells g)[off]?=some ((Rr.cells g)[off]'(by rw[Rr.len];exact p)):=aj _
 rw[d]at q;obtain⟨b,A,c1,B,_⟩:=jY (hm.row i) (off:=off) hk q;rw[A]at hx
 have C:=eB (P:=P) (w:=w) (b:=b) (off:=k*Rr.size+off) (L:=((Rr.cells g).drop off).take sz) ht s (by rw[y,cy,ur,Rr.len,gB zE]) (λj u f=>by
  have h:j<sz:=by
   have:=(eh.1 f).1
   rw[cy]at this;omega
  rw[om,aB h,x9]at f
  have D:(rows Rr l)[k*Rr.size+(off+j)]?=some u:=by rw[eP Rr l k (off+j) g o zE,f]
  obtain⟨G,e2,c2,r,_⟩:=jY (hm.row i) (off:=off+j) hk D
  rw[B]at r;cases r
  rw[pt];exact c2)
 simp[execOp,hx.eval z,Instr.loadAt,Instr.sureAddr,C]
instance (priority:=high) eS.akO {β:Type}(f:β→List ai)(l:List β):eS (bK f l) (bK f l) []:=⟨by rw[fV]⟩
instance eS.aaX {β:Type}(f:β→List ai)(l:List β)(E:ai)(H R:List ai)[h:eS (bK f l) H R]:eS (bK f l) (E::H) (E::R):=
 ⟨(h.perm.cons E).trans sN.symm⟩
theorem Mm.VX {f:α→List ai}{g:α→dQ}(b:∀a H w,Mm c (f a++H) w→Mm c (aD (g a)::H) w):∀(l:List α) (H:List ai) (w:World),Mm c (bK f l++H) w→Mm c (aD (aL g l)::H) w
 | [],H,w,h=>h.fact (aL g []) λρ _ x hx=>by cases hx
 |a::l,H,w,h=>by
  rw[mD,cr]at h
  have h1:=b a _ w h
  obtain⟨n,d⟩:=h1.out
  have e:Mm c (bK f l++(aD (g a)::H)) w:=Mm.mk (d.perm sN.symm)
  have i:=Mm.VX b l _ w e
  refine(λ(j:Mm c (aD (aL g (a::l))::aD (aL g l)::aD (g a)::H) w)=> ?_) (i.fact _ ?_)
  ·obtain⟨ρ,k⟩:=j.out
   have m:fN c (aD (aL g l)::aD (g a)::aD (aL g (a::l))::H) ρ w:=k.perm ((List.Perm.swap _ _ _).trans ((List.Perm.swap _ _ _).cons _))
   exact Mm.mk m.drop.drop
  ·intro ρ hm x hx
   rcases bT.1 hx with rfl|hx
   ·exact dK.1 (hm.dC (aD (g x)) (by simp))
   ·exact dK.1 (hm.dC (aD (aL g l)) (by simp)) x hx
theorem St.VX {f:α→List ai}(g:α→dQ)(l:List α)(d:∀a H w,Mm c (f a++H) w→Mm c (aD (g a)::H) w)[e:lh (bK f l) [] H H'](h:St n F (Mm c (aD (aL g l)::H')) T):St n F (Mm c H) T:=by
 obtain⟨L,a,b⟩:=e.eq
 refine h.ny λw hw=> ?_
 rw[b,fV];refine Mm.VX d l L w ?_;obtain⟨ρ,k⟩:=hw.out;refine Mm.mk (k.perm ?_);rw[a];exact kB
end
structure TU (P:Program)(t:TypeId)(nm:String)(f:Nat)(byP:Bool)(e:TypeId):Prop where
 row:((P.info? t).bind λi=>(i.methods.find? λm=>m.name==nm).map λm=>(m.path.isEmpty,m.func))=some (true,some (f,byP))
 und:P.underlying t=some (.pointer e)
theorem TU.out {P:Program}{t e:TypeId}{nm:String}{f:Nat}{byP:Bool}(h:TU P t nm f byP e):∃i m,P.info? t=some i∧i.methods.find? (λm=>m.name==nm)=some m∧m.path= #[]∧m.func=some (f,byP):=by
 obtain⟨i,b,c⟩:=o6.1 h.row;obtain⟨m,hm,a⟩:=dX.1 c
 have d:=congrArg Prod.fst a
 have g:=congrArg Prod.snd a
 exact⟨i,m,b,hm,by simpa using d,g⟩
theorem Sj (t:TypeId)(a:Addr)(s m:String):Builtin.ssaWrapNilChk_ #[t] t #[.pointer (some a),strVal s,strVal m]=pure (.pointer (some a)):=rfl
theorem JE {P:Program}{t e:TypeId}{nm:String}{f:Nat}{a:Addr}{u:Value}(h:TU P t nm f false e)(k:Nat)(w:World)(b:(loadVar e a).run P w= .ok u w):(method (k+1) t (.pointer (some a)) nm).run P w= .ok (f,u) w:=by
 obtain⟨i,m,c,hm,hp,d⟩:=h.out
 have hu:=h.und
 simp[method,typeInfo,c,hm,hp,d,follow,receiverAt,run_underlying hu,Place.get,Sj,asAddr,b]
section
variable {P:Program}{n:Nat}{F:Fr}{c:Ctx}{H R:List ai}{ty t e e2:TypeId}{x:Operand}{r u v:Value}{nm:String}{Q:Exit→Act→World→Prop}{ops:Array Oper}{rest:List Oper}{d:Nat}{pos:String}{after:Array Edge}{f:Nat}
def Recv (P:Program)(c:Ctx)(H:List ai)(t:TypeId)(r:Value)(nm:String)(f:Nat)(u:Value):Prop:=∀w,Mm c H w→(method (P.types.size+Made.depth) t r nm).run P w= .ok (f,u) w
theorem Recv.row {m k off size:Nat}{cs:List Value}{dd:TypeDesc}[a:tJ v H e2 size m cs](h:TU P t nm f false e)(hu:P.underlying e=some dd)(d:(match dd with| .struct _| .array _ _=>False|_=>True))(hk:k<m)(g:cs[k*size+off]?=some u):
 Recv P c H t (gx v size k off) nm f u:=λw hw=>by
 obtain⟨ρ,hm⟩:=hw.out;obtain⟨b,h1,i,_⟩:=jY (hm.row a) hk g;rw[h1];exact JE h (P.types.size+99) w (eo hu d i)
end
end Go.J
namespace Go.Proofs.YtiefglecbgdaiaaGreatDoor
open Go Go.J Tryz
theorem ac1:aG prog 75:=⟨_,func75,rfl,by kernel_rfl⟩
instance:fX prog 109 3 7:=⟨by kernel_rfl⟩
instance:fX prog 109 1 5:=⟨by kernel_rfl⟩
theorem afO (w:World):cg prog 51 w= .ok #[(0,1),(1,1),(2,1)] w:=by kernel_rfl
theorem ac3:aG prog 81:=⟨_,func81,rfl,by kernel_rfl⟩
theorem EO:(prog.info? 51).bind (·.zero)=some (Value.agg #[.int .i64 0,.int .i64 0,.slice none 0 0]):=by kernel_rfl
theorem Ou:(prog.info? 51).map (·.bytes)=some 40:=by kernel_rfl
theorem ajP:(prog.info? 33).map (·.size)=some 1:=by kernel_rfl
instance:fX prog 109 2 6:=⟨by kernel_rfl⟩
theorem Wv:aG prog 188:=⟨_,func188,rfl,by kernel_rfl⟩
instance:pX prog 82 #[.nilFunc]:=⟨by kernel_rfl⟩
theorem ajS:(prog.info? 82).map (·.size)=some 1:=by kernel_rfl
theorem Ox:aG prog 123:=⟨_,func123,rfl,by kernel_rfl⟩
theorem We:aG prog 125:=⟨_,func125,rfl,by kernel_rfl⟩
theorem Oy:aG prog 124:=⟨_,func124,rfl,by kernel_rfl⟩
instance:fX prog 109 0 0:=⟨by kernel_rfl⟩
theorem ahP:aG prog 80:=⟨_,func80,rfl,by kernel_rfl⟩
theorem BM {a b:Value}(c:a.oneCell'=true)(h1:b.oneCell'=true)(w:World):(Instr.build 51 #[(0,a),(1,b)]).run prog w= .ok (.agg #[a,b,.slice none 0 0]) w:=
 bM WI (afO w) (by simp[Instr.fill,J.bS,J.cells_one c,J.cells_one h1])
theorem agV:(prog.info? 98).map (·.bytes)=some 152:=by kernel_rfl
theorem Rz:(prog.info? 109).map (·.size)=some 8:=by kernel_rfl
instance:type_of%(oy.mk Rz):=⟨Rz⟩
theorem ac2:aG prog 77:=⟨_,func77,rfl,by kernel_rfl⟩
theorem ahO:aG prog 79:=⟨_,func79,rfl,by kernel_rfl⟩
theorem ahN:aG prog 78:=⟨_,func78,rfl,by kernel_rfl⟩
theorem ahM:aG prog 76:=⟨_,func76,rfl,by kernel_rfl⟩
theorem ahJ:aG prog 72:=⟨_,func72,rfl,by kernel_rfl⟩
theorem M8:(prog.info? 109).bind (λi=>i.zero.map Value.cells)=some #[.slice none 0 0,.slice none 0 0,.slice none 0 0,.slice none 0 0,.slice none 0 0,.slice none 0 0,.slice none 0 0,.slice none 0 0]:=by kernel_rfl
instance:type_of%(pX.mk M8):=⟨M8⟩
theorem XS (w:World):cg prog 109 w= .ok #[(0,5),(5,1),(6,1),(7,1)] w:=by kernel_rfl
theorem ahK:aG prog 73:=⟨_,func73,rfl,by kernel_rfl⟩
theorem ahL:aG prog 74:=⟨_,func74,rfl,by kernel_rfl⟩
theorem ag3:aG prog 35:=⟨_,func35,rfl,by kernel_rfl⟩
theorem ag4:aG prog 36:=⟨_,func36,rfl,by kernel_rfl⟩
theorem cb7:aG prog 7:=⟨_,func7,rfl,by kernel_rfl⟩
theorem MR {a b:Value}(c:a.oneCell'=true)(d:b.oneCell'=true)(w:World):(Instr.build 98 #[(2,a),(3,b)]).run prog w= .ok (.agg #[.string ⟨#[]⟩,.slice none 0 0,a,b,.int .i64 0,.string ⟨#[]⟩,.int .i64 0,.string ⟨#[]⟩,.slice none 0 0,.slice none 0 0]) w:=
 bM aaT (ajH w) (by simp[Instr.fill,J.bS,J.cells_one c,J.cells_one d])
theorem Od {a:Value}(b:a.oneCell'=true)(w:World):(Instr.build 100 #[(2,a)]).run prog w= .ok (.agg #[.string ⟨#[]⟩,.slice none 0 0,a,.int .i64 0,.string ⟨#[]⟩,.int .i64 0,.string ⟨#[]⟩,.slice none 0 0,.slice none 0 0]) w:=
 bM Sl (afC w) (by simp[Instr.fill,J.bS,J.cells_one b])
theorem MQ {a b:Value}(c:a.oneCell'=true)(d:b.oneCell'=true)(w:World):(Instr.build 51 #[(0,a),(2,b)]).run prog w= .ok (.agg #[a,.int .i64 0,b]) w:=
 bM WI (afO w) (by simp[Instr.fill,J.bS,J.cells_one c,J.cells_one d])
theorem Tm (w:World):(Instr.build 109 #[]).run prog w= .ok (.agg #[.slice none 0 0,.slice none 0 0,.slice none 0 0,.slice none 0 0,.slice none 0 0,.slice none 0 0,.slice none 0 0,.slice none 0 0]) w:=
 bM M8 (XS w) (by simp[Instr.fill,J.bS])
theorem Oe {a b c d e:Value}(w:World):(Instr.build 109 #[(0,.agg #[a,b,c,d,e])]).run prog w= .ok (.agg #[a,b,c,d,e,.slice none 0 0,.slice none 0 0,.slice none 0 0]) w:=
 bM M8 (XS w) (by simp[Instr.fill,J.bS])
theorem Wj:aG prog 146:=⟨_,func146,rfl,by kernel_rfl⟩
theorem ab4:aG prog 143:=⟨_,func143,rfl,by kernel_rfl⟩
theorem ab5:aG prog 144:=⟨_,func144,rfl,by kernel_rfl⟩
theorem ab6:aG prog 147:=⟨_,func147,rfl,by kernel_rfl⟩
theorem Wh:aG prog 142:=⟨_,func142,rfl,by kernel_rfl⟩
instance:pX prog 176 #[.nilFunc]:=⟨by kernel_rfl⟩
theorem af0:(prog.info? 176).map (·.size)=some 1:=by kernel_rfl
theorem ac4:aG prog 96:=⟨_,func96,rfl,by kernel_rfl⟩
theorem ac5:aG prog 97:=⟨_,func97,rfl,by kernel_rfl⟩
theorem acJ:aG prog 199:=⟨_,func199,rfl,by kernel_rfl⟩
theorem Wk:aG prog 152:=⟨_,func152,rfl,by kernel_rfl⟩
theorem ab9:aG prog 154:=⟨_,func154,rfl,by kernel_rfl⟩
theorem acA:aG prog 155:=⟨_,func155,rfl,by kernel_rfl⟩
theorem ab8:aG prog 151:=⟨_,func151,rfl,by kernel_rfl⟩
instance:pX prog 264 #[.nilFunc]:=⟨by kernel_rfl⟩
theorem af4:(prog.info? 264).map (·.size)=some 1:=by kernel_rfl
theorem Wl:aG prog 153:=⟨_,func153,rfl,by kernel_rfl⟩
theorem acB:aG prog 156:=⟨_,func156,rfl,by kernel_rfl⟩
theorem acC:aG prog 157:=⟨_,func157,rfl,by kernel_rfl⟩
theorem Ww:aG prog 194:=⟨_,func194,rfl,by kernel_rfl⟩
theorem ab2:aG prog 136:=⟨_,func136,rfl,by kernel_rfl⟩
theorem Wg:aG prog 141:=⟨_,func141,rfl,by kernel_rfl⟩
instance:fX prog 63 1 1:=⟨by kernel_rfl⟩
theorem ahQ:aG prog 95:=⟨_,func95,rfl,by kernel_rfl⟩
theorem by9:(prog.info? 9).map (·.bytes)=some 16:=by kernel_rfl
theorem aaR:(prog.info? 63).bind (λi=>i.zero.map Value.cells)=some #[.slice none 0 0,.slice none 0 0,.slice none 0 0,.slice none 0 0,.slice none 0 0]:=by kernel_rfl
instance:type_of%(pX.mk aaR):=⟨aaR⟩
theorem ajE (w:World):cg prog 63 w= .ok #[(0,1),(1,1),(2,1),(3,1),(4,1)] w:=by kernel_rfl
theorem S1:(prog.info? 63).map (·.size)=some 5:=by kernel_rfl
instance:type_of%(oy.mk S1):=⟨S1⟩
theorem Jt:(prog.info? 34).map (·.size)=some 1:=by kernel_rfl
instance:type_of%(oy.mk Jt):=⟨Jt⟩
theorem ag5:aG prog 47:=⟨_,func47,rfl,by kernel_rfl⟩
instance:fX prog 63 0 0:=⟨by kernel_rfl⟩
theorem acX:aG prog 48:=⟨_,func48,rfl,by kernel_rfl⟩
theorem aaU:(prog.info? 34).bind (·.zero)=some (Value.slice none 0 0):=by kernel_rfl
theorem agT:(prog.info? 34).map (·.bytes)=some 24:=by kernel_rfl
theorem ajQ:(prog.info? 60).map (·.size)=some 1:=by kernel_rfl
theorem ag6:aG prog 49:=⟨_,func49,rfl,by kernel_rfl⟩
theorem ag7:aG prog 50:=⟨_,func50,rfl,by kernel_rfl⟩
instance:fX prog 63 2 2:=⟨by kernel_rfl⟩
theorem acY:aG prog 51:=⟨_,func51,rfl,by kernel_rfl⟩
instance:fX prog 63 4 4:=⟨by kernel_rfl⟩
theorem afD (w:World):cg prog 133 w= .ok #[(0,1),(1,1)] w:=by kernel_rfl
theorem Sm:(prog.info? 133).bind (λi=>i.zero.map Value.cells)=some #[.int .i64 0,.int .i64 0]:=by kernel_rfl
instance:type_of%(pX.mk Sm):=⟨Sm⟩
theorem sH:(prog.info? 133).map (·.size)=some 2:=by kernel_rfl
instance:type_of%(oy.mk sH):=⟨sH⟩
theorem Ce:(prog.info? 133).bind (·.zero)=some (Value.agg #[.int .i64 0,.int .i64 0]):=by kernel_rfl
theorem Oq:(prog.info? 133).map (·.bytes)=some 16:=by kernel_rfl
theorem af8:(prog.info? 61).map (·.size)=some 1:=by kernel_rfl
theorem ag8:aG prog 52:=⟨_,func52,rfl,by kernel_rfl⟩
instance:fX prog 63 3 3:=⟨by kernel_rfl⟩
theorem abR:aG prog 102:=⟨_,func102,rfl,by kernel_rfl⟩
theorem ahB:aG prog 56:=⟨_,func56,rfl,by kernel_rfl⟩
theorem ag9:aG prog 54:=⟨_,func54,rfl,by kernel_rfl⟩
instance:pX prog 138 #[.map none]:=⟨by kernel_rfl⟩
theorem afY:(prog.info? 138).map (·.size)=some 1:=by kernel_rfl
instance:fX prog 133 0 0:=⟨by kernel_rfl⟩
theorem ahA:aG prog 55:=⟨_,func55,rfl,by kernel_rfl⟩
theorem agX:aG prog 15:=⟨_,func15,rfl,by kernel_rfl⟩
theorem ab3:aG prog 14:=⟨_,func14,rfl,by kernel_rfl⟩
theorem agZ:aG prog 17:=⟨_,func17,rfl,by kernel_rfl⟩
theorem agY:aG prog 16:=⟨_,func16,rfl,by kernel_rfl⟩
theorem ag0:aG prog 18:=⟨_,func18,rfl,by kernel_rfl⟩
theorem ajF (w:World):cg prog 74 w= .ok #[(0,1),(1,1),(2,1)] w:=by kernel_rfl
theorem ajZ:(prog.info? 74).bind (·.zero)=some (Value.agg #[.string ⟨#[]⟩,.int .i64 0,.string ⟨#[]⟩]):=by kernel_rfl
theorem ajG (w:World):cg prog 78 w= .ok #[(0,1),(1,1)] w:=by kernel_rfl
theorem ajY:(prog.info? 78).bind (λi=>i.zero.map Value.cells)=some #[.slice none 0 0,.slice none 0 0]:=by kernel_rfl
theorem ag1:aG prog 19:=⟨_,func19,rfl,by kernel_rfl⟩
theorem Oj (w:World):(Instr.build 63 #[]).run prog w= .ok (.agg #[.slice none 0 0,.slice none 0 0,.slice none 0 0,.slice none 0 0,.slice none 0 0]) w:=
 bM aaR (ajE w) (by simp[Instr.fill,J.bS])
theorem yR {a b:Value}(c:a.oneCell'=true)(h1:b.oneCell'=true)(w:World):(Instr.build 133 #[(0,a),(1,b)]).run prog w= .ok (.agg #[a,b]) w:=
 bM Sm (afD w) (by simp[Instr.fill,J.bS,J.cells_one c,J.cells_one h1])
theorem Ei {a b c:Value}(d:a.oneCell'=true)(h1:b.oneCell'=true)(e:c.oneCell'=true)(w:World):(Instr.build 74 #[(0,a),(1,b),(2,c)]).run prog w= .ok (.agg #[a,b,c]) w:=
 bM aaS (ajF w) (by simp[Instr.fill,J.bS,J.cells_one d,J.cells_one h1,J.cells_one e])
theorem Tq {a:Value}(b:a.oneCell'=true)(w:World):(Instr.build 78 #[(0,a)]).run prog w= .ok (.agg #[a,.slice none 0 0]) w:=
 bM ajY (ajG w) (by simp[Instr.fill,J.bS,J.cells_one b])
def kI:Int→List Int→Int×Int
 |_,[]=>(0,0)
 |k,x::l=>if x<0∨1114111<x then(3,k)else kI (k+1) l
def fG (p:List Int):Int×Int:=if 2000<p.length then(2,-1)else kI 0 p
theorem LW {l:List Int}{k:Nat}{x:Int}(h:l[k]?=some x):kI k (l.drop k)=if x<0∨1114111<x then(3,(k:Int))else kI ((k+1:Nat):Int) (l.drop (k+1)):=by
 rw[bA h,kI,Int.natCast_add];rfl
theorem Zm {l:List Int}{k:Nat}(h:l.length≤k)(a:Int):kI a (l.drop k)=(0,0):=by rw[fS h];rfl
theorem Jc {p:List Int}(h:2000<p.length):fG p=(2,-1):=by unfold fG;rw[aB h]
theorem Gg {p:List Int}(h:¬2000<p.length):fG p=kI ((0:Nat):Int) (p.drop 0):=by unfold fG;rw[aA h];rfl
theorem Vj {k:Int}{l:List Int}:(kI k l).1=0→kI k l=(0,0):=by
 induction l generalizing k with
 |nil=>intro _;rfl
 |cons x l a=>
  intro h;unfold kI at h⊢
  split
  ·rename_i h1;rw[aB h1]at h;cases h
  ·rename_i h1;rw[aA h1]at h;exact a h
theorem vj {p:List Int}(h:(fG p).1=0):p.length≤2000∧fG p=(0,0):=by
 unfold fG at h⊢
 by_cases h1:2000<p.length
 ·rw[aB h1]at h;cases h
 ·rw[aA h1]at h⊢;exact⟨by omega,Vj h⟩
def XQ:List Int→Int
 | []=>0
 |x::l=>if x≠0 then x else XQ l
theorem sG (v0:Value)(p:List Int):cX prog 96 #[v0] [sl aI v0 p] (fv (fG p)):=by
 refine cX.l6 (args:=[v0]) 26 func96 rfl ntmps96 rfl (λc=> ?_);refine go ?_;refine St.wf v0 (λh hlen=> ?_);refine go ?_;refine St.al (λi=> ?_);refine g10 ?_;refine St.cq (λd=> ?_) (λd=> ?_)
 ·refine g2 ?_
  refine St.ee (Ev.build (bC.ah rfl rfl) (λw=>dJ rfl rfl w)) ?_;refine g5 ?_;refine St.rV [_] [] ?_;exact fe (Jc zE)
 ·refine g11 ?_
  refine St.lS (ι:=Nat) (λk T=>(11,iv k)::T) (λk=>k≤p.length∧fG p=kI k (p.drop k)) (λk=>p.length-k) 0 (aC.k3 2 9 10) ⟨aP _,Gg zE⟩ ?_;intro k e;obtain⟨hk,a⟩:=e;refine g6 ?_;refine St.cq (λf=> ?_) (λf=> ?_)
  ·obtain⟨x,hx⟩:=aF (show k<p.length by omega)
   refine g7 ?_;refine St.ee (Ev.cM (.mk rfl) (.mk rfl) cP eL rfl zE) ?_;refine St.ee (Ev.ld1 (.mk rfl) (by first|assumption|exact dm 0 zE) eK trivial rfl) ?_;refine g9 ?_;refine St.gf _ rfl rfl (λb=>Ev.move (.mk rfl)) rfl ?_;refine St.gf _ rfl rfl (λb=>Ev.gtr (aX.gv rfl b) (.mk rfl)) rfl ?_;refine g3 ?_;refine St.cq (λg=> ?_) (λg=> ?_)
   ·refine g3 ?_
    refine St.ee (Ev.build (bC.ah rfl rfl) (λw=>dJ rfl rfl w)) ?_;refine g9 ?_;refine St.rV [_] [] ?_;exact fe (by rw[a,LW hx,aB zE])
   ·refine g8 ?_
    refine St.aS (k+1) ⟨by omega,by rw[a,LW hx,aA zE]⟩
  ·refine g7 ?_
   refine St.ee (Ev.build (bC.nil) (λw=>fC w)) ?_;refine g4 ?_;refine St.rV [_] [] ?_;exact fe (by rw[a,Zm zE])
theorem nS (x y:Int):cX prog 122 #[iv x,iv y] [] (iv (zm x y)):=(eA x y)
theorem Qt:∀l:List Int,XQ l=GO l
 | []=>rfl
 |x::l=>by
  rw[XQ,GO,←Qt l,sc]
  by_cases h:x=0
  ·rw[aA zE,aB h]
  ·rw[aB h,aA h]
theorem TW (v0:Value)(p:List Int):cX prog 121 #[v0] [sl aI v0 p] (iv (XQ p)):=(by rw[Qt];exact qK v0 p)
theorem yC (v0:Value)(xs:List Int)(a:FuncId)(b:aG prog a)(caps:List Value)(D:dQ)(pr:Int→Bool)(c:∀x∈xs,cX prog a ([iv x]++caps).toArray [D] (.bool (pr x))):
 cX prog 103 #[v0,.func (.func a) #[] caps.toArray] [sl aI v0 xs,D] (iv (ix pr xs)):=(tK v0 xs a b caps [D] pr c)
theorem tF (v0:Value)(xs:List Int)(a:FuncId)(b:aG prog a)(caps:List Value)(D:dQ)(pr:Int→Bool)(c:∀x∈xs,cX prog a ([iv x]++caps).toArray [D] (.bool (pr x))):
 cX prog 145 #[v0,.func (.func a) #[] caps.toArray] [sl aI v0 xs,D] (.bool (xs.any pr)):=(pW v0 xs a b caps [D] pr c)
theorem Ek (p:List Int)(d:Nat)(e:Value)(a b:Nat)(f:a<p.length)(g:b<p.length):cX prog 143 #[iv a,iv b,tW d] [fx d e,sl aI e p] (iv (zm (p.getD a 0) (p.getD b 0))):=by
 refine cX.lj (args:=[iv a,iv b,tW d]) 15 func143 rfl ntmps143 rfl (λc=> ?_);refine g6 ?_;refine St.rq mixed (by kernel_rfl) (Mm.drawn _ _) ?_;refine g3 ?_;refine Sq.ee (Ev.ld1 (.mk rfl) (dm 0 f) eK trivial rfl) ?_;refine g3 ?_;refine Sq.ee (Ev.ld1 (.mk rfl) (dm 0 g) eK trivial rfl) ?_;refine Sq.ee (Ev.call (nS _ _) mr (.ah rfl rfl)) ?_;refine g4 ?_;refine St.rV [_] [] ?_;rfl
theorem El (l:List Nat)(rk:List Int)(a b:Nat)(d e:Value)(i:Nat)(f:i<rk.length)(g:0≤rk.getD i 0)(h1:rk.getD i 0<l.length):
 cX prog 144 #[iv i,tW a,tW b] [fx a d,fx b e,sl aI d (ints l),sl aI e rk] (.bool (!decide (l.getD (rk.getD i 0).toNat 0=i))):=by
 refine cX.BN (args:=[iv i,tW a,tW b]) 14 func144 rfl ntmps144 rfl (λc=> ?_);refine go ?_
 have h:=bO l
 refine g5 ?_;refine St.rq mixed (by kernel_rfl) (Mm.drawn _ _) ?_;refine g4 ?_;refine Sq.ee (Ev.ld1 (.mk rfl) (dm 0 f) eK trivial rfl) ?_;refine Sq.ee (Ev.cM (k:=(rk.getD i 0).toNat) (.mk rfl) (.mk rfl) cP eL zE zE) ?_;refine Sq.ee (Ev.ld1 (.mk rfl) (dm 0 zE) eK trivial rfl) ?_;refine g6 ?_;refine St.rV [_] [] ?_;exact be (by rw[oI];congr 1;exact decide_eq_decide.2 zE)
theorem Em (p:List Int)(L:Nat)(rk:List Int)(f:rk.length=p.length)(g:p.length≤2000∧L≤4000)(bs a b:Nat)(d:Value)(i:Nat)(h:i<p.length):
 cX prog 146 #[iv i,tW bs,tW a,tW b] [fx bs (iv L),fx a (iv p.length),fx b d,sl aI d rk] (iv (second p L (λi=>rk.getD i 0) i)):=by
 refine cX.BN (args:=[iv i,tW bs,tW a,tW b]) 17 func146 rfl ntmps146 rfl (λc=> ?_);refine g15 ?_;refine St.cq (λe=> ?_) (λe=> ?_)
 ·refine g6 ?_
  refine St.ee (Ev.cM (k:=(i+L)) (.mk rfl) (.mk rfl) cP eL zE zE) ?_;refine St.ee (Ev.ld1 (.mk rfl) (dm 0 zE) eK trivial rfl) ?_;refine g5 ?_;refine St.rV [_] [] ?_;exact ie (by unfold second;rw[aB zE])
 ·refine g8 ?_
  refine St.rV [_] [] ?_;exact ie (by unfold second;rw[aA zE])
theorem tU (p:List Int)(L:Nat)(rk:List Int)(d:rk.length=p.length)(e:p.length≤2000∧L≤4000)(bs a b:Nat)(c:Value)(i:Nat)(f:i<p.length):
 cX prog 146 ([iv i]++ [tW bs,tW a,tW b]).toArray [fx bs (iv L),fx a (iv p.length),fx b c,sl aI c rk] (iv (second p L (λi=>rk.getD i 0) i)):=Em p L rk d e bs a b c i f
theorem ZZ (a b:Int):XQ [a,b]=if a≠0 then a else b:=by
 unfold XQ XQ XQ
 split
 ·rfl
 ·split
  ·rfl
  ·omega
theorem Zn (a b:Int):bR (zm a b):=by unfold zm bR;split<;>(try split)<;>omega
theorem En (p:List Int)(L:Nat)(rk:List Int)(h:rk.length=p.length)(j:p.length≤2000∧L≤4000)(bs e d g:Nat)(f:Value)(a b:Nat)(k:a<p.length)(l:b<p.length):
 cX prog 147 #[iv a,iv b,tW d,tW g] [fx d f,fx g (.func (.func 146) #[] #[tW bs,tW e,tW d]),fx bs (iv L),fx e (iv p.length),sl aI f rk] (iv (YQ p L (λi=>rk.getD i 0) a b)):=by
 refine cX.WU (args:=[iv a,iv b,tW d,tW g]) 25 func147 rfl ntmps147 rfl (λc=> ?_);refine g6 ?_;refine St.qe [] mixed (λn o=> ?_);refine SW.gd 0 ?_;refine SW.gd 1 ?_;refine SW.gd 2 ?_;refine SW.dd 3 rfl (λ_=>Ev.ld1 (.mk rfl) (dm 0 zE) eK trivial rfl) ?_;refine SW.gd 4 ?_;refine SW.gd 5 ?_;refine SW.gd 6 ?_;refine SW.dd 7 rfl (λ_=>Ev.ld1 (.mk rfl) (dm 0 zE) eK trivial rfl) ?_;refine SW.dd 8 rfl (λ_=>Ev.call (nS _ _) mr (.ah rfl rfl)) ?_;refine SW.gd 9 ?_;refine SW.gd 10 ?_;refine SW.dd 11 rfl (λ_=>Ev.fg (tU p L rk h j bs e d f a k) Wj (.mk rfl) (.ay rfl)) ?_;refine SW.gd 12 ?_;refine SW.gd 13 ?_;refine SW.dd 14 rfl (λ_=>Ev.fg (tU p L rk h j bs e d f b l) Wj (.mk rfl) (.ay rfl)) ?_;refine SW.dd 15 rfl (λ_=>Ev.call (nS _ _) mr (.ah rfl rfl)) ?_;refine SW.t1 16 ?_;refine St.hS rfl (.ah rfl rfl) cP eL jF rfl rfl (by simp[Value.cells]) rfl rfl (λm=> ?_);refine g2 ?_;refine SW.go ?_;refine SW.t1 17 ?_;refine St.ee (Ev.qQ (TW _ [zm (rk.getD a 0) (rk.getD b 0),zm (second p L (λi=>rk.getD i 0) a) (second p L (λi=>rk.getD i 0) b)]) Ep (.ay rfl) (cm.row cm.nil rfl rfl rfl (by intro x hx;simp at hx;rcases hx with rfl|rfl<;>exact Zn _ _))) ?_;refine g2 ?_;refine SW.go ?_;refine SW.gd 18 ?_;refine SW.dn ?_;refine g2 ?_;refine St.rV [_] [] ?_;exact ie (by rw[ZZ];rfl)
end Go.Proofs.YtiefglecbgdaiaaGreatDoor
namespace Go.Proofs
open Go.Shelf
def Tryz.sY:Go.Shelf.Ren:=⟨λ|6=>173|14=>208|15=>94|20=>231|21=>232|22=>233|23=>234|24=>235|25=>236|26=>237|27=>238|28=>139|29=>140|46=>249|47=>190|48=>191|49=>250|50=>251|57=>254|n=>n,λ|0=>0|3=>3|4=>4|5=>5|9=>9|22=>35|24=>3|25=>237|39=>192|45=>246|46=>247|50=>157|53=>253|55=>123|66=>295|70=>299|76=>323|77=>324|n=>n,λ|n=>n⟩
theorem Tryz.qX:Go.Proofs.SlLaysF.n6 Tryz.prog Tryz.sY:={
 mixed:=by kernel_rfl
 f6:=⟨Tryz.f173.name,by decide,Tryz.func173.trans (congrArg some (by kernel_rfl))⟩
 f14:=⟨Tryz.f208.name,by decide,Tryz.func208.trans (congrArg some (by kernel_rfl))⟩
 f15:=Tryz.func94.trans (congrArg some (by kernel_rfl))
 f20:=⟨Tryz.f231.name,by decide,Tryz.func231.trans (congrArg some (by kernel_rfl))⟩
 f21:=⟨Tryz.f232.name,by decide,Tryz.func232.trans (congrArg some (by kernel_rfl))⟩
 f22:=⟨Tryz.f233.name,by decide,Tryz.func233.trans (congrArg some (by kernel_rfl))⟩
 f23:=⟨Tryz.f234.name,by decide,Tryz.func234.trans (congrArg some (by kernel_rfl))⟩
 f24:=⟨Tryz.f235.name,by decide,Tryz.func235.trans (congrArg some (by kernel_rfl))⟩
 f25:=⟨Tryz.f236.name,by decide,Tryz.func236.trans (congrArg some (by kernel_rfl))⟩
 f26:=⟨Tryz.f237.name,by decide,Tryz.func237.trans (congrArg some (by kernel_rfl))⟩
 f27:=⟨Tryz.f238.name,by decide,Tryz.func238.trans (congrArg some (by kernel_rfl))⟩
 f28:=Tryz.func139.trans (congrArg some (by kernel_rfl))
 f29:=Tryz.func140.trans (congrArg some (by kernel_rfl))
 f46:=⟨Tryz.f249.name,by decide,Tryz.func249.trans (congrArg some (by kernel_rfl))⟩
 f47:=Tryz.func190.trans (congrArg some (by kernel_rfl))
 f48:=Tryz.func191.trans (congrArg some (by kernel_rfl))
 f49:=⟨Tryz.f250.name,by decide,Tryz.func250.trans (congrArg some (by kernel_rfl))⟩
 f50:=⟨Tryz.f251.name,by decide,Tryz.func251.trans (congrArg some (by kernel_rfl))⟩
 f57:=⟨Tryz.f254.name,by decide,Tryz.func254.trans (congrArg some (by kernel_rfl))⟩
 t0:=u_0
 a0:=Tryz.isAgg0
 z0:=Tryz.sizeOf0
 v0:=Tryz.zeroValue0
 t3:=eK
 a3:=Tryz.isAgg3
 z3:=Tryz.sizeOf3
 v3:=Tryz.zeroValue3
 t4:=K3
 a4:=Tryz.isAgg4
 z4:=Tryz.sizeOf4
 v4:=Tryz.zeroValue4
 t5:=HI
 a5:=Tryz.isAgg5
 z5:=Tryz.sizeOf5
 v5:=Tryz.zeroValue5
 t9:=oc
 a9:=Tryz.isAgg9
 z9:=Tryz.sizeOf9
 v9:=Tryz.zeroValue9
 t22:=cP
 a22:=Tryz.isAgg35
 z22:=Tryz.sizeOf35
 v22:=Tryz.zeroValue35
 a24:=Tryz.isAgg3
 z24:=Tryz.sizeOf3
 t25:=Tryz.underlying237
 a25:=Tryz.isAgg237
 z25:=Tryz.sizeOf237
 v25:=Tryz.zeroValue237
 t39:=qp
 a39:=Tryz.isAgg192
 z39:=Tryz.sizeOf192
 v39:=Tryz.zeroValue192
 t45:=Tryz.underlying246
 a45:=Tryz.isAgg246
 z45:=Tryz.sizeOf246
 v45:=Tryz.zeroValue246
 t46:=Tryz.underlying247
 a46:=Tryz.isAgg247
 z46:=Tryz.sizeOf247
 v46:=Tryz.zeroValue247
 t50:=Tryz.underlying157
 a50:=Tryz.isAgg157
 z50:=Tryz.sizeOf157
 v50:=Tryz.zeroValue157
 t53:=Tryz.underlying253
 a53:=Tryz.isAgg253
 z53:=Tryz.sizeOf253
 v53:=Tryz.zeroValue253
 t55:=jw
 a55:=Tryz.isAgg123
 z55:=Tryz.sizeOf123
 v55:=Tryz.zeroValue123
 t66:=Tryz.underlying295
 a66:=Tryz.isAgg295
 z66:=Tryz.sizeOf295
 v66:=Tryz.zeroValue295
 t70:=Tryz.underlying299
 a70:=Tryz.isAgg299
 z70:=Tryz.sizeOf299
 v70:=Tryz.zeroValue299
 t76:=Tryz.underlying323
 a76:=Tryz.isAgg323
 z76:=Tryz.sizeOf323
 v76:=Tryz.zeroValue323
 t77:=Tryz.underlying324
 a77:=Tryz.isAgg324
 z77:=Tryz.sizeOf324
 v77:=Tryz.zeroValue324}
end Go.Proofs
namespace Go.Proofs.YtiefglecbgdaiaaGreatDoor
open Go Go.J Tryz
theorem Gs {n:Nat}{key:Nat→List Int}{cf:Nat→Nat→Int}(c:nT n key cf)(g:Nat)(d:aG prog g)(caps:List Value)(D:dQ)
 (e:∀a b,a<n→b<n→cX prog g ([iv a,iv b]++caps).toArray [D] (iv (cf a b))) (v:Value) (l0:List Nat) (f:l0.Perm (List.range n)) (h:n≤2000):
 dR prog 173 #[v,.func (.func g) #[] caps.toArray] ([D].map aD++ [row v 3 1 n (rows aI (ints l0))]) (λu H'=>u= .tuple #[]∧∃l:List Nat,l.Perm (List.range n)∧nU cf l∧H'=[row v 3 1 n (rows aI (ints l))]):=
 Aw Tryz.qX c g d caps D e v 3 l0 f zE
theorem D4 (p:List Int)(c:Nat)(d:Value)(a b:Nat)(e:a<p.length)(f:b<p.length):cX prog 143 ([iv a,iv b]++ [tW c]).toArray [fx c d,sl aI d p] (iv (zm (p.getD a 0) (p.getD b 0))):=Ek p c d a b e f
theorem D5 (l:List Nat)(rk:List Int)(a b:Nat)(c d:Value)(i:Nat)(e:i<rk.length)(f:0≤rk.getD i 0)(h1:rk.getD i 0<l.length):
 cX prog 144 ([iv i]++ [tW a,tW b]).toArray [fx a c,fx b d,sl aI c (ints l),sl aI d rk] (.bool (!decide (l.getD (rk.getD i 0).toNat 0=i))):=El l rk a b c d i e f h1
theorem D6 (p:List Int)(L:Nat)(rk:List Int)(g:rk.length=p.length)(h:p.length≤2000∧L≤4000)(bs d c e:Nat)(f:Value)(a b:Nat)(j:a<p.length)(k:b<p.length):
 cX prog 147 ([iv a,iv b]++ [tW c,tW e]).toArray [fx c f,fx e (.func (.func 146) #[] #[tW bs,tW d,tW c]),fx bs (iv L),fx d (iv p.length),sl aI f rk] (iv (YQ p L (λi=>rk.getD i 0) a b)):=
 En p L rk g h bs d c e f a b j k
structure BI (p:List Int)(L:Nat)(l:List Nat)(rk:List Int):Prop where
 pos:0<L
 top:L≤4000
 perm:l.Perm (List.range p.length)
 Zo:∃cf,nT p.length (pre p L) cf∧nU cf l∧yF cf l rk
theorem BI.len {p:List Int}{L:Nat}{l:List Nat}{rk:List Int}(h:BI p L l rk):l.length=p.length∧rk.length=p.length:=by
 obtain⟨cf,_,_,a⟩:=h.Zo
 have:=h.perm.length_eq
 rw[db]at this;exact⟨this,by rw[a.1,this]⟩
theorem BI.jD {p:List Int}{L:Nat}{l:List Nat}{rk:List Int}(h:BI p L l rk):Ck p L (λi=>rk.getD i 0):=by
 obtain⟨cf,h1,a,b⟩:=h.Zo;exact RC h1 h.perm a b
def CJ (l:List Nat)(rk:List Int)(z:Int):Bool:= !decide (l.getD (rk.getD z.toNat 0).toNat 0=z.toNat)
theorem BI.done {p:List Int}{L:Nat}{l:List Nat}{rk:List Int}(h:BI p L l rk)(ht:(ints l).any (CJ l rk)=false):qI p l:=by
 obtain⟨cf,h1,a,b⟩:=h.Zo
 refine Rq h1 h.perm a b λi c=> ?_
 have:=List.any_eq_false.1 ht (i:Int) (di c)
 simpa[CJ]using this
theorem BI.more {p:List Int}{L:Nat}{l:List Nat}{rk:List Int}(h:BI p L l rk)(ht:(ints l).any (CJ l rk)=true):L<p.length:=by
 obtain⟨cf,h1,a,b⟩:=h.Zo;obtain⟨z,hz,c⟩:=uq.1 ht;obtain⟨i,d,rfl⟩:=cA.1 hz;exact Rt h1 h.perm a b d (by simpa[CJ]using c)
theorem BI.next {p:List Int}{L:Nat}{l b:List Nat}{rk a:List Int}(h:BI p L l rk)(e:p.length≤2000)(f:L<p.length)(hp:b.Perm (List.range p.length))(c:nU (YQ p L (λi=>rk.getD i 0)) b)(d:yF (YQ p L (λi=>rk.getD i 0)) b a):BI p (L*2) b a:=
 ⟨by have:=h.pos;omega,by omega,hp,_,by rw[Nat.mul_two];exact Kc h.pos h.jD,c,d⟩
theorem wb (n:Nat)(z:n≤2000)(key:Nat→List Int)(cf:Nat→Nat→Int)(A:nT n key cf)(g:FuncId)(w:aG prog g)(caps:List Value)(D:dQ)(y:∀a b,a<n→b<n→cX prog g ([iv a,iv b]++caps).toArray [D] (iv (cf a b)))(e:Value)(l0:List Nat)(B:l0.Perm (List.range n)):
 dR prog 142 #[e,.func (.func g) #[] caps.toArray] ([D].map aD++ [row e 3 1 n (rows aI (ints l0))]) (λu H'=>∃(l:List Nat) (rk:List Int),l.Perm (List.range n)∧nU cf l∧yF cf l rk∧u.oneCell'=true∧H'=[row e 3 1 n (rows aI (ints l)),row u 3 1 n (rows aI rk)]):=by
 refine dR.body (args:=[e,.func (.func g) #[] caps.toArray]) 51 func142 rfl ntmps142 rfl (λc=> ?_);refine go ?_;refine St.cast (H':=[aD D,row e 3 1 n (rows aI (ints l0))]) rfl ?_;refine g8 ?_;refine St.Eo (ds:=[D]) (L:=[row e 3 1 n (rows aI (ints l0))]) (R:=_) (Gs A g w caps D y e l0 B z) Ws (.ah rfl rfl) (eF.agP) (dz.row dz.nil) (λu H' h=>by obtain⟨_,_,_,_,rfl⟩:=h;exact dz.row dz.nil) rfl ?_;rintro v10 _ ⟨_,l,hp,C,rfl⟩;refine St.Tg ?_
 have E:l.length=n:=by rw[hp.length_eq,db]
 refine g6 ?_;refine St.kr (m:=n) (.mk rfl) (.mk rfl) cP eL jF vD rfl rfl zE rfl rfl (λi=> ?_);refine g12 ?_;refine St.uQ (tO i n n) (show _=rows aI (List.replicate n 0)from(mK rfl _).symm) ?_;refine St.lH (ι:=Nat×List Int) (λx T=>(16,iv x.1)::T) (λx=>[row e 3 1 n (rows aI (ints l)),row (tO i n n) 3 1 n (rows aI x.2),aD D]) (λx=>x.1≤n∧x.2.length=n∧∀j,j<x.1→x.2.getD (l.getD j 0) 0=lK cf l j) (λx=>n-x.1) (0,List.replicate n 0) (aC.k6 0 1 4 5 14 15) ⟨aP _,by simp,λj F=>absurd F (Nat.not_lt_zero j)⟩ ?_;intro x G;obtain⟨hk,f,hinv⟩:=G;refine g6 ?_;refine St.cq (λr=> ?_) (λr=> ?_)
 ·have o:x.1<n:=by omega
  have p:=ib hp o
  refine g7 ?_;refine St.ee (Ev.cw (k:=x.1) (.mk rfl) (.mk rfl) cP eL zE zE) ?_;refine St.ee (Ev.cx (.mk rfl) eK trivial zE (RI zE)) ?_;refine g9 ?_;refine St.ee (Ev.cw (k:=(l.getD x.1 0)) (.mk rfl) (.mk rfl) cP eL zE p) ?_;refine St.bz (.mk rfl) (.mk rfl) eL rfl p (by decide) ?_;refine St.uQ (tO i n n) (oO _ _ _) ?_;refine g7 ?_;refine St.gt _ rfl rfl (λd=>Ev.move (.mk rfl)) rfl ?_;refine St.gt _ rfl rfl (λd=>Ev.move (.mk rfl)) rfl ?_;refine St.gt _ rfl rfl (λd=>Ev.move (.mk rfl)) rfl ?_;refine St.gt _ rfl rfl (λd=>Ev.sub (aX.gv rfl d) (.mk rfl) zE) rfl ?_;refine St.gt _ rfl rfl (λd=>Ev.cw (k:=(x.1-1)) (aX.gv rfl d) (aX.gv rfl d) cP eL (by first|omega|(simp only[bj]at d;omega)) zE) rfl ?_;refine St.gt _ rfl rfl (λd=>Ev.cx (aX.gv rfl d) eK trivial zE (RI zE)) rfl ?_;refine St.gt _ rfl rfl (λd=>Ev.move (.mk rfl)) rfl ?_;refine St.gt _ rfl rfl (λd=>Ev.fg (y (l.getD (x.1-1) 0) (l.getD x.1 0) (ib hp zE) p) w (aX.gv rfl d) (.cons (aX.gv rfl d) (.cons (aX.gv rfl d) .nil))) rfl ?_;refine St.gt _ rfl rfl (λd=>Ev.eql (aX.gv rfl d) (.mk rfl)) rfl ?_;refine g3 ?_;refine St.cq (λs=> ?_) (λs=> ?_)
  ·have t:=ib hp (show x.1-1<n by omega)
   have v:0<x.1∧cf (l.getD (x.1-1) 0) (l.getD x.1 0)=0:=⟨by omega,s.2⟩
   refine g7 ?_;refine St.ee (Ev.cw (k:=(x.1-1)) (.mk rfl) (.mk rfl) cP eL zE zE) ?_;refine St.ee (Ev.cx (.mk rfl) eK trivial zE (RI zE)) ?_;refine St.ee (Ev.cw (k:=(l.getD (x.1-1) 0)) (.mk rfl) (.mk rfl) cP eL zE t) ?_;refine St.ee (Ev.cx (.mk rfl) eK trivial t (afT (by rw[eC,f];exact t))) ?_;refine St.ee (Ev.cw (k:=(l.getD x.1 0)) (.mk rfl) (.mk rfl) cP eL zE p) ?_;refine St.bz (.mk rfl) (.mk rfl) eL rfl p (by decide) ?_;refine St.uQ (tO i n n) (oO _ _ _) ?_;refine g8 ?_;refine St.aH (x.1+1,((x.2.set (l.getD x.1 0) (x.1:Int)).set (l.getD x.1 0) ((x.2.set (l.getD x.1 0) (x.1:Int)).getD (l.getD (x.1-1) 0) 0))) ⟨o,by simp[f],RB hp o f hinv v⟩
  ·have v:¬(0<x.1∧cf (l.getD (x.1-1) 0) (l.getD x.1 0)=0):=by rintro ⟨I,H⟩;rcases s with q|q;omega;exact q H
   refine g8 ?_;refine St.aH (x.1+1,x.2.set (l.getD x.1 0) (x.1:Int)) ⟨o,by simp[f],RA hp o f hinv v⟩
 ·refine g12 ?_
  refine St.rV [_] [row e 3 1 n (rows aI (ints l)),row (tO i n n) 3 1 n (rows aI x.2)] ?_;exact⟨l,x.2,hp,C,⟨by rw[f,E],λk hk=>hinv k zE⟩,rfl,rfl⟩
theorem BI.wf {p:List Int}{L:Nat}{l:List Nat}{rk:List Int}(h:BI p L l rk)(c:p.length≤2000):∀x∈rk,aI.wf x:=by
 intro x hx;obtain⟨i,a,rfl⟩:=lB.1 hx
 have b:=h.jD.pos i (by rw[←h.len.2];exact a)
 simp only[List.getD_eq_getElem?_getD,List.getElem?_eq_getElem a,Option.getD_some]at b
 show bR rk[i]
 unfold bR;omega
theorem BI.mem {p:List Int}{L:Nat}{l:List Nat}{rk:List Int}(h:BI p L l rk){i:Nat}(a:i∈l):i<p.length:=cU.1 (h.perm.mem_iff.1 a)
theorem W4 {p:List Int}{L:Nat}{l:List Nat}{rk:List Int}(h:BI p L l rk)(a b:Nat)(c d:Value):
 ∀x∈ints l,cX prog 144 ([iv x]++ [tW a,tW b]).toArray [eY [fx a c,fx b d,sl aI c (ints l),sl aI d rk]] (.bool (CJ l rk x)):=by
 intro x hx;obtain⟨i,g,rfl⟩:=cA.1 hx
 have e:=h.mem g
 have f:=h.jD.pos i e
 exact(D5 l rk a b c d i (by rw[h.len.2];exact e) f.1 (by rw[h.len.1];exact f.2)).all
theorem BI.init {p:List Int}{l:List Nat}{rk:List Int}(hp:l.Perm (List.range p.length))(a:nU (λi j=>zm (p.getD i 0) (p.getD j 0)) l)(b:yF (λi j=>zm (p.getD i 0) (p.getD j 0)) l rk):BI p 1 l rk:=
 ⟨by omega,by omega,hp,_,Kb,a,b⟩
theorem yV (v0:Value)(p:List Int)(i:p.length≤2000):dR prog 97 #[v0] ([sl aI v0 p].map aD) (λu H'=>∃l:List Nat,qI p l∧u.oneCell'=true∧H'=[row u 3 1 p.length (rows aI (ints l))]):=by
 refine dR.body (args:=[v0]) 39 func97 rfl ntmps97 rfl (λc=> ?_);refine go ?_;refine St.cast (H':=[aD (sl aI v0 p)]) rfl ?_;refine St.wf v0 (λP hlen=> ?_);refine St.shape v0 (λad Q F _=> ?_)
 have s:v0.oneCell'=true:=by rw[F];rfl
 refine go ?_;refine St.Ej (.mk rfl) s rfl (λj=> ?_);refine g7 ?_;refine St.al (λg=> ?_);refine St.bL (.mk rfl) (.mk rfl) eL rfl (by rfl) ?_;refine g5 ?_;refine St.kr (m:=p.length) (.mk rfl) (.mk rfl) cP eL jF vD rfl rfl zE rfl rfl (λd=> ?_);refine St.al (λn=> ?_);refine St.bL (.mk rfl) (.mk rfl) jm rfl (by rfl) ?_;refine g11 ?_;refine St.uQ (tO d p.length p.length) (show _=rows aI (pE p.length 0) by rw[Fe];exact(mK rfl _).symm) ?_;refine St.lH (ι:=Nat) (λk T=>(16,iv k)::T) (λk=>[row (tO d p.length p.length) 3 1 p.length (rows aI (pE p.length k)),tI n [(tO d p.length p.length)] 35,tI g [iv p.length] 3,tI j [v0] 35,aD (sl aI v0 p)]) (λk=>k≤p.length) (λk=>p.length-k) 0 (aC.k5 1 2 3 4 15) (aP _) ?_;intro k D;refine g6 ?_;refine St.cq (λt=> ?_) (λt=> ?_)
 ·refine g15 ?_
  refine St.bz (.mk rfl) (.mk rfl) eL rfl zE (by decide) ?_;refine St.uQ (tO d p.length p.length) ((oO _ _ _).trans (congrArg (rows aI) (J2 zE))) ?_;refine g8 ?_;refine St.aH (k+1) zE
 ·refine g6 ?_
  refine St.uQ (tO d p.length p.length) (congrArg (rows aI) (J1 (show p.length≤k by omega))) ?_;refine g2 ?_;refine St.ee (Ev.func (.ay rfl)) ?_;refine St.Eo (ds:=[eY [fx j v0,sl aI v0 p]]) (L:=[row (tO d p.length p.length) 3 1 p.length (rows aI (ints (List.range p.length)))]) (R:=_) (wb p.length i (pre p 1) _ Kb 143 ab4 [tW j] (eY [fx j v0,sl aI v0 p]) (λa b v w=>(D4 p j v0 a b v w).all) (tO d p.length p.length) (List.range p.length) (List.Perm.refl _)) Wh (.ah rfl rfl) (eF.eY (eF.aU (eF.aD eF.nil))) (dz.row dz.nil) (λu H' h=>by obtain⟨_,_,_,_,_,_,rfl⟩:=h;exact dz.row (dz.row dz.nil)) rfl ?_;rintro v26 _ ⟨l0,y,G,A,H,h1,rfl⟩;refine St.Tg ?_;refine St.al (λf=> ?_);refine St.bL (.mk rfl) (.mk rfl) jm h1 (by rfl) ?_;refine g4 ?_;refine St.ee (Ev.func (.ah rfl rfl)) ?_;refine g6 ?_;refine St.al (λq=> ?_);refine St.bL (.mk rfl) (.mk rfl) eL rfl (by rfl) ?_;refine g3 ?_;refine St.pb (ι:=Nat×List Nat×List Int) (κ:=Value×Nat) (λx z T=>(8,Value.pointer (some ⟨z.2,0,none⟩))::T) (λx z=>[tI f [z.1] 35,row z.1 3 1 p.length (rows aI x.2.2),aU z.2 (.cells [iv x.1].toArray 3 (0,0)),row (tO d p.length p.length) 3 1 p.length (rows aI (ints x.2.1)),tI n [(tO d p.length p.length)] 35,tI g [iv p.length] 3,tI j [v0] 35,aD (sl aI v0 p)]) (λx z=>BI p x.1 x.2.1 x.2.2∧z.1.oneCell'=true) (λx z=>2*p.length-x.1) (1,l0,y) (v26,q) (aC.k5 2 3 4 6 7) ⟨BI.init G A H,h1⟩ ?_;intro x z D;obtain⟨e,S⟩:=D
  have o:=e.len
  have I:=e.top
  have U:=e.pos
  refine g5 ?_;refine St.ee (Ev.qQ (tF (tO d p.length p.length) (ints x.2.1) 144 ab5 [tW n,tW f] (eY [fx n (tO d p.length p.length),fx f z.1,sl aI (tO d p.length p.length) (ints x.2.1),sl aI z.1 x.2.2]) (CJ x.2.1 x.2.2) (W4 e n f (tO d p.length p.length) z.1)) Wi (.ah rfl rfl) (cm.row (cm.eY (cm.aU (cm.aU (cm.row (cm.row cm.nil rfl rfl o.2.symm (e.wf i)) rfl rfl (by rw[bO,o.1]) (M3 e.perm zE))))) rfl rfl (by rw[bO,o.1]) (M3 e.perm zE))) ?_;refine g2 ?_;refine St.cond _ rfl (λB=> ?_) (λB=> ?_)
  ·skip
   have J:=e.more B
   refine g6 ?_;refine St.ee (Ev.func (.fk rfl rfl rfl)) ?_;refine St.al (λr=> ?_);refine St.bL (.mk rfl) (.mk rfl) af0 rfl (by rfl) ?_;refine g4 ?_;refine St.ee (Ev.func (.ah rfl rfl)) ?_;refine St.Eo (ds:=[eY [fx f z.1,fx r (.func (.func 146) #[] #[Value.pointer (some ⟨z.2,0,none⟩),tW g,tW f]),fx z.2 (iv x.1),fx g (iv p.length),sl aI z.1 x.2.2]]) (L:=[row (tO d p.length p.length) 3 1 p.length (rows aI (ints x.2.1))]) (R:=_) (wb p.length i (pre p (x.1+x.1)) _ (Kc e.pos e.jD) 147 ab6 [tW f,tW r] (eY [fx f z.1,fx r (.func (.func 146) #[] #[Value.pointer (some ⟨z.2,0,none⟩),tW g,tW f]),fx z.2 (iv x.1),fx g (iv p.length),sl aI z.1 x.2.2]) (λa b v w=>(D6 p x.1 x.2.2 o.2 ⟨i,I⟩ z.2 g f r z.1 a b v w).all) (tO d p.length p.length) x.2.1 e.perm) Wh (.ah rfl rfl) (eF.eY (eF.aU (eF.aU (eF.aU (eF.aU (eF.row eF.nil rfl rfl o.2.symm (e.wf i))))))) (dz.row dz.nil) (λu H' h=>by obtain⟨_,_,_,_,_,_,rfl⟩:=h;exact dz.row (dz.row dz.nil)) rfl ?_;rintro v36 _ ⟨K,C,M,N,O,E,rfl⟩;refine St.Tg ?_;refine St.bL (.mk rfl) (.mk rfl) jm E (by rfl) ?_;refine g10 ?_;refine St.al (λq=> ?_);refine St.bL (.mk rfl) (.mk rfl) eL rfl (by rfl) ?_;refine g4 ?_;refine St.ee (Ev.mul (.mk rfl) (.mk rfl) zE) ?_;refine St.bL (.mk rfl) (.mk rfl) eL rfl (by rfl) ?_;refine g2 ?_;refine St.jq q [iv ((x.1*2:Nat):Int)] (by rw[Int.natCast_mul];rfl) ?_;refine St.lC (x.1*2,K,C) (v36,q) ⟨e.next i J M N O,E⟩ (by show 2*p.length-x.1*2<2*p.length-x.1;omega) (by repeat(first|exact Sub.nil|refine Sub.cons (by first|rfl|exact congrArg (λz=>some (iv z)) (by first|omega|(dsimp only;omega))|exact congrArg (λz=>some (Value.bool z)) (by first|assumption|exact ke (by assumption))) ?_)) (λ_ hw=>hw.sub)
  ·skip
   refine g12 ?_;refine St.rV [_] [row (tO d p.length p.length) 3 1 p.length (rows aI (ints x.2.1))] ?_;exact⟨x.2.1,e.done B,rfl,rfl⟩
theorem yz {l:List Nat}(h:∀i∈l,i≤9223372036854775807):∀x∈ints l,aI.wf x:=by
 intro x hx;obtain⟨i,a,rfl⟩:=cA.1 hx
 have:=h i a
 show bR (i:Int)
 unfold bR;omega
theorem Vw {p:List Int}{i:Nat}(a:i∈dh p):i<p.length:=cU.1 ((kV p).1.mem_iff.1 a)
theorem y7 (p:List Int):(dh p).length=p.length:=by rw[(kV p).1.length_eq,db]
theorem Ru {p:List Int}(h:p.length≤4611686018427387904):∀x∈ints (dh p),aI.wf x:=yz λi a=>by have:=Vw a;omega
noncomputable def bld (p:List Int):List Nat:=if(fG p).1=0 then dh p else []
noncomputable def pY (p ord:List Int):Int×Int:=if(fG p).1≠0 then fG p else if ord=ints (dh p)then(0,0)else(5,-2)
theorem WT {p:List Int}(h:(fG p).1=0):bld p=dh p:=by unfold bld;rw[aB h]
theorem abG {p:List Int}(h:(fG p).1≠0):bld p=[]:=by unfold bld;rw[aA h]
theorem KR {p ord:List Int}(h:(fG p).1≠0):pY p ord=fG p:=by unfold pY;rw[aB h]
theorem KS {p ord:List Int}(h:(fG p).1=0)(a:ord≠ints (dh p)):pY p ord=(5,-2):=by unfold pY;rw[aA zE,aA a]
theorem D2 {p ord:List Int}(h:(fG p).1=0)(a:ord=ints (dh p)):pY p ord=(0,0):=by unfold pY;rw[aA zE,aB a]
theorem Oo {p ord:List Int}(h:(pY p ord).1=0):(fG p).1=0∧ord=ints (dh p):=by
 by_cases h1:(fG p).1=0
 ·refine⟨h1,?_⟩
  apply Decidable.byContradiction
  intro a
  rw[KS h1 a]at h;cases h
 ·rw[KR h1]at h;exact absurd h h1
theorem ints_set (l:List Nat)(k x:Nat):(ints l).set k (x:Int)=ints (l.set k x):=by
 show(l.map _).set k _=(l.set k x).map _
 rw[k9]
theorem NN (l:List Nat)(k x:Nat):(rows aI (ints l)).set (k*1+0) (iv (x:Nat))=rows aI (ints (l.set k x)):=by rw[oO,ints_set]
theorem Ay (v0:Value)(p:List Int):dR prog 52 #[v0] ([sl aI v0 p].map aD) (λu H'=>∃a:Value,u= .tuple #[a,fv (fG p)]∧a.oneCell'=true∧H'=[row a 3 1 (bld p).length (rows aI (ints (bld p)))]):=by
 refine dR.body (args:=[v0]) 14 func52 rfl ntmps52 rfl (λc=> ?_);refine go ?_;refine St.cast (H':=[aD (sl aI v0 p)]) rfl ?_;refine St.wf v0 (λi hlen=> ?_);refine g2 ?_;refine St.al (λg=> ?_);refine g6 ?_;refine St.ee (Ev.call (sG v0 p) ac4 (.ay rfl)) ?_;refine St.al (λj=> ?_);refine g10 ?_;refine St.cq (λd=> ?_) (λd=> ?_)
 ·refine go ?_
  refine St.qe [g] mixed (λk m=> ?_);refine SW.gd 0 ?_;refine SW.gd 1 ?_;refine SW.t1 2 ?_;refine g3 ?_;refine SW.go ?_;refine SW.dn ?_;refine g3 ?_;refine St.dH 3 1 ?_;refine St.rV [_,_] [row (.slice none 0 0) 3 1 0 []] ?_
  rw[abG d];exact⟨_,rfl,rfl,rfl⟩
 ·have f:=vj (p:=p) zE
  refine g5 ?_;refine St.dt (yV v0 p f.1) ac5 (.ay rfl) rfl ?_;rintro v12 _ ⟨l,b,h,rfl⟩;refine St.eZ ?_;refine St.ee (Ev.build (bC.nil) (λw=>fC w)) ?_;refine g5 ?_;refine St.rV [_,_] [row v12 3 1 p.length (rows aI (ints l))] ?_
  have e:=Gz b
  rw[WT zE,f.2,←e];exact⟨_,rfl,h,by rw[e,y7]⟩
theorem Hm (v0 v1:Value)(a b:List Int):cX prog 199 #[v0,v1] [sl aI v0 a,sl aI v1 b] (.bool (decide (a=b))):=by
 refine cX.lj (args:=[v0,v1]) 26 func199 rfl ntmps199 rfl (λc=> ?_);refine go ?_;refine St.wf v0 (λf l=> ?_);refine St.wf v1 (λg m=> ?_);refine g14 ?_;refine St.cq (λh=> ?_) (λh=> ?_)
 ·refine g7 ?_
  refine St.rV [_] [] ?_;exact be (by rw[eq_comm,wH];rintro rfl;omega)
 ·refine g11 ?_
  refine St.lS (ι:=Nat) (λk T=>(13,iv k)::T) (λk=>k≤a.length∧a.take k=b.take k) (λk=>a.length-k) 0 (aC.k3 0 1 12) ⟨aP _,rfl⟩ ?_;intro k i;obtain⟨hk,d⟩:=i;refine g6 ?_;refine St.cq (λj=> ?_) (λj=> ?_)
  ·refine g11 ?_
   refine St.rq mixed (by kernel_rfl) (Mm.drawn _ _) ?_;refine g2 ?_;refine Sq.ee (Ev.cM (.mk rfl) (.mk rfl) cP eL rfl zE) ?_;refine Sq.ee (Ev.ld1 (.mk rfl) (by first|assumption|exact dm 0 zE) eK trivial rfl) ?_;refine g2 ?_;refine Sq.ee (Ev.cM (.mk rfl) (.mk rfl) cP eL rfl zE) ?_;refine Sq.ee (Ev.ld1 (.mk rfl) (by first|assumption|exact dm 0 zE) eK trivial rfl) ?_;refine g3 ?_;refine St.cq (λe=> ?_) (λe=> ?_)
   ·refine g11 ?_
    refine St.rV [_] [] ?_;exact be (by rw[eq_comm,wH];rintro rfl;exact e rfl)
   ·refine g8 ?_
    refine St.aS (k+1) ⟨by omega,by rw[aO (dm 0 (show k<a.length by omega)),aO (dm 0 (show k<b.length by omega)),d,show a.getD k 0=b.getD k 0 by omega]⟩
  ·refine g11 ?_
   refine St.rV [_] [] ?_;exact be (by rw[eq_comm,eJ];rw[dV zE,dV zE]at d;exact d)
theorem MS (v0 v1:Value)(p ord:List Int):cX prog 151 #[v0,v1] [sl aI v0 p,sl aI v1 ord] (fv (pY p ord)):=by
 refine cX.lj (args:=[v0,v1]) 19 func151 rfl ntmps151 rfl (λc=> ?_);refine g2 ?_;refine St.al (λi=> ?_);refine g6 ?_;refine St.ee (Ev.call (sG v0 p) ac4 (.ay rfl)) ?_;refine St.al (λj=> ?_);refine g10 ?_;refine St.cq (λf=> ?_) (λf=> ?_)
 ·refine g8 ?_
  refine St.rV [_] [] ?_;exact fe (KR f)
 ·have g:=vj (p:=p) zE
  refine g7 ?_;refine St.dt (yV v0 p g.1) ac5 (.ay rfl) rfl ?_;rintro a _ ⟨l,b,k,rfl⟩;refine St.eZ ?_
  have e:=Gz b
  have h:=y7 p
  refine St.bI a aI (ints l) rfl (by rw[bO,e,h]) (by rw[e];exact Ru zE) ?_;rw[e];refine St.ee (Ev.call (Hm v1 a ord (ints (dh p))) acJ (.ah rfl rfl)) ?_;refine g3 ?_;refine St.cq (λd=> ?_) (λd=> ?_)
  ·refine g2 ?_
   refine St.ee (Ev.build (bC.ah rfl rfl) (λw=>dJ rfl rfl w)) ?_;refine g5 ?_;refine St.rV [_] [] ?_;exact fe (KS zE d)
  ·refine g4 ?_
   refine St.ee (Ev.build (bC.nil) (λw=>fC w)) ?_;refine g4 ?_;refine St.rV [_] [] ?_;exact fe (D2 zE d)
theorem L8:∀a b:List Int,Fv a b=jA kf a b
 | [],[]=>rfl
 | [],_::_=>rfl
 |_::_,[]=>rfl
 |x::a,y::b=>by rw[Fv,jA,L8 a b];rfl
theorem rj (v0 v1:Value)(a b:List Int):cX prog 124 #[v0,v1] [sl aI v0 a,sl aI v1 b] (iv (Fv a b)):=(by rw[L8];exact ri v0 v1 a b)
theorem wN (n:Nat)(v:n≤4000)(q:Nat→Bool)(h:∀a b,a≤b→b<n→q a=true→q b=true)(g:FuncId)(l:aG prog g)(caps:List Value)(D:dQ)(m:∀k,k<n→cX prog g ([iv k]++caps).toArray [D] (.bool (q k))):
 cX prog 153 #[iv n,.func (.func g) #[] caps.toArray] [D] (iv ((List.range n).countP (λk=> !q k):Nat)):=by
 refine cX.l6 (args:=[iv n,.func (.func g) #[] caps.toArray]) 26 func153 rfl ntmps153 rfl (λc=> ?_);refine g14 ?_;refine St.lS (ι:=Nat×Nat) (λx T=>(5,iv x.1)::(6,iv x.2)::T) (λx=>x.1≤x.2∧x.2≤n∧(∀k,k<x.1→q k=false)∧(∀k,x.2≤k→k<n→q k=true)) (λx=>x.2-x.1) (0,n) (aC.k2 1 4) ⟨aP _,aQ _,λk hk=>absurd hk (Nat.not_lt_zero k),λk h1 e=>by omega⟩ ?_;intro x o;obtain⟨w,p,i,j⟩:=o;refine g8 ?_;refine St.cq (λf=> ?_) (λf=> ?_)
 ·have r:x.1≤(x.1+x.2)/2:=by omega
  have s:(x.1+x.2)/2<x.2:=by omega
  refine g8 ?_;refine St.ee (Ev.IM ((x.1+x.2)) (.mk rfl) (by rw[eK];rfl) qp zE) ?_;refine St.ee (Ev.Rf 1 2 (by decide) (.mk rfl) (.mk rfl) (by decide)) ?_;refine St.ee (Ev.IP (.mk rfl) (by rw[qp];rfl) eK zE) ?_;refine g7 ?_;refine St.ee (Ev.fg (m ((x.1+x.2)/2) zE) l (.mk rfl) (.ay rfl)) ?_;refine g3 ?_;refine St.cond _ rfl (λd=> ?_) (λd=> ?_)
  ·simp only[Bool.not_eq_true',Bool.not_eq_false']at d
   refine g7 ?_
   have t:∀k,k<(x.1+x.2)/2+1→q k=false:=by
    intro k hk
    cases u:q k with
    |false=>rfl
    |true=>have:=h k ((x.1+x.2)/2) zE zE u;rw[d]at this;cases this
   refine St.aS ((x.1+x.2)/2+1,x.2) ⟨s,p,t,j⟩
  ·simp only[Bool.not_eq_true',Bool.not_eq_false']at d
   refine g6 ?_;refine St.aS (x.1,(x.1+x.2)/2) ⟨r,by omega,i,λk h1 e=>h ((x.1+x.2)/2) k h1 e d⟩
 ·refine g12 ?_
  refine St.rV [_] [] ?_;exact ie (by rw[Je zE i (λk h1 e=>j k zE e)])
theorem IX (v0 v2:Value)(p part:List Int)(d:p.length≤2000)(e:part.length≤4611686018427387904)(a b:Nat)(i:Nat)(f:i<p.length):cX prog 152 #[iv i,tW a,tW b] [fx a v0,fx b v2,sl aI v0 p,sl aI v2 part] (mX v0 1 i (min p.length (i+part.length))):=by
 refine cX.BN (args:=[iv i,tW a,tW b]) 15 func152 rfl ntmps152 rfl (λc=> ?_);refine g15 ?_;refine St.ee (Ev.ZS (.mk rfl) (.mk rfl)) ?_;refine St.ee (Ev.La (l:=i) (h:=(min p.length (i+part.length))) (.mk rfl) (.mk rfl) (.mk rfl) cP eL zE zE zE zE) ?_;refine g4 ?_;refine St.rV [_] [] ?_;rfl
theorem wS (v0 v2:Value)(p part:List Int)(c:p.length≤2000)(d:part.length≤4611686018427387904)(a b:Nat)(i:Nat)(e:i<p.length):cX prog 152 ([iv i]++ [tW a,tW b]).toArray [fx a v0,fx b v2,sl aI v0 p,sl aI v2 part] (mX v0 1 i (min p.length (i+part.length))):=IX v0 v2 p part c d a b i e
theorem IY (v0 v1 v2:Value)(p part:List Int)(l:List Nat)(g:p.length≤2000)(h:part.length≤4611686018427387904)(f:l.Perm (List.range p.length))(b a d e:Nat)(k:Nat)(hk:k<l.length):
 cX prog 154 #[iv k,tW d,tW e,tW a] [fx d (.func (.func 152) #[] #[tW b,tW a]),fx e v1,fx a v2,fx b v0,sl aI v0 p,sl aI v1 (ints l),sl aI v2 part] (.bool (!eb (pre p part.length (l.getD k 0)) part)):=by
 refine cX.WV (args:=[iv k,tW d,tW e,tW a]) 15 func154 rfl ntmps154 rfl (λc=> ?_);refine g6 ?_
 have m:l.length=p.length:=by rw[f.length_eq,db]
 have i:=ib f (show k<p.length by omega)
 have j:=bO l
 have n:(ints l)[k]?=some ((l.getD k 0:Nat):Int):=by rw[dm 0 (show k<(ints l).length by omega),oI]
 refine St.part v0 (l.getD k 0) (min p.length (l.getD k 0+part.length)) zE zE ?_;rw[show aI.size=1 from rfl,LS (show l.getD k 0≤p.length by omega)];refine St.rq mixed (by kernel_rfl) (Mm.drawn _ _) ?_;refine g5 ?_;refine Sq.ee (Ev.fg (wS v0 v2 p part g h b a (l.getD k 0) i) Wk (.mk rfl) (.ay rfl)) ?_;refine go ?_;refine Sq.ee (Ev.call (rj (mX v0 1 (l.getD k 0) (min p.length (l.getD k 0+part.length))) v2 (pre p part.length (l.getD k 0)) part) Oy (.ah rfl rfl)) ?_;refine g5 ?_;refine St.rV [_] [] ?_;exact be (L9 _ _)
theorem IZ (v0 v1 v2:Value)(p part:List Int)(l:List Nat)(g:p.length≤2000)(h:part.length≤4611686018427387904)(f:l.Perm (List.range p.length))(b a d e:Nat)(k:Nat)(hk:k<l.length):
 cX prog 155 #[iv k,tW d,tW e,tW a] [fx d (.func (.func 152) #[] #[tW b,tW a]),fx e v1,fx a v2,fx b v0,sl aI v0 p,sl aI v1 (ints l),sl aI v2 part] (.bool (eb part (pre p part.length (l.getD k 0)))):=by
 refine cX.WV (args:=[iv k,tW d,tW e,tW a]) 15 func155 rfl ntmps155 rfl (λc=> ?_);refine g6 ?_
 have m:l.length=p.length:=by rw[f.length_eq,db]
 have i:=ib f (show k<p.length by omega)
 have j:=bO l
 have n:(ints l)[k]?=some ((l.getD k 0:Nat):Int):=by rw[dm 0 (show k<(ints l).length by omega),oI]
 refine St.part v0 (l.getD k 0) (min p.length (l.getD k 0+part.length)) zE zE ?_;rw[show aI.size=1 from rfl,LS (show l.getD k 0≤p.length by omega)];refine St.rq mixed (by kernel_rfl) (Mm.drawn _ _) ?_;refine g5 ?_;refine Sq.ee (Ev.fg (wS v0 v2 p part g h b a (l.getD k 0) i) Wk (.mk rfl) (.ay rfl)) ?_;refine go ?_;refine Sq.ee (Ev.call (rj (mX v0 1 (l.getD k 0) (min p.length (l.getD k 0+part.length))) v2 (pre p part.length (l.getD k 0)) part) Oy (.ah rfl rfl)) ?_;refine g5 ?_;refine St.rV [_] [] ?_;exact be (LA _ _)
end Go.Proofs.YtiefglecbgdaiaaGreatDoor
namespace Go.J
open Go Go.Proofs Go.Shelf Go.RowKit Go.Lib Go.Sort
theorem Jj {P:Program}{tD:Ren}(L:SlLaysM.n5 P tD)(v:Value)(e:TypeId)(xs:List Int)(hlen:xs.length<4611686018427387904):
 dR P (tD.f 5) #[v] [row v e 1 xs.length (rows aI xs)] (λu H'=>u= .tuple #[]∧H'=[row v e 1 xs.length (rows aI (xs.mergeSort λx y=>decide (x≤y)))]):=by
 intro w ρ b
 have st:Start (([]:List dQ).map aD++ [row v e 1 xs.length (xs.map (Value.int .i64))]) ρ w:=by
  rw[gN]at b;exact b
 have hO:j0 [row v e 1 xs.length (rows aI xs)]=j0 (([]:List dQ).map aD++ [row v e 1 xs.length (xs.map (Value.int .i64))]):=by rw[gN];rfl
 rw[hO]
 have h:=dP.1 (st.dC _ (iY _ (pq _)))
 have none:∀(p:Option Addr) (cap:Nat),v= .slice p 0 cap→xs=[]→Calls P (tD.f 5) #[v] w λi w'=>∃c H',i= .returned c∧
  (c= .tuple #[]∧H'=[row v e 1 xs.length (rows aI (xs.mergeSort λx y=>decide (x≤y)))])∧Mm ⟨w,ρ,j0 (([]:List dQ).map aD++ [row v e 1 xs.length (xs.map (Value.int .i64))]),True⟩ H' w':=by
  intro p cap a d
  have g:=AnyM.slices_Sort_int_none (P:=P) (ρ:=tD) L p cap w
  rw[←a]at g;refine g.mono ?_;rintro j w' ⟨rfl,rfl⟩;refine⟨_,_,rfl,⟨rfl,rfl⟩,?_⟩;rw[gN,d,show([]:List Int).mergeSort (λx y=>decide (x≤y))=[]from List.mergeSort_nil];rw[d]at st;exact st.stays
 rcases h.2 with⟨a,k⟩|⟨g0,cap,cur,a,_,l,m,o,q,r⟩
 ·exact none _ _ a (gg k)
 ·by_cases hz:xs.length=0
  ·rw[hz]at a;exact none _ _ a (gg hz)
  ·obtain⟨hH,hblk,hle,s⟩:=Start.sorted st a l m o q r
   have main:=AnyM.slices_Sort_int L g0 0 cap xs w hH hblk hlen
   rw[←a]at main;refine main.mono ?_;rintro j w' ⟨rfl,n,os,rfl⟩;refine⟨_,_,rfl,⟨rfl,rfl⟩,?_⟩;rw[gN]
   have:=s n (xs.mergeSort λx y=>decide (x≤y)).toArray os (by simp)
   exact this
end Go.J
namespace Go.Proofs
open Go.Shelf
def Tryz.sZ:Go.Shelf.Ren:=⟨λ|5=>157|7=>200|8=>94|10=>220|11=>221|12=>222|13=>223|14=>224|15=>225|16=>226|17=>227|18=>228|19=>139|20=>140|30=>246|31=>190|32=>191|33=>247|34=>248|35=>187|40=>253|n=>n,λ|0=>0|3=>3|4=>4|5=>5|9=>9|22=>35|25=>3|23=>35|32=>192|35=>246|36=>247|41=>157|44=>253|46=>123|53=>295|57=>299|63=>323|64=>324|n=>n,λ|n=>n⟩
theorem Tryz.zC:Go.Proofs.SlLaysM.n5 Tryz.prog Tryz.sZ:={
 mixed:=by kernel_rfl
 f5:=⟨Tryz.f157.name,by decide,Tryz.func157.trans (congrArg some (by kernel_rfl))⟩
 f7:=⟨Tryz.f200.name,by decide,Tryz.func200.trans (congrArg some (by kernel_rfl))⟩
 f8:=Tryz.func94.trans (congrArg some (by kernel_rfl))
 f10:=⟨Tryz.f220.name,by decide,Tryz.func220.trans (congrArg some (by kernel_rfl))⟩
 f11:=⟨Tryz.f221.name,by decide,Tryz.func221.trans (congrArg some (by kernel_rfl))⟩
 f12:=⟨Tryz.f222.name,by decide,Tryz.func222.trans (congrArg some (by kernel_rfl))⟩
 f13:=⟨Tryz.f223.name,by decide,Tryz.func223.trans (congrArg some (by kernel_rfl))⟩
 f14:=⟨Tryz.f224.name,by decide,Tryz.func224.trans (congrArg some (by kernel_rfl))⟩
 f15:=⟨Tryz.f225.name,by decide,Tryz.func225.trans (congrArg some (by kernel_rfl))⟩
 f16:=⟨Tryz.f226.name,by decide,Tryz.func226.trans (congrArg some (by kernel_rfl))⟩
 f17:=⟨Tryz.f227.name,by decide,Tryz.func227.trans (congrArg some (by kernel_rfl))⟩
 f18:=⟨Tryz.f228.name,by decide,Tryz.func228.trans (congrArg some (by kernel_rfl))⟩
 f19:=Tryz.func139.trans (congrArg some (by kernel_rfl))
 f20:=Tryz.func140.trans (congrArg some (by kernel_rfl))
 f30:=⟨Tryz.f246.name,by decide,Tryz.func246.trans (congrArg some (by kernel_rfl))⟩
 f31:=Tryz.func190.trans (congrArg some (by kernel_rfl))
 f32:=Tryz.func191.trans (congrArg some (by kernel_rfl))
 f33:=⟨Tryz.f247.name,by decide,Tryz.func247.trans (congrArg some (by kernel_rfl))⟩
 f34:=⟨Tryz.f248.name,by decide,Tryz.func248.trans (congrArg some (by kernel_rfl))⟩
 f35:=⟨Tryz.f187.name,by decide,Tryz.func187.trans (congrArg some (by kernel_rfl))⟩
 f40:=⟨Tryz.f253.name,by decide,Tryz.func253.trans (congrArg some (by kernel_rfl))⟩
 t0:=u_0
 a0:=Tryz.isAgg0
 z0:=Tryz.sizeOf0
 v0:=Tryz.zeroValue0
 t3:=eK
 a3:=Tryz.isAgg3
 z3:=Tryz.sizeOf3
 v3:=Tryz.zeroValue3
 t4:=K3
 a4:=Tryz.isAgg4
 z4:=Tryz.sizeOf4
 v4:=Tryz.zeroValue4
 t5:=HI
 a5:=Tryz.isAgg5
 z5:=Tryz.sizeOf5
 v5:=Tryz.zeroValue5
 t9:=oc
 a9:=Tryz.isAgg9
 z9:=Tryz.sizeOf9
 v9:=Tryz.zeroValue9
 t22:=cP
 a22:=Tryz.isAgg35
 z22:=Tryz.sizeOf35
 v22:=Tryz.zeroValue35
 t23:=cP
 a23:=Tryz.isAgg35
 z23:=Tryz.sizeOf35
 v23:=Tryz.zeroValue35
 t25:=eK
 a25:=Tryz.isAgg3
 z25:=Tryz.sizeOf3
 v25:=Tryz.zeroValue3
 t32:=qp
 a32:=Tryz.isAgg192
 z32:=Tryz.sizeOf192
 v32:=Tryz.zeroValue192
 t35:=Tryz.underlying246
 a35:=Tryz.isAgg246
 z35:=Tryz.sizeOf246
 v35:=Tryz.zeroValue246
 t36:=Tryz.underlying247
 a36:=Tryz.isAgg247
 z36:=Tryz.sizeOf247
 v36:=Tryz.zeroValue247
 t41:=Tryz.underlying157
 a41:=Tryz.isAgg157
 z41:=Tryz.sizeOf157
 v41:=Tryz.zeroValue157
 t44:=Tryz.underlying253
 a44:=Tryz.isAgg253
 z44:=Tryz.sizeOf253
 v44:=Tryz.zeroValue253
 t46:=jw
 a46:=Tryz.isAgg123
 z46:=Tryz.sizeOf123
 v46:=Tryz.zeroValue123
 t53:=Tryz.underlying295
 a53:=Tryz.isAgg295
 z53:=Tryz.sizeOf295
 v53:=Tryz.zeroValue295
 t57:=Tryz.underlying299
 a57:=Tryz.isAgg299
 z57:=Tryz.sizeOf299
 v57:=Tryz.zeroValue299
 t63:=Tryz.underlying323
 a63:=Tryz.isAgg323
 z63:=Tryz.sizeOf323
 v63:=Tryz.zeroValue323
 t64:=Tryz.underlying324
 a64:=Tryz.isAgg324
 z64:=Tryz.sizeOf324
 v64:=Tryz.zeroValue324}
def Tryz.sa:Go.Shelf.Ren:=⟨λ|6=>49|8=>94|9=>93|19=>139|20=>140|21=>130|22=>131|23=>132|24=>133|25=>134|26=>135|27=>136|28=>137|29=>138|31=>190|32=>191|36=>189|37=>192|38=>193|39=>194|41=>215|n=>n,λ|0=>0|3=>3|4=>4|5=>5|9=>9|26=>34|29=>9|27=>34|32=>192|35=>246|36=>247|41=>157|44=>253|46=>123|53=>295|57=>299|63=>323|64=>324|n=>n,λ|n=>n⟩
theorem Tryz.zD:Go.Proofs.SlLaysM.n6 Tryz.prog Tryz.sa:={
 mixed:=by kernel_rfl
 f6:=⟨Tryz.f49.name,by decide,Tryz.func49.trans (congrArg some (by kernel_rfl))⟩
 f8:=Tryz.func94.trans (congrArg some (by kernel_rfl))
 f9:=⟨Tryz.f93.name,by decide,Tryz.func93.trans (congrArg some (by kernel_rfl))⟩
 f19:=Tryz.func139.trans (congrArg some (by kernel_rfl))
 f20:=Tryz.func140.trans (congrArg some (by kernel_rfl))
 f21:=⟨Tryz.f130.name,by decide,Tryz.func130.trans (congrArg some (by kernel_rfl))⟩
 f22:=⟨Tryz.f131.name,by decide,Tryz.func131.trans (congrArg some (by kernel_rfl))⟩
 f23:=⟨Tryz.f132.name,by decide,Tryz.func132.trans (congrArg some (by kernel_rfl))⟩
 f24:=⟨Tryz.f133.name,by decide,Tryz.func133.trans (congrArg some (by kernel_rfl))⟩
 f25:=⟨Tryz.f134.name,by decide,Tryz.func134.trans (congrArg some (by kernel_rfl))⟩
 f26:=⟨Tryz.f135.name,by decide,Tryz.func135.trans (congrArg some (by kernel_rfl))⟩
 f27:=⟨Tryz.f136.name,by decide,Tryz.func136.trans (congrArg some (by kernel_rfl))⟩
 f28:=⟨Tryz.f137.name,by decide,Tryz.func137.trans (congrArg some (by kernel_rfl))⟩
 f29:=⟨Tryz.f138.name,by decide,Tryz.func138.trans (congrArg some (by kernel_rfl))⟩
 f31:=Tryz.func190.trans (congrArg some (by kernel_rfl))
 f32:=Tryz.func191.trans (congrArg some (by kernel_rfl))
 f36:=⟨Tryz.f189.name,by decide,Tryz.func189.trans (congrArg some (by kernel_rfl))⟩
 f37:=⟨Tryz.f192.name,by decide,Tryz.func192.trans (congrArg some (by kernel_rfl))⟩
 f38:=⟨Tryz.f193.name,by decide,Tryz.func193.trans (congrArg some (by kernel_rfl))⟩
 f39:=⟨Tryz.f194.name,by decide,Tryz.func194.trans (congrArg some (by kernel_rfl))⟩
 f41:=⟨Tryz.f215.name,by decide,Tryz.func215.trans (congrArg some (by kernel_rfl))⟩
 t0:=u_0
 a0:=Tryz.isAgg0
 z0:=Tryz.sizeOf0
 v0:=Tryz.zeroValue0
 t3:=eK
 a3:=Tryz.isAgg3
 z3:=Tryz.sizeOf3
 v3:=Tryz.zeroValue3
 t4:=K3
 a4:=Tryz.isAgg4
 z4:=Tryz.sizeOf4
 v4:=Tryz.zeroValue4
 t5:=HI
 a5:=Tryz.isAgg5
 z5:=Tryz.sizeOf5
 v5:=Tryz.zeroValue5
 t9:=oc
 a9:=Tryz.isAgg9
 z9:=Tryz.sizeOf9
 v9:=Tryz.zeroValue9
 t26:=kZ
 a26:=Tryz.isAgg34
 z26:=Tryz.sizeOf34
 v26:=Tryz.zeroValue34
 t27:=kZ
 a27:=Tryz.isAgg34
 z27:=Tryz.sizeOf34
 v27:=Tryz.zeroValue34
 t29:=oc
 a29:=Tryz.isAgg9
 z29:=Tryz.sizeOf9
 v29:=Tryz.zeroValue9
 t32:=qp
 a32:=Tryz.isAgg192
 z32:=Tryz.sizeOf192
 v32:=Tryz.zeroValue192
 t35:=Tryz.underlying246
 a35:=Tryz.isAgg246
 z35:=Tryz.sizeOf246
 v35:=Tryz.zeroValue246
 t36:=Tryz.underlying247
 a36:=Tryz.isAgg247
 z36:=Tryz.sizeOf247
 v36:=Tryz.zeroValue247
 t41:=Tryz.underlying157
 a41:=Tryz.isAgg157
 z41:=Tryz.sizeOf157
 v41:=Tryz.zeroValue157
 t44:=Tryz.underlying253
 a44:=Tryz.isAgg253
 z44:=Tryz.sizeOf253
 v44:=Tryz.zeroValue253
 t46:=jw
 a46:=Tryz.isAgg123
 z46:=Tryz.sizeOf123
 v46:=Tryz.zeroValue123
 t53:=Tryz.underlying295
 a53:=Tryz.isAgg295
 z53:=Tryz.sizeOf295
 v53:=Tryz.zeroValue295
 t57:=Tryz.underlying299
 a57:=Tryz.isAgg299
 z57:=Tryz.sizeOf299
 v57:=Tryz.zeroValue299
 t63:=Tryz.underlying323
 a63:=Tryz.isAgg323
 z63:=Tryz.sizeOf323
 v63:=Tryz.zeroValue323
 t64:=Tryz.underlying324
 a64:=Tryz.isAgg324
 z64:=Tryz.sizeOf324
 v64:=Tryz.zeroValue324}
end Go.Proofs
namespace Go.Proofs.YtiefglecbgdaiaaGreatDoor
open Go Go.J Tryz
noncomputable def fnd (p ord part:List Int):List Nat:=if(pY p ord).1=0 then placesOf p part else []
theorem X5 {p ord part:List Int}(h:(pY p ord).1=0):fnd p ord part=placesOf p part:=by unfold fnd;rw[aB h]
theorem ac8 {p ord part:List Int}(h:(pY p ord).1≠0):fnd p ord part=[]:=by unfold fnd;rw[aA h]
theorem Gr (v:Value)(xs:List Int)(hlen:xs.length<4611686018427387904):dR prog 157 #[v] [row v 3 1 xs.length (rows aI xs)] (λu H'=>u= .tuple #[]∧H'=[row v 3 1 xs.length (rows aI (xs.mergeSort λx y=>decide (x≤y)))]):=
 Jj Tryz.zC v 3 xs hlen
theorem Zx {p part:List Int}:∀a b,a≤b→b<(dh p).length→(!eb (pre p part.length ((dh p).getD a 0)) part)=true→(!eb (pre p part.length ((dh p).getD b 0)) part)=true:=by
 intro i j f d h
 rcases cJ i j with h1|h1
 ·have e:=uL (m:=part.length) ((kV p).2 i j h1 d)
  cases c:eb (pre p part.length ((dh p).getD j 0)) part with
  |false=>rfl
  |true=>
   exfalso
   rcases iD (pre p part.length ((dh p).getD i 0)) (pre p part.length ((dh p).getD j 0))with q|q|q
   ·rw[ef q c]at h;cases h
   ·rw[q,c]at h;cases h
   ·rw[e]at q;cases q
 ·obtain rfl:i=j:=by omega
  exact h
theorem Zy {p part:List Int}:∀a b,a≤b→b<(dh p).length→eb part (pre p part.length ((dh p).getD a 0))=true→eb part (pre p part.length ((dh p).getD b 0))=true:=by
 intro i j e c h
 rcases cJ i j with h1|h1
 ·have d:=uL (m:=part.length) ((kV p).2 i j h1 c)
  rcases iD (pre p part.length ((dh p).getD i 0)) (pre p part.length ((dh p).getD j 0))with q|q|q
  ·exact ef h q
  ·rw[←q];exact h
  ·rw[d]at q;cases q
 ·obtain rfl:i=j:=by omega
  exact h
theorem Hi (v0:Value)(l:List Int)(h:l.length≤1000000):
 dR prog 156 #[v0] ([sl aI v0 l].map aD) (λv H'=>v.oneCell'=true∧H'=[row v 3 1 l.length (rows aI l)]):=by
 refine dR.Om (args:=[v0]) 8 func156 rfl ntmps156 rfl (λc=> ?_);refine go ?_;refine St.shape v0 (λad cap d e=> ?_);subst d;refine g8 ?_;refine St.ee (Ev.slnil (.mk rfl) cP) ?_;refine g2 ?_;refine St.cq (λb=> ?_) (λb=> ?_)
 ·refine g7 ?_
  have f:l=[]:=e (by cases ad<;>simp[isNil]at b;rfl)
  subst f;refine St.dH 3 1 ?_;refine St.rV [_] [row (.slice none 0 0) 3 1 0 []] ?_;exact⟨rfl,rfl⟩
 ·refine g4 ?_
  refine St.hS rfl (.nil) cP eL jF rfl rfl (by simp[Value.cells]) rfl rfl (λi=> ?_);refine go ?_;refine St.oA (.mk rfl) (.mk rfl) cP eL jF vD (mJ _ _) zE zE rfl rfl trivial rfl (λa g=> ?_);refine g4 ?_;refine St.aN a (show _=l.length by simp) (show _=rows aI l by rfl) ?_;refine St.bQ a (λh1 _=> ?_);refine St.rV [_] [row a 3 aI.size l.length (rows aI l)] ?_;exact⟨h1,rfl⟩
theorem MD (v0 v1 v2:Value)(p ord part:List Int)(z:part.length≤4611686018427387904):
 dR prog 102 #[v0,v1,v2] ([sl aI v0 p,sl aI v1 ord,sl aI v2 part].map aD) (λu H'=>∃v:Value,u= .tuple #[v,fv (pY p ord)]∧v.oneCell'=true∧H'=[row v 3 1 (fnd p ord part).length (rows aI (ints (fnd p ord part)))]):=by
 refine dR.body (args:=[v0,v1,v2]) 38 func102 rfl ntmps102 rfl (λc=> ?_);refine go ?_;refine St.cast (H':=[aD (sl aI v0 p),aD (sl aI v1 ord),aD (sl aI v2 part)]) rfl ?_;refine St.shape v0 (λF G i _=> ?_);refine St.shape v1 (λH I j _=> ?_);refine St.shape v2 (λJ K m _=> ?_)
 have x:v0.oneCell'=true:=by rw[i];rfl
 have L:v1.oneCell'=true:=by rw[j];rfl
 have M:v2.oneCell'=true:=by rw[m];rfl
 refine go ?_;refine St.Ej (.mk rfl) x rfl (λe=> ?_);refine St.Ej (.mk rfl) L rfl (λf=> ?_);refine St.Ej (.mk rfl) M rfl (λb=> ?_);refine go ?_;refine St.al (λN=> ?_);refine g7 ?_;refine St.ee (Ev.call (MS v0 v1 p ord) ab8 (.ah rfl rfl)) ?_;refine St.al (λS=> ?_);refine g10 ?_;refine St.cq (λA=> ?_) (λA=> ?_)
 ·refine go ?_
  refine St.qe [N] mixed (λT U=> ?_);refine SW.gd 0 ?_;refine SW.gd 1 ?_;refine SW.t1 2 ?_;refine g3 ?_;refine SW.go ?_;refine SW.dn ?_;refine g3 ?_;refine St.dH 3 1 ?_;refine St.rV [_,_] [row (.slice none 0 0) 3 1 0 []] ?_
  rw[ac8 A];exact⟨_,rfl,rfl,rfl⟩
 ·clear i j m
  obtain⟨n,B⟩:=Oo (p:=p) (ord:=ord) zE
  have o:=D2 n B
  subst B
  have C:=vj n
  have V:=y7 p
  have q:=bO (dh p)
  have y:=JM (part:=part) (kV p) rfl rfl
  obtain⟨t,D,r⟩:=y;refine g4 ?_;refine St.ee (Ev.func (.ah rfl rfl)) ?_;refine St.al (λg=> ?_);refine St.bL (.mk rfl) (.mk rfl) af4 rfl (by rfl) ?_;refine g6 ?_;rw[q];refine St.ee (Ev.func (.fk rfl rfl rfl)) ?_;refine St.ee (Ev.qQ (wN (dh p).length zE (λk=> !eb (pre p part.length ((dh p).getD k 0)) part) Zx 154 ab9 [tW g,tW f,tW b] (eY [fx g (.func (.func 152) #[] #[tW e,tW b]),fx f v1,fx b v2,fx e v0,sl aI v0 p,sl aI v1 (ints (dh p)),sl aI v2 part]) (λk hk=>(IY v0 v1 v2 p part (dh p) C.1 z (kV p).1 e b g f k hk).all)) Wl (.ah rfl rfl) (cm.eY (cm.aU (cm.aU (cm.aU (cm.aU (cm.aD (cm.aD (cm.aD cm.nil))))))))) ?_;refine g7 ?_;rw[q];refine St.ee (Ev.func (.fk rfl rfl rfl)) ?_;refine St.ee (Ev.qQ (wN (dh p).length zE (λk=>eb part (pre p part.length ((dh p).getD k 0))) Zy 155 acA [tW g,tW f,tW b] (eY [fx g (.func (.func 152) #[] #[tW e,tW b]),fx f v1,fx b v2,fx e v0,sl aI v0 p,sl aI v1 (ints (dh p)),sl aI v2 part]) (λk hk=>(IZ v0 v1 v2 p part (dh p) C.1 z (kV p).1 e b g f k hk).all)) Wl (.ah rfl rfl) (cm.eY (cm.aU (cm.aU (cm.aU (cm.aU (cm.aD (cm.aD (cm.aD cm.nil))))))))) ?_;refine g4 ?_
  generalize O:((List.range (dh p).length).countP (λk=> !(!eb (pre p part.length ((dh p).getD k 0)) part)))=a at t D r⊢
  generalize P:((List.range (dh p).length).countP (λk=> !(eb part (pre p part.length ((dh p).getD k 0)))))=d at t D r⊢
  refine St.part v1 a d t zE ?_
  have Q:(((dh p).drop a).take (d-a)).length=d-a:=by simp;omega
  rw[show((ints (dh p)).drop a).take (d-a)=ints (((dh p).drop a).take (d-a)) by simp[ints,List.map_drop,List.map_take],show aI.size=1 from rfl]
  have s:=NU r (xS p part)
  have E:=r.length_eq
  generalize W:((dh p).drop a).take (d-a)=xs at Q r s E⊢
  have R:=bO xs
  refine g4 ?_;refine St.ee (Ev.La (l:=a) (h:=d) (.mk rfl) (.mk rfl) (.mk rfl) cP eL zE zE t zE) ?_;refine St.dt (Hi (mX v1 1 a d) (ints xs) zE) acB (.ay rfl) rfl ?_;rintro v33 _ ⟨h1,rfl⟩;refine St.eZ ?_;refine g6 ?_;refine St.call (Gr v33 (ints xs) zE) acC (.ay rfl) rfl ?_;rintro v35 _ ⟨rfl,rfl⟩;refine St.eZ ?_;refine St.aN v33 (show _=(placesOf p part).length by rw[←E];exact R) (show _=rows aI (ints (placesOf p part)) by rw[s]) ?_;refine g5 ?_;refine St.ee (Ev.build (bC.nil) (λw=>fC w)) ?_;refine g5 ?_;refine St.rV [_,_] [row v33 3 1 (placesOf p part).length (rows aI (ints (placesOf p part)))] ?_
  rw[X5 (by rw[o]),o];exact⟨_,rfl,h1,rfl⟩
end Go.Proofs.YtiefglecbgdaiaaGreatDoor
