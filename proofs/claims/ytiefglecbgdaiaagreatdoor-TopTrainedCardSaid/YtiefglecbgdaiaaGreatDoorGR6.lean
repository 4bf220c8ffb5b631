/-
  Laws of walks through programs, and facts on grammars, trees and queries.
  Conditions: none.
-/
import Derived.Test.YtiefglecbgdaiaaGreatDoorGR5
import Derived.Lib.Join
set_option maxHeartbeats 1000000
set_option maxRecDepth 20000
set_option linter.unusedVariables false
set_option linter.unusedSimpArgs false
namespace Go.Proofs.YtiefglecbgdaiaaGreatDoor
open Go Go.J Tryz
theorem Mj {α:Type}(R:Rp α){l:List α}{x:α}{j:Nat}(h:j<R.size):(rows R (l++ [x]))[l.length*R.size+j]?=(R.cells x)[j]?:=
 eo R (l++ [x]) l.length j x (by rw[nO (aU _),gp];rfl) h
theorem A9 {α:Type}(R:Rp α){l:List α}{x:α}{j k:Nat}(hk:l.length=k)(h:j<R.size):(rows R (l++ [x]))[k*R.size+j]?=(R.cells x)[j]?:=by subst hk;exact Mj R h
theorem RY {p:Pl}{i:Nat}(h:i<p.ty.length):p.ty[i]?=some (p.tt i):=by
 unfold Pl.tt;rw[ax,bT h];rfl
theorem AA (l:List ah)(k:Nat)(v:ah):(rows cr l).set (k*1+0) v.1=rows cr (l.set k v):=by
 rw[fU,hY,wE,wE,mJ]
theorem rf {l:List ah}{k:Nat}{v:ah}(h:l[k]?=some v):(rows cr l)[k*1+0]?=some v.1:=by
 rw[fU,hY,wE,bJ,h];rfl
theorem TR {a b:Int}(h:ot a b<0):a<b:=by unfold ot at h;split at h<;>first|assumption|(split at h<;>omega)
theorem TQ {a b:Int}(h:0<ot a b):b<a:=by unfold ot at h;split at h<;>first|omega|(split at h<;>first|assumption|omega)
theorem TP {a b:Int}(h1:¬ot a b<0)(c:¬0<ot a b):a=b:=by unfold ot at h1 c;split at h1<;>first|omega|(split at c<;>omega)
theorem Ii {ls:List DC}{lk:List lE}(h:ls.map zp=lk){i:Nat}{q:DC}(a:ls[i]?=some q):lk.getD i []=zp q:=by
 subst h;rw[ax,bJ,a];rfl
structure aaF (T:List er)(nf n Yw:Nat)(R:Option Pl)(W:List (Int×Int))(P0:List Nat)(p:Pl)(ls:List DC):Prop where
 pl:mc T.length nf n p
 wk:DE n W
 uf:UF P0 p.ro
 lse:ls.map zp=p.lk
 lw:∀q∈ls,∀x∈q.2,bC.wf x
 eq:jT (iP T) (p.mu W) p W=R
 mu:p.mu W≤Yw
theorem MN (I:Nat)(D E:ah)(pv tv lv:Value)(ho:pv.oneCell'=true∧tv.oneCell'=true∧lv.oneCell'=true)(T:List er)(hT:j5 T)(nf n Yw:Nat)(hn:n≤240)(hm0:Yw≤1000000)(P0:List Nat)(p0:Pl)(ls0:List DC)(a0 A:Int)(ha0:0≤a0∧a0<n)(hb0:0≤A∧A<n)(hpl:mc T.length nf n p0)(huf:UF P0 p0.ro)(WK:ls0.map zp=p0.lk)(WL:∀q∈ls0,∀x∈q.2,bC.wf x)(hmu:p0.mu [(a0,A)]≤Yw):dx prog 177 #[tW I,iv a0,iv A] [tI I [D.1,E.1,pv,tv,lv] 288,row pv 3 1 p0.ro.length (rows aJ (cm (P0))),row tv 3 1 p0.ty.length (rows aJ p0.ty),row lv 164 1 (ls0).length (rows cr ((ls0).map Prod.fst)),aD (aL qP (ls0)),aD (sl bP D.1 (da T)),aD (sl bP E.1 (dZ T)),aD tz] (λv H'=>∃(r:Bool) (P1:List Nat) (p:Pl) (ls:List DC),v= .bool r∧(r=false→jT (iP T) (p0.mu [(a0,A)]) p0 [(a0,A)]=none)∧(r=true→jT (iP T) (p0.mu [(a0,A)]) p0 [(a0,A)]=some p∧mc T.length nf n p∧UF P1 p.ro∧ls.map zp=p.lk∧∀q∈ls,∀x∈q.2,bC.wf x)∧H'=[tI I [D.1,E.1,pv,tv,lv] 288,row pv 3 1 p.ro.length (rows aJ (cm (P1))),row tv 3 1 p.ty.length (rows aJ p.ty),row lv 164 1 (ls).length (rows cr ((ls).map Prod.fst)),aD (aL qP (ls))]):=by
 refine dx.body (args:=[tW I,iv a0,iv A]) 175 func177 rfl ntmps177 rfl (λc=>g10 ?_);refine St.ee (Ev.build (au.aX rfl rfl) (λw=>yr rfl rfl w)) (St.iu rfl (.aq rfl) xM Cl SH rfl rfl (by simp[Value.cells]) rfl rfl (λb20=> ?_));refine St.aP (tO b20 1 1) (show _=([(a0,A)]:List (Int×Int)).reverse.length from rfl) (show _=rows ND ([(a0,A)]:List (Int×Int)).reverse from rfl) (g4 ?_);refine St.td (ι:=Unit) (κ:=Value×List (Int×Int)×List Nat×Pl×List DC) (λu z T=>(7,z.1)::T) (λu z=>[row z.1 318 2 (z.2.1.reverse).length (rows ND (z.2.1.reverse)),tI I [D.1,E.1,pv,tv,lv] 288,row pv 3 1 z.2.2.2.1.ro.length (rows aJ (cm (z.2.2.1))),row tv 3 1 z.2.2.2.1.ty.length (rows aJ z.2.2.2.1.ty),row lv 164 1 (z.2.2.2.2).length (rows cr ((z.2.2.2.2).map Prod.fst)),aD (aL qP (z.2.2.2.2)),aD (sl bP D.1 (da T)),aD (sl bP E.1 (dZ T)),aD tz]) (λu z=>z.1.oneCell'=true∧aaF T nf n Yw (jT (iP T) (p0.mu [(a0,A)]) p0 [(a0,A)]) z.2.1 z.2.2.1 z.2.2.2.1 z.2.2.2.2) (λu z=>z.2.2.2.1.mu z.2.1) () ((tO b20 1 1),[(a0,A)],P0,p0,ls0) (aC.k1 0) ⟨rfl,hpl,λx hx=>by rw[ba.1 hx];exact⟨ha0,hb0⟩,huf,WK,WL,rfl,hmu⟩ ?_;rintro u ⟨wz,W,P1,p,ls⟩ ⟨hwz,d⟩
 dsimp only at hwz d⊢
 have hWl:=d.mu
 unfold Pl.mu at hWl
 have hRl:=d.pl.lr
 have hTl:=d.pl.lt
 have hLl:=d.pl.ll
 have hll:ls.length=n:=by rw[←hLl,←d.lse,aO]
 have ap1:W.reverse.length=W.length:=D0
 refine g8 ?_;refine St.cq (λh23=> ?_) (λh23=> ?_)
 ·obtain⟨x,w,rfl⟩:∃x w,W=x::w:=by cases W with|nil=>(rw[List.reverse_nil]at h23;exact absurd h23 (by simp))|cons x w=>exact⟨x,w,rfl⟩
  rw[List.reverse_cons]
  have hrv:(w.reverse++ [x]).length=w.length+1:=by rw[cA,D0];rfl
  have PL:w.reverse.length=w.length:=D0
  have aqN:(x::w).length=w.length+1:=rfl
  have hx:=d.wk.rt
  obtain⟨⟨hx1,hx2⟩,hx3,hx4⟩:=d.wk x (by simp);refine St.lO wz zE (λbs cs afJ=>?_);obtain⟨rk,B,hUF⟩:=d.uf
  obtain⟨xa,UH⟩:∃xa,xa=x.1.toNat:=⟨_,rfl⟩
  obtain⟨xb,hxb⟩:∃xb,xb=x.2.toNat:=⟨_,rfl⟩
  rw[←UH,←hxb]at hx
  have hea:x.1=(xa:Int):=by omega
  have heb:x.2=(xb:Int):=by omega
  refine g4 ?_;refine St.ef [tI I [D.1,E.1,pv,tv,lv] 288,row pv 3 1 p.ro.length (rows aJ (cm P1))] mixed (λnp ns=>SW.gd 0 ?_);refine SW.gd 1 ?_;refine SW.gd 2 ?_;refine SW.gd 3 ?_;refine SW.gd 4 ?_;refine SW.dd 5 rfl (λ_=>Ev.dV (k:=w.length) (.mk rfl) (.mk rfl) xM Cl zE zE) (SW.dd 6 rfl (λ_=>Ev.yK (j:=0) afJ (.mk rfl) (.mk rfl) underlying318 dQ rfl (by decide)) ?_);refine SW.dd 7 rfl (λ_=>Ev.dw (.mk rfl) fA trivial zE (A9 ND (j:=0) PL (by decide))) ?_;refine SW.slot 31 (iv (xa:Nat)) rfl (congrArg iv hea) (SW.gd 9 ?_);refine SW.gd 10 ?_;refine SW.gd 11 ?_;refine SW.gd 12 ?_;refine SW.gd 13 ?_;refine SW.dd 14 rfl (λ_=>Ev.dV (k:=w.length) (.mk rfl) (.mk rfl) xM Cl zE zE) (SW.dd 15 rfl (λ_=>Ev.yK (j:=1) afJ (.mk rfl) (.mk rfl) underlying318 dQ rfl (by decide)) ?_);refine SW.dd 16 rfl (λ_=>Ev.dw (.mk rfl) fA trivial zE (A9 ND (j:=1) PL (by decide))) ?_;refine SW.slot 40 (iv (xb:Nat)) rfl (congrArg iv heb) (SW.t1 8 ?_);refine St.call (find_spec I D E pv tv lv rk B p.ro zE P1 hUF xa zE) FI (.aX rfl rfl) rfl ?_;rintro v32 _ ⟨P2,rfl,hP2,rfl⟩;refine St.dD (g2 ?_);refine SW.go (SW.t1 17 ?_);refine St.call (find_spec I D E pv tv lv rk B p.ro zE P2 hP2 xb zE) FI (.aX rfl rfl) rfl ?_;rintro v41 _ ⟨P3,rfl,hP3,rfl⟩;refine St.dD (g2 ?_);refine SW.go (SW.gd 18 ?_);refine SW.gd 19 ?_;refine SW.dn (g2 ?_)
  obtain⟨a,hA⟩:∃a,a=p.ro.getD xa 0:=⟨_,rfl⟩
  obtain⟨b,hB⟩:∃b,b=p.ro.getD xb 0:=⟨_,rfl⟩
  rw[←hA,←hB]
  have J:p.rt x.1.toNat=a:=by rw[←UH];exact hA.symm
  have K:p.rt x.2.toNat=b:=by rw[←hxb];exact hB.symm
  have ha:a<n:=by rw[←J];exact d.pl.Ay _ zE
  have hb:b<n:=by rw[←K];exact d.pl.Ay _ zE
  have SP:p.rt a=a:=by rw[←J];exact d.pl.Wp _ zE
  have hrb:p.rt b=b:=by rw[←K];exact d.pl.Wp _ zE
  have hww:DE n w:=λz hz=>d.wk z (by simp[hz])
  refine g5 ?_;refine St.ee (Ev.tR (h:=w.length) (.mk rfl) (.mk rfl) xM Cl zE zE) (St.J8 wz w.length zE (St.aP (th wz 2 0 w.length) PL.symm (show(rows ND (w.reverse++ [x])).take (w.length*2)=rows ND w.reverse by rw[←PL];exact uk ND _ _) ?_));refine St.cH (th wz 2 0 w.length) (λaeJ _=>g11 ?_);refine St.cq (λh49=> ?_) (λh49=> ?_)
  ·have afH:p.rt x.1.toNat=p.rt x.2.toNat:=by omega
   refine g4 ?_;refine St.ni () (th wz 2 0 w.length,w,P3,p,ls) ⟨aeJ,d.pl,hww,⟨rk,B,hP3⟩,d.lse,d.lw,by rw[←d.eq,MM afH],dH (show p.mu w≤p.mu (x::w) by unfold Pl.mu;rw[fL];omega) d.mu⟩ (by dsimp only;unfold Pl.mu;rw[fL];omega) (by repeat(first|exact Sub.nil|refine Sub.cons (by first|rfl|exact congrArg (λz=>some (iv z)) (by first|omega|(dsimp only;omega))|exact congrArg (λz=>some (Value.bool z)) (by first|assumption|exact jI (by assumption))) ?_)) (λ_ hw=>hw.sub)
  ·have YQ:p.rt x.1.toNat≠p.rt x.2.toNat:=by omega
   have hab:a≠b:=by omega
   obtain⟨ta,hta⟩:∃ta:Nat,p.tt a=(ta:Int):=⟨(p.tt a).toNat,by have:=(d.pl.tt ha).1;omega⟩
   obtain⟨tb,htb⟩:∃tb:Nat,p.tt b=(tb:Int):=⟨(p.tt b).toNat,by have:=(d.pl.tt hb).1;omega⟩
   have ap5:=(d.pl.tt ha).2
   have ap6:=(d.pl.tt hb).2
   refine g3 ?_;refine St.ef [] mixed (λnp ns=>SW.gd 0 ?_);refine SW.gd 1 ?_;refine SW.gd 2 ?_;refine SW.dd 3 rfl (λ_=>Ev.jO 2 (.mk rfl) xJ trivial xH rfl rfl) (SW.slot 54 (kX D E) rfl rfl (SW.gd 4 ?_));refine SW.gd 5 ?_;refine SW.gd 6 ?_;refine SW.gd 7 ?_;refine SW.gd 8 ?_;refine SW.gd 9 ?_;refine SW.dd 10 rfl (λ_=>Ev.dw (.mk rfl) fA trivial zE (gg (RY zE))) (SW.slot 61 (iv (ta:Nat)) rfl (congrArg iv hta) (SW.gd 11 ?_));refine SW.gd 12 ?_;refine SW.gd 13 ?_;refine SW.gd 14 ?_;refine SW.gd 15 ?_;refine SW.gd 16 ?_;refine SW.dd 17 rfl (λ_=>Ev.dw (.mk rfl) fA trivial zE (gg (RY zE))) (SW.slot 68 (iv (tb:Nat)) rfl (congrArg iv htb) (SW.dd 18 rfl (λ_=>Ev.call ((yb D E T hT ta tb zE zE).mono λ_ _ h=>h.1) Nx (.eI rfl rfl rfl)) (SW.gd 19 ?_)));refine SW.gd 20 ?_;refine SW.gd 21 ?_;refine SW.gd 22 ?_;refine SW.gd 23 ?_;refine SW.gd 24 ?_;refine SW.gd 25 ?_;refine SW.dn (g8 ?_);refine St.cq (λh74=> ?_) (λh74=> ?_)
   ·have hm:iP T (p.tt (p.rt x.1.toNat)).toNat (p.tt (p.rt x.2.toNat)).toNat=none:=by rw[J,K,hta,htb];simpa using h74
    have YR:=KV (w:=w) YQ hm
    rw[d.eq]at YR;refine g11 ?_;refine St.rV [_] [tI I [D.1,E.1,pv,tv,lv] 288,row pv 3 1 p.ro.length (rows aJ (cm (P3))),row tv 3 1 p.ty.length (rows aJ p.ty),row lv 164 1 (ls).length (rows cr ((ls).map Prod.fst)),aD (aL qP (ls))] ?_;exact⟨false,P3,p,ls,rfl,λ_=>YR,λh=>(by cases h),rfl⟩
   ·obtain⟨m,hm0⟩:=Option.isSome_iff_exists.1 (show(iP T ta tb).isSome=true from by simpa using h74)
    have hm:iP T (p.tt (p.rt x.1.toNat)).toNat (p.tt (p.rt x.2.toNat)).toNat=some m:=by rw[J,K,hta,htb];exact hm0
    have hmT:=GH T _ _ _ hm0
    have MC:=PQ (nt:=T.length) (nf:=nf) (n:=n) d.pl (w:=w) ⟨by omega,by omega⟩ YQ hm
    rw[J,K]at MC;refine St.slot 10 (iv (m:Nat)) rfl (by rw[hm0];rfl) ?_;refine g11 ?_;refine St.dF (.mk rfl) (.mk rfl) dQ rfl zE (by decide) ?_;refine St.aP pv rfl (show _=rows aJ (cm (P3.set b a)) by rw[k9,cm,cm,mJ]) ?_;refine g11 ?_;refine St.dF (.mk rfl) (.mk rfl) dQ rfl zE (by decide) ?_;refine St.aP tv rfl (k9 p.ty a (m:Int)) (g3 ?_);obtain⟨N,O⟩:=aF (show a<ls.length by omega);obtain⟨P,Q⟩:=aF (show b<ls.length by omega);refine St.bh qP ls (x:=N) (aY O) (St.fF (sl bC N.1.1 N.2) [qP N] (λρ h=>h _ (aR ..)) (St.bh qP ls (x:=P) (aY Q) (St.fF (sl bC P.1.1 P.2) [qP P] (λρ h=>h _ (aR ..)) ?_)))
    have hla:p.ll a=N.2.map fV:=Ii d.lse O
    have hlb:p.ll b=P.2.map fV:=Ii d.lse Q
    have hsa:(p.ll a).length≤p.left:=by have h1:=pE (f:=λi=>if p.rt i=i then(p.ll i).length else 0) (show a<p.ro.length by omega);rw[aB SP]at h1;exact h1
    have hsb:(p.ll b).length≤p.left:=by have h1:=pE (f:=λi=>if p.rt i=i then(p.ll i).length else 0) (show b<p.ro.length by omega);rw[aB hrb]at h1;exact h1
    rw[hla,aO]at hsa;rw[hlb,aO]at hsb;refine g5 ?_;refine St.ef [] mixed (λnp ns=>SW.gd 0 ?_);refine SW.gd 1 ?_;refine SW.gd 2 ?_;refine SW.gd 3 ?_;refine SW.gd 4 ?_;refine SW.gd 5 ?_;refine SW.dd 6 rfl (λ_=>Ev.dw (.mk rfl) eX trivial zE (rf (show(ls.map Prod.fst)[a]?=some N.1 by rw[bJ,O];rfl))) ?_;refine SW.gd 7 ?_;refine SW.gd 8 ?_;refine SW.gd 9 ?_;refine SW.gd 10 ?_;refine SW.gd 11 ?_;refine SW.gd 12 ?_;refine SW.dd 13 rfl (λ_=>Ev.dw (.mk rfl) eX trivial zE (rf (show(ls.map Prod.fst)[b]?=some P.1 by rw[bJ,Q];rfl))) ?_;refine SW.gd 14 ?_;refine SW.gd 15 ?_;refine SW.dn (g3 ?_);refine St.e7 168 2 (St.aP (.slice none 0 0) (show _=([]:List dt).length from rfl) (show _=rows bC []from rfl) (St.aP (th wz 2 0 w.length) (show _=(w.reverse++([]:List (Int×Int))).length by rw[ib]) (show _=rows ND (w.reverse++ []) by rw[ib]) ?_));refine St.td (ι:=Unit) (κ:=Value×List dt×Value×List dt×Value×List dt×Value×List (Int×Int)) (λu2 z T=>(13,z.1)::(14,z.2.2.1)::(15,z.2.2.2.2.1)::(7,z.2.2.2.2.2.2.1)::T) (λu2 z=>[row z.1 168 2 (z.2.1).length (rows bC (z.2.1)),row z.2.2.2.2.2.2.1 318 2 (w.reverse++z.2.2.2.2.2.2.2).length (rows ND (w.reverse++z.2.2.2.2.2.2.2)),tI I [D.1,E.1,pv,tv,lv] 288,row pv 3 1 p.ro.length (rows aJ (cm (P3.set b a))),row tv 3 1 p.ty.length (rows aJ (p.ty.set a (m:Int))),row lv 164 1 ls.length (rows cr (ls.map Prod.fst)),aD (aL qP ls),aD (sl bC z.2.2.1 z.2.2.2.1),aD (sl bC z.2.2.2.2.1 z.2.2.2.2.2.1),aD (sl bP D.1 (da T)),aD (sl bP E.1 (dZ T)),aD tz]) (λu2 z=>(z.1.oneCell'=true∧z.2.2.2.2.2.2.1.oneCell'=true)∧Ej (p.ll a) (p.ll b) (z.2.1.map fV) (z.2.2.2.1.map fV) (z.2.2.2.2.2.1.map fV) z.2.2.2.2.2.2.2∧((∀x∈z.2.1,bC.wf x)∧(∀x∈z.2.2.2.1,bC.wf x)∧∀x∈z.2.2.2.2.2.1,bC.wf x)∧z.2.1.length+z.2.2.2.1.length+z.2.2.2.2.2.1.length≤2000000∧z.2.2.2.2.2.2.2.length+z.2.2.2.1.length≤1000000) (λu2 z=>z.2.2.2.1.length+z.2.2.2.2.2.1.length) () ((.slice none 0 0),[],N.1.1,N.2,P.1.1,P.2,th wz 2 0 w.length,[]) (aC.k2 0 8) ⟨⟨rfl,aeJ⟩,by rw[hla,hlb];exact Ej.start _ _,⟨λx hx=>(by cases hx),d.lw _ (aY O),d.lw _ (aY Q)⟩,by show 0+N.2.length+P.2.length≤_;omega,by show 0+N.2.length≤_;omega⟩ ?_;rintro u2 ⟨R,L,xv,X,y,Y,vz,V⟩ ⟨⟨hz,S⟩,hM,⟨F,C,G⟩,KS,CJ⟩
    dsimp only at hz S hM F C G KS CJ⊢
    have aqI:(w.reverse++V).length=w.length+V.length:=by rw[cA,D0]
    refine g7 ?_;refine St.gt _ rfl rfl (λhg=>Ev.move (.mk rfl)) rfl (St.gt _ rfl rfl (λhg=>Ev.gN (aa.gv rfl hg) eX) rfl (St.gt _ rfl rfl (λhg=>Ev.gtr (aa.gv rfl hg) (.mk rfl)) rfl (g3 ?_)));refine St.cq (λU=> ?_) (λU=> ?_)
    ·obtain⟨xl,g,rfl⟩:∃xl g,X=xl::g:=by cases X with|nil=>exact absurd U.1 (by simp)|cons a b=>exact⟨a,b,rfl⟩
     obtain⟨e,o,rfl⟩:∃e o,Y=e::o:=by cases Y with|nil=>exact absurd U.2 (by simp)|cons a b=>exact⟨a,b,rfl⟩
     rw[fL]at KS CJ;rw[fL]at KS;refine g4 ?_;refine St.ef [] mixed (λnp ns=>SW.gd 0 ?_);refine SW.dd 1 rfl (λ_=>Ev.cI (k:=0) (.mk rfl) (.mk rfl) eX de zE (by simp)) ?_;refine SW.gd 2 ?_;refine SW.dd 3 rfl (λ_=>Ev.ld1 (.mk rfl) (show(xl::g)[0]?=some xl from rfl) fA trivial rfl) (SW.gd 4 ?_);refine SW.dd 5 rfl (λ_=>Ev.cI (k:=0) (.mk rfl) (.mk rfl) eX de zE (by simp)) ?_;refine SW.gd 6 ?_;refine SW.dd 7 rfl (λ_=>Ev.ld1 (.mk rfl) (show(e::o)[0]?=some e from rfl) fA trivial rfl) (SW.dd 8 rfl (λ_=>Ev.call (eh xl.dE e.dE) qi (.aX rfl rfl)) (SW.gd 9 ?_));refine SW.dn (g9 ?_);refine St.cq (λac5=> ?_) (λac5=> ?_)
     ·have hlt:=TR ac5
      have M:=Ej.lt (a:=fV xl) (b:=fV e) hM hlt
      refine g4 ?_;refine St.ee (Ev.cI (k:=0) (.mk rfl) (.mk rfl) eX de zE (by simp)) ?_;refine St.ee (Ev.iD (.mk rfl) (show(xl::g)[0]?=some xl from rfl) lT trivial de gH.eq) (St.slot 148 (.agg #[iv xl.dE,iv xl.tqo]) rfl rfl (St.iu rfl (.aq rfl) eX de kg rfl rfl (by simp[Value.cells]) rfl rfl (λapI=> ?_)));refine St.bH (.mk rfl) (.mk rfl) eX de kg qg (by simp[Value.oneCell',Value.cells]) zE zE rfl rfl rfl rfl (λRu apA=> ?_);refine St.aP Ru (show _=(L++ [xl]).length from cW) (show _=rows bC (L++ [xl]) by rw[bN];rfl) ?_;refine St.cH Ru (λakR _=>g5 ?_);refine St.ee (Ev.rj (l:=1) (.mk rfl) (.mk rfl) eX de rfl (by simp)) ?_;refine St.part (Rr:=bC) (xs:=(xl::g)) xv 1 ((xl::g)).length (by simp) (aU _) ?_;refine St.fF (sl bC (th xv bC.size 1 ((xl::g)).length) g) [sl bC (th xv bC.size 1 ((xl::g)).length) ((((xl::g)).drop 1).take (((xl::g)).length-1))] (λρ h=>by have:=h _ (aR ..);rwa[show(((xl::g)).drop 1).take (((xl::g)).length-1)=g from fZ (aU _)]at this) ?_;refine g5 ?_;refine St.ni () (Ru,L++ [xl],th xv bC.size 1 (xl::g).length,g,y,e::o,vz,V) ⟨⟨akR,S⟩,by rw[cY];exact M,⟨λu hu=>by rcases ca.1 hu with h|h;exact F u h;rw[ba.1 h];exact C xl (by simp),λu hu=>C u (by simp[hu]),G⟩,by dsimp only;rw[cA,fL];simp only[List.length_cons,List.length_nil];omega,by dsimp only;omega⟩ (by dsimp only;simp only[List.length_cons];omega) (by repeat(first|exact Sub.nil|refine Sub.cons (by first|rfl|exact congrArg (λz=>some (iv z)) (by first|omega|(dsimp only;omega))|exact congrArg (λz=>some (Value.bool z)) (by first|assumption|exact jI (by assumption))) ?_)) (λ_ hw=>hw.sub)
     ·refine g7 ?_
      refine St.cq (λac7=> ?_) (λac7=> ?_)
      ·have p5:=TQ ac7
       have M:=Ej.gt (a:=fV xl) (b:=fV e) hM p5
       refine g4 ?_;refine St.ee (Ev.cI (k:=0) (.mk rfl) (.mk rfl) eX de zE (by simp)) ?_;refine St.ee (Ev.iD (.mk rfl) (show(e::o)[0]?=some e from rfl) lT trivial de gH.eq) (St.slot 159 (.agg #[iv e.dE,iv e.tqo]) rfl rfl (St.iu rfl (.aq rfl) eX de kg rfl rfl (by simp[Value.cells]) rfl rfl (λaaU=> ?_)));refine St.bH (.mk rfl) (.mk rfl) eX de kg qg (by simp[Value.oneCell',Value.cells]) zE zE rfl rfl rfl rfl (λVP apB=> ?_);refine St.aP VP (show _=(L++ [e]).length from cW) (show _=rows bC (L++ [e]) by rw[bN];rfl) ?_;refine St.cH VP (λakT _=>g5 ?_);refine St.ee (Ev.rj (l:=1) (.mk rfl) (.mk rfl) eX de rfl (by simp)) ?_;refine St.part (Rr:=bC) (xs:=(e::o)) y 1 ((e::o)).length (by simp) (aU _) ?_;refine St.fF (sl bC (th y bC.size 1 ((e::o)).length) o) [sl bC (th y bC.size 1 ((e::o)).length) ((((e::o)).drop 1).take (((e::o)).length-1))] (λρ h=>by have:=h _ (aR ..);rwa[show(((e::o)).drop 1).take (((e::o)).length-1)=o from fZ (aU _)]at this) ?_;refine g5 ?_;refine St.ni () (VP,L++ [e],xv,xl::g,th y bC.size 1 (e::o).length,o,vz,V) ⟨⟨akT,S⟩,by rw[cY];exact M,⟨λu hu=>by rcases ca.1 hu with h|h;exact F u h;rw[ba.1 h];exact G e (by simp),C,λu hu=>G u (by simp[hu])⟩,by dsimp only;rw[cA,fL];simp only[List.length_cons,List.length_nil];omega,by dsimp only;rw[fL];omega⟩ (by dsimp only;simp only[List.length_cons];omega) (by repeat(first|exact Sub.nil|refine Sub.cons (by first|rfl|exact congrArg (λz=>some (iv z)) (by first|omega|(dsimp only;omega))|exact congrArg (λz=>some (Value.bool z)) (by first|assumption|exact jI (by assumption))) ?_)) (λ_ hw=>hw.sub)
      ·have heq:=TP zE (by omega:¬0<ot xl.dE e.dE)
       have M:=Ej.eq (a:=fV xl) (b:=fV e) hM heq
       refine g4 ?_;refine St.ee (Ev.cI (k:=0) (.mk rfl) (.mk rfl) eX de zE (by simp)) ?_;refine St.ee (Ev.iD (.mk rfl) (show(xl::g)[0]?=some xl from rfl) lT trivial de gH.eq) (St.slot 123 (.agg #[iv xl.dE,iv xl.tqo]) rfl rfl (St.iu rfl (.aq rfl) eX de kg rfl rfl (by simp[Value.cells]) rfl rfl (λaaS=> ?_)));refine St.bH (.mk rfl) (.mk rfl) eX de kg qg (by simp[Value.oneCell',Value.cells]) zE zE rfl rfl rfl rfl (λZg ao8=> ?_);refine St.aP Zg (show _=(L++ [xl]).length from cW) (show _=rows bC (L++ [xl]) by rw[bN];rfl) ?_;refine St.cH Zg (λakM _=>g4 ?_);refine St.ef [row vz 318 2 (w.reverse++V).length (rows ND (w.reverse++V))] mixed (λnp ns=>SW.gd 0 ?_);refine SW.gd 1 ?_;refine SW.dd 2 rfl (λ_=>Ev.cI (k:=0) (.mk rfl) (.mk rfl) eX de zE (by simp)) ?_;refine SW.gd 3 ?_;refine SW.dd 4 rfl (λ_=>Ev.ld1 (.mk rfl) (show(xl::g)[0]?=some xl from rfl) fA trivial rfl) (SW.gd 5 ?_);refine SW.dd 6 rfl (λ_=>Ev.cI (k:=0) (.mk rfl) (.mk rfl) eX de zE (by simp)) ?_;refine SW.gd 7 ?_;refine SW.dd 8 rfl (λ_=>Ev.ld1 (.mk rfl) (show(e::o)[0]?=some e from rfl) fA trivial rfl) (SW.dd 9 rfl (λ_=>Ev.build (ps:=[(0,(.tmp 130)),(1,(.tmp 134))]) (au.aX rfl rfl) (λw=>yr rfl rfl w)) (SW.t1 10 ?_));refine St.iu rfl (.aq rfl) xM Cl SH rfl rfl (by simp[Value.cells]) rfl rfl (λapH=> ?_);refine g2 ?_;refine SW.go (SW.t1 11 ?_);refine St.bH (.mk rfl) (.mk rfl) xM Cl SH aa4 (by simp[Value.oneCell',Value.cells]) zE zE rfl rfl rfl rfl (λZh ao9=> ?_);refine St.aP Zh (show _=(w.reverse++(V++ [(xl.tqo,e.tqo)])).length by rw[←dg];exact cW) (show _=rows ND (w.reverse++(V++ [(xl.tqo,e.tqo)])) by rw[←dg,bN];rfl) ?_;refine St.cH Zh (λakP _=>g2 ?_);refine SW.go (SW.gd 12 ?_);refine SW.dn (go ?_);refine St.ef [] mixed (λnp ns=>SW.gd 0 ?_);refine SW.dd 1 rfl (λ_=>Ev.rj (l:=1) (.mk rfl) (.mk rfl) eX de rfl (by simp)) ?_;refine SW.gd 2 ?_;refine SW.dd 3 rfl (λ_=>Ev.rj (l:=1) (.mk rfl) (.mk rfl) eX de rfl (by simp)) ?_;refine SW.gd 4 ?_;refine SW.gd 5 ?_;refine SW.dn (g3 ?_);refine St.part (Rr:=bC) (xs:=(xl::g)) xv 1 ((xl::g)).length (by simp) (aU _) ?_;refine St.fF (sl bC (th xv bC.size 1 ((xl::g)).length) g) [sl bC (th xv bC.size 1 ((xl::g)).length) ((((xl::g)).drop 1).take (((xl::g)).length-1))] (λρ h=>by have:=h _ (aR ..);rwa[show(((xl::g)).drop 1).take (((xl::g)).length-1)=g from fZ (aU _)]at this) ?_;refine St.part (Rr:=bC) (xs:=(e::o)) y 1 ((e::o)).length (by simp) (aU _) ?_;refine St.fF (sl bC (th y bC.size 1 ((e::o)).length) o) [sl bC (th y bC.size 1 ((e::o)).length) ((((e::o)).drop 1).take (((e::o)).length-1))] (λρ h=>by have:=h _ (aR ..);rwa[show(((e::o)).drop 1).take (((e::o)).length-1)=o from fZ (aU _)]at this) ?_;refine St.ni () (Zg,L++ [xl],th xv bC.size 1 (xl::g).length,g,th y bC.size 1 (e::o).length,o,Zh,V++ [(xl.tqo,e.tqo)]) ⟨⟨akM,akP⟩,by rw[cY];exact M,⟨λu hu=>by rcases ca.1 hu with h|h;exact F u h;rw[ba.1 h];exact C xl (by simp),λu hu=>C u (by simp[hu]),λu hu=>G u (by simp[hu])⟩,by dsimp only;rw[cA];simp only[List.length_cons,List.length_nil];omega,by dsimp only;rw[cA];simp only[List.length_cons,List.length_nil];omega⟩ (by dsimp only;simp only[List.length_cons];omega) (by repeat(first|exact Sub.nil|refine Sub.cons (by first|rfl|exact congrArg (λz=>some (iv z)) (by first|omega|(dsimp only;omega))|exact congrArg (λz=>some (Value.bool z)) (by first|assumption|exact jI (by assumption))) ?_)) (λ_ hw=>hw.sub)
    ·have hem:X=[]∨Y=[]:=by rcases U with h|h;exact .inl (ka zE);exact .inr (ka zE)
     obtain⟨hf1,Z⟩:=hM.fin (by rcases hem with rfl|rfl;exact .inl rfl;exact .inr rfl);refine St.bU R bC L rfl rfl F (St.Wq xv (λs=>St.Wq y (λt=>?_)))
     obtain⟨H,P5⟩:∃H,H=L++(X++Y):=⟨_,rfl⟩
     have amD:H.map fV=BK (p.ll a) (p.ll b):=by rw[P5,cY,cY];exact hf1
     have aeL:∀x∈H,bC.wf x:=λx hx=>by rw[P5]at hx;rcases ca.1 hx with hx|hx;exact F x hx;rcases ca.1 hx with hx|hx;exact C x hx;exact G x hx
     have amE:(([((⟨R,hz⟩:ah),L),((⟨xv,s⟩:ah),X),((⟨y,t⟩:ah),Y)]).map Prod.snd).flatten=H:=by rw[P5];simp
     refine St.fF (aL qP [((⟨R,hz⟩:ah),L),((⟨xv,s⟩:ah),X),((⟨y,t⟩:ah),Y)]) [sl bC R L,sl bC xv X,sl bC y Y] (λρ h x hx=>by simp only[List.mem_cons,List.not_mem_nil,or_false]at hx;rcases hx with rfl|rfl|rfl;exact h _ (aR ..);exact h _ (cO _ (aR ..));exact h _ (cO _ (cO _ (aR ..)))) ?_;refine St.lO lv zE (λbs2 cs2 am2=>g5 ?_);refine St.ef [row lv 164 1 ls.length (rows cr (ls.map Prod.fst)),aD (aL qP [((⟨R,hz⟩:ah),L),((⟨xv,s⟩:ah),X),((⟨y,t⟩:ah),Y)])] mixed (λnp ns=>SW.gd 0 ?_);refine SW.gd 1 ?_;refine SW.gd 2 ?_;refine SW.gd 3 ?_;refine SW.gd 4 ?_;refine SW.gd 5 ?_;refine SW.gd 6 ?_;refine SW.gd 7 ?_;refine SW.t1 8 ?_;refine St.iu rfl (.eI rfl rfl rfl) Cp qD SG rfl rfl (λu hu=>by simp only[List.mem_cons,List.not_mem_nil,or_false]at hu;rcases hu with rfl|rfl|rfl;rw[cells_one hz];rfl;rw[cells_one s];rfl;rw[cells_one t];rfl) rfl rfl (λNd=> ?_);refine St.aP (tO Nd 3 3) (show _=([((⟨R,hz⟩:ah),L),((⟨xv,s⟩:ah),X),((⟨y,t⟩:ah),Y)].map Prod.fst).length from rfl) (show _=rows cr ([((⟨R,hz⟩:ah),L),((⟨xv,s⟩:ah),X),((⟨y,t⟩:ah),Y)].map Prod.fst) by simp only[List.flatMap_cons,List.flatMap_nil,cells_one hz,cells_one s,cells_one t];rfl) ?_;refine St.bU (tO Nd 3 3) cr ([((⟨R,hz⟩:ah),L),((⟨xv,s⟩:ah),X),((⟨y,t⟩:ah),Y)].map Prod.fst) rfl rfl (λ_ _=>trivial) (g2 ?_);refine SW.go (SW.t1 9 ?_);refine St.ak (FQ (tO Nd 3 3) [((⟨R,hz⟩:ah),L),((⟨xv,s⟩:ah),X),((⟨y,t⟩:ah),Y)] (by simp) (λq hq=>by simp only[List.mem_cons,List.not_mem_nil,or_false]at hq;rcases hq with rfl|rfl|rfl<;>dsimp only<;>omega)) ab3 (.aq rfl) rfl ?_;rintro v173 _ ⟨IP,rfl⟩;refine St.bB ?_;rw[amE];refine St.bU v173 bC H rfl rfl aeL (g2 ?_);refine SW.go (SW.dd 10 rfl (λ_=>Ev.nT (k:=a) am2 (.mk rfl) (.mk rfl) Cp qD zE zE) (SW.t1 11 ?_));refine St.dF (.mk rfl) (.mk rfl) qD IP zE (by decide) ?_;refine g2 ?_;refine SW.go (SW.dn (g2 ?_))
     have ao3:=d.pl.left (m:=m) ha hb SP hrb hab
     have hJ2:aaF T nf n Yw (jT (iP T) (p0.mu [(a0,A)]) p0 [(a0,A)]) (V.reverse++w) (P3.set b a) (p.put a b m) (ls.set a (⟨v173,IP⟩,H)):=⟨d.pl.put ha hb SP hmT hab,by rw[Z];exact hww.put d.pl ha hb,hP3.put zE zE SP hrb hab,by rw[mJ,d.lse];show p.lk.set a (H.map fV)=_;rw[amD];rfl,λq hq=>by rcases lV hq with hq|rfl;exact d.lw q hq;exact aeL,by rw[Z,←MC,d.eq],by have h0:=d.mu;have h1:p.mu (x::w)=p.left+(w.length+1)+1:=rfl;show(p.put a b m).left+(V.reverse++w).length+1≤Yw;rw[cA,D0,Z];omega⟩
     refine St.aP vz (show _=((V.reverse++w).reverse).length by rw[List.reverse_append,List.reverse_reverse]) (show _=rows ND ((V.reverse++w).reverse) by rw[List.reverse_append,List.reverse_reverse]) ?_;refine St.aP pv (show _=(p.put a b m).ro.length by simp[Pl.put]) rfl ?_;refine St.aP tv (show _=(p.put a b m).ty.length by simp[Pl.put]) (show _=rows aJ (p.put a b m).ty from rfl) ?_;refine St.aP lv (show _=(ls.set a (⟨v173,IP⟩,H)).length by rw[ep]) (show _=rows cr ((ls.set a (⟨v173,IP⟩,H)).map Prod.fst) by rw[mJ];exact AA _ _ ⟨v173,IP⟩) ?_;refine St.fF (aL qP (ls.set a (⟨v173,IP⟩,H))) [aL qP ls,sl bC v173 H] (λρ h x hx=>by rcases lV hx with hx|rfl;exact h _ (aR ..) x hx;exact h _ (cO _ (aR ..))) ?_;refine St.ni () (vz,V.reverse++w,P3.set b a,p.put a b m,ls.set a (⟨v173,IP⟩,H)) ⟨S,hJ2⟩ (by dsimp only;unfold Pl.mu;rw[cA,D0,fL,Z];omega) (by repeat(first|exact Sub.nil|refine Sub.cons (by first|rfl|exact congrArg (λz=>some (iv z)) (by first|omega|(dsimp only;omega))|exact congrArg (λz=>some (Value.bool z)) (by first|assumption|exact jI (by assumption))) ?_)) (λ_ hw=>hw.sub)
 ·obtain rfl:W=[]:=ka zE
  have U8:=d.eq
  rw[ML]at U8;refine g11 ?_;refine St.rV [_] [tI I [D.1,E.1,pv,tv,lv] 288,row pv 3 1 p.ro.length (rows aJ (cm (P1))),row tv 3 1 p.ty.length (rows aJ p.ty),row lv 164 1 (ls).length (rows cr ((ls).map Prod.fst)),aD (aL qP (ls))] ?_;exact⟨true,P1,p,ls,rfl,λh=>(by cases h),λ_=>⟨U8.symm,d.pl,d.uf,d.lse,d.lw⟩,rfl⟩
theorem U0 {p:Pl}{i:Nat}(h:i<p.ro.length):(qN p)[i]?=some (p.tt i,if p.rt i=i then(p.ll i).map (λl=>(l.1,(p.rt l.2.toNat:Int)))else []):=by
 unfold qN;rw[bJ,nP h];rfl
def tlk (p:Pl)(l:lE):lE:=l.map λl=>(l.1,(p.rt l.2.toNat:Int))
theorem IL (f:Nat)(l m:ah)(pv tv lv:Value)(nt nf n:Nat)(hn:n≤120)(hn0:0<n)(P0:List Nat)(p:Pl)(ls:List DC)(o:mc nt nf n p)(W:UF P0 p.ro)(WK:ls.map zp=p.lk)(WL:∀q∈ls,∀x∈q.2,bC.wf x)(hlen:∀q∈ls,q.2.length≤1000000)(hnt:nt≤1000000)(r:Nat)(hr:r<n):dx prog 178 #[tW f,iv r] [tI f [l.1,m.1,pv,tv,lv] 288,row pv 3 1 p.ro.length (rows aJ (cm (P0))),row tv 3 1 p.ty.length (rows aJ p.ty),row lv 164 1 ls.length (rows cr (ls.map Prod.fst)),aD (aL qP ls)] (λv H'=>H'=[aD (bS (iH (qN p) (p.rt r)) v)]):=by
 refine dx.body (args:=[tW f,iv r]) 68 func178 rfl ntmps178 rfl (λc=>go ?_)
 have X:=o.lr
 have hTl:=o.lt
 have U:=o.ll
 have hll:ls.length=n:=by rw[←U,←WK,aO]
 refine go ?_;refine St.al (λV=>g4 ?_);refine St.al (λY=>g14 ?_);refine St.e7 166 2 (St.aP (.slice none 0 0) (show _=([]:List db).length from rfl) (show _=rows bz []from rfl) (St.dN cF (St.td (ι:=Nat) (κ:=Value×List db×List Nat) (λk z T=>(15,iv k)::T) (λk z=>[tI Y [z.1] 30,row z.1 166 2 (z.2.1).length (rows bz (z.2.1)),tI V [(.slice none 0 0)] 30,tI f [l.1,m.1,pv,tv,lv] 288,row pv 3 1 p.ro.length (rows aJ (cm (z.2.2))),row tv 3 1 p.ty.length (rows aJ p.ty),row lv 164 1 ls.length (rows cr (ls.map Prod.fst)),aD (aL qP ls),aD (aL cF z.2.1)]) (λk z=>k≤n∧z.1.oneCell'=true∧z.2.1.map mQ=(qN p).take k∧z.2.1.length=k∧UF z.2.2 p.ro∧(∀x∈z.2.1,bz.wf x)∧∀x∈z.2.1,x.bA.length≤1000000) (λk z=>n-k) 0 ((.slice none 0 0),[],P0) (aC.k5 0 1 4 5 14) ⟨aQ _,rfl,rfl,rfl,W,λx hx=>(by cases hx),λx hx=>(by cases hx)⟩ ?_)));rintro k ⟨gv,N,Z⟩ ⟨hk,a,s,H,I,A,C⟩
 dsimp only at a s H I A C⊢
 obtain⟨rk,B,J⟩:=I;refine g6 ?_;refine St.cq (λh16=> ?_) (λh16=> ?_)
 ·have PE:k<n:=by omega
  have hkt:=o.tt PE
  have UD:aZ (p.tt k):=by unfold aZ;omega
  refine g18 ?_;refine St.ee (Ev.dw (.mk rfl) fA trivial zE (gg (RY zE))) (St.ee (Ev.build (au.aq rfl) (λw=>FF rfl w)) (St.al (λb7=>g3 ?_)));refine St.join (ι:=ah×List dt×List Nat) (λ⟨b,L,g⟩ T=>T) (λ⟨b,L,g⟩=>[tI b7 [iv (p.tt k),b.1] 166,tI Y [gv] 30,row gv 166 2 (N).length (rows bz (N)),tI V [(.slice none 0 0)] 30,tI f [l.1,m.1,pv,tv,lv] 288,row pv 3 1 p.ro.length (rows aJ (cm (g))),row tv 3 1 p.ty.length (rows aJ p.ty),row lv 164 1 ls.length (rows cr (ls.map Prod.fst)),aD (aL qP ls),aD (aL cF N),aD (sl bC b.1 L)]) (λ⟨b,L,g⟩=>UF g p.ro∧L.map fV=(if p.rt k=k then tlk p (p.ll k)else [])∧L.length≤1000000) (aC.k7 0 1 4 5 7 14 15) ?_ ?_
  ·refine g4 ?_
   refine St.call (find_spec f l m pv tv lv rk B p.ro zE Z J k zE) FI (.aX rfl rfl) rfl ?_;rintro v28 _ ⟨P3,rfl,K,rfl⟩;refine St.dD (g4 ?_);refine St.cq (λh30=> ?_) (λh30=> ?_)
   ·have HM:p.rt k=k:=(show p.ro.getD k 0=k by omega)
    obtain⟨q,hqk⟩:=aF (show k<ls.length by omega)
    have D:=aY hqk
    have M:p.ll k=q.2.map fV:=Ii WK hqk
    have hqL:=hlen q D
    refine St.bh qP ls (x:=q) D (St.fF (sl bC q.1.1 q.2) [qP q] (λρ h=>h _ (aR ..)) (g8 ?_));refine St.ee (Ev.dw (.mk rfl) eX trivial zE (rf (show(ls.map Prod.fst)[k]?=some q.1 by rw[bJ,hqk];rfl))) ?_;refine g5 ?_;refine St.e7 168 2 (St.aP (.slice none 0 0) (show _=([]:List dt).length from rfl) (show _=rows bC []from rfl) (St.td (ι:=Nat) (κ:=Value×List dt×List Nat) (λj z T=>(39,iv j)::T) (λj z=>[tI b7 [iv (p.tt k),z.1] 166,row z.1 168 2 (z.2.1).length (rows bC (z.2.1)),tI Y [gv] 30,row gv 166 2 (N).length (rows bz (N)),tI V [(.slice none 0 0)] 30,tI f [l.1,m.1,pv,tv,lv] 288,row pv 3 1 p.ro.length (rows aJ (cm (z.2.2))),row tv 3 1 p.ty.length (rows aJ p.ty),row lv 164 1 ls.length (rows cr (ls.map Prod.fst)),aD (aL qP ls),aD (aL cF N),aD (sl bC q.1.1 q.2)]) (λj z=>j≤q.2.length∧z.1.oneCell'=true∧UF z.2.2 p.ro∧z.2.1.map fV=tlk p ((q.2.take j).map fV)∧z.2.1.length=j∧∀x∈z.2.1,bC.wf x) (λj z=>q.2.length-j) 0 ((.slice none 0 0),[],P3) (aC.k9 0 1 4 5 7 14 15 37 38) ⟨aQ _,rfl,⟨rk,B,K⟩,rfl,rfl,λx hx=>(by cases hx)⟩ ?_));rintro j ⟨lw,L,g⟩ ⟨hj,O,t,G,U,E⟩
    dsimp only at O t G U E⊢
    obtain⟨F,B2,P⟩:=t;refine g6 ?_;refine St.cq (λh40=> ?_) (λh40=> ?_)
    ·obtain⟨x,hx⟩:=aF (show j<q.2.length by omega)
     obtain⟨_,WQ,Q⟩:=o.SR _ (o.lm PE) (fV x) (by rw[M];exact dh (aY hx))
     replace WQ:0≤x.tqo:=WQ
     replace Q:x.tqo<n:=Q
     obtain⟨d,hxd⟩:∃d,d=x.tqo.toNat:=⟨_,rfl⟩
     have UK:x.tqo=(d:Int):=by omega
     have hrx:p.ro.getD d 0<n:=o.Ay d zE
     refine g7 ?_;refine St.ee (Ev.iD (.mk rfl) hx lT trivial de gH.eq) (St.al (λb9=>g3 ?_));refine St.ef [tI b7 [iv (p.tt k),lw] 166,row lw 168 2 (L).length (rows bC (L)),tI f [l.1,m.1,pv,tv,lv] 288,row pv 3 1 p.ro.length (rows aJ (cm (g)))] mixed (λnp ns=>?_)
     repeat' first
      |with_reducible refine SW.me ?_
       first
        |refine SW.gd 0 ?_
        |refine SW.gd 2 ?_
        |refine SW.gd 3 ?_
        |refine SW.gd 4 ?_
        |refine SW.gd 5 ?_
        |refine SW.gd 6 ?_
         refine SW.slot 49 (iv (d:Nat)) rfl (congrArg iv UK) ?_
        |refine SW.dd 8 rfl (λ_=>Ev.build (ps:=[(0,(.tmp 46)),(1,(.tmp 50))]) (au.aX rfl rfl) (λw=>pR rfl rfl w)) ?_
        |refine SW.gd 11 ?_
        |refine SW.t2 1 7 ?_ ?_
        |refine SW.t1 7 ?_
        |refine SW.t1 9 ?_
        |refine SW.t1 10 ?_
        |refine SW.t1 12 ?_
        |refine SW.t2 1 9 ?_ ?_
        |refine SW.t1 1 ?_
      |with_reducible refine SW.tg 1 ?_
       refine g3 ?_;refine SW.go ?_
      |with_reducible refine SW.tg 7 ?_
       refine St.call (find_spec f l m pv tv lv F B2 p.ro zE g P d zE) FI (.aX rfl rfl) rfl ?_;rintro v50 _ ⟨P4,rfl,R,rfl⟩;refine St.dD (g2 ?_);refine SW.go ?_
      |with_reducible refine SW.tg 9 ?_
       refine St.iu rfl (.aq rfl) eX de kg rfl rfl (by simp[Value.cells]) rfl rfl (λb52=> ?_);refine g2 ?_;refine SW.go ?_
      |with_reducible refine SW.tg 10 ?_
       refine St.bH (.mk rfl) (.mk rfl) eX de kg qg (by simp[Value.oneCell',Value.cells]) zE zE rfl rfl rfl rfl (λv53 ap9=> ?_);refine St.aP v53 (show _=(L++ [(⟨x.dE,(p.ro.getD d 0:Nat)⟩:dt)]).length from cW) (show _=rows bC (L++ [(⟨x.dE,(p.ro.getD d 0:Nat)⟩:dt)]) by rw[bN];rfl) ?_;refine St.cH v53 (λh53 _=>g2 ?_);refine SW.go ?_
      |with_reducible refine SW.tg 12 ?_
       refine St.cP (.mk rfl) (.mk rfl) qD h53 (by rfl) ?_;refine g2 ?_;refine SW.go ?_
     all_goals refine SW.dn ?_
     all_goals
      refine g7 ?_;refine St.vL (j+1) (v53,L++ [⟨x.dE,(p.ro.getD d 0:Nat)⟩],P4) ⟨by omega,h53,⟨F,B2,R⟩,by dsimp only;rw[cY,G,ag hx,cY];unfold tlk;rw[cY];congr 1;show [(x.dE,((p.ro.getD d 0:Nat):Int))]=[(x.dE,((p.rt x.tqo.toNat:Nat):Int))];rw[←hxd];rfl,by dsimp only;rw[cA,U];rfl,λy hy=>by rcases ca.1 hy with h|h;exact E y h;rw[ba.1 h];exact⟨(WL q D x (aY hx)).1,by show aZ ((p.ro.getD d 0:Nat):Int);unfold aZ;omega⟩⟩
    ·obtain rfl:j=q.2.length:=by omega
     rw[fZ (aU _)]at G;refine St.bU lw bC L rfl rfl E (g5 ?_);refine St.mE ⟨⟨lw,O⟩,L,g⟩ ⟨⟨F,B2,P⟩,by rw[aB HM,M];exact G,by dsimp only;omega⟩
   ·have HM:p.rt k≠k:=λe=>by have e2:p.ro.getD k 0=k:=e;omega
    refine g2 ?_;refine St.gi bC ?_;refine St.mE ⟨bx,[],P3⟩ ⟨⟨rk,B,K⟩,by rw[aA HM];rfl,aQ _⟩
  ·rintro ⟨b,L,g⟩ ⟨t,G,akX⟩
   refine g4 ?_;refine St.slot 58 (.agg #[iv (p.tt k),b.1]) rfl rfl (St.iu rfl (.aq rfl) na jF HH rfl rfl (by simp[Value.cells]) rfl rfl (λb59=> ?_));refine St.bH (.mk rfl) (.mk rfl) na jF HH Nt (by intro u hu;have N9:u∈[iv (p.tt k),b.1]:=hu;simp only[List.mem_cons,List.not_mem_nil,or_false]at N9;rcases N9 with rfl|rfl;rfl;exact b.2) zE zE rfl rfl rfl rfl (λv60 aqC=> ?_);refine St.aP v60 (show _=(N++ [(⟨p.tt k,b,L⟩:db)]).length from cW) (show _=rows bz (N++ [(⟨p.tt k,b,L⟩:db)]) by rw[bN];rfl) ?_;refine St.cH v60 (λh60 _=>St.fF (aL cF (N++ [(⟨p.tt k,b,L⟩:db)])) [aL cF N,sl bC b.1 L] (λρ h x hx=>by rcases ca.1 hx with hx|hx;exact h _ (aR ..) x hx;rw[ba.1 hx];exact h _ (cO _ (aR ..))) ?_);refine go ?_;refine St.cP (.mk rfl) (.mk rfl) ahY h60 (by rfl) ?_;refine g8 ?_;refine St.vL (k+1) (v60,N++ [⟨p.tt k,b,L⟩],g) ⟨by omega,h60,by dsimp only;rw[cY,s,ag (U0 (p:=p) (i:=k) zE)];congr 1;show [(p.tt k,L.map fV)]=_;rw[G];rfl,by dsimp only;rw[cA,H];rfl,t,λx hx=>by rcases ca.1 hx with h|h;exact A x h;rw[ba.1 h];exact UD,λx hx=>by rcases ca.1 hx with h|h;exact C x h;rw[ba.1 h];exact akX⟩
 ·obtain rfl:k=n:=by omega
  have U9:(qN p).length=k:=by rw[uT];exact X
  rw[fZ zE]at s
  have amG:=Ov o zE
  have hrr:=o.Ay r hr
  refine St.bU gv bz N rfl rfl A (St.fF (aI ⟨⟨gv,a⟩,N⟩) [sl bz gv N,aL cF N] (λρ h=>h) ?_)
  have S:bE ⟨⟨gv,a⟩,N⟩=qN p:=s
  refine g6 ?_;refine St.ef [tI f [l.1,m.1,pv,tv,lv] 288,row pv 3 1 p.ro.length (rows aJ (cm (Z))),tI V [(.slice none 0 0)] 30,aD (aI ⟨⟨gv,a⟩,N⟩)] mixed (λnp ns=>SW.gd 0 ?_);refine SW.slot 63 (bF ⟨⟨gv,a⟩,N⟩) rfl rfl (SW.gd 1 ?_);refine SW.gd 2 ?_;refine SW.t1 3 ?_;refine St.call (find_spec f l m pv tv lv rk B p.ro zE Z J r zE) FI (.aX rfl rfl) rfl ?_;rintro v66 _ ⟨P4,rfl,R,rfl⟩;refine St.dD (g2 ?_);refine SW.go (SW.t1 4 ?_);refine St.ak (vO ⟨⟨gv,a⟩,N⟩ (by rw[S];exact amG.lk) (by show N.length≤120;omega) C (p.ro.getD r 0) (show p.rt r<N.length by omega)) O2 (.aX rfl rfl) rfl ?_;rintro v67 _ rfl;refine St.bB ?_;rw[S];refine St.bS (iH (qN p) (p.ro.getD r 0)) v67 (λy hy=>?_);obtain⟨rfl,hyE⟩:=hy;refine g2 ?_;refine SW.go (SW.t1 5 ?_);refine g3 ?_;refine SW.go (SW.dn (g2 ?_));refine St.rV [_] [aD (bS (iH (qN p) (p.ro.getD r 0)) (bF y))] ?_;exact rfl
theorem mc.short {nt nf n:Nat}{p:Pl}(hp:mc nt nf n p){l:lE}(c:l∈p.lk):l.length≤nf:=by
 have d:=hp.Zv l c
 have hk:=hp.SR l c
 have e:(l.map λz=>z.1.toNat).Nodup:=by
  unfold List.Nodup;rw[su];exact xQ (λ{a b} h1 f h=>by have:=(hk a h1).1;have:=(hk b f).1;omega) d
 have:=l8 e (n:=nf) (λj g=>by obtain⟨z,hz,rfl⟩:=cS.1 g;have:=(hk z hz).1;omega)
 rwa[aO]at this
theorem ag1 {x y:eB}{a b:List DC}{m:Nat}(hm:x.length=m)(h1:a.map zp=([]:List DC).map zp++x.map (λn=>n.2.map λx=>(x.1,((0:Nat):Int)+x.2)))(c:b.map zp=a.map zp++y.map (λn=>n.2.map λx=>(x.1,(m:Int)+x.2))):b.map zp=(Pl.of x y).lk:=by
 rw[c,h1,←hm]
 show([]++x.map _)++_=x.map (·.2)++_
 rw[xR]
 congr 1
 refine sk λn _=> ?_
 conv=>rhs;rw[←List.map_id n.2]
 exact sk λz _=>by simp
theorem agW {nt nf n:Nat}{p:Pl}(hp:mc nt nf n p)(e:nf≤100)(f:n≤240){ls:List DC}(h:ls.map zp=p.lk):∀q∈ls,∀x∈q.2,bC.wf x:=λq d x hx=>by
 have hm:zp q∈p.lk:=by rw[←h];exact dh d
 obtain⟨⟨h1,a⟩,b,c⟩:=hp.SR _ hm (fV x) (dh hx)
 have h1:0≤x.dE:=h1
 have a:x.dE<nf:=a
 have b:0≤x.tqo:=b
 have c:x.tqo<n:=c
 exact⟨by unfold aZ;omega,by unfold aZ;omega⟩
theorem Qn {nt nf n:Nat}{p:Pl}(hp:mc nt nf n p)(b:nf≤100){ls:List DC}(h:ls.map zp=p.lk):∀q∈ls,q.2.length≤1000000:=λq a=>by
 have hm:zp q∈p.lk:=by rw[←h];exact dh a
 have:=hp.short hm
 have e:(zp q).length=q.2.length:=aO _
 omega
theorem ag3 (x y:eB):(Pl.of x y).ro=List.range (x.length+y.length):=rfl
theorem ag2 {nt nf:Nat}{x y:eB}(hx:eG nt nf x)(hy:eG nt nf y)(h1:x.length≤60)(c:y.length≤60)(m:nf≤100)(w:List (Int×Int))(hw:w.length≤10):(Pl.of x y).mu w≤1000000:=by
 have hp:=Pl.QD hx hy
 have d:∀i,i<x.length+y.length→((Pl.of x y).ll i).length≤100:=λi hi=>by
  have e:=hp.Zv _ (hp.lm hi)
  have hk:=hp.SR _ (hp.lm hi)
  have:((Pl.of x y).ll i).length≤nf:=by
   have f:(((Pl.of x y).ll i).map λz=>z.1.toNat).Nodup:=by
    unfold List.Nodup;rw[su];exact xQ (λ{a b} h1 c h=>by have:=(hk a h1).1;have:=(hk b c).1;omega) e
   have:=l8 f (n:=nf) (λj g=>by obtain⟨z,hz,rfl⟩:=cS.1 g;have:=(hk z hz).1;omega)
   rwa[aO]at this
  omega
 have k:∀n,n≤x.length+y.length→gQ (λi=>if(Pl.of x y).rt i=i then((Pl.of x y).ll i).length else 0) n≤n*100:=by
  intro n
  induction n with
  |zero=>intro _;exact aQ _
  |succ n l=>
   intro h
   have:=l zE
   have:=d n zE
   rw[gQ]
   split<;>omega
 have:=k _ (aU _)
 unfold Pl.mu Pl.left;rw[hp.lr];omega
theorem rO (d e:ah)(T:List er)(Q:j5 T)(nf:Nat)(A:nf≤100)(a b:dC)(B:eG T.length nf (bE a))(x:eG T.length nf (bE b))(V:a.nodes.length≤60)(W:b.nodes.length≤60)(C:∀t∈a.nodes,t.bA.length≤1000000)(D:∀t∈b.nodes,t.bA.length≤1000000)(node:Nat)(hnd:node<a.nodes.length):dx prog 119 #[kX d e,bF a,iv node,bF b] ([sl bP d.1 (da T),sl bP e.1 (dZ T),tz,aI a,aI b].map aD) (λv H'=>∃u,v= .tuple #[u,.bool (dT (iP T) (bE a) node (bE b)).isSome]∧H'=[aD (bS ((dT (iP T) (bE a) node (bE b)).getD []) u)]):=by
 refine dx.body (args:=[kX d e,bF a,iv node,bF b]) 27 func119 rfl ntmps119 rfl (λc=>St.cast (H':=[aD (sl bP d.1 (da T)),aD (sl bP e.1 (dZ T)),aD (tz),aD (aI a),aD (aI b)]) rfl (go ?_))
 have f:=ct a
 have j:=ct b
 have hTl:=Q.len
 have k:=Pl.QD B x
 have E:=ag2 B x zE zE A [((node:Int),((bE a).length:Int))] (by simp)
 refine go ?_;refine St.cC (.mk rfl) rfl (λb4=>St.cC (.mk rfl) rfl (λb5=>St.cC (.mk rfl) rfl (λb7=>St.al (λb8=>g6 ?_))));refine St.slot 11 (kX d e) rfl rfl (St.ee (Ev.build (au.aq rfl) (λw=>Nr w)) (St.cC (.mk rfl) rfl (λz=>g4 ?_)));refine St.e7 3 1 (St.aP (.slice none 0 0) (show _=(List.range 0).length from rfl) (show _=rows aJ (cm (List.range 0))from rfl) (St.e7 164 1 (St.aP (.slice none 0 0) (show _=([]:List DC).length from rfl) (show _=rows cr (([]:List DC).map Prod.fst)from rfl) (St.e7 3 1 (St.aP (.slice none 0 0) (show _=([]:List Int).length from rfl) (show _=rows aJ []from rfl) (St.dN qP (g3 ?_)))))));refine St.slot 15 (bF a) rfl rfl (St.call (ui z d e a B.lk zE C 0 zE [] rfl [] rfl (.slice none 0 0) (.slice none 0 0) (.slice none 0 0) ⟨rfl,rfl,rfl⟩) Vs (.aX rfl rfl) rfl ?_);rintro X _ ⟨pv,tv,lv,l,rfl,⟨h1,Y,Z⟩,m,rfl⟩;refine St.DM (g9 ?_);refine St.slot 20 (bF b) rfl rfl ?_
 have F:l.length=a.nodes.length:=by have:=congrArg List.length m;simpa[f]using this
 refine St.aP pv (show _=(List.range a.nodes.length).length by rw[jH]) (show _=rows aJ (cm (List.range a.nodes.length)) by rw[jH]) ?_;refine St.aP tv (show _=(a.nodes.map db.type).length from rfl) (show _=rows aJ (a.nodes.map db.type)from rfl) (St.call (ui z d e b x.lk zE D a.nodes.length zE (a.nodes.map db.type) (aO _) l F pv tv lv ⟨h1,Y,Z⟩) Vs (.aX rfl rfl) rfl ?_);rintro v21 _ ⟨g,i,n,o,rfl,G,H,rfl⟩;refine St.DM ?_
 have q:(Pl.of (bE a) (bE b)).ro=List.range (a.nodes.length+b.nodes.length):=by rw[ag3,f,j]
 have R:(Pl.of (bE a) (bE b)).ty=a.nodes.map db.type++b.nodes.map db.type:=by show(bE a).map Prod.fst++(bE b).map Prod.fst=_;show(a.nodes.map mQ).map Prod.fst++(b.nodes.map mQ).map Prod.fst=_;rw[jJ,jJ];rfl
 have S:o.map zp=(Pl.of (bE a) (bE b)).lk:=ag1 f m H
 have I:=agW k A zE S
 refine St.aP g (show _=(Pl.of (bE a) (bE b)).ro.length by rw[q]) (show _=rows aJ (cm (List.range (a.nodes.length+b.nodes.length)))from rfl) ?_;refine St.aP i (show _=(Pl.of (bE a) (bE b)).ty.length by rw[R]) (show _=rows aJ (Pl.of (bE a) (bE b)).ty by rw[R]) ?_;refine St.call (MN z d e g i n G T Q nf (a.nodes.length+b.nodes.length) 1000000 zE (aU _) (List.range (a.nodes.length+b.nodes.length)) (Pl.of (bE a) (bE b)) o node (a.nodes.length:Nat) ⟨by omega,by omega⟩ ⟨by omega,by have:=x.pos;omega⟩ (by rw[←f,←j];exact k) (by rw[q];exact UF.range _) S I (by rw[←f];exact E)) abW (.eI rfl rfl rfl) rfl ?_;rintro v22 _ ⟨rb,P1,p,J,rfl,YR,K,rfl⟩;refine St.DM (g3 ?_);refine St.cond _ rfl (λL=> ?_) (λL=> ?_)
 ·skip
  have M:rb=false:=by simpa using L
  have N:=YR M
  have r:dT (iP T) (bE a) node (bE b)=none:=by unfold dT;rw[f];rw[N];rfl
  refine g2 ?_;refine St.ee (Ev.build (au.nil) (λw=>Xj w)) (g6 ?_);refine St.gi bz (St.dN cF (St.fF (bS ((dT (iP T) (bE a) node (bE b)).getD []) (.agg #[(.slice none 0 0)])) [sl bz (.slice none 0 0) [],aL cF []] (λρ h=>⟨⟨bx,[]⟩,rfl,by rw[r];rfl,h⟩) ?_));refine St.rV [_,_] [aD (bS ((dT (iP T) (bE a) node (bE b)).getD []) (.agg #[(.slice none 0 0)]))] ?_;exact⟨_,by rw[r];rfl,rfl⟩
 ·skip
  have HM:rb=true:=by simpa using L
  obtain⟨N,U,O,s,P⟩:=K HM
  have r:dT (iP T) (bE a) node (bE b)=some (iH (qN p) (p.rt 0)):=by unfold dT;rw[f,N];rfl
  refine g5 ?_;refine St.call (IL z d e g i n T.length nf (a.nodes.length+b.nodes.length) zE zE P1 p J U O s P (Qn U A s) zE 0 zE) abX (.aX rfl rfl) rfl ?_;rintro v26 _ rfl;refine St.bB (St.bS (iH (qN p) (p.rt 0)) v26 (λy hy=>?_));obtain⟨rfl,hyE⟩:=hy;refine g5 ?_;refine St.fF (bS ((dT (iP T) (bE a) node (bE b)).getD []) (bF y)) [bS (iH (qN p) (p.rt 0)) (bF y)] (λρ h=>by rw[r];exact h _ (aR ..)) ?_;refine St.rV [_,_] [aD (bS ((dT (iP T) (bE a) node (bE b)).getD []) (bF y))] ?_;exact⟨_,by rw[r];rfl,rfl⟩
theorem fz {nt nf:Nat}{g:dC}(h:eG nt nf (bE g))(l:nf≤100):∀t∈g.nodes,Asc t.bA∧t.bA.length≤100:=λt ht=>by
 obtain⟨_,c,hk⟩:=h.nd (mQ t) (dh ht)
 have c:sx (t.bA.map fV):=c
 have hk:∀x∈t.bA.map fV,(0≤x.1∧x.1<nf)∧0≤x.2∧x.2<(bE g).length:=hk
 refine⟨λi j x y e hx hy=> ?_,?_⟩
 ·have d:=bO hy
  have hi:=bO hx
  have:=List.pairwise_iff_getElem.1 c i j (by simpa using hi) (by simpa using d) e
  rw[List.getElem_map,List.getElem_map]at this;rw[bT hi]at hx;rw[bT d]at hy;obtain rfl:=Option.some.inj hx;obtain rfl:=Option.some.inj hy;exact this
 ·have f:((t.bA.map fV).map λz=>z.1.toNat).Nodup:=by
   unfold List.Nodup;rw[su];exact xQ (λ{a b} h1 k h=>by have:=(hk a h1).1;have:=(hk b k).1;omega) c
  have:=l8 f (n:=nf) (λj d=>by obtain⟨z,hz,rfl⟩:=cS.1 d;have:=(hk z hz).1;omega)
  rw[aO,aO]at this;omega
theorem uy (G:eB)(k:Int):Gr G 0 k=nS G k:=rfl
theorem ZQ {mt:Nat→Nat→Option Nat}{x y:eB}{a:Int}{n:Nat}(b:(nS x a).toNat=n){z:eB}(hz:z=(dT mt x n y).getD []):((dT mt x n y).isSome&&decide ((z.length:Int)≤60))=(nZ mt x a y).isSome∧∀w,nZ mt x a y=some w→z=w:=by
 subst b;unfold nZ
 cases h:dT mt x (nS x a).toNat y with
 |none=>rw[h]at hz;exact⟨rfl,λw hw=>by cases hw⟩
 |some u=>
  rw[h]at hz;obtain rfl:z=u:=hz
  dsimp only
  by_cases c:z.length≤60
  ·rw[aB c];exact⟨by simp;omega,λw hw=>Option.some.inj hw⟩
  ·rw[aA c];exact⟨by simp;omega,λw hw=>by cases hw⟩
theorem qV (x:dC)(nt nf:Nat)(d:nf≤100)(hx:eG nt nf (bE x))(e:x.nodes.length≤120)(h:0≤nS (bE x) 0):dx prog 165 #[bF x] ([aI x].map aD) (λv H'=>H'=[aD (bS (mP (bE x)) v)]):=by
 refine dx.body (args:=[bF x]) 7 func165 rfl ntmps165 rfl (λc=>St.cast (H':=[aD (aI x)]) rfl (go ?_))
 have i:=ct x
 have a:=fz hx d
 have j:=hx.pos
 have k:=AX hx 0
 obtain⟨r,f⟩:∃r,r=(nS (bE x) 0).toNat:=⟨_,rfl⟩
 refine go ?_;refine St.cC (.mk rfl) rfl (λl=>St.al (λg=>g3 ?_));refine St.dup (aI x) (St.ef [tI g [(.slice none 0 0)] 30,aD (aI x)] mixed (λm o=>SW.gd 0 ?_));refine SW.slot 3 (bF x) rfl rfl (SW.gd 1 ?_);refine SW.slot 4 (bF x) rfl rfl (SW.dd 2 rfl (λ_=>Ev.call (lI x 0 0 zE (λn b=>⟨(a n b).1,by have:=(a n b).2;omega⟩)) O4 (.eI rfl rfl rfl)) ?_);refine SW.slot 5 (iv (r:Nat)) rfl (congrArg iv (by rw[uy];omega)) ?_;refine SW.t1 3 ?_;refine St.ak (vO x hx.lk e (λt ht=>by have:=(a t ht).2;omega) r zE) O2 (.aX rfl rfl) rfl ?_;rintro v6 _ rfl;refine St.bB ?_;rw[show iH (bE x) r=mP (bE x) by unfold mP;rw[←f]];refine St.bS (mP (bE x)) v6 (λy hy=>?_);obtain⟨rfl,p⟩:=hy;refine g2 ?_;refine SW.go (SW.t1 4 ?_);refine g3 ?_;refine SW.go (SW.dn (g2 ?_));refine St.rV [_] [aD (bS (mP (bE x)) (bF y))] ?_;exact rfl
theorem rQ (b d:ah)(T:List er)(o:j5 T)(nf:Nat)(l:nf≤100)(x y:dC)(e:Int)(hx:eG T.length nf (bE x))(hy:eG T.length nf (bE y))(p:x.nodes.length≤60)(q:y.nodes.length≤60)(G:0≤nS (bE x) e):dx prog 172 #[kX b d,bF x,iv e,bF y] ([sl bP b.1 (da T),sl bP d.1 (dZ T),tz,aI x,aI y].map aD) (λv H'=>∃u z,v= .tuple #[u,.bool (nZ (iP T) (bE x) e (bE y)).isSome]∧(∀w,nZ (iP T) (bE x) e (bE y)=some w→z=w)∧H'=[aD (bS z u)]):=by
 refine dx.body (args:=[kX b d,bF x,iv e,bF y]) 30 func172 rfl ntmps172 rfl (λc=>St.cast (H':=[aD (sl bP b.1 (da T)),aD (sl bP d.1 (dZ T)),aD (tz),aD (aI x),aD (aI y)]) rfl (go ?_))
 have H:=ct x
 have a:=fz hx l
 have g:=fz hy l
 have I:=hx.pos
 have J:=AX hx e
 obtain⟨r,A⟩:∃r,r=(nS (bE x) e).toNat:=⟨_,rfl⟩
 refine go ?_;refine St.cC (.mk rfl) rfl (λK=>St.cC (.mk rfl) rfl (λL=>St.cC (.mk rfl) rfl (λM=>St.al (λB=>g4 ?_))));refine St.dup (aI x) (St.ef [aD (sl bP b.1 (da T)),aD (sl bP d.1 (dZ T)),aD tz,aD (aI x),aD (aI y)] mixed (λi j=>SW.gd 0 ?_));refine SW.slot 13 (kX b d) rfl rfl (SW.gd 1 ?_);refine SW.slot 14 (bF x) rfl rfl (SW.gd 2 ?_);refine SW.slot 15 (bF x) rfl rfl (SW.gd 3 ?_);refine SW.dd 4 rfl (λ_=>Ev.call (lI x 0 e zE (λn s=>⟨(a n s).1,by have:=(a n s).2;omega⟩)) O4 (.eI rfl rfl rfl)) ?_;refine SW.slot 17 (iv (r:Nat)) rfl (congrArg iv (by rw[uy];omega)) ?_;refine SW.gd 5 ?_;refine SW.slot 18 (bF y) rfl rfl (SW.t2 6 10 ?_ ?_)
 focus
  refine St.ak (rO b d T o nf l x y hx hy p q (λt ht=>by have:=(a t ht).2;omega) (λt ht=>by have:=(g t ht).2;omega) r zE) Jv (.gn rfl rfl rfl rfl) rfl ?_;rintro m _ ⟨u,rfl,rfl⟩;refine St.bB (St.bS ((dT (iP T) (bE x) r (bE y)).getD []) u (λz hz=>?_));obtain⟨rfl,k⟩:=hz;refine g2 ?_;refine SW.go (SW.gd 7 ?_);refine SW.gd 8 ?_;refine SW.gd 9 ?_;refine SW.t1 10 ?_;refine St.al (λC=>g2 ?_);refine SW.go (SW.t1 11 ?_);refine g3 ?_;refine SW.go (SW.gd 12 ?_);refine SW.dn ?_
 rotate_left
 focus
  refine St.al (λC=>g2 ?_);refine SW.go (SW.t1 6 ?_);refine St.ak (rO b d T o nf l x y hx hy p q (λt ht=>by have:=(a t ht).2;omega) (λt ht=>by have:=(g t ht).2;omega) r zE) Jv (.gn rfl rfl rfl rfl) rfl ?_;rintro m _ ⟨u,rfl,rfl⟩;refine St.bB (St.bS ((dT (iP T) (bE x) r (bE y)).getD []) u (λz hz=>?_));obtain⟨rfl,k⟩:=hz;refine g2 ?_;refine SW.go (SW.gd 7 ?_);refine SW.gd 8 ?_;refine SW.gd 9 ?_;refine SW.t1 11 ?_;refine g3 ?_;refine SW.go (SW.gd 12 ?_);refine SW.dn ?_
 all_goals
  refine g2 ?_;refine St.fF (sl bz z.nv.1 z.nodes) [aI z] (λρ h=>h (aI z) (aR ..) _ (aR ..)) ?_;obtain⟨D,E⟩:=ZQ (mt:=iP T) (y:=bE y) A.symm k
  have F:=ct z
  refine St.ef [tI B [(.slice none 0 0)] 30] mixed (λi j=>SW.gd 0 ?_);refine SW.slot 22 (bF z) rfl rfl (SW.gd 1 ?_);refine SW.gd 2 ?_;refine SW.gt 3 _ i j rfl rfl rfl (λR f=>Ev.cU (.mk rfl) vd) (by kernel_rfl) rfl ?_;refine SW.gt 4 _ i j rfl rfl rfl (λR f=>Ev.jN (aa.gv rfl f) na trivial (by rfl)) (by kernel_rfl) rfl ?_;refine SW.gt 5 _ i j rfl rfl rfl (λR f=>Ev.gN (aa.gv rfl f) na) (by kernel_rfl) rfl ?_;refine SW.gt 6 _ i j rfl rfl rfl (λR f=>Ev.leq (aa.gv rfl f) (.mk rfl)) (by kernel_rfl) rfl ?_;refine SW.gd 7 ?_;refine SW.t1 8 ?_;refine g3 ?_;refine SW.go (SW.gd 9 ?_);refine SW.dn (g2 ?_);refine St.fF (bS (bE z) (bF z)) [aI z] (λρ h=>⟨z,rfl,rfl,h _ (aR ..)⟩) (St.rV [_,_] [aD (bS (bE z) (bF z))] ?_);refine⟨bF z,bE z,?_,E,rfl⟩;rw[←D,F]
  first|rfl|(cases N:(dT (iP T) (bE x) r (bE y)).isSome<;>simp)
theorem Wc {x y:eB}{i:Nat}(h:i<x.length+y.length):(Pl.of x y).rt i=i:=by unfold Pl.rt Pl.of;exact Uz h
theorem Yz {x y:eB}{i:Nat}(h:i<x.length):(Pl.of x y).tt i=(x.getD i gq).1:=by
 unfold Pl.tt Pl.of
 simp only[List.getD_eq_getElem?_getD]
 rw[rL (by rw[aO];exact h),bJ,bT h];rfl
theorem Z0 {x y:eB}(h:0<y.length):(Pl.of x y).tt x.length=(y.getD 0 gq).1:=by
 unfold Pl.tt Pl.of
 simp only[List.getD_eq_getElem?_getD]
 rw[nO (by rw[aO];exact aU _),aO,gp,bJ,bT h];rfl
theorem UN {mt:Nat→Nat→Option Nat}{x y:eB}{node:Nat}(b:node<x.length)(hy:0<y.length)(hm:mt (x.getD node gq).1.toNat (y.getD 0 gq).1.toNat=none):dT mt x node y=none:=by
 unfold dT
 have a:(Pl.of x y).rt ((node:Int),(x.length:Int)).1.toNat=node:=Wc (by show node<_;omega)
 have e2:(Pl.of x y).rt ((node:Int),(x.length:Int)).2.toNat=x.length:=Wc (by show x.length<_;omega)
 rw[KV (by rw[a,e2];omega) (by rw[a,e2,Yz b,Z0 hy];exact hm)];rfl
theorem Fg (g:Nat)(a b:ah)(T:List er)(B:j5 T)(nf:Nat)(o:nf≤100)(x y:dC)(hx:eG T.length nf (bE x))(hy:eG T.length nf (bE y))(F:x.nodes.length≤60)(G:y.nodes.length≤60)(node:Nat)(H:node<x.nodes.length):dx prog 166 #[bF x,iv (node:Nat),bF y,tW g] ([iG g [a.1,b.1],sl bP a.1 (da T),sl bP b.1 (dZ T),tz,aI x,aI y].map aD) (λv H'=>v= .bool (dT (iP T) (bE x) node (bE y)).isSome∧H'=[]):=by
 refine dx.body (args:=[bF x,iv (node:Nat),bF y,tW g]) 41 func166 rfl ntmps166 rfl (λc=>St.cast (H':=[aD (iG g [a.1,b.1]),aD (sl bP a.1 (da T)),aD (sl bP b.1 (dZ T)),aD (tz),aD (aI x),aD (aI y)]) rfl (go ?_))
 have r:=fz hx o
 have s:=fz hy o
 have j:=hy.pos
 have M:=ct x
 have I:=ct y
 obtain⟨p,hp⟩:=aF H;obtain⟨q,J⟩:=aF (show 0<y.nodes.length by omega)
 have l:(bE x).getD node gq=mQ p:=by rw[ax,l7 hp];rfl
 have m:(bE y).getD 0 gq=mQ q:=by rw[ax,l7 J];rfl
 have e:=(hx.at_ (i:=node) zE).1
 have f:=(hy.at_ (i:=0) j).1
 rw[l]at e;rw[m]at f
 obtain⟨n,C⟩:∃n:Nat,p.type=(n:Int):=⟨p.type.toNat,by have:=e.1;show p.type=_;have h:0≤p.type:=this;omega⟩
 obtain⟨d,D⟩:∃d:Nat,q.type=(d:Int):=⟨q.type.toNat,by have h:0≤q.type:=f.1;omega⟩
 have w:n<T.length:=by have h:p.type<T.length:=e.2;omega
 have A:d<T.length:=by have h:q.type<T.length:=f.2;omega
 refine St.jU (aI x) (λ_:Unit=>jb x) (λρ h=>⟨(),h⟩) λ_=> ?_
 refine St.cast (H':=[aD (sl bz x.nv.1 x.nodes),aD (aL cF x.nodes),aD (iG g [a.1,b.1]),aD (sl bP a.1 (da T)),aD (sl bP b.1 (dZ T)),aD (tz),aD (aI x),aD (aI y)]) rfl ?_
 refine St.jU (aI y) (λ_:Unit=>jb y) (λρ h=>⟨(),h⟩) λ_=> ?_
 refine St.cast (H':=[aD (sl bz y.nv.1 y.nodes),aD (aL cF y.nodes),aD (sl bz x.nv.1 x.nodes),aD (aL cF x.nodes),aD (iG g [a.1,b.1]),aD (sl bP a.1 (da T)),aD (sl bP b.1 (dZ T)),aD (tz),aD (aI x),aD (aI y)]) rfl (go ?_);refine St.cC (.mk rfl) rfl (λN=>St.cC (.mk rfl) rfl (λO=>g5 ?_));refine St.ef [] mixed (λP Q=>SW.dd 0 rfl (λ_=>Ev.EB (.mk rfl) xJ trivial (by exact xH)) ?_);refine SW.slot 14 (kX a b) rfl rfl (SW.gd 1 ?_);refine SW.gd 2 ?_;refine SW.gd 3 ?_;refine SW.gd 4 ?_;refine SW.gd 5 ?_;refine SW.gd 6 ?_;refine SW.slot 20 (iv (n:Nat)) rfl (congrArg iv C) (SW.gd 7 ?_);refine SW.gd 8 ?_;refine SW.dd 9 rfl (λ_=>Ev.cI (k:=0) (.mk rfl) (.mk rfl) na jF zE zE) (SW.gd 10 ?_);refine SW.gd 11 ?_;refine SW.slot 25 (iv (d:Nat)) rfl (congrArg iv D) (SW.dd 12 rfl (λ_=>Ev.call ((yb a b T B n d w A).mono λ_ _ h=>h.1) Nx (.eI rfl rfl rfl)) (SW.gd 13 ?_));refine SW.gd 14 ?_;refine SW.gd 15 ?_;refine SW.gd 16 ?_;refine SW.gd 17 ?_;refine SW.gd 18 ?_;refine SW.gd 19 ?_;refine SW.dn (g7 ?_);refine St.cq (λE=> ?_) (λE=> ?_)
 ·have hm:iP T ((bE x).getD node gq).1.toNat ((bE y).getD 0 gq).1.toNat=none:=by rw[l,m];show iP T p.type.toNat q.type.toNat=none;rw[C,D];simpa using E
  have K:=UN (mt:=iP T) zE j hm
  refine g7 ?_;refine St.rV [_] [] ?_;exact⟨by rw[K];rfl,rfl⟩
 ·refine g4 ?_
  refine St.ee (Ev.EB (.mk rfl) xJ trivial (by exact xH)) ?_;refine St.slot 33 (kX a b) rfl rfl (go ?_);refine St.slot 34 (bF x) rfl rfl (g2 ?_);refine St.slot 36 (bF y) rfl rfl (St.ak (rO a b T B nf o x y hx hy F G (λt ht=>by have:=(r t ht).2;omega) (λt ht=>by have:=(s t ht).2;omega) node zE) Jv (.gn rfl rfl rfl rfl) rfl ?_);rintro v37 _ ⟨u,rfl,rfl⟩;refine St.bB (St.bS ((dT (iP T) (bE x) node (bE y)).getD []) u (λz hz=>?_));obtain⟨rfl,L⟩:=hz;refine g3 ?_;refine St.al (λR=>g11 ?_);refine St.rV [_] [] ?_;exact⟨rfl,rfl⟩
structure oH where
 rule:Int
 lex:Int
 kv:ah
 kids:List Nat
structure cT where
 frm:Nat
 tqo:Nat
 cp:Nat
 gr:dC
 wv:ah
 cD:List oH
 tv:ah
 cB:List Int
def mZ:Rp oH:=⟨3,by decide,λw=>[iv w.rule,iv w.lex,w.kv.1],λw=>aZ w.rule∧aZ w.lex,λ_=>rfl,λw u h=>eH rfl (eH rfl (eH w.kv.2 λ_ h=>by cases h)) u h⟩
def eT:Rp cT:=⟨6,by decide,λx=>[iv (x.frm:Nat),iv (x.tqo:Nat),iv (x.cp:Nat),x.gr.nv.1,x.wv.1,x.tv.1],λ_=>True,λ_=>rfl,λx u h=>eH rfl (eH rfl (eH rfl (eH x.gr.nv.2 (eH x.wv.2 (eH x.tv.2 λ_ h=>by cases h))))) u h⟩
abbrev bV (l:List Nat):List Int:=l.map λi:Nat=>(i:Int)
theorem dc (l:List Nat):(bV l).length=l.length:=aO _
theorem gz (l:List Nat)(i:Nat):bV (l++ [i])=bV l++ [(i:Int)]:=by rw[bV,cY];rfl
theorem iw {l:List Nat}{k i:Nat}(h:l[k]?=some i):(bV l)[k]?=some (i:Int):=by rw[bJ,h];rfl
def jd (a:TypeId)(w:oH):List ay:=[row w.kv.1 a 1 w.kids.length (rows aJ (bV w.kids))]
def ew (b a:TypeId)(x:cT):List ay:=row x.wv.1 b 3 x.cD.length (rows mZ x.cD)::row x.tv.1 a 1 x.cB.length (rows aJ x.cB)::bX (jd a) x.cD
def gP (a:TypeId)(p:ah×List Nat):List ay:=[row p.1.1 a 1 p.2.length (rows aJ (bV p.2))]
def vN (w:oH):og:=⟨w.rule,w.lex,w.kids⟩
def dy (x:cT):jY:=⟨⟨x.frm,x.tqo,x.cp,bE x.gr⟩,x.cD.map vN,x.cB⟩
def xV (m:List (cM×Value))(its:List jY):Prop:=∀k,qu m k=(xj its k).map λi:Nat=>iv (i:Int)
theorem UP {its:List jY}{i:Nat}(w:og)(k:cM):xj (its.modify i λit=>it.put w) k=xj its k:=by
 unfold xj
 induction its generalizing i with
 |nil=>simp
 |cons a its b=>
  cases i with
  |zero=>rw[List.modify_zero_cons,List.findIdx?_cons,List.findIdx?_cons];rfl
  |succ i=>rw[List.modify_succ_cons,List.findIdx?_cons,List.findIdx?_cons,b]
theorem PV (its:List jY)(it:jY)(k:cM):xj (its++ [it]) k=match xj its k with
 |some i=>some i
 |none=>if fb it.ed=k then some its.length else none:=by
 unfold xj;rw[List.findIdx?_append]
 cases h:its.findIdx? λit=>decide (fb it.ed=k)with
 |some i=>rfl
 |none=>
  rw[Option.none_or,List.findIdx?_cons]
  by_cases e:fb it.ed=k
  ·rw[cX e,aB rfl,aB e];simp
  ·rw[df e,aA (by decide),aA e];rfl
theorem xV.nil:xV [] []:=λ_=>rfl
theorem xV.put {m:List (cM×Value)}{its:List jY}(h:xV m its)(i:Nat)(w:og):xV m (its.modify i λit=>it.put w):=λk=>by rw[UP];exact h k
theorem xV.new {m:List (cM×Value)}{its:List jY}(h:xV m its){it:jY}(a:xj its (fb it.ed)=none):xV (lN m (fb it.ed) (iv its.length)) (its++ [it]):=λk=>by
 rw[PV,GF]
 by_cases e:k=fb it.ed
 ·subst e;rw[aB rfl,a];dsimp only;rw[aB rfl];rfl
 ·rw[aA e,h k]
  cases xj its k with
  |some i=>rfl
  |none=>dsimp only;rw[aA (λx=>e x.symm)]
structure nc where
 gb:ah
 its:List cT
 o9:ah
 cE:List (ah×List Nat)
 m:List (cM×Value)
def nc.cs (d:nc):Cs:=⟨d.its.map dy,d.cE.map Prod.snd⟩
def nc.tail (b a:TypeId)(d:nc):List ay:=bX (ew b a) d.its++bX (gP a) d.cE
theorem DP (n i j k:Nat)(d:n≤12)(hi:i≤n)(e:j≤n)(hk:k=slt n i j)(sv:ah)(cE:List (ah×List Nat))(q:ah×List Nat)(b:cE[k]?=some q):dx prog 170 #[.agg #[iv (n:Nat),sv.1],iv (i:Nat),iv (j:Nat)] [row sv.1 35 1 (cE).length (rows cr ((cE).map Prod.fst))] (λv H'=>v=q.1.1∧H'=[row sv.1 35 1 (cE).length (rows cr ((cE).map Prod.fst))]):=by
 refine dx.body (args:=[.agg #[iv (n:Nat),sv.1],iv (i:Nat),iv (j:Nat)]) 18 func170 rfl ntmps170 rfl (λc=>go ?_)
 obtain⟨m,hm⟩:∃m,m=i*(n+1):=⟨_,rfl⟩
 have a:((i:Nat):Int)*(((n:Nat):Int)+1)=(m:Nat):=by rw[hm];push_cast;rfl
 have f:m≤156:=by rw[hm];exact dH (Nat.mul_le_mul (show i≤12 by omega) (show n+1≤13 by omega)) (by decide)
 have g:k=m+j:=by rw[hk,hm];rfl
 have h:=bO b
 refine go ?_;refine St.cC (.mk rfl) rfl (λl=>g11 ?_);refine St.ee (Ev.mul (.mk rfl) (.mk rfl) (by rw[a];omega)) ?_;refine St.slot 13 (iv (m:Nat)) rfl (congrArg iv a) (g2 ?_);refine St.ee (Ev.dV (k:=k) (.mk rfl) (.mk rfl) jG fT zE zE) (St.ee (Ev.dw (.mk rfl) bQ trivial zE (rf (show(cE.map Prod.fst)[k]?=some q.1 by rw[bJ,b];rfl))) ?_);refine g4 ?_;refine St.rV [_] [row sv.1 35 1 (cE).length (rows cr ((cE).map Prod.fst))] ?_;exact⟨rfl,rfl⟩
theorem JO (n i j k:Nat)(l:n≤12)(hi:i≤n)(o:j≤n)(hk:k=slt n i j)(sv:ah)(cE:List (ah×List Nat))(q:ah×List Nat)(d:cE[k]?=some q)(e:Nat)(he:e≤1400000000000)(p:q.2.length≤1400000000000):dx prog 205 #[.agg #[iv (n:Nat),sv.1],iv (i:Nat),iv (j:Nat),iv (e:Nat)] [row sv.1 35 1 (cE).length (rows cr ((cE).map Prod.fst)),row q.1.1 3 1 (q.2).length (rows aJ (bV (q.2)))] (λv H'=>∃u:ah,H'=[row sv.1 35 1 (cE.set k (u,q.2++ [e])).length (rows cr ((cE.set k (u,q.2++ [e])).map Prod.fst)),row u.1 3 1 (q.2++ [e]).length (rows aJ (bV (q.2++ [e])))]):=by
 refine dx.body (args:=[.agg #[iv (n:Nat),sv.1],iv (i:Nat),iv (j:Nat),iv (e:Nat)]) 28 func205 rfl ntmps205 rfl (λc=>go ?_)
 obtain⟨m,hm⟩:∃m,m=i*(n+1):=⟨_,rfl⟩
 have b:((i:Nat):Int)*(((n:Nat):Int)+1)=(m:Nat):=by rw[hm];push_cast;rfl
 have r:m≤156:=by rw[hm];exact dH (Nat.mul_le_mul (show i≤12 by omega) (show n+1≤13 by omega)) (by decide)
 have s:k=m+j:=by rw[hk,hm];rfl
 have t:=bO d
 refine St.lO sv.1 zE (λbs cs f=>go ?_);refine St.cC (.mk rfl) rfl (λw=>g8 ?_);refine St.ee (Ev.mul (.mk rfl) (.mk rfl) (by rw[b];omega)) ?_;refine St.slot 13 (iv (m:Nat)) rfl (congrArg iv b) (g5 ?_);refine St.ef [row sv.1 35 1 (cE).length (rows cr ((cE).map Prod.fst)),row q.1.1 3 1 (q.2).length (rows aJ (bV (q.2)))] mixed (λx y=>SW.gd 0 ?_);refine SW.gd 1 ?_;refine SW.gd 2 ?_;refine SW.gd 3 ?_;refine SW.gd 4 ?_;refine SW.gd 5 ?_;refine SW.dd 6 rfl (λ_=>Ev.nT (k:=k) f (.mk rfl) (.mk rfl) jG fT zE zE) (SW.gd 8 ?_);refine SW.t2 7 9 ?_ ?_
 focus
  refine St.ee (Ev.dw (.mk rfl) bQ trivial zE (rf (show(cE.map Prod.fst)[k]?=some q.1 by rw[bJ,d];rfl))) ?_;refine g2 ?_;refine SW.go (SW.t1 9 ?_);refine St.iu rfl (.aq rfl) bQ dQ ec rfl rfl (by simp[Value.cells]) rfl rfl (λg=> ?_);refine g2 ?_;refine SW.go (SW.t1 10 ?_);refine St.bH (.mk rfl) (.mk rfl) bQ dQ ec yt (by simp[Value.oneCell',Value.cells]) zE zE rfl rfl rfl rfl (λv26 h=> ?_);refine St.aP v26 (show _=(q.2++ [e]).length by rw[cA];rfl) (show _=rows aJ (bV (q.2++ [e])) by rw[gz,bN];rfl) ?_;refine St.cH v26 (λa _=>g2 ?_);refine SW.go (SW.dd 11 rfl (λ_=>Ev.nT (k:=k) f (.mk rfl) (.mk rfl) jG fT zE zE) (SW.t1 12 ?_));refine St.dF (.mk rfl) (.mk rfl) fT a zE (by decide) ?_;refine St.aP sv.1 (show _=(cE.set k (⟨v26,a⟩,q.2++ [e])).length by rw[ep]) (show _=rows cr ((cE.set k (⟨v26,a⟩,q.2++ [e])).map Prod.fst) by rw[mJ];exact AA _ _ ⟨v26,a⟩) ?_;refine g2 ?_;refine SW.go (SW.dn ?_)
 rotate_left
 focus
  refine St.iu rfl (.aq rfl) bQ dQ ec rfl rfl (by simp[Value.cells]) rfl rfl (λg=> ?_);refine g2 ?_;refine SW.go (SW.t1 7 ?_);refine St.ee (Ev.dw (.mk rfl) bQ trivial zE (rf (show(cE.map Prod.fst)[k]?=some q.1 by rw[bJ,d];rfl))) ?_;refine g2 ?_;refine SW.go (SW.t1 10 ?_);refine St.bH (.mk rfl) (.mk rfl) bQ dQ ec yt (by simp[Value.oneCell',Value.cells]) zE zE rfl rfl rfl rfl (λv26 h=> ?_);refine St.aP v26 (show _=(q.2++ [e]).length by rw[cA];rfl) (show _=rows aJ (bV (q.2++ [e])) by rw[gz,bN];rfl) ?_;refine St.cH v26 (λa _=>g2 ?_);refine SW.go (SW.dd 11 rfl (λ_=>Ev.nT (k:=k) f (.mk rfl) (.mk rfl) jG fT zE zE) (SW.t1 12 ?_));refine St.dF (.mk rfl) (.mk rfl) fT a zE (by decide) ?_;refine St.aP sv.1 (show _=(cE.set k (⟨v26,a⟩,q.2++ [e])).length by rw[ep]) (show _=rows cr ((cE.set k (⟨v26,a⟩,q.2++ [e])).map Prod.fst) by rw[mJ];exact AA _ _ ⟨v26,a⟩) ?_;refine g2 ?_;refine SW.go (SW.dn ?_)
 all_goals
  refine St.fi (St.rV [] [row sv.1 35 1 (cE.set k (⟨v26,a⟩,q.2++ [e])).length (rows cr ((cE.set k (⟨v26,a⟩,q.2++ [e])).map Prod.fst)),row v26 3 1 (q.2++ [e]).length (rows aJ (bV (q.2++ [e])))] ?_);exact⟨⟨v26,a⟩,rfl⟩
structure s9 where
 a:ah
 b:ah
 c:ah
 la:List Bool
 lb:List Bool
 lc:List Bool
def s9.at_ (x:s9)(j:Nat):ah×List Bool:=if j=0 then(x.a,x.la)else if j=1 then(x.b,x.lb)else(x.c,x.lc)
def tA:Rp s9:=⟨3,by decide,λx=>[x.a.1,x.b.1,x.c.1],λ_=>True,λ_=>rfl,λx u h=>by
 simp only[List.mem_cons,List.not_mem_nil,or_false]at h
 rcases h with rfl|rfl|rfl
 ·exact x.a.2
 ·exact x.b.2
 ·exact x.c.2⟩
theorem s9.cell (x:s9){j:Nat}(h:j<3):(tA.cells x)[0+j]?=some (x.at_ j).1.1:=by
 rcases j with _|_|_|j
 ·rfl
 ·rfl
 ·rfl
 ·omega
def oI (x:s9):e8:=j7 [sl eO x.a.1 x.la,sl eO x.b.1 x.lb,sl eO x.c.1 x.lc]
theorem Jp (x:s9)(j:Nat)(ρ:Ro)(h:(oI x).f ρ):(sl eO (x.at_ j).1.1 (x.at_ j).2).f ρ:=by
 have h1:=h (sl eO x.a.1 x.la) (by simp)
 have d:=h (sl eO x.b.1 x.lb) (by simp)
 have e:=h (sl eO x.c.1 x.lc) (by simp)
 unfold s9.at_
 split
 ·exact h1
 ·split
  ·exact d
  ·exact e
structure lF where
 nr:Nat
 nl:Nat
 kv:ah
 av:ah
 o9:ah
 fv:ah
 kids:List Int
 sF:List s9
def Tk (f:lF):List Value:=[iv (f.nr:Nat),iv (f.nl:Nat),f.kv.1,f.av.1,f.o9.1,f.fv.1]
def Lv (f:lF):Value:= .agg (Tk f).toArray
def iX (f:lF):e8:=j7 [sl aJ f.kv.1 f.kids,sl tA f.av.1 f.sF,aL oI f.sF]
def qR (nr nl:Nat)(top:Int):Int:=if 0≤top∧top<nr then top else if 1000≤top∧top<1000+(nl:Int)then nr+top-1000 else-1
def Xf:s9:=⟨bx,bx,bx,[],[],[]⟩
def qc (f:lF)(rule a:Nat)(top:Int):Bool:=decide (0≤qR f.nr f.nl top)&&decide (1≤a)&&decide ((a:Int)≤f.kids.getD rule 0)&&(((f.sF.getD rule Xf).at_ (a-1)).2.getD (qR f.nr f.nl top).toNat false)
structure ya (f:lF):Prop where
 nr:f.nr≤1000
 nl:f.nl≤1000
 kl:f.kids.length=f.nr
 al:f.sF.length=f.nr
 k3:∀k∈f.kids,k≤3
 ln:∀(r:Nat) (x:s9) (k:Int) (j:Nat),f.sF[r]?=some x→f.kids[r]?=some k→(j:Int)<k→(x.at_ j).2.length=f.nr+f.nl
theorem Kj {nr nl:Nat}{top:Int}(h:0≤qR nr nl top):(qR nr nl top).toNat<nr+nl:=by
 unfold qR at h⊢
 split
 ·omega
 ·split
  ·omega
  ·rename_i h1 a;rw[aA h1,aA a]at h;omega
theorem Iy (f:lF)(b:ya f)(top:Int)(ht:aZ top):dK prog 230 #[Lv f,iv top] [] (iv (qR f.nr f.nl top)):=by
 refine dK.gx (args:=[Lv f,iv top]) 28 func230 rfl ntmps230 rfl (λc=>go ?_)
 have d:=b.nr
 have h:=b.nl
 unfold aZ at ht;refine go ?_;refine St.cC (.mk rfl) rfl (λi=>g9 ?_);refine St.gt _ rfl rfl (λa=>Ev.move (.mk rfl)) rfl (St.gt _ rfl rfl (λa=>Ev.cU (.mk rfl) Dn) rfl (St.gt _ rfl rfl (λa=>Ev.jN (aa.gv rfl a) fA trivial (by rfl)) rfl ?_));refine St.gt _ rfl rfl (λa=>Ev.lss (aa.gv rfl a) (aa.gv rfl a)) rfl (g3 ?_);refine St.cq (λe=> ?_) (λe=> ?_)
 ·refine g8 ?_
  refine St.rV [_] [] ?_;exact ie (show top=qR f.nr f.nl top by unfold qR;rw[aB zE])
 ·refine g8 ?_
  refine St.gt _ rfl rfl (λa=>Ev.move (.mk rfl)) rfl (St.gt _ rfl rfl (λa=>Ev.cU (.mk rfl) Tp) rfl (St.gt _ rfl rfl (λa=>Ev.jN (aa.gv rfl a) fA trivial (by rfl)) rfl ?_));refine St.gt _ rfl rfl (λa=>Ev.add (.mk rfl) (aa.gv rfl a) (by first|omega|(simp only[cn]at a;omega))) rfl ?_;refine St.gt _ rfl rfl (λa=>Ev.lss (aa.gv rfl a) (aa.gv rfl a)) rfl (g3 ?_);refine St.cq (λg=> ?_) (λg=> ?_)
  ·refine g12 ?_
   refine St.rV [_] [] ?_;exact ie (show(f.nr:Int)+top-1000=qR f.nr f.nl top by unfold qR;rw[aA zE,aB zE])
  ·refine g8 ?_
   refine St.rV [_] [] ?_;exact ie (show(-1:Int)=qR f.nr f.nl top by unfold qR;rw[aA zE,aA zE])
theorem Eo (f:lF)(e:ya f)(rule a:Nat)(s:rule<f.nr)(hk:1≤a)(t:a≤1000)(top:Int)(ht:aZ top):dx prog 207 #[Lv f,iv (rule:Nat),iv (a:Nat),iv top] ([iX f].map aD) (λv H'=>v= .bool (qc f rule a top)∧H'=[]):=by
 refine dx.body (args:=[Lv f,iv (rule:Nat),iv (a:Nat),iv top]) 51 func207 rfl ntmps207 rfl (λc=>St.cast (H':=[aD (iX f)]) rfl (go ?_))
 refine St.jU (iX f) (λ_:Unit=>[sl aJ f.kv.1 f.kids,sl tA f.av.1 f.sF,aL oI f.sF]) (λρ h=>⟨(),h⟩) λ_=> ?_
 refine St.cast (H':=[aD (sl aJ f.kv.1 f.kids),aD (sl tA f.av.1 f.sF),aD (aL oI f.sF),aD (iX f)]) rfl ?_
 have u:=e.kl
 have w:=e.al
 obtain⟨k,l⟩:=aF (show rule<f.kids.length by omega);obtain⟨x,hx⟩:=aF (show rule<f.sF.length by omega)
 have y:=e.k3 k (aY l)
 have g:f.kids.getD rule 0=k:=by rw[ax,l];rfl
 have m:f.sF.getD rule Xf=x:=by rw[ax,hx];rfl
 obtain⟨j,rfl⟩:∃j,a=j+1:=⟨a-1,by omega⟩
 have q:=e.ln rule x k j hx l
 have n:=Kj (nr:=f.nr) (nl:=f.nl) (top:=top)
 refine St.bh oI f.sF (x:=x) (aY hx) (St.fF (sl eO (x.at_ j).1.1 (x.at_ j).2) [oI x] (λρ h=>Jp x j ρ (h _ (aR ..))) (St.Kn f.av.1 zE (λbs os cs r=>go ?_)));refine St.cC (.mk rfl) rfl (λz=>g7 ?_);refine St.ee (Ev.call (Iy f e top ht) ab6 (.aX rfl rfl)) (g8 ?_);refine St.split 15 _ rfl (λhp=> ?_) (λhp=> ?_)
 ·have o:0≤qR f.nr f.nl top:=im hp
  have A:=n o
  obtain⟨pl,i⟩:∃pl:Nat,qR f.nr f.nl top=(pl:Int):=⟨(qR f.nr f.nl top).toNat,by omega⟩
  rw[i];refine St.eK rfl rfl (go ?_);refine St.eK rfl rfl (go ?_);refine St.ee (Ev.o5 (.mk rfl) rfl (.mk rfl)) (go ?_);refine St.known 19 _ true rfl (cX zE) (St.eK rfl rfl (go ?_));refine St.eK rfl rfl (go ?_);refine St.eK rfl rfl (go ?_);refine St.eK rfl rfl (go ?_);refine St.ee (Ev.o5 (.mk rfl) rfl (.mk rfl)) (go ?_);refine St.known 25 _ true rfl (cX zE) (St.eK rfl rfl (go ?_));refine St.eK rfl rfl (go ?_);refine St.ee (Ev.o5 (.mk rfl) rfl (.mk rfl)) (go ?_);refine St.known 29 _ true rfl (cX zE) (St.eK rfl rfl (go ?_));refine St.eK rfl rfl (go ?_);refine St.eK rfl rfl (go ?_);refine St.eK rfl rfl (go ?_);refine St.eK rfl rfl (go ?_);refine St.eK rfl rfl (go ?_);refine St.eK rfl rfl (go ?_);refine St.ee (Ev.o5 (.mk rfl) rfl (.mk rfl)) (go ?_);refine St.split 38 _ rfl (λb=> ?_) (λb=> ?_)
  ·have d:((j+1:Nat):Int)≤k:=im b
   have B:=q zE
   obtain⟨bv,p⟩:=aF (show pl<(x.at_ j).2.length by omega);refine St.eK rfl rfl (go ?_);refine St.eK rfl rfl (go ?_);refine St.eK rfl rfl (go ?_);refine St.eK rfl rfl (go ?_);refine St.eK rfl rfl (go ?_);refine St.eK rfl rfl (go ?_);refine St.eK rfl rfl (St.ee (Ev.yK (j:=j) r (.mk rfl) (.mk rfl) Ac r9 zE zE) (St.eK rfl rfl (St.ee (Ev.ld1 (.mk rfl) hx kD trivial (x.cell zE)) (St.eK rfl rfl (go ?_)))));refine St.eK rfl rfl (go ?_);refine St.eK rfl rfl (go ?_);refine St.ee (Ev.o5 (.mk rfl) rfl (.mk rfl)) (g4 ?_);refine St.rV [_] [] ?_;exact⟨by unfold qc;rw[i,cX (show(0:Int)≤(pl:Nat) by omega),cX (show 1≤j+1 by omega),g,cX d,m];show _=Value.bool (true&&true&&true&&((x.at_ j).2.getD pl false));rw[ax,p];rfl,rfl⟩
  ·have d:¬((j+1:Nat):Int)≤k:=ly b
   refine St.dq rfl rfl rfl (St.dq rfl rfl rfl (St.dq rfl rfl rfl (St.dq rfl rfl rfl (St.dq rfl rfl rfl (St.dq rfl rfl rfl (St.dq rfl rfl rfl (St.dq rfl rfl rfl (St.dq rfl rfl rfl (St.dq rfl rfl rfl (St.dq rfl rfl rfl (St.ee (Ev.p8 (.mk rfl) rfl (.mk rfl)) (g4 ?_))))))))))));refine St.rV [_] [] ?_;exact⟨by unfold qc;rw[g,df d,Bool.and_false,Bool.false_and];rfl,rfl⟩
 ·have o:¬0≤qR f.nr f.nl top:=ly hp
  refine St.dq rfl rfl rfl (St.dq rfl rfl rfl (St.ee (Ev.p8 (.mk rfl) rfl (.mk rfl)) (go ?_)));refine St.dq rfl rfl rfl (St.dq rfl rfl rfl (St.dq rfl rfl rfl (St.dq rfl rfl rfl (St.ee (Ev.p8 (.mk rfl) rfl (.mk rfl)) (go ?_)))));refine St.dq rfl rfl rfl (St.dq rfl rfl rfl (St.ee (Ev.p8 (.mk rfl) rfl (.mk rfl)) (go ?_)));refine St.dq rfl rfl rfl (St.dq rfl rfl rfl (St.dq rfl rfl rfl (St.dq rfl rfl rfl (St.dq rfl rfl rfl (St.dq rfl rfl rfl (St.dq rfl rfl rfl (St.ee (Ev.p8 (.mk rfl) rfl (.mk rfl)) (go ?_))))))));refine St.dq rfl rfl rfl (St.dq rfl rfl rfl (St.dq rfl rfl rfl (St.dq rfl rfl rfl (St.dq rfl rfl rfl (St.dq rfl rfl rfl (St.dq rfl rfl rfl (St.dq rfl rfl rfl (St.dq rfl rfl rfl (St.dq rfl rfl rfl (St.dq rfl rfl rfl (St.ee (Ev.p8 (.mk rfl) rfl (.mk rfl)) (g4 ?_))))))))))));refine St.rV [_] [] ?_;exact⟨by unfold qc;rw[df o];rfl,rfl⟩
end Go.Proofs.YtiefglecbgdaiaaGreatDoor
namespace Go.J
open Go
def u8R:Rp UInt8:=⟨1,by decide,λx=>[.int .u8 (x.toNat:Int)],λ_=>True,λ_=>rfl,λ_ u h=>by simp at h;subst h;rfl⟩
section
variable {P:Program}{n:Nat}{F:Fr}{c:Ctx}{H:List ay}{ty:TypeId}{x:Operand}{Q:Exit→Act→World→Prop}{ops:Array Oper}{rest:List Oper}{d:Nat}{pos:String}{after:Array Edge}{src dst e:TypeId}
theorem um (s:cM):rows u8R s=s.map λb=>Value.int .u8 (b.toNat:Int):=by
 induction s with
 |nil=>rfl
 |cons x xs a=>simp only[rows,List.flatMap_cons,List.map_cons]at a⊢;rw[a];rfl
end
end Go.J
namespace Go.J
open Go.RowKit
open Go
end Go.J
namespace Go.J
open Go
section
variable {P:Program}{n:Nat}{F:Fr}{c:Ctx}{H R:List ay}{ty:TypeId}{x:Operand}{v:Value}
theorem Ev.ZR (l:cM){m:Nat}{cs:List Value}{src dst e:TypeId}[f:xU v H e 1 m cs](hx:aa F x v)(hm:m=l.length)(d:cs=l.map λb=>Value.int .u8 (b.toNat:Int))(h:l≠ [])
 (i:P.underlying src=some (.slice e)) (he:P.underlying e=some (.int .u8)) (hd:P.underlying dst=some .string):Ev P n F (Mm c H) (.convert src dst x) ty (sv l):= .of_run λa w k hw=>by
 obtain⟨ρ,o⟩:=hw.out;subst hm d
 have p:=o.row f
 rcases p.2 with⟨_,q⟩|⟨g,cap,cur,rfl,_,r,_,_,d,s⟩
 ·exact absurd (ka q) h
 ·have:=run_convert_bytes_back (P:=P) w src dst e ⟨g,0,none⟩ cap l i he hd (λj t=>by
   have h1:(cur.toList.take (l.length*1))[j]?=some (.int .u8 (l[j].toNat:Int)):=by
    rw[s,bJ,bT t];rfl
   rw[sj]at h1;rw[Addr.add_lit,jH,cg r]
   split at h1
   ·simpa using h1
   ·cases h1)
  simp[execOp,hx.eval k,this]
end
end Go.J
namespace Go.Proofs.YtiefglecbgdaiaaGreatDoor
open Go Go.J Tryz
theorem Zo (i:Int):IntKind.u8.wrap i=((kO i).toNat:Int):=by
 have h:∀k:Nat,k<256→(UInt8.ofNat k).toNat=k:=λk hk=>by
  show k%256=k
  omega
 unfold kO;rw[h _ zE];unfold IntKind.wrap
 simp[IntKind.bits,IntKind.signed]
 omega
abbrev I3 (frm tqo cp:Nat)(u:Value):Value:= .agg #[iv (frm:Nat),iv (tqo:Nat),iv (cp:Nat),u]
theorem MO (l:eB)(n:LV):zg (l++ [n])=zg l++(kO n.1::kO (n.2.length:Nat)::vo n.2):=by
 unfold zg;rw[qF];simp
theorem MP (l:lE)(n:Int×Int):vo (l++ [n])=vo l++ [kO n.1,kO n.2]:=by
 unfold vo;rw[qF];simp
theorem PT (frm tqo cp:Nat)(g:dC)(l:g.nodes.length≤100)(m:∀t∈g.nodes,t.bA.length≤1000):dx prog 204 #[I3 frm tqo cp g.nv.1] ([aI g].map aD) (λv H'=>v=sv (fb ⟨frm,tqo,cp,bE g⟩)∧H'=[]):=by
 refine dx.body (args:=[I3 frm tqo cp g.nv.1]) 56 func204 rfl ntmps204 rfl (λc=>St.cast (H':=[aD (aI g)]) rfl (go ?_))
 refine St.jU (aI g) (λ_:Unit=>jb g) (λρ h=>⟨(),h⟩) λ_=> ?_
 refine St.cast (H':=[aD (sl bz g.nv.1 g.nodes),aD (aL cF g.nodes),aD (aI g)]) rfl ?_
 have WI:=ct g
 refine go ?_;refine St.cC (.mk rfl) rfl (λf=>g7 ?_);refine St.ee (Ev.sU (.mk rfl) (by rw[fA];rfl) EZ) ?_;refine St.slot 10 (.int .u8 ((kO (frm:Nat)).toNat:Int)) rfl (congrArg (Value.int .u8) (Zo _)) (g2 ?_);refine St.ee (Ev.sU (.mk rfl) (by rw[fA];rfl) EZ) ?_;refine St.slot 13 (.int .u8 ((kO (tqo:Nat)).toNat:Int)) rfl (congrArg (Value.int .u8) (Zo _)) (g2 ?_);refine St.ee (Ev.sU (.mk rfl) (by rw[fA];rfl) EZ) ?_;refine St.slot 16 (.int .u8 ((kO (cp:Nat)).toNat:Int)) rfl (congrArg (Value.int .u8) (Zo _)) (St.iu rfl (.eI rfl rfl rfl) Cq sz5 zv5 rfl rfl (by simp[Value.cells]) rfl rfl (λi=> ?_));refine St.aP (tO i 3 3) (show _=([kO (frm:Nat),kO (tqo:Nat),kO (cp:Nat)]).length from rfl) (show _=rows u8R [kO (frm:Nat),kO (tqo:Nat),kO (cp:Nat)]from rfl) (g14 ?_);refine St.td (ι:=Nat) (κ:=Value×cM) (λk z T=>(22,iv k)::(3,z.1)::T) (λk z=>[row z.1 5 1 (z.2).length (rows u8R (z.2)),tI f [iv (frm:Nat),iv (tqo:Nat),iv (cp:Nat),g.nv.1] 226,aD (sl bz g.nv.1 g.nodes),aD (aL cF g.nodes),aD (aI g)]) (λk z=>k≤g.nodes.length∧z.1.oneCell'=true∧z.2=[kO (frm:Nat),kO (tqo:Nat),kO (cp:Nat)]++zg ((bE g).take k)∧z.2.length≤3+k*2002) (λk z=>g.nodes.length-k) 0 ((tO i 3 3),[kO (frm:Nat),kO (tqo:Nat),kO (cp:Nat)]) (aC.k3 2 20 21) ⟨aQ _,rfl,rfl,aU 3⟩ ?_;rintro k ⟨v,L⟩ ⟨hk,n,a,o⟩
 dsimp only at n a o⊢
 refine g6 ?_;refine St.cq (λr=> ?_) (λr=> ?_)
 ·obtain⟨t,ht⟩:=aF (show k<g.nodes.length by omega)
  have j:=aY ht
  have s:=m t j
  have p5:=l7 ht
  refine St.bh cF g.nodes (x:=t) j (St.fF (sl bC t.lv.1 t.bA) [cF t] (λρ h=>h _ (aR ..)) (g7 ?_));refine St.ee (Ev.iD (.mk rfl) ht xK trivial jF gH.eq) (St.al (λu=>g8 ?_));refine St.ee (Ev.sU (.mk rfl) (by rw[fA];rfl) EZ) ?_;refine St.slot 29 (.int .u8 ((kO (t.type)).toNat:Int)) rfl (congrArg (Value.int .u8) (Zo _)) (g3 ?_);refine St.ee (Ev.sU (.mk rfl) (by rw[fA];rfl) EZ) ?_;refine St.slot 33 (.int .u8 ((kO ((t.bA.length:Nat))).toNat:Int)) rfl (congrArg (Value.int .u8) (Zo _)) (St.iu rfl (.aX rfl rfl) Cq sz5 zv5 rfl rfl (by simp[Value.cells]) rfl rfl (λE=> ?_));refine St.bH (.mk rfl) (.mk rfl) Cq sz5 zv5 by5 (by simp[Value.oneCell',Value.cells]) zE zE rfl rfl rfl rfl (λv35 y=> ?_);refine St.aP v35 (show _=(L++ [kO t.type,kO (t.bA.length:Nat)]).length by rw[cA];rfl) (show _=rows u8R (L++ [kO t.type,kO (t.bA.length:Nat)]) by rw[um,um,cY];rfl) ?_;refine St.cH v35 (λd _=>g12 ?_);refine St.td (ι:=Nat) (κ:=Value×cM) (λq z T=>(39,iv q)::(3,z.1)::T) (λq z=>[row z.1 5 1 (z.2).length (rows u8R (z.2)),tI f [iv (frm:Nat),iv (tqo:Nat),iv (cp:Nat),g.nv.1] 226,tI u [iv t.type,t.lv.1] 166,aD (sl bz g.nv.1 g.nodes),aD (aL cF g.nodes),aD (aI g),aD (sl bC t.lv.1 t.bA)]) (λq z=>q≤t.bA.length∧z.1.oneCell'=true∧z.2=L++(kO t.type::kO (t.bA.length:Nat)::vo ((t.bA.map fV).take q))∧z.2.length≤5+k*2002+2*q) (λq z=>t.bA.length-q) 0 (v35,L++ [kO t.type,kO (t.bA.length:Nat)]) (aC.k6 2 20 21 22 37 38) ⟨aQ _,d,rfl,by dsimp only;rw[cA];simp only[List.length_cons,List.length_nil];omega⟩ ?_;rintro q ⟨w,M⟩ ⟨F,hw,b,e⟩
  dsimp only at hw b e⊢
  refine g6 ?_;refine St.cq (λA=> ?_) (λA=> ?_)
  ·obtain⟨p,hp⟩:=aF (show q<t.bA.length by omega)
   refine g7 ?_;refine St.ee (Ev.iD (.mk rfl) hp lT trivial de gH.eq) (St.al (λG=>g7 ?_));refine St.ee (Ev.sU (.mk rfl) (by rw[fA];rfl) EZ) ?_;refine St.slot 46 (.int .u8 ((kO (p.dE)).toNat:Int)) rfl (congrArg (Value.int .u8) (Zo _)) (g2 ?_);refine St.ee (Ev.sU (.mk rfl) (by rw[fA];rfl) EZ) ?_;refine St.slot 49 (.int .u8 ((kO (p.tqo)).toNat:Int)) rfl (congrArg (Value.int .u8) (Zo _)) (St.iu rfl (.aX rfl rfl) Cq sz5 zv5 rfl rfl (by simp[Value.cells]) rfl rfl (λH=> ?_));refine St.bH (.mk rfl) (.mk rfl) Cq sz5 zv5 by5 (by simp[Value.oneCell',Value.cells]) zE zE rfl rfl rfl rfl (λv51 B=> ?_);refine St.aP v51 (show _=(M++ [kO p.dE,kO p.tqo]).length by rw[cA];rfl) (show _=rows u8R (M++ [kO p.dE,kO p.tqo]) by rw[um,um,cY];rfl) ?_;refine St.cH v51 (λC _=>g9 ?_);refine St.vL (q+1) (v51,M++ [kO p.dE,kO p.tqo]) ⟨by omega,C,by dsimp only;rw[b,ag (show(t.bA.map fV)[q]?=some (fV p) by rw[bJ,hp];rfl),MP,dg];rfl,by dsimp only;rw[cA];simp only[List.length_cons,List.length_nil];omega⟩
  ·obtain rfl:q=t.bA.length:=by omega
   rw[fZ (by rw[aO];exact aU _)]at b;refine g11 ?_;refine St.vL (k+1) (w,M) ⟨by omega,hw,by dsimp only;rw[b,a,ag p5,MO,dg];show _=_++(_++(kO t.type::kO ((t.bA.map fV).length:Nat)::vo (t.bA.map fV)));rw[aO],by dsimp only;omega⟩
 ·obtain rfl:k=g.nodes.length:=by omega
  have D:(bE g).take g.nodes.length=bE g:=fZ zE
  rw[D]at a;refine g8 ?_;refine St.ee (Ev.ZR (fb ⟨frm,tqo,cp,bE g⟩) (.mk rfl) (show _=(fb ⟨frm,tqo,cp,bE g⟩).length by rw[a];rfl) (by rw[a,um];rfl) (by unfold fb;simp) Cq EZ wX) ?_;refine g4 ?_;refine St.rV [_] [] ?_;exact⟨rfl,rfl⟩
theorem Ew (v0:Value)(xs:List Int)(y:Int):dK prog 150 #[v0,iv y] [sl aJ v0 xs] (iv (ix (λx=>decide (y=x)) xs)):=by
 refine dK.pz (args:=[v0,iv y]) 19 func150 rfl ntmps150 rfl (λc=>go ?_);refine St.wf v0 (λf hlen=>g13 ?_);refine St.lS (ι:=Nat) (λk T=>(8,iv k)::T) (λk=>k≤xs.length∧(xs.take k).all (λx=> !decide (y=x))=true) (λk=>xs.length-k) 0 (aC.k3 0 1 7) ⟨aQ _,rfl⟩ ?_;intro k d;obtain⟨hk,a⟩:=d;refine g6 ?_;refine St.cq (λe=> ?_) (λe=> ?_)
 ·obtain⟨x,hx⟩:=aF (show k<xs.length by omega)
  refine g20 ?_;refine St.cq (λb=> ?_) (λb=> ?_)
  ·refine g12 ?_
   refine St.rV [_] [] ?_;exact ie (G0 a hx (by simpa using b)).symm
  ·refine g8 ?_
   refine St.aS (k+1) ⟨by omega,sQ a hx (by simpa using b)⟩
 ·refine g11 ?_
  refine St.rV [_] [] ?_;exact ie (KU a zE).symm
theorem yZ (v0:Value)(xs:List Int)(y:Int):dK prog 101 #[v0,iv y] [sl aJ v0 xs] (.bool (xs.any (λx=>decide (y=x)))):=by
 refine dK.pz (args:=[v0,iv y]) 9 func101 rfl ntmps101 rfl (λc=>g9 ?_);refine St.ee (Ev.call (Ew v0 xs y) abQ (.aX rfl rfl)) (g5 ?_);refine St.rV [_] [] ?_;exact be (CL _ _)
theorem DB (v0:Value)(xs:List Int)(a:FuncId)(f:aK prog a)(caps:List Value)(ds:List e8)(b:Int→Bool)(g:∀p∈xs,dK prog a ([iv p]++caps).toArray ds (.bool (b p))):
 dK prog 103 #[v0,.func (.func a) #[] caps.toArray] (sl aJ v0 xs::ds) (iv (ix b xs)):=by
 refine dK.Ns (args:=[v0,.func (.func a) #[] caps.toArray]) 19 func103 rfl ntmps103 rfl (λc=>go ?_);refine St.wf v0 (λj hlen=>g13 ?_);refine St.lS (ι:=Nat) (λk T=>(8,iv k)::T) (λk=>k≤xs.length∧(xs.take k).all (λy=> !b y)=true) (λk=>xs.length-k) 0 (aC.k3 0 1 7) ⟨aQ _,rfl⟩ ?_;intro k h;obtain⟨hk,d⟩:=h;refine g6 ?_;refine St.cq (λi=> ?_) (λi=> ?_)
 ·obtain⟨p,hp⟩:=aF (show k<xs.length by omega)
  refine g17 ?_;refine St.ee (Ev.ej (g p (aY hp)) f (.mk rfl) (.aq rfl)) (g2 ?_);refine St.cond _ rfl (λe=> ?_) (λe=> ?_)
  ·skip
   refine g12 ?_;refine St.Mf [_] _ results103 ⟨rfl,trivial⟩ ?_ (λ_ hw=>hw);exact ie (G0 d hp e).symm
  ·skip
   refine g8 ?_;refine St.Hi (k+1) ⟨by omega,sQ d hp (by simpa using e)⟩ (by first|omega|(dsimp only;omega)) (by repeat(first|exact Sub.nil|refine Sub.cons (by first|rfl|exact congrArg (λz=>some (iv z)) (by first|omega|(dsimp only;omega))|exact congrArg (λz=>some (Value.bool z)) (by first|assumption|exact jI (by assumption))) ?_)) (λ_ hw=>hw)
 ·refine g11 ?_
  refine St.Mf [_] _ results103 ⟨rfl,trivial⟩ ?_ (λ_ hw=>hw);exact ie (KU d zE).symm
theorem xS (v0:Value)(xs:List Int)(a:FuncId)(d:aK prog a)(caps:List Value)(ds:List e8)(b:Int→Bool)(e:∀p∈xs,dK prog a ([iv p]++caps).toArray ds (.bool (b p))):
 dK prog 145 #[v0,.func (.func a) #[] caps.toArray] (sl aJ v0 xs::ds) (.bool (xs.any b)):=by
 refine dK.Ns (args:=[v0,.func (.func a) #[] caps.toArray]) 9 func145 rfl ntmps145 rfl (λc=>g9 ?_);refine St.ee (Ev.call (DB v0 xs a d caps ds b e) aa8 (.aX rfl rfl)) (g5 ?_);refine St.Mf [_] _ results145 ⟨rfl,trivial⟩ ?_ (λ_ hw=>hw);exact be (CL _ _)
theorem DH (f:lF)(k:ya f)(i:List Value)(j:(i.drop 7).take 6=Tk f)(b rule a:Nat)(l:rule<f.nr)(hk:1≤a)(m:a≤1000)(d e g:Nat)(top:Int)(ht:aZ top):dx prog 206 #[iv top,tW d,tW e,tW g] ([kH d (tW b),kH e (iv (rule:Nat)),kH g (iv (a:Nat)),iG b i,iX f].map aD) (λv H'=>v= .bool (qc f rule a top)∧H'=[]):=by
 refine dx.body (args:=[iv top,tW d,tW e,tW g]) 14 func206 rfl ntmps206 rfl (λc=>St.cast (H':=[aD (kH d (tW b)),aD (kH e (iv (rule:Nat))),aD (kH g (iv (a:Nat))),aD (iG b i),aD (iX f)]) rfl (g6 ?_));refine St.ef [] mixed (λn o=>SW.gd 0 ?_);refine SW.gd 1 ?_;refine SW.gd 2 ?_;refine SW.dd 3 rfl (λ_=>Ev.KX 6 (.mk rfl) underlying217 trivial Kz j rfl) (SW.slot 9 (Lv f) rfl rfl (SW.gd 4 ?_));refine SW.gd 5 ?_;refine SW.gd 6 ?_;refine SW.dd 7 rfl (λ_=>Ev.call ((Eo f k rule a l hk m top ht).mono λ_ _ h=>h.1) ab1 (.gn rfl rfl rfl rfl)) (SW.gd 8 ?_);refine SW.dn (g2 ?_);refine St.rV [_] [] ?_;exact⟨rfl,rfl⟩
theorem uA (f:lF)(o:ya f)(d:List Value)(i:(d.drop 7).take 6=Tk f)(a rule b:Nat)(p:rule<f.nr)(hk:1≤b)(q:b≤1000)(g:ah)(j:d[13]?=some g.1)(its:List cT)(e:Nat)(x:cT)(hx:its[e]?=some x)(n:∀t∈x.cB,aZ t):dx prog 171 #[tW a,iv (rule:Nat),iv (b:Nat),iv (e:Nat)] [aD (iX f),aW a (.cells d.toArray 223 (0,0)),row g.1 229 6 its.length (rows eT its),row x.tv.1 3 1 x.cB.length (rows aJ x.cB)] (λv H'=>v= .bool (x.cB.any (qc f rule b))∧H'=[aW a (.cells d.toArray 223 (0,0)),row g.1 229 6 its.length (rows eT its),row x.tv.1 3 1 x.cB.length (rows aJ x.cB)]):=by
 refine dx.body (args:=[tW a,iv (rule:Nat),iv (b:Nat),iv (e:Nat)]) 19 func171 rfl ntmps171 rfl (λc=>go ?_)
 have r:=bO hx
 refine go ?_;refine St.Ll (.mk rfl) rfl rfl (λk=>St.Ll (.mk rfl) rfl rfl (λl=>St.Ll (.mk rfl) rfl rfl (λm=>g8 ?_)));refine St.ee (Ev.jN (.mk rfl) pH trivial j) (g3 ?_);refine St.ee (Ev.dw (.mk rfl) bQ trivial zE (eo eT _ e 5 _ hx (by decide))) ?_;refine St.ee (Ev.func (.eI rfl rfl rfl)) (St.ee (Ev.Bt (xS x.tv.1 x.cB 206 ab0 [tW k,tW l,tW m] [kH k (tW a),kH l (iv (rule:Nat)),kH m (iv (b:Nat)),iG a d,iX f] (qc f rule b) (λt ht=>(DH f o d i a rule b p hk q k l m t (n t ht)).mono λ_ _ h=>h.1)) abP (.aX rfl rfl) (eu.row (eu.aW (eu.aW (eu.aW (eu.ajN (eu.aD eu.nil))))) rfl rfl rfl n)) (g4 ?_));refine St.rV [_] [aW a (.cells d.toArray 223 (0,0)),row g.1 229 6 its.length (rows eT its),row x.tv.1 3 1 x.cB.length (rows aJ x.cB)] ?_;exact⟨rfl,rfl⟩
theorem Ev.Mb {P:Program}{n:Nat}{F:Fr}{A:World→Prop}{ty:TypeId}{x:Operand}{b o' cap m size k off:Nat}{v:Value}(a:v= .slice (some ⟨b,o',none⟩) m cap)(hx:aa F x (eL v size k off)):Ev P n F A (.nilCheck x) ty (eL v size k off):= .of_run λac w c _=>by
 subst a;rw[eJ]at hx
 simp[execOp,hx.eval c,eJ]
def nW (g:eU)(a b:ah)(f:lF)(n:Nat)(c vs:Value)(d:Nat):List Value:=kR g++ [a.1,b.1]++Tk f++ [c,iv (n:Nat),vs,.map (some d)]
instance (g:eU)(a b:ah)(f:lF)(n:Nat)(d vs u:Value)(c:Nat):Ez (nW g a b f n d vs c) 13 u (nW g a b f n u vs c):=⟨rfl⟩
theorem GG {α:Type}(l:List α)(a:α)(f:α→α):(l++ [a]).modify l.length f=l++ [f a]:=by
 induction l with
 |nil=>rfl
 |cons b l c=>rw[se,fL,List.modify_succ_cons,c];rfl
theorem I4 {α:Type}(l:List α)(a:α):(l++ [a]).eraseIdx l.length=l:=by
 induction l with
 |nil=>rfl
 |cons b l c=>rw[se,fL,List.eraseIdx_cons_succ,c]
theorem tP {α β:Type}(g:α→β)(f:β→β):∀{l:List α} {i:Nat} {a b:α},l[i]?=some a→g b=f (g a)→(l.set i b).map g=(l.map g).modify i f
 | [],_,_,_,h,_=>by cases h
 |c::l,0,a,b,h,d=>by
  obtain rfl:=Option.some.inj h;rw[Av,fM,fM,List.modify_zero_cons,d]
 |c::l,i+1,a,b,h,d=>by
  rw[HF,fM,fM,List.modify_succ_cons,tP g f (l:=l) h d]
structure lY (d:nc):Prop where
 cB:∀x∈d.its,∀t∈x.cB,aZ t
 keys:xV d.m (d.its.map dy)
 nd:((d.its.map dy).map λx=>fb x.ed).Nodup
theorem Yh {its:List jY}{k:cM}{i:Nat}(h:xj its k=some i):i<its.length:=by
 obtain⟨it,h1,_⟩:=zh h;exact bO h1
structure Va (n frm tqo:Nat)(d:nc)(e:oe)(i:Nat)(x:cT)(its:List cT)(cE:List (ah×List Nat))(m:List (cM×Value)):Prop where
 at_:its[i]?=some x
 keys:xV m (its.map dy)
 cB:∀x∈its,∀t∈x.cB,aZ t
 HO:cE.length=d.cE.length
 Z5:∀k,k≠slt n frm tqo→cE[k]?=d.cE[k]?
 fin:∀w:og,j6 n d.cs e w=⟨(its.map dy).modify i λit=>it.put w,cE.map Prod.snd⟩
 nd:((its.map dy).map λx=>fb x.ed).Nodup
theorem Va.Ax {n frm tqo:Nat}{d:nc}(h:lY d){e:oe}{i:Nat}(hk:xj (d.its.map dy) (fb e)=some i){x:cT}(hx:d.its[i]?=some x):Va n frm tqo d e i x d.its d.cE d.m:=
 ⟨hx,h.keys,h.cB,rfl,λ_ _=>rfl,λw=>by unfold j6;rw[show d.cs.its=d.its.map dy from rfl,hk];rfl,h.nd⟩
theorem Va.new {n frm tqo cp:Nat}{d:nc}(h:lY d){g:dC}(hk:xj (d.its.map dy) (fb ⟨frm,tqo,cp,bE g⟩)=none){q:ah×List Nat}(c:d.cE[slt n frm tqo]?=some q)(u:ah):
 Va n frm tqo d ⟨frm,tqo,cp,bE g⟩ d.its.length ⟨frm,tqo,cp,g,bx,[],bx,[]⟩ (d.its++ [⟨frm,tqo,cp,g,bx,[],bx,[]⟩]) (d.cE.set (slt n frm tqo) (u,q.2++ [d.its.length])) (lN d.m (fb ⟨frm,tqo,cp,bE g⟩) (iv d.its.length)):=by
 refine⟨by simp,?_,λx hx t ht=> ?_,by rw[List.length_set],λk hk=>by rw[iz (λh=>hk h.symm)],λw=> ?_,?_⟩
 ·have:=h.keys.new (it:=⟨⟨frm,tqo,cp,bE g⟩,[],[]⟩) hk
  rw[aO]at this;rw[cY];exact this
 ·rcases ca.1 hx with hx|hx
  ·exact h.cB x hx t ht
  ·rw[ba.1 hx]at ht;cases ht
 ·unfold j6
  rw[show d.cs.its=d.its.map dy from rfl,hk]
  dsimp only
  congr 1
  ·rw[cY,show d.its.length=(d.its.map dy).length from(aO _).symm]
   exact(GG (d.its.map dy) ⟨⟨frm,tqo,cp,bE g⟩,[],[]⟩ (λit=>it.put w)).symm
  ·rw[aO]
   exact(tP Prod.snd (λl=>l++ [d.its.length]) c rfl).symm
 ·rw[cY,cY,List.nodup_append]
  refine⟨h.nd,by simp,λa e b f=> ?_⟩;obtain⟨it,hit,rfl⟩:=cS.1 e
  have i:b=fb ⟨frm,tqo,cp,bE g⟩:=ba.1 f
  subst i;exact PU hk it hit
theorem GV {its:List cT}{i:Nat}{x:cT}(h:its[i]?=some x)(u:ah)(l:List oH):(rows eT its).set (i*6+4) u.1=rows eT (its.set i ⟨x.frm,x.tqo,x.cp,x.gr,u,l,x.tv,x.cB⟩):=by
 induction its generalizing i with
 |nil=>cases h
 |cons a its b=>
  cases i with
  |zero=>obtain rfl:=Option.some.inj h;rfl
  |succ i=>
   have:=b (i:=i) h
   show(eT.cells a++rows eT its).set ((i+1)*6+4) u.1=eT.cells a++rows eT (its.set i _)
   rw[←this,oE _ _ (by show 6≤_;omega)]
   congr 2
   show(i+1)*6+4-6=_
   omega
theorem QW {its:List cT}{i:Nat}{x:cT}(h:its[i]?=some x)(u:ah)(l:List Int):(rows eT its).set (i*6+5) u.1=rows eT (its.set i ⟨x.frm,x.tqo,x.cp,x.gr,x.wv,x.cD,u,l⟩):=by
 induction its generalizing i with
 |nil=>cases h
 |cons a its b=>
  cases i with
  |zero=>obtain rfl:=Option.some.inj h;rfl
  |succ i=>
   have:=b (i:=i) h
   show(eT.cells a++rows eT its).set ((i+1)*6+5) u.1=eT.cells a++rows eT (its.set i _)
   rw[←this,oE _ _ (by show 6≤_;omega)]
   congr 2
   show(i+1)*6+5-6=_
   omega
theorem ph (f:cT→List ay)(g:ah×List Nat→List ay)(its:List cT){cE:List (ah×List Nat)}{k:Nat}{q:ah×List Nat}(h:cE[k]?=some q):(bX f its++bX g cE).Perm (g q++(bX f its++bX g (cE.eraseIdx k))):=by
 refine((rZ g h).append_left (bX f its)).trans ?_;rw[←dg,←dg];exact kf.append_right _
theorem ahM (f:cT→List ay)(g:ah×List Nat→List ay)(its:List cT){cE:List (ah×List Nat)}{k:Nat}(q:ah×List Nat)(h:k<cE.length):(g q++(bX f its++bX g (cE.eraseIdx k))).Perm (bX f its++bX g (cE.set k q)):=by
 refine List.Perm.trans ?_ ((vj g q h).append_left (bX f its));rw[←dg,←dg];exact kf.append_right _
theorem zf (f:cT→List ay)(X:List ay){its:List cT}{i:Nat}{x:cT}(h:its[i]?=some x):(bX f its++X).Perm (f x++(bX f (its.eraseIdx i)++X)):=by
 rw[←dg];exact(rZ f h).append_right X
theorem agL (f:cT→List ay)(X:List ay){its:List cT}{i:Nat}(x:cT)(h:i<its.length):(f x++(bX f (its.eraseIdx i)++X)).Perm (bX f (its.set i x)++X):=by
 rw[←dg];exact(vj f x h).append_right X
theorem Ry (b a:TypeId)(X:List ay){its:List cT}{i:Nat}(x:cT){cD:List oH}{w:oH}(hw:x.cD=cD++ [w])(h:i<its.length):
 ([row x.wv.1 b 3 x.cD.length (rows mZ x.cD),row x.tv.1 a 1 x.cB.length (rows aJ x.cB),row w.kv.1 a 1 w.kids.length (rows aJ (bV w.kids))]++(bX (jd a) cD++(bX (ew b a) (its.eraseIdx i)++X))).Perm (bX (ew b a) (its.set i x)++X):=by
 refine List.Perm.trans ?_ (agL (ew b a) X x h)
 show(row x.wv.1 b 3 x.cD.length (rows mZ x.cD)::row x.tv.1 a 1 x.cB.length (rows aJ x.cB)::(jd a w++(bX (jd a) cD++(bX (ew b a) (its.eraseIdx i)++X)))).Perm (row x.wv.1 b 3 x.cD.length (rows mZ x.cD)::row x.tv.1 a 1 x.cB.length (rows aJ x.cB)::(bX (jd a) x.cD++(bX (ew b a) (its.eraseIdx i)++X)))
 refine .cons _ (.cons _ ?_);rw[hw,U2,show bX (jd a) [w]=jd a w from ib _,←dg];exact kf.append_right _
theorem Kd {n frm tqo:Nat}{d:nc}{e:oe}{i:Nat}{x x3:cT}{its:List cT}{cE:List (ah×List Nat)}{m:List (cM×Value)}(h:Va n frm tqo d e i x its cE m){w:og}(f:dy x3=(dy x).put w)(ht:∀t∈x3.cB,aZ t)(b:ah):
 (⟨b,its.set i x3,d.o9,cE,m⟩:nc).cs=j6 n d.cs e w∧lY ⟨b,its.set i x3,d.o9,cE,m⟩:=by
 have a:(its.set i x3).map dy=(its.map dy).modify i λit=>it.put w:=tP dy _ h.at_ f
 refine⟨?_,?_,?_,?_⟩
 ·rw[h.fin w];show(⟨(its.set i x3).map dy,_⟩:Cs)=_;rw[a]
 ·intro y hy
  rcases lV hy with hy|rfl
  ·exact h.cB y hy
  ·exact ht
 ·show xV m ((its.set i x3).map dy)
  rw[a];exact h.keys.put i w
 ·show((((its.set i x3).map dy)).map λx=>fb x.ed).Nodup
  have e2:(((its.set i x3).map dy).map λx=>fb x.ed)=(its.map dy).map λx=>fb x.ed:=by
   rw[a]
   refine nN λk=> ?_
   rw[bJ,bJ,List.getElem?_modify]
   cases (its.map dy)[k]? with
   |none=>rfl
   |some y=>by_cases c:i=k<;>simp[c,jY.put]
  rw[e2];exact h.nd
theorem vP (g:eU)(H I:ah)(f:lF)(n:Nat)(hn:n≤12)(d:nc)(hp:lY d)(C s frm tqo cp:Nat)(gr:dC)(V:gr.nodes.length≤100)(U9:∀t∈gr.nodes,t.bA.length≤1000)(W:frm≤n)(hto:tqo≤n)
 (rule lex:Int) (N:aZ rule) (hle: -1000000≤lex∧lex≤1000000) (kv:ah) (kids:List Nat) (q:ah×List Nat) (S:d.cE[slt n frm tqo]?=some q) (hql:q.2.length≤1400000000000) (PD:d.its.length+1≤1400000000000) (PL:∀x∈d.its,x.cD.length+1≤3000000000000∧x.cB.length≤x.cD.length):
 dx prog 167 #[tW C,I3 frm tqo cp gr.nv.1,.agg #[iv rule,iv lex,kv.1]] (aD (aI gr)::aD (aL (λx:cT=>aI x.gr) (d.its))::tI C (nW g H I f n d.gb.1 d.o9.1 s) 223::aW s (eW mkStr (d.m))::row d.gb.1 229 6 (d.its).length (rows eT (d.its))::row d.o9.1 35 1 (d.cE).length (rows cr ((d.cE).map Prod.fst))::row kv.1 3 1 kids.length (rows aJ (bV kids))::(bX (ew 234 3) (d.its)++bX (gP 3) (d.cE)))
  (λv H'=>∃d2:nc,d2.cs=j6 n d.cs (⟨frm,tqo,cp,bE gr⟩:oe) (⟨rule,lex,kids⟩:og)∧d2.o9=d.o9∧lY d2∧d2.cE.length=d.cE.length∧(∀k,k≠slt n frm tqo→d2.cE[k]?=d.cE[k]?)∧H'=aD (aL (λx:cT=>aI x.gr) (d2.its))::tI C (nW g H I f n d2.gb.1 d.o9.1 s) 223::aW s (eW mkStr (d2.m))::row d2.gb.1 229 6 (d2.its).length (rows eT (d2.its))::row d2.o9.1 35 1 (d2.cE).length (rows cr ((d2.cE).map Prod.fst))::(bX (ew 234 3) (d2.its)++bX (gP 3) (d2.cE))):=by
 refine dx.body (args:=[tW C,I3 frm tqo cp gr.nv.1,.agg #[iv rule,iv lex,kv.1]]) 96 func167 rfl ntmps167 rfl (λc=>go ?_)
 have X:=bO S
 have ap2:=N.1
 have ap3:=N.2
 refine go ?_;refine St.cC (.mk rfl) rfl (λb4=>St.cC (.mk rfl) rfl (λb5=>g9 ?_));refine St.join (ι:=Int) (λtop T=>(6,iv top)::T) (λtop=>tI b4 [iv (frm:Nat),iv (tqo:Nat),iv (cp:Nat),gr.nv.1] 226::tI b5 [iv rule,iv lex,kv.1] 234::aD (aI gr)::aD (aL (λx:cT=>aI x.gr) (d.its))::tI C (nW g H I f n d.gb.1 d.o9.1 s) 223::aW s (eW mkStr (d.m))::row d.gb.1 229 6 (d.its).length (rows eT (d.its))::row d.o9.1 35 1 (d.cE).length (rows cr ((d.cE).map Prod.fst))::row kv.1 3 1 kids.length (rows aJ (bV kids))::(bX (ew 234 3) (d.its)++bX (gP 3) (d.cE))) (λtop=>top=tX (⟨rule,lex,kids⟩:og)) (aC.k3 0 4 5) ?_ ?_
 ·refine g6 ?_
  refine St.cq (λh14=> ?_) (λh14=> ?_)
  ·refine g7 ?_
   refine St.mE (1000+lex) (by unfold tX;rw[aB (show rule<0 by omega)])
  ·refine g2 ?_
   refine St.mE rule (by unfold tX;rw[aA (show ¬rule<0 by omega)])
 ·intro top D
  refine g3 ?_;refine St.slot 18 (I3 frm tqo cp gr.nv.1) rfl rfl (St.ee (Ev.call ((PT frm tqo cp gr V U9).mono λ_ _ h=>h.1) abY (.aq rfl)) (g4 ?_))
  have A:=hp.keys (fb (⟨frm,tqo,cp,bE gr⟩:oe))
  refine g6 ?_;refine St.ee (Ev.uV mkStr (k:=(fb (⟨frm,tqo,cp,bE gr⟩:oe))) (.mk rfl) (.mk rfl) qE (by exact wX) ec) ?_;refine g7 ?_;refine St.join (ι:=Nat×cT×List cT×List cT×List (ah×List Nat)×List (cM×Value)×ah) (λ⟨i,a,b,M,l,m1,o⟩ T=>(8,iv ((i:Nat):Int))::T) (λ⟨i,a,b,M,l,m1,o⟩=>tI b4 [iv (frm:Nat),iv (tqo:Nat),iv (cp:Nat),gr.nv.1] 226::tI b5 [iv rule,iv lex,kv.1] 234::tI C (nW g H I f n o.1 d.o9.1 s) 223::aW s (eW mkStr (m1))::row o.1 229 6 (b).length (rows eT (b))::row d.o9.1 35 1 (l).length (rows cr ((l).map Prod.fst))::row kv.1 3 1 kids.length (rows aJ (bV kids))::aD (aL (λx:cT=>aI x.gr) (b))::aD (aI gr)::row a.wv.1 234 3 (a.cD).length (rows mZ (a.cD))::row a.tv.1 3 1 (a.cB).length (rows aJ (a.cB))::(bX (jd 3) a.cD++(bX (ew 234 3) M++bX (gP 3) l))) (λ⟨i,a,b,M,l,m1,o⟩=>Va n frm tqo d (⟨frm,tqo,cp,bE gr⟩:oe) i a b l m1∧M=b.eraseIdx i∧b.length≤1400000000000∧a.cD.length+1≤3000000000000∧a.cB.length≤a.cD.length) (aC.k3 0 5 6) ?_ ?_
  ·refine g6 ?_
   refine St.cq (λO=> ?_) (λO=> ?_)
   ·have PE:xj (d.its.map dy) (fb (⟨frm,tqo,cp,bE gr⟩:oe))=none:=by cases Y:xj (d.its.map dy) (fb (⟨frm,tqo,cp,bE gr⟩:oe))with|none=>rfl|some j=>rw[Y]at A;rw[A]at O;simp at O
    refine g18 ?_;refine St.mapUpdate mkStr (k:=(fb (⟨frm,tqo,cp,bE gr⟩:oe))) (.mk rfl) (.mk rfl) (.mk rfl) qE (by exact wX) ?_;refine g3 ?_;refine St.ef (tI C (nW g H I f n d.gb.1 d.o9.1 s) 223::row d.gb.1 229 6 (d.its).length (rows eT (d.its))::(bX (ew 234 3) (d.its)++bX (gP 3) (d.cE))) mixed (λnp ns=>SW.gd 0 ?_);refine SW.gd 1 ?_;refine SW.gd 2 ?_;refine SW.gd 3 ?_;refine SW.gd 5 ?_;refine SW.slot 47 (I3 frm tqo cp gr.nv.1) rfl rfl (SW.dd 6 rfl (λ_=>Ev.build (ps:=[(0,(.tmp 47))]) (au.aq rfl) (λw=>Np w)) (SW.slot 48 (.agg #[iv (frm:Nat),iv (tqo:Nat),iv (cp:Nat),gr.nv.1,(.slice none 0 0),(.slice none 0 0)]) rfl rfl (SW.t2 4 7 ?_ ?_)))
    focus
     refine g3 ?_;refine SW.go (SW.t1 7 ?_);refine St.iu rfl (.aq rfl) pH pG HI rfl rfl (by simp[Value.cells]) rfl rfl (λZ=> ?_);refine g2 ?_;refine SW.go (SW.t1 8 ?_);refine St.bH (.mk rfl) (.mk rfl) pH pG HI Nu (by intro u hu;have B:u∈[iv (frm:Nat),iv (tqo:Nat),iv (cp:Nat),gr.nv.1,.slice none 0 0,.slice none 0 0]:=hu;simp only[List.mem_cons,List.not_mem_nil,or_false]at B;rcases B with rfl|rfl|rfl|rfl|rfl|rfl;exact rfl;exact rfl;exact rfl;exact gr.nv.2;exact rfl;exact rfl) zE zE rfl rfl rfl rfl (λv50 am5=> ?_);refine St.aP v50 (show _=(d.its++ [(⟨frm,tqo,cp,gr,bx,[],bx,[]⟩:cT)]).length by rw[cA];rfl) (show _=rows eT (d.its++ [(⟨frm,tqo,cp,gr,bx,[],bx,[]⟩:cT)]) by rw[bN];rfl) ?_;refine St.cH v50 (λU _=>g2 ?_);refine SW.go (SW.gd 9 ?_);refine SW.gd 10 ?_;refine SW.t1 11 ?_;refine St.cP (.mk rfl) (.mk rfl) Ky U (by rfl) ?_;refine g2 ?_;refine SW.go (SW.dn ?_)
    rotate_left
    focus
     refine St.iu rfl (.aq rfl) pH pG HI rfl rfl (by simp[Value.cells]) rfl rfl (λZ=> ?_);refine g2 ?_;refine SW.go (SW.t1 4 ?_);refine g3 ?_;refine SW.go (SW.t1 8 ?_);refine St.bH (.mk rfl) (.mk rfl) pH pG HI Nu (by intro u hu;have B:u∈[iv (frm:Nat),iv (tqo:Nat),iv (cp:Nat),gr.nv.1,.slice none 0 0,.slice none 0 0]:=hu;simp only[List.mem_cons,List.not_mem_nil,or_false]at B;rcases B with rfl|rfl|rfl|rfl|rfl|rfl;exact rfl;exact rfl;exact rfl;exact gr.nv.2;exact rfl;exact rfl) zE zE rfl rfl rfl rfl (λv50 am5=> ?_);refine St.aP v50 (show _=(d.its++ [(⟨frm,tqo,cp,gr,bx,[],bx,[]⟩:cT)]).length by rw[cA];rfl) (show _=rows eT (d.its++ [(⟨frm,tqo,cp,gr,bx,[],bx,[]⟩:cT)]) by rw[bN];rfl) ?_;refine St.cH v50 (λU _=>g2 ?_);refine SW.go (SW.gd 9 ?_);refine SW.gd 10 ?_;refine SW.t1 11 ?_;refine St.cP (.mk rfl) (.mk rfl) Ky U (by rfl) ?_;refine g2 ?_;refine SW.go (SW.dn ?_)
    all_goals
     refine go ?_;refine St.tail (bX (ew 234 3) (d.its)++bX (gP 3) (d.cE)) (row q.1.1 3 1 (q.2).length (rows aJ (bV (q.2)))::(bX (ew 234 3) (d.its)++bX (gP 3) (d.cE.eraseIdx (slt n frm tqo)))) (ph _ _ _ S) (St.ef (row d.o9.1 35 1 (d.cE).length (rows cr ((d.cE).map Prod.fst))::row q.1.1 3 1 (q.2).length (rows aJ (bV (q.2)))::(bX (ew 234 3) (d.its)++bX (gP 3) (d.cE.eraseIdx (slt n frm tqo)))) mixed (λnp ns=>SW.gd 0 ?_));refine SW.gd 1 ?_;refine SW.gd 2 ?_;refine SW.dd 3 rfl (λ_=>Ev.jO 2 (.mk rfl) Cn trivial Ck rfl rfl) (SW.slot 56 (.agg #[iv (n:Nat),d.o9.1]) rfl rfl (SW.gd 4 ?_));refine SW.gd 5 ?_;refine SW.gd 6 ?_;refine SW.gd 7 ?_;refine SW.gd 8 ?_;refine SW.t1 9 ?_;refine St.call (JO n frm tqo (slt n frm tqo) hn W hto rfl d.o9 d.cE q S d.its.length zE hql) abZ (.gn rfl rfl rfl rfl) rfl ?_;rintro v62 _ ⟨u,rfl⟩;refine St.dD (g2 ?_);refine SW.go (SW.dn (go ?_));refine St.e7 234 3 (St.aP (.slice none 0 0) (show _=([]:List oH).length from rfl) (show _=rows mZ []from rfl) (St.e7 3 1 (St.aP (.slice none 0 0) (show _=([]:List Int).length from rfl) (show _=rows aJ []from rfl) (St.pk [row u.1 3 1 (q.2++ [d.its.length]).length (rows aJ (bV (q.2++ [d.its.length])))] (bX (ew 234 3) (d.its)++bX (gP 3) (d.cE.eraseIdx (slt n frm tqo))) (bX (jd 3) ([]:List oH)++(bX (ew 234 3) (d.its)++bX (gP 3) (d.cE.set (slt n frm tqo) (u,q.2++ [d.its.length])))) (ahM (ew 234 3) (gP 3) d.its (u,q.2++ [d.its.length]) X) (St.fF (aL (λx:cT=>aI x.gr) (d.its++ [(⟨frm,tqo,cp,gr,bx,[],bx,[]⟩:cT)])) [aL (λx:cT=>aI x.gr) d.its,aI gr] (λρ h x hx=>by rcases ca.1 hx with hx|hx;exact h _ (aR ..) x hx;rw[ba.1 hx];exact h _ (cO _ (aR ..))) ?_)))));refine St.mE ⟨d.its.length,(⟨frm,tqo,cp,gr,bx,[],bx,[]⟩:cT),d.its++ [(⟨frm,tqo,cp,gr,bx,[],bx,[]⟩:cT)],d.its,d.cE.set (slt n frm tqo) (u,q.2++ [d.its.length]),lN d.m (fb (⟨frm,tqo,cp,bE gr⟩:oe)) (iv d.its.length),⟨v50,U⟩⟩ ⟨Va.new hp PE S u,(I4 _ _).symm,by rw[cA];exact PD,by show 0+1≤3000000000000;omega,aQ _⟩
   ·obtain⟨i0,J⟩:∃i,xj (d.its.map dy) (fb (⟨frm,tqo,cp,bE gr⟩:oe))=some i:=by cases Y:xj (d.its.map dy) (fb (⟨frm,tqo,cp,bE gr⟩:oe))with|none=>(rw[Y]at A;rw[A]at O;simp at O)|some j=>exact⟨j,rfl⟩
    have P:=Yh J
    rw[aO]at P;obtain⟨x0,WQ⟩:=aF P
    have hxw:=PL x0 (aY WQ)
    refine St.slot 8 (iv ((i0:Nat):Int)) rfl (by rw[A,J];rfl) ?_;refine g2 ?_;refine St.tail (bX (ew 234 3) (d.its)++bX (gP 3) (d.cE)) (row x0.wv.1 234 3 (x0.cD).length (rows mZ (x0.cD))::row x0.tv.1 3 1 (x0.cB).length (rows aJ (x0.cB))::(bX (jd 3) x0.cD++(bX (ew 234 3) (d.its.eraseIdx i0)++bX (gP 3) (d.cE)))) (zf _ _ WQ) ?_;refine St.mE ⟨i0,x0,d.its,d.its.eraseIdx i0,d.cE,d.m,d.gb⟩ ⟨Va.Ax hp J WQ,rfl,by omega,hxw⟩
  ·rintro ⟨i,a,b,M,l,m1,o⟩ ⟨p,Q,hi1,hw1,ht1⟩
   refine go ?_
   have G:=bO p.at_
   have K:=aY p.at_
   refine St.lO o.1 zE (λbs cs z=>g6 ?_);refine St.ee (Ev.nT (k:=i) z (.mk rfl) (.mk rfl) pH pG zE zE) (g4 ?_);refine St.ef (row o.1 229 6 (b).length (rows eT (b))::row a.wv.1 234 3 (a.cD).length (rows mZ (a.cD))::(bX (jd 3) a.cD++(bX (ew 234 3) M++bX (gP 3) l))) mixed (λnp ns=>SW.gd 0 ?_);refine SW.gd 1 ?_;refine SW.dd 2 rfl (λ_=>Ev.Mb z (.mk rfl)) (SW.dd 3 rfl (λ_=>Ev.uJ z (.mk rfl) uO) (SW.gd 5 ?_));refine SW.slot 74 (.agg #[iv rule,iv lex,kv.1]) rfl rfl (SW.t2 4 6 ?_ ?_)
   focus
    refine St.ee (Ev.dw (.mk rfl) vA trivial zE (eo eT _ i 4 _ p.at_ (by decide))) ?_;refine g2 ?_;refine SW.go (SW.t1 6 ?_);refine St.iu rfl (.aq rfl) vA uw LQ rfl rfl (by simp[Value.cells]) rfl rfl (λb75=> ?_);refine g2 ?_;refine SW.go (SW.t1 7 ?_);refine St.bH (.mk rfl) (.mk rfl) vA uw LQ Vh (by intro u hu;have B:u∈[iv rule,iv lex,kv.1]:=hu;simp only[List.mem_cons,List.not_mem_nil,or_false]at B;rcases B with rfl|rfl|rfl;exact rfl;exact rfl;exact kv.2) zE zE rfl rfl rfl rfl (λv76 am7=> ?_);refine St.aP v76 (show _=(a.cD++ [(⟨rule,lex,kv,kids⟩:oH)]).length from cW) (show _=rows mZ (a.cD++ [(⟨rule,lex,kv,kids⟩:oH)]) by rw[bN];rfl) ?_;refine St.cH v76 (λe _=>g2 ?_);refine SW.go (SW.dd 8 rfl (λ_=>Ev.Mb z (.mk rfl)) (SW.dd 9 rfl (λ_=>Ev.uJ z (.mk rfl) uO) (SW.t1 10 ?_)));refine St.dF (.mk rfl) (.mk rfl) Wt e zE (by decide) ?_
    obtain⟨E,L⟩:∃E:cT,E=⟨a.frm,a.tqo,a.cp,a.gr,⟨v76,e⟩,a.cD++ [⟨rule,lex,kv,kids⟩],a.tv,a.cB⟩:=⟨_,rfl⟩
    refine St.aP o.1 (show _=(b.set i E).length by rw[ep]) (show _=rows eT (b.set i E) by rw[L];exact GV p.at_ ⟨v76,e⟩ _) ?_;refine g2 ?_;refine SW.go (SW.dn ?_)
   rotate_left
   focus
    refine St.iu rfl (.aq rfl) vA uw LQ rfl rfl (by simp[Value.cells]) rfl rfl (λb75=> ?_);refine g2 ?_;refine SW.go (SW.t1 4 ?_);refine St.ee (Ev.dw (.mk rfl) vA trivial zE (eo eT _ i 4 _ p.at_ (by decide))) ?_;refine g2 ?_;refine SW.go (SW.t1 7 ?_);refine St.bH (.mk rfl) (.mk rfl) vA uw LQ Vh (by intro u hu;have B:u∈[iv rule,iv lex,kv.1]:=hu;simp only[List.mem_cons,List.not_mem_nil,or_false]at B;rcases B with rfl|rfl|rfl;exact rfl;exact rfl;exact kv.2) zE zE rfl rfl rfl rfl (λv76 am7=> ?_);refine St.aP v76 (show _=(a.cD++ [(⟨rule,lex,kv,kids⟩:oH)]).length from cW) (show _=rows mZ (a.cD++ [(⟨rule,lex,kv,kids⟩:oH)]) by rw[bN];rfl) ?_;refine St.cH v76 (λe _=>g2 ?_);refine SW.go (SW.dd 8 rfl (λ_=>Ev.Mb z (.mk rfl)) (SW.dd 9 rfl (λ_=>Ev.uJ z (.mk rfl) uO) (SW.t1 10 ?_)));refine St.dF (.mk rfl) (.mk rfl) Wt e zE (by decide) ?_
    obtain⟨E,L⟩:∃E:cT,E=⟨a.frm,a.tqo,a.cp,a.gr,⟨v76,e⟩,a.cD++ [⟨rule,lex,kv,kids⟩],a.tv,a.cB⟩:=⟨_,rfl⟩
    refine St.aP o.1 (show _=(b.set i E).length by rw[ep]) (show _=rows eT (b.set i E) by rw[L];exact GV p.at_ ⟨v76,e⟩ _) ?_;refine g2 ?_;refine SW.go (SW.dn ?_)
   all_goals
    refine g4 ?_;refine St.ee (Ev.Mb z (.mk rfl)) (St.ee (Ev.uJ z (.mk rfl) uP) (St.ee (Ev.dw (.mk rfl) bQ trivial (by rw[ep];exact G) (eo eT _ i 5 _ (ic G) (by decide))) ?_));refine St.slot 82 a.tv.1 rfl (by rw[L]) ?_;refine go ?_;refine St.ee (Ev.Bt (yZ a.tv.1 a.cB top) aa7 (.aX rfl rfl) (eu.row eu.nil rfl rfl rfl (p.cB a K))) (g3 ?_);refine St.cq (λF=> ?_) (λF=> ?_)
    ·have hnt:top∉a.cB:=λhm=>by simp at F;exact F top hm rfl
     refine g3 ?_;refine St.ee (Ev.Mb z (.mk rfl)) (St.ee (Ev.uJ z (.mk rfl) uP) (St.ee (Ev.dw (.mk rfl) bQ trivial (by rw[ep];exact G) (eo eT _ i 5 _ (ic G) (by decide))) ?_));refine St.slot 90 a.tv.1 rfl (by rw[L]) ?_;refine go ?_;refine St.iu rfl (.aq rfl) bQ dQ ec rfl rfl (by simp[Value.cells]) rfl rfl (λb92=> ?_);refine St.bH (.mk rfl) (.mk rfl) bQ dQ ec yt (by simp[Value.oneCell',Value.cells]) zE zE rfl rfl rfl rfl (λv93 aqH=> ?_);refine St.aP v93 (show _=(a.cB++ [top]).length from cW) (show _=rows aJ (a.cB++ [top]) by rw[bN];rfl) ?_;refine St.cH v93 (λr _=>St.ee (Ev.Mb z (.mk rfl)) (St.ee (Ev.uJ z (.mk rfl) uP) (St.dF (.mk rfl) (.mk rfl) fT r (by rw[ep];exact G) (by decide) ?_)));refine St.aP o.1 (show _=(b.set i (⟨a.frm,a.tqo,a.cp,a.gr,⟨v76,e⟩,a.cD++ [⟨rule,lex,kv,kids⟩],⟨v93,r⟩,a.cB++ [top]⟩:cT)).length by rw[ep,ep]) (show _=rows eT (b.set i (⟨a.frm,a.tqo,a.cp,a.gr,⟨v76,e⟩,a.cD++ [⟨rule,lex,kv,kids⟩],⟨v93,r⟩,a.cB++ [top]⟩:cT)) by rw[QW (ic G) ⟨v93,r⟩ (a.cB++ [top]),List.set_set,L]) ?_;refine go ?_;refine St.fi ?_;subst Q;refine St.pk [row v76 234 3 (a.cD++ [(⟨rule,lex,kv,kids⟩:oH)]).length (rows mZ (a.cD++ [(⟨rule,lex,kv,kids⟩:oH)])),row (⟨v93,r⟩:ah).1 3 1 (a.cB++ [top]).length (rows aJ (a.cB++ [top])),row kv.1 3 1 kids.length (rows aJ (bV kids))] (bX (jd 3) a.cD++(bX (ew 234 3) (b.eraseIdx i)++bX (gP 3) l)) (bX (ew 234 3) (b.set i (⟨a.frm,a.tqo,a.cp,a.gr,⟨v76,e⟩,a.cD++ [⟨rule,lex,kv,kids⟩],⟨v93,r⟩,a.cB++ [top]⟩:cT))++bX (gP 3) (l)) (Ry 234 3 (bX (gP 3) l) (⟨a.frm,a.tqo,a.cp,a.gr,⟨v76,e⟩,a.cD++ [⟨rule,lex,kv,kids⟩],⟨v93,r⟩,a.cB++ [top]⟩:cT) rfl G) (St.fF (aL (λx:cT=>aI x.gr) (b.set i (⟨a.frm,a.tqo,a.cp,a.gr,⟨v76,e⟩,a.cD++ [⟨rule,lex,kv,kids⟩],⟨v93,r⟩,a.cB++ [top]⟩:cT))) [aL (λx:cT=>aI x.gr) b] (λρ h y hy=>by rcases lV hy with hy|rfl;exact h _ (aR ..) y hy;exact h _ (aR ..) a K) ?_);refine St.rV [] (aD (aL (λx:cT=>aI x.gr) (b.set i (⟨a.frm,a.tqo,a.cp,a.gr,⟨v76,e⟩,a.cD++ [⟨rule,lex,kv,kids⟩],⟨v93,r⟩,a.cB++ [top]⟩:cT)))::tI C (nW g H I f n o.1 d.o9.1 s) 223::aW s (eW mkStr (m1))::row o.1 229 6 (b.set i (⟨a.frm,a.tqo,a.cp,a.gr,⟨v76,e⟩,a.cD++ [⟨rule,lex,kv,kids⟩],⟨v93,r⟩,a.cB++ [top]⟩:cT)).length (rows eT (b.set i (⟨a.frm,a.tqo,a.cp,a.gr,⟨v76,e⟩,a.cD++ [⟨rule,lex,kv,kids⟩],⟨v93,r⟩,a.cB++ [top]⟩:cT)))::row d.o9.1 35 1 (l).length (rows cr ((l).map Prod.fst))::(bX (ew 234 3) (b.set i (⟨a.frm,a.tqo,a.cp,a.gr,⟨v76,e⟩,a.cD++ [⟨rule,lex,kv,kids⟩],⟨v93,r⟩,a.cB++ [top]⟩:cT))++bX (gP 3) (l))) ?_
     have R:=Kd (x3:=(⟨a.frm,a.tqo,a.cp,a.gr,⟨v76,e⟩,a.cD++ [⟨rule,lex,kv,kids⟩],⟨v93,r⟩,a.cB++ [top]⟩:cT)) (w:=(⟨rule,lex,kids⟩:og)) p (by show(⟨_,_,_⟩:jY)=⟨_,_,_⟩;congr 1;exact cY;show a.cB++ [top]=if tX (⟨rule,lex,kids⟩:og)∈a.cB then a.cB else a.cB++ [tX (⟨rule,lex,kids⟩:og)];rw[←D,aA hnt]) (λt ht=>by first|exact p.cB a K t ht|(rcases ca.1 ht with ht|ht;exact p.cB a K t ht;rw[ba.1 ht,D];unfold tX aZ;dsimp only;split<;>omega)) o
     exact⟨⟨o,b.set i (⟨a.frm,a.tqo,a.cp,a.gr,⟨v76,e⟩,a.cD++ [⟨rule,lex,kv,kids⟩],⟨v93,r⟩,a.cB++ [top]⟩:cT),d.o9,l,m1⟩,R.1,rfl,R.2,p.HO,p.Z5,rfl⟩
    ·have hnt:top∈a.cB:=by simpa using F
     subst L;refine go ?_;refine St.fi ?_;subst Q;refine St.pk [row v76 234 3 (a.cD++ [(⟨rule,lex,kv,kids⟩:oH)]).length (rows mZ (a.cD++ [(⟨rule,lex,kv,kids⟩:oH)])),row a.tv.1 3 1 (a.cB).length (rows aJ (a.cB)),row kv.1 3 1 kids.length (rows aJ (bV kids))] (bX (jd 3) a.cD++(bX (ew 234 3) (b.eraseIdx i)++bX (gP 3) l)) (bX (ew 234 3) (b.set i (⟨a.frm,a.tqo,a.cp,a.gr,⟨v76,e⟩,a.cD++ [⟨rule,lex,kv,kids⟩],a.tv,a.cB⟩:cT))++bX (gP 3) (l)) (Ry 234 3 (bX (gP 3) l) (⟨a.frm,a.tqo,a.cp,a.gr,⟨v76,e⟩,a.cD++ [⟨rule,lex,kv,kids⟩],a.tv,a.cB⟩:cT) rfl G) (St.fF (aL (λx:cT=>aI x.gr) (b.set i (⟨a.frm,a.tqo,a.cp,a.gr,⟨v76,e⟩,a.cD++ [⟨rule,lex,kv,kids⟩],a.tv,a.cB⟩:cT))) [aL (λx:cT=>aI x.gr) b] (λρ h y hy=>by rcases lV hy with hy|rfl;exact h _ (aR ..) y hy;exact h _ (aR ..) a K) ?_);refine St.rV [] (aD (aL (λx:cT=>aI x.gr) (b.set i (⟨a.frm,a.tqo,a.cp,a.gr,⟨v76,e⟩,a.cD++ [⟨rule,lex,kv,kids⟩],a.tv,a.cB⟩:cT)))::tI C (nW g H I f n o.1 d.o9.1 s) 223::aW s (eW mkStr (m1))::row o.1 229 6 (b.set i (⟨a.frm,a.tqo,a.cp,a.gr,⟨v76,e⟩,a.cD++ [⟨rule,lex,kv,kids⟩],a.tv,a.cB⟩:cT)).length (rows eT (b.set i (⟨a.frm,a.tqo,a.cp,a.gr,⟨v76,e⟩,a.cD++ [⟨rule,lex,kv,kids⟩],a.tv,a.cB⟩:cT)))::row d.o9.1 35 1 (l).length (rows cr ((l).map Prod.fst))::(bX (ew 234 3) (b.set i (⟨a.frm,a.tqo,a.cp,a.gr,⟨v76,e⟩,a.cD++ [⟨rule,lex,kv,kids⟩],a.tv,a.cB⟩:cT))++bX (gP 3) (l))) ?_
     have R:=Kd (x3:=(⟨a.frm,a.tqo,a.cp,a.gr,⟨v76,e⟩,a.cD++ [⟨rule,lex,kv,kids⟩],a.tv,a.cB⟩:cT)) (w:=(⟨rule,lex,kids⟩:og)) p (by show(⟨_,_,_⟩:jY)=⟨_,_,_⟩;congr 1;exact cY;show a.cB=if tX (⟨rule,lex,kids⟩:og)∈a.cB then a.cB else a.cB++ [tX (⟨rule,lex,kids⟩:og)];rw[←D,aB hnt]) (λt ht=>by first|exact p.cB a K t ht|(rcases ca.1 ht with ht|ht;exact p.cB a K t ht;rw[ba.1 ht,D];unfold tX aZ;dsimp only;split<;>omega)) o
     exact⟨⟨o,b.set i (⟨a.frm,a.tqo,a.cp,a.gr,⟨v76,e⟩,a.cD++ [⟨rule,lex,kv,kids⟩],a.tv,a.cB⟩:cT),d.o9,l,m1⟩,R.1,rfl,R.2,p.HO,p.Z5,rfl⟩
theorem yx (x:dC)(nt nf:Nat)(a:nf≤100)(hx:eG nt nf (bE x))(b:x.nodes.length≤120):dx prog 168 #[bF x] ([aI x].map aD) (λv H'=>H'=[aD (bS (iH (bE x) 0) v)]):=by
 refine dx.body (args:=[bF x]) 5 func168 rfl ntmps168 rfl (λc=>St.cast (H':=[aD (aI x)]) rfl (go ?_))
 have e:=ct x
 have d:=fz hx a
 have f:=hx.pos
 refine go ?_;refine St.cC (.mk rfl) rfl (λg=>St.al (λh=>g5 ?_));refine St.slot 3 (bF x) rfl rfl (St.ak (vO x hx.lk b (λt ht=>by have:=(d t ht).2;omega) 0 zE) O2 (.aX rfl rfl) rfl ?_);rintro v4 _ rfl;refine St.bB (St.bS (iH (bE x) 0) v4 (λy hy=>?_));obtain⟨rfl,i⟩:=hy;refine g4 ?_;refine St.rV [_] [aD (bS (iH (bE x) 0) (bF y))] ?_;exact rfl
theorem BL (n:Nat)(d:n≤12)(m:Nat)(hm:m=n*(n+1)):dx prog 116 #[iv (n:Nat)] [] (λv H'=>∃u:ah,v= .agg #[iv (n:Nat),u.1]∧H'=[row u.1 35 1 (List.replicate m bx).length (rows cr (List.replicate m bx))]):=by
 refine dx.body (args:=[iv (n:Nat)]) 10 func116 rfl ntmps116 rfl (λc=>go ?_)
 have a:((n:Nat):Int)*(((n:Nat):Int)+1)=(m:Nat):=by rw[hm];push_cast;rfl
 have e:m≤156:=by rw[hm];exact dH (Nat.mul_le_mul (show n≤12 by omega) (show n+1≤13 by omega)) (by decide)
 refine go ?_;refine St.al (λf=>g8 ?_);refine St.ee (Ev.mul (.mk rfl) (.mk rfl) (by rw[a];omega)) ?_;refine St.slot 7 (iv (m:Nat)) rfl (congrArg iv a) (St.yP (Rr:=cr) (g:=bx) (m:=m) (sz:=1) rfl (.mk rfl) (.mk rfl) jG fT kh ajO rfl rfl zE rfl rfl (λb=> ?_));refine St.aP (tO b m m) (show _=(List.replicate m bx).length by rw[mI]) rfl ?_;refine St.ee (Ev.build (au.aX rfl rfl) (λw=>Hr rfl rfl w)) (g4 ?_);refine St.rV [_] [row (tO b m m) 35 1 (List.replicate m bx).length (rows cr (List.replicate m bx))] ?_;exact⟨⟨(tO b m m),rfl⟩,rfl,rfl⟩
end Go.Proofs.YtiefglecbgdaiaaGreatDoor
