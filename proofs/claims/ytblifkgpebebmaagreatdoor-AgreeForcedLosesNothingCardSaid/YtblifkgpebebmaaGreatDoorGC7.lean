/-
  Laws of walks through programs, and facts on grammars, trees and queries.
  Conditions: none.
-/
import Derived.Test.YtblifkgpebebmaaGreatDoorGC6
set_option maxHeartbeats 8000000
set_option maxRecDepth 20000
set_option linter.unusedVariables false
set_option linter.unusedSimpArgs false
namespace Go.Proofs.YtblifkgpebebmaaGreatDoor
open Go Go.J Tryz
inductive AX:jW→Prop
 |mk {r l:Int} {ks:List jW} (h:ks.length≤1000) (k:∀t∈ks,AX t):AX (.mk r l ks)
def l7 (B:ct)(e:Nat):Nat:=((B.its.getD e gg).ed.tqo-(B.its.getD e gg).ed.frm)*4+(B.its.getD e gg).ed.cx
def Dq (B:ct)(e:Nat):Nat:=8*((B.its.getD e gg).ed.tqo-(B.its.getD e gg).ed.frm)-7+(B.its.getD e gg).ed.cx
def rN (B:ct)(e:Nat):Nat:=(B.its.getD e gg).cW.length
def ni (B:ct)(l:List Nat):Nat:=(l.map (Dq B)).sum
theorem Kd (B:ct)(k:Nat)(l:List Nat):ni B (k::l)=Dq B k+ni B l:=by unfold ni;rw[fN,od]
structure oA (B:ct):Prop where
 lex:∀e w,e<B.its.length→w<rN B e→(B.fx e w).rule<0→(B.fx e w).kids=[]∧(B.fx e w).lex<B.aL.length∧1≤Dq B e
 rule:∀e w,e<B.its.length→w<rN B e→¬(B.fx e w).rule<0→(B.fx e w).rule<B.rules.length∧(B.fx e w).kids.length≤3∧(∀k∈(B.fx e w).kids,k<B.its.length∧l7 B k<l7 B e)∧ni B (B.fx e w).kids+1≤Dq B e
 sz:∀e w,e<B.its.length→w<rN B e→ -1≤(B.fx e w).rule∧(B.fx e w).rule≤1000∧0≤(B.fx e w).lex∧(B.fx e w).lex≤1000
 wr:∀x∈B.rules,-1000000≤x∧x≤1000000
 wx:∀x∈B.aL,-1000000≤x∧x≤1000000
 bd:∀e,e<B.its.length→Dq B e≤100
 ht:∀e,e<B.its.length→l7 B e<60
 nw:∀e,e<B.its.length→rN B e≤1117240000000
def MH (x:jo):Prop:= -(1000000*(x.code.length:Int))≤x.wt∧x.wt≤1000000*(x.code.length:Int)
def Yi (x:jo):Prop:=∀v∈x.code,0≤v∧v≤2000
def Qu (t:jW):Prop:= -1≤t.rule∧t.rule≤1000∧0≤t.lex∧t.lex≤1000
structure E3 (B:ct)(e:Nat)(x:jo):Prop where
 len:x.code.length≤Dq B e
 wt:MH x
 cd:Yi x
 thin:AX x.tree
 rt:Qu x.tree
structure yA (b m:Nat)(x:jo):Prop where
 len:x.code.length≤b
 wt:MH x
 cd:Yi x
 kids:∀t∈x.tree.kids,AX t∧Qu t
 n:x.tree.kids.length≤m
 rt:Qu x.tree
theorem BK {B:ct}{l:List Nat}{k q:Nat}(h:l[k]?=some q):ni B (l.take (k+1))=ni B (l.take k)+Dq B q:=by
 unfold ni
 rw[wu,h,cP,List.sum_append];simp
theorem RC {B:ct}(l:List Nat)(k:Nat):ni B (l.take k)≤ni B l:=by
 have h:ni B l=ni B (l.take k)+ni B (l.drop k):=by
  unfold ni;rw[←List.sum_append,←cP,qk]
 omega
def MI (c x:jo):jo:=⟨c.wt+x.wt,c.code++x.code,.mk c.tree.rule c.tree.lex (c.tree.kids++ [x.tree])⟩
theorem E6 {B:ct}{b m k:Nat}{c x:jo}(h:yA b m c)(hx:E3 B k x):yA (b+Dq B k) (m+1) (MI c x):=by
 refine⟨?_,?_,?_,?_,?_,h.rt⟩
 ·show(c.code++x.code).length≤_
  have:=h.len;have:=hx.len
  rw[bQ];omega
 ·have h1:=h.wt;have d:=hx.wt
  unfold MH at h1 d⊢
  show-(1000000*((c.code++x.code).length:Int))≤c.wt+x.wt∧c.wt+x.wt≤1000000*((c.code++x.code).length:Int)
  rw[bQ];push_cast;omega
 ·intro v a
  rcases cD.1 (show v∈c.code++x.code from a)with a|a
  ·exact h.cd v a
  ·exact hx.cd v a
 ·intro t ht
  rcases cD.1 (show t∈c.tree.kids++ [x.tree]from ht)with ht|ht
  ·exact h.kids t ht
  ·rw[bO]at ht;subst ht;exact⟨hx.thin,hx.rt⟩
 ·show(c.tree.kids++ [x.tree]).length≤_
  have:=h.n
  rw[bQ,pc];omega
theorem jW.eta (t:jW):t= .mk t.rule t.lex t.kids:=by cases t;rfl
theorem Vg {B:ct}{e b m:Nat}{x:jo}(h:yA b m x)(a:b≤Dq B e)(hm:m≤1000):E3 B e x:=
 ⟨dS h.len a,h.wt,h.cd,by rw[x.tree.eta];exact .mk (dS h.n hm) (λt ht=>(h.kids t ht).1),h.rt⟩
structure ud (B:ct)(e D:Nat)(c:jF):Prop where
 rk:E3 B e c.rk
 fx:c.fx<rN B e
 len:c.ranks.length=(B.fx e c.fx).kids.length
 rks:∀r∈c.ranks,r≤D
theorem ud.mono {B:ct}{e D a:Nat}{c:jF}(h:ud B e D c)(hd:D≤a):ud B e a c:=⟨h.rk,h.fx,h.len,λr b=>dS (h.rks r b) hd⟩
structure Qo (B:ct)(e:Nat)(x:wJ):Prop where
 done:∀k∈x.done,E3 B e k
 next:∀c∈x.next,ud B e x.done.length c
 dl:x.done.length+l7 B e≤262
 new:x.begun=false→x.done=[]∧x.next=[]
 nl:x.next.length≤rN B e+3*x.done.length
structure jl (B:ct)(st:eD):Prop where
 len:st.length=B.its.length
 nl:∀(e:Nat) (x:wJ),st[e]?=some x→Qo B e x
theorem jl.at_ {B:ct}{st:eD}(h:jl B st){e:Nat}(he:e<B.its.length):∃x,st[e]?=some x∧st.getD e nz=x∧Qo B e x:=by
 have a:e<st.length:=by rw[h.len];exact he
 exact⟨st[e],bU a,by rw[ar,bU a];rfl,h.nl e _ (bU a)⟩
theorem jl.set {B:ct}{st:eD}(h:jl B st){e:Nat}{y:wJ}(hy:Qo B e y):jl B (st.set e y):=by
 refine⟨by rw[cn];exact h.len,λi x hx=> ?_⟩
 by_cases a:e=i
 ·subst a
  have b:e<st.length:=by have:=(fA.1 hx).1;rwa[cn]at this
  rw[fV b]at hx;obtain rfl:=Option.some.inj hx;exact hy
 ·rw[ic a]at hx;exact h.nl i x hx
def Kp (B:ct)(e:Nat)(st a:eD):Prop:=∀i,l7 B e≤l7 B i→a[i]?=st[i]?
theorem Kp.refl (B:ct)(e:Nat)(st:eD):Kp B e st st:=λ_ _=>rfl
theorem Kp.trans {B:ct}{e:Nat}{a b c:eD}(h:Kp B e a b)(k:Kp B e b c):Kp B e a c:=λi d=>(k i d).trans (h i d)
def Hp (B:ct)(e:Nat)(st a:eD):Prop:=∀i,l7 B e<l7 B i→a[i]?=st[i]?
theorem Hp.refl (B:ct)(e:Nat)(st:eD):Hp B e st st:=λ_ _=>rfl
theorem Hp.trans {B:ct}{e:Nat}{a b c:eD}(h:Hp B e a b)(k:Hp B e b c):Hp B e a c:=λi d=>(k i d).trans (h i d)
theorem Kp.hp {B:ct}{e:Nat}{a b:eD}(h:Kp B e a b):Hp B e a b:=λi c=>h i (Nat.le_of_lt c)
theorem Hp.kp {B:ct}{k e:Nat}{a b:eD}(h:Hp B k a b)(hk:l7 B k<l7 B e):Kp B e a b:=λi c=>h i (fR hk c)
theorem Hp.set {B:ct}{e:Nat}(st:eD)(y:wJ):Hp B e st (st.set e y):=λi a=>ic (λh=>by subst h;omega)
structure sx (B:ct)(f:Nat)(get:eD→Nat→Nat→eD×Option jo):Prop where
 ok:∀(e r:Nat) (st:eD),e<B.its.length→l7 B e<f→r+1+l7 B e≤262→jl B st→jl B (get st e r).1∧Hp B e st (get st e r).1∧∀x,(get st e r).2=some x→E3 B e x
section
variable {B:ct}{f:Nat}{get:eD→Nat→Nat→eD×Option jo}
theorem vN (k r:Nat)(l:List (Nat×Nat))(st:eD)(c:jo):vM get ((k,r)::l) st c=match get st k r with|(st,none)=>(st,none)|(st,some x)=>vM get l st (MI c x):=rfl
theorem O0 (h:sx B f get){e:Nat}(q:l7 B e<f+1):∀(l:List (Nat×Nat)) (st:eD) (c:jo) (b m:Nat),(∀p∈l,p.1<B.its.length∧l7 B p.1<l7 B e∧p.2+l7 B e≤262)→jl B st→yA b m c→
 jl B (vM get l st c).1∧Kp B e st (vM get l st c).1∧∀x,(vM get l st c).2=some x→yA (b+ni B (l.map Prod.fst)) (m+l.length) x
 | [],st,c,b,m,_,d,g=>⟨d,.refl _ _ _,λx hx=>by obtain rfl:=Option.some.inj hx;exact g⟩
 |(k,r)::l,st,c,b,m,i,d,g=>by
  obtain⟨j,a2,a3⟩:=i (k,r) (aQ ..)
  dsimp only at j a2 a3
  obtain⟨h1,a,n⟩:=h.ok k r st j (by omega) (by omega) d;rw[vN]
  rcases o:get st k r with⟨st2,_|x⟩
  ·rw[o]at h1 a
   exact⟨h1,a.kp a2,λx hx=>by cases hx⟩
  ·rw[o]at h1 a n
   dsimp only
   obtain⟨s,t,k3⟩:=O0 h q l st2 (MI c x) (b+Dq B k) (m+1) (λp hp=>i p (cO _ hp)) h1 (E6 g (n x rfl));refine⟨s,(a.kp a2).trans t,λy hy=> ?_⟩
   have u:=k3 y hy
   rw[fN,Kd,fB];rw[show b+(Dq B k+ni B (l.map Prod.fst))=b+Dq B k+ni B (l.map Prod.fst) by omega,show m+(l.length+1)=m+1+l.length by omega];exact u
def XJ (B:ct)(e w:Nat):jo:=⟨B.aL.getD (B.fx e w).lex.toNat 0,[1000+(B.fx e w).lex],.mk (B.fx e w).rule (B.fx e w).lex []⟩
def Fg (B:ct)(e w:Nat):jo:=⟨B.rules.getD (B.fx e w).rule.toNat 0,[(B.fx e w).rule],.mk (B.fx e w).rule (B.fx e w).lex []⟩
theorem J7 {l:List Int}(h:∀x∈l,-1000000≤x∧x≤1000000)(i:Nat): -1000000≤l.getD i 0∧l.getD i 0≤1000000:=by
 rw[ar]
 cases a:l[i]? with
 |none=>exact⟨by decide,by decide⟩
 |some x=>exact h x (ae a)
theorem Sv (a:oA B){e w:Nat}(he:e<B.its.length)(hw:w<rN B e)(b:(B.fx e w).rule<0):E3 B e (XJ B e w):=by
 obtain⟨h1,g,c⟩:=a.lex e w he hw b
 have d:=a.sz e w he hw
 have h:=J7 a.wx (B.fx e w).lex.toNat
 refine⟨c,?_,?_,.mk (aP _) (λt ht=>by cases ht),d⟩
 ·unfold MH;show-(1000000*((1:Nat):Int))≤B.aL.getD _ 0∧B.aL.getD _ 0≤1000000*((1:Nat):Int);omega
 ·intro v f
  rw[show v=1000+(B.fx e w).lex from bO.1 f];omega
theorem Ja (a:oA B){e w:Nat}(he:e<B.its.length)(hw:w<rN B e)(d:¬(B.fx e w).rule<0):yA 1 0 (Fg B e w):=by
 have b:=a.sz e w he hw
 have f:=J7 a.wr (B.fx e w).rule.toNat
 refine⟨aR _,?_,?_,λt ht=>(by cases ht),aP _,b⟩
 ·unfold MH;show-(1000000*((1:Nat):Int))≤B.rules.getD _ 0∧B.rules.getD _ 0≤1000000*((1:Nat):Int);omega
 ·intro v c
  rw[show v=(B.fx e w).rule from bO.1 c];omega
theorem EL {st:eD}{e w:Nat}{ranks:List Nat}(a:(B.fx e w).rule<0):nA B get st e w ranks=(st,some ⟨XJ B e w,w,ranks⟩):=by unfold nA;rw[aC a];rfl
theorem ye {st:eD}{e w:Nat}{ranks:List Nat}(a:¬(B.fx e w).rule<0):nA B get st e w ranks=match vM get ((B.fx e w).kids.zip ranks) st (Fg B e w)with
 |(st,none)=>(st,none)
 |(st,some x)=>(st,some ⟨x,w,ranks⟩):=by unfold nA;rw[aA a];rfl
theorem YH (c:oA B){e w D:Nat}{ranks:List Nat}(he:e<B.its.length)(hw:w<rN B e)(d:¬(B.fx e w).rule<0)(f:∀r∈ranks,r≤D)(i:D+l7 B e≤262):∀p∈(B.fx e w).kids.zip ranks,p.1<B.its.length∧l7 B p.1<l7 B e∧p.2+l7 B e≤262:=λp hp=>by
 obtain⟨_,_,g,_⟩:=c.rule e w he hw d
 have h1:=List.of_mem_zip (a:=p.1) (b:=p.2) hp
 obtain⟨h,a2⟩:=g p.1 h1.1
 have:=f p.2 h1.2
 exact⟨h,a2,by omega⟩
theorem Cq (g:oA B)(n:sx B f get){e w D:Nat}{ranks:List Nat}{st:eD}(he:e<B.its.length)(o:l7 B e<f+1)(hw:w<rN B e)(a:ranks.length=(B.fx e w).kids.length)(i:∀r∈ranks,r≤D)(p:D+l7 B e≤262)(j:jl B st):
 jl B (nA B get st e w ranks).1∧Kp B e st (nA B get st e w ranks).1∧∀c,(nA B get st e w ranks).2=some c→ud B e D c:=by
 by_cases b:(B.fx e w).rule<0
 ·rw[EL b]
  exact⟨j,.refl _ _ _,λc d=>by obtain rfl:=Option.some.inj d;exact⟨Sv g he hw b,hw,a,i⟩⟩
 ·rw[ye b]
  obtain⟨q,s,t,u⟩:=g.rule e w he hw b;obtain⟨h1,h,k⟩:=O0 n o _ st _ 1 0 (YH g he hw b i p) j (Ja g he hw b)
  rcases l:vM get ((B.fx e w).kids.zip ranks) st (Fg B e w)with⟨st2,_|x⟩
  ·rw[l]at h1 h
   exact⟨h1,h,λc d=>by cases d⟩
  ·rw[l]at h1 h k
   refine⟨h1,h,λc d=> ?_⟩;obtain rfl:=Option.some.inj d
   have m:=k x rfl
   rw[List.map_fst_zip (by omega),List.length_zip,a,Nat.min_self]at m;exact⟨Vg m (by omega) (by omega),hw,a,i⟩
end
theorem YF:(prog.info? 69).bind (λi=>i.zero.map Value.cells)=some #[.int .i64 0,.int .i64 0,.slice none 0 0]:=by kernel_rfl
instance:type_of%(rI.mk YF):=⟨YF⟩
instance:gp prog 69 0 0:=⟨by kernel_rfl⟩
instance:gp prog 69 1 1:=⟨by kernel_rfl⟩
theorem alT (w:World):cw prog 69 w= .ok #[(0,1),(1,1),(2,1)] w:=by kernel_rfl
theorem pw:(prog.info? 69).map (·.size)=some 3:=by kernel_rfl
instance:type_of%(pd.mk pw):=⟨pw⟩
instance:gp prog 69 2 2:=⟨by kernel_rfl⟩
theorem Zt:aI prog 28:=⟨_,func28,rfl,by kernel_rfl⟩
theorem Ly:(prog.info? 69).bind (·.zero)=some (Value.agg #[.int .i64 0,.int .i64 0,.slice none 0 0]):=by kernel_rfl
theorem Vt:(prog.info? 69).map (·.bytes)=some 40:=by kernel_rfl
theorem Xt:(prog.info? 44).map (·.size)=some 1:=by kernel_rfl
instance:gp prog 71 0 0:=⟨by kernel_rfl⟩
instance:gp prog 71 1 1:=⟨by kernel_rfl⟩
theorem ZN:aI prog 101:=⟨_,func101,rfl,by kernel_rfl⟩
theorem vt:(prog.info? 71).map (·.size)=some 5:=by kernel_rfl
instance:type_of%(pd.mk vt):=⟨vt⟩
theorem ji:(prog.info? 196).map (·.size)=some 7:=by kernel_rfl
instance:type_of%(pd.mk ji):=⟨ji⟩
instance:gp prog 196 0 0:=⟨by kernel_rfl⟩
theorem Zx:aI prog 53:=⟨_,func53,rfl,by kernel_rfl⟩
theorem pA : yH prog 202 "Less" 206 false 192 := ⟨by kernel_rfl, by kernel_rfl⟩
theorem pB : yH prog 202 "Swap" 207 false 192 := ⟨by kernel_rfl, by kernel_rfl⟩
theorem Mp:aI prog 206:=⟨_,func206,rfl,by kernel_rfl⟩
theorem Mq:aI prog 207:=⟨_,func207,rfl,by kernel_rfl⟩
theorem qM : yH prog 202 "Len" 95 false 192 := ⟨by kernel_rfl, by kernel_rfl⟩
theorem RI:aI prog 95:=⟨_,func95,rfl,by kernel_rfl⟩
theorem UO:aI prog 131:=⟨_,func131,rfl,by kernel_rfl⟩
theorem KB:(prog.info? 196).bind (λi=>i.zero.map Value.cells)=some #[.int .i64 0,.slice none 0 0,.int .i64 0,.int .i64 0,.slice none 0 0,.int .i64 0,.slice none 0 0]:=by kernel_rfl
instance:type_of%(rI.mk KB):=⟨KB⟩
theorem Jq:(prog.info? 192).map (·.size)=some 1:=by kernel_rfl
theorem Ex : yH prog 202 "Pop" 208 true 192 := ⟨by kernel_rfl, by kernel_rfl⟩
theorem Zr:aI prog 208:=⟨_,func208,rfl,by kernel_rfl⟩
theorem CJ:(prog.info? 196).bind (·.zero)=some (Value.agg #[.int .i64 0,.slice none 0 0,.int .i64 0,.int .i64 0,.slice none 0 0,.int .i64 0,.slice none 0 0]):=by kernel_rfl
theorem Mi:(prog.info? 196).map (·.bytes)=some 104:=by kernel_rfl
theorem DG : yH prog 202 "Push" 209 true 192 := ⟨by kernel_rfl, by kernel_rfl⟩
theorem Zs:aI prog 209:=⟨_,func209,rfl,by kernel_rfl⟩
theorem ZY:aI prog 132:=⟨_,func132,rfl,by kernel_rfl⟩
theorem Zw:aI prog 52:=⟨_,func52,rfl,by kernel_rfl⟩
instance:gp prog 127 2 2:=⟨by kernel_rfl⟩
theorem V6 (w:World):cw prog 196 w= .ok #[(0,5),(5,1),(6,1)] w:=by kernel_rfl
instance:gp prog 71 2 2:=⟨by kernel_rfl⟩
instance:gp prog 127 1 1:=⟨by kernel_rfl⟩
instance:gp prog 127 0 0:=⟨by kernel_rfl⟩
theorem YG:(prog.info? 71).bind (λi=>i.zero.map Value.cells)=some #[.int .i64 0,.slice none 0 0,.int .i64 0,.int .i64 0,.slice none 0 0]:=by kernel_rfl
instance:type_of%(rI.mk YG):=⟨YG⟩
theorem aaB:aI prog 93:=⟨_,func93,rfl,by kernel_rfl⟩
instance:gp prog 127 3 3:=⟨by kernel_rfl⟩
theorem Pd:(prog.info? 194).map (·.size)=some 3:=by kernel_rfl
instance:type_of%(pd.mk Pd):=⟨Pd⟩
theorem J3:bf prog 194 2=some 2:=by kernel_rfl
theorem oz:bf prog 194 1=some 1:=by kernel_rfl
theorem ah5:aI prog 94:=⟨_,func94,rfl,by kernel_rfl⟩
theorem nM:bf prog 194 0=some 0:=by kernel_rfl
theorem ah6:aI prog 96:=⟨_,func96,rfl,by kernel_rfl⟩
theorem U3:(prog.info? 71).bind (·.zero)=some (Value.agg #[.int .i64 0,.slice none 0 0,.int .i64 0,.int .i64 0,.slice none 0 0]):=by kernel_rfl
theorem ZL:(prog.info? 71).map (·.bytes)=some 72:=by kernel_rfl
theorem VF:(prog.info? 190).map (·.size)=some 1:=by kernel_rfl
instance:gp prog 196 2 6:=⟨by kernel_rfl⟩
theorem ah7:aI prog 97:=⟨_,func97,rfl,by kernel_rfl⟩
instance:gp prog 196 1 5:=⟨by kernel_rfl⟩
theorem ah8:aI prog 98:=⟨_,func98,rfl,by kernel_rfl⟩
theorem alU (w:World):cw prog 71 w= .ok #[(0,1),(1,1),(2,3)] w:=by kernel_rfl
theorem Gq {a b:Value}(h1:a.oneCell'=true)(c:b.oneCell'=true)(w:World):(Instr.build 196 #[(1,a),(2,b)]).run prog w= .ok (.agg #[.int .i64 0,.slice none 0 0,.int .i64 0,.int .i64 0,.slice none 0 0,a,b]) w:=
 bM KB (V6 w) (by simp[Instr.fill,J.bK,J.cells_one h1,J.cells_one c])
theorem BI {a b:Value}(c:a.oneCell'=true)(h1:b.oneCell'=true)(w:World):(Instr.build 69 #[(0,a),(1,b)]).run prog w= .ok (.agg #[a,b,.slice none 0 0]) w:=
 bM YF (alT w) (by simp[Instr.fill,J.bK,J.cells_one c,J.cells_one h1])
theorem R8 (w:World):(Instr.build 196 #[]).run prog w= .ok (.agg #[.int .i64 0,.slice none 0 0,.int .i64 0,.int .i64 0,.slice none 0 0,.int .i64 0,.slice none 0 0]) w:=
 bM KB (V6 w) (by simp[Instr.fill,J.bK])
theorem Mc (w:World):(Instr.build 71 #[]).run prog w= .ok (.agg #[.int .i64 0,.slice none 0 0,.int .i64 0,.int .i64 0,.slice none 0 0]) w:=
 bM YG (alU w) (by simp[Instr.fill,J.bK])
theorem lD (x:dE):cy x= .mk x.rule x.lex (x.kids.map cy):=by cases x;exact G2 _ _ _ _
theorem AX.kids {x:dE}(h:AX (cy x)):x.kids.length≤1000∧∀y∈x.kids,AX (cy y):=by
 rw[lD]at h
 cases h with
 |mk h k=>exact⟨by rwa[aO]at h,λy hy=>k _ (eP hy)⟩
theorem A0 {x y:dE}(h:cy y=cy x):y.rule=x.rule∧y.lex=x.lex:=by
 rw[lD,lD x]at h;exact⟨(jW.mk.injEq ..▸h).1,(jW.mk.injEq ..▸h).2.1⟩
theorem Bu {α β:Type}{f:α→β}{l:List α}{k:Nat}{a:α}(h:l[k]?=some a):(l.take (k+1)).map f=(l.take k).map f++ [f a]:=by
 rw[wu,h,cP];rfl
abbrev kT (x:xT):Value:= .agg #[iv x.wt,x.cv.1,iv x.tree.rule,iv x.tree.lex,x.tree.kv.1]
abbrev EK (x:ku):Value:= .agg #[iv x.rk.wt,x.rk.cv.1,iv x.rk.tree.rule,iv x.rk.tree.lex,x.rk.tree.kv.1,iv (x.fx:Nat),x.rv.1]
theorem Gt:∀x:dE,dC.wf x→AX (cy x)→dz prog 28 #[uQ x] ([br x].map aB) (λv H'=>∃y:dE,v=uQ y∧cy y=cy x∧H'=[aB (br y)]):=by
 intro x
 induction x using dE.ind
 rename_i x n
 intro hw g;refine dz.body (args:=[uQ x]) 27 func28 rfl ntmps28 rfl (λc=> ?_);refine go ?_;refine St.cast (H':=[aB (br x)]) rfl ?_;obtain⟨C,i⟩:=g.kids;refine St.FH x ?_;refine St.wf x.kv.1 (λj D=> ?_);refine go ?_;refine St.dJ (.mk rfl) rfl (λo=> ?_);refine St.al (λp=> ?_);refine g8 ?_;refine St.ee (Ev.build (bF.aX rfl rfl) (λw=>BI rfl rfl w)) ?_;refine St.al (λl=> ?_);refine g13 ?_;refine St.dw 69 3 ?_;refine St.aM (.slice none 0 0) (show _=([]:List dE).length from rfl) (show _=rows dC []from rfl) ?_;refine St.dN br ?_;refine St.lH (ι:=Nat×aV×List dE) (λ⟨k,kv,a⟩ T=>(14,iv k)::T) (λ⟨k,kv,a⟩=>[row kv.1 69 3 (a).length (rows dC (a)),aW l (.cells [iv x.rule,iv x.lex,kv.1].toArray 69 (0,0)),aB (aF br a),aB (sl dC x.kv.1 x.kids),aB (aF br x.kids),aW o (.cells (Jt x).toArray 69 (0,0)),aW p (.cells [iv 0,iv 0,(.slice none 0 0)].toArray 69 (0,0))]) (λ⟨k,kv,a⟩=>k≤x.kids.length∧a.map cy=(x.kids.take k).map cy) (λ⟨k,kv,a⟩=>x.kids.length-k) ⟨0,bR,[]⟩ (aD.cons 2 rfl (aD.cons 3 rfl (aD.cons 12 rfl (aD.cons 13 rfl aD.nil)))) ⟨aP _,rfl⟩ ?_;rintro ⟨k,kv,a⟩ ⟨hk,b⟩
 dsimp only at hk b⊢
 have q:a.length≤1000:=by have h:=congrArg List.length b;rw[aO,aO,eX]at h;omega
 refine g6 ?_;refine St.cq (λr=> ?_) (λr=> ?_)
 ·obtain⟨y,hy⟩:=aE (show k<x.kids.length by omega)
  have f:=ae hy
  refine St.cK br x.kids (x:=y) f ?_;refine g7 ?_;refine St.ee (Ev.jq (.mk rfl) hy IM trivial pw j5.eq) ?_;refine St.al (λE=> ?_);refine g3 ?_;refine St.dc [aW l (.cells [iv x.rule,iv x.lex,kv.1].toArray 69 (0,0)),row kv.1 69 3 (a).length (rows dC (a))] mixed (λF G=> ?_)
  repeat' first
   |with_reducible refine SW.me ?_
    first
     |refine SW.gd 0 ?_
     |refine SW.gd 2 ?_
     |refine SW.gd 6 ?_
     |refine SW.t2 1 3 ?_ ?_
     |refine SW.t1 3 ?_
     |refine SW.t1 4 ?_
     |refine SW.t1 5 ?_
     |refine SW.t1 7 ?_
     |refine SW.t2 1 4 ?_ ?_
     |refine SW.t1 1 ?_
   |with_reducible refine SW.tg 1 ?_
    refine g3 ?_;refine SW.go ?_
   |with_reducible refine SW.tg 3 ?_
    refine St.ag (n y f (j y f) (i y f)) Zt (.au rfl) rfl ?_;rintro v21 _ ⟨z,rfl,hz,rfl⟩;refine St.ao ?_;refine g2 ?_;refine SW.go ?_
   |with_reducible refine SW.tg 4 ?_
    refine St.gX rfl (.au rfl) A4 pw Ly rfl rfl (by simp[Value.cells]) rfl rfl (λs=> ?_);refine g2 ?_;refine SW.go ?_
   |with_reducible refine SW.tg 5 ?_
    refine St.aj (.mk rfl) (.mk rfl) A4 pw Ly Vt (by intro u hu;exact dC.one z u hu) (by omega) (by omega) rfl rfl rfl rfl (λv23 t=> ?_);refine St.aM v23 (show _=(a++ [z]).length by rw[bQ];rfl) (show _=rows dC (a++ [z]) by rw[bB];rfl) ?_;refine St.bZ v23 (λm _=> ?_);refine St.eZ (aF br (a++ [z])) [aF br a,br z] (λρ h u hu=>by rcases cD.1 hu with hu|hu;exact h (aF br a) (aQ ..) u hu;rw[bO]at hu;subst hu;exact h (br u) (cO _ (aQ ..))) ?_;refine g2 ?_;refine SW.go ?_
   |with_reducible refine SW.tg 7 ?_
    refine St.cH (.mk rfl) (.mk rfl) Xt m (by rfl) ?_;refine g2 ?_;refine SW.go ?_
  all_goals refine SW.dn ?_
  all_goals
   refine g7 ?_;refine St.aH ⟨k+1,⟨v23,m⟩,a++ [z]⟩ ⟨by omega,by rw[cP,b,Bu hy,←hz];rfl⟩
 ·obtain rfl:k=x.kids.length:=by omega
  rw[kH]at b
  obtain⟨⟨d,e⟩,A⟩:∃z,z=kv:=⟨kv,rfl⟩
  subst A;refine St.bS d dC a rfl rfl (λy hy=> ?_) ?_
  ·have hm:cy y∈x.kids.map cy:=by rw[←b];exact eP hy
   obtain⟨u,hu,he⟩:=cz.1 hm;obtain⟨B,e2⟩:=A0 he.symm
   have hw:=j u hu
   exact⟨by rw[B];exact hw.1,by rw[e2];exact hw.2⟩
  refine St.eZ (br (.mk x.rule x.lex ⟨d,e⟩ a)) [sl dC d a,aF br a] (λρ h=>ou.mk (x:= .mk x.rule x.lex ⟨d,e⟩ a) (h _ (aQ ..)) (λy hy=>h (aF br a) (cO _ (aQ ..)) y hy)) ?_;refine g8 ?_;refine St.sA (.mk rfl) (.mk rfl) pw ?_ (h1:=(by simp only[List.all_cons,List.all_nil,Bool.and_true,Bool.and_eq_true];exact⟨rfl,rfl,e⟩));refine g3 ?_;refine St.rV [_] [aB (br (.mk x.rule x.lex ⟨d,e⟩ a))] ?_;exact⟨.mk x.rule x.lex ⟨d,e⟩ a,rfl,by rw[lD,lD x,←b];rfl,rfl⟩
theorem yB (x y:xT):eC prog 53 #[kT x,kT y] [sl aJ x.cv.1 x.code,sl aJ y.cv.1 y.code] (iv (QZ (mg x) (mg y))):=by
 refine eC.nK (args:=[kT x,kT y]) 17 func53 rfl ntmps53 rfl (λc=> ?_);refine g2 ?_;refine St.dJ (.mk rfl) rfl (λb=> ?_);refine St.dJ (.mk rfl) rfl (λd=> ?_);refine g4 ?_;refine St.pC [] mixed (λe f=> ?_);refine SW.gd 0 ?_;refine SW.gd 1 ?_;refine SW.gd 2 ?_;refine SW.gd 3 ?_;refine SW.dd 4 rfl (λ_=>Ev.call (ec _ _) qF (.aX rfl rfl)) ?_;refine SW.gd 5 ?_;refine SW.gd 6 ?_;refine SW.gd 7 ?_;refine SW.gd 8 ?_;refine SW.dd 9 rfl (λ_=>Ev.call (AR x.cv.1 y.cv.1 x.code y.code) ZN (.aX rfl rfl)) ?_;refine SW.t1 10 ?_;refine St.gX rfl (.aX rfl rfl) bJ dK eS rfl rfl (by simp[Value.cells]) rfl rfl (λa=> ?_);refine St.aM (.slice (some ⟨a,0,none⟩) 2 2) (show _=([(lu x.wt y.wt),(kO lu x.code y.code)]).length from rfl) (show _=rows aJ ([(lu x.wt y.wt),(kO lu x.code y.code)])from rfl) ?_;refine g2 ?_;refine SW.go ?_;refine SW.t1 11 ?_;refine St.ee (Ev.wM (tD (.slice (some ⟨a,0,none⟩) 2 2) [(lu x.wt y.wt),(kO lu x.code y.code)]) RJ (.au rfl) (dW.row dW.nil rfl rfl rfl (Ce (λx hx=>by simp only[List.mem_cons,List.not_mem_nil,or_false]at hx;rcases hx with rfl|rfl;exact oE _ _;exact yg oE _ _)))) ?_;refine g2 ?_;refine SW.go ?_;refine SW.gd 12 ?_;refine SW.dn ?_;refine g2 ?_;refine St.rV [_] [] ?_;exact ie (show su _ (su _ 0)=_ by rw[JP];rfl)
theorem qo (v0:Value)(q:List ku):eC prog 95 #[v0] [sl jK v0 q] (iv (q.length:Nat)):=by
 refine eC.nJ (args:=[v0]) 5 func95 rfl ntmps95 rfl (λc=> ?_);refine g13 ?_;refine St.rV [_] [] ?_;exact ie rfl
theorem sI (v0:Value)(q:List ku)(i j:Nat)(x y:ku)(hx:q[i]?=some x)(hy:q[j]?=some y):eC prog 206 #[v0,iv (i:Nat),iv (j:Nat)] [sl jK v0 q,aF hS q] (.bool (decide (QZ (mg x.rk) (mg y.rk)<0))):=by
 refine eC.nK (args:=[v0,iv (i:Nat),iv (j:Nat)]) 19 func206 rfl ntmps206 rfl (λc=> ?_);refine go ?_
 have b:=ah hx
 have a:=ah hy
 refine St.eZ (sl aJ x.rk.cv.1 x.rk.code) [aF hS q] (λρ h=>h _ (aQ ..) x (ae hx) _ (aQ ..)) ?_;refine St.eZ (sl aJ y.rk.cv.1 y.rk.code) [aF hS q] (λρ h=>h _ (aQ ..) y (ae hy) _ (aQ ..)) ?_;refine g5 ?_;refine St.rq mixed (by kernel_rfl) (Mm.drawn _ _) ?_;refine g4 ?_;refine Sq.ee (Ev.El (Rr:=jK) (sz:=5) (.mk rfl) hx IP trivial vt (by decide) (by decide)) ?_;refine Sq.slot 11 (kT x.rk) rfl rfl ?_;refine g4 ?_;refine Sq.ee (Ev.El (Rr:=jK) (sz:=5) (.mk rfl) hy IP trivial vt (by decide) (by decide)) ?_;refine Sq.slot 16 (kT y.rk) rfl rfl ?_;refine Sq.ee (Ev.call (yB x.rk y.rk) Zx (.aX rfl rfl)) ?_;refine g5 ?_;refine St.rV [_] [] ?_;rfl
def jH.wn (x:jH)(u:aV)(q:List ku):jH:=⟨x.dv,x.done,u,q,x.begun⟩
theorem uC {L:List jH}{e o:Nat}{x:jH}(h:L[e]?=some x)(a:o<3):(rows fO L)[e*3+o]?=[x.dv.1,x.nv.1,.bool x.begun][o]?:=eN fO L e o x h a
theorem nQ {L:List jH}{e:Nat}{x:jH}(h:L[e]?=some x):(rows fO L)[e*3+1]?=some x.nv.1:=uC h (by decide)
theorem pH {α:Type}(Rr:Rp α){l:List α}{i o:Nat}{g b:α}{u:Value}(h:l[i]?=some g)(c:o<Rr.size)(d:(Rr.cells g).set o u=Rr.cells b):(rows Rr l).set (i*Rr.size+o) u=rows Rr (l.set i b):=by
 induction l generalizing i with
 |nil=>cases h
 |cons a l f=>
  cases i with
  |zero=>
   obtain rfl:=Option.some.inj h;rw[Nat.zero_mul,hP,sF]
   show(Rr.cells a++rows Rr l).set o u=Rr.cells b++rows Rr l
   rw[List.set_append_left _ _ (by rw[Rr.len];exact c),d]
  |succ i=>
   have e:(i+1)*Rr.size+o=(Rr.cells a).length+(i*Rr.size+o):=by rw[Rr.len,jc];omega
   rw[wq]
   show(Rr.cells a++rows Rr l).set _ u=Rr.cells a++rows Rr (l.set i b)
   rw[e,lK _ _ (by omega),show(Rr.cells a).length+(i*Rr.size+o)-(Rr.cells a).length=i*Rr.size+o by omega,f h]
theorem oP {L:List jH}{e:Nat}{x:jH}(h:L[e]?=some x)(u:aV)(q:List ku):(rows fO L).set (e*3+1) u.1=rows fO (L.set e (x.wn u q)):=pH fO h (by decide) rfl
def rR (q:List ku)(i j:Nat)(x y:ku):List ku:=(q.set i y).set j x
theorem oV (q:List ku)(i j:Nat)(x y:ku):(rR q i j x y).length=q.length:=by unfold rR;rw[cn,cn]
theorem qv {q:List ku}{i:Nat}{x:ku}(h:q[i]?=some x):(q.map iQ).getD i Ir=iQ x:=by rw[ar,bP,h];rfl
theorem ID {q:List ku}{i j:Nat}{x y:ku}(hx:q[i]?=some x)(hy:q[j]?=some y):(rR q i j x y).map iQ=xO (q.map iQ) i j:=by
 unfold rR xO;rw[jk,jk,qv hx,qv hy]
theorem oX {q:List ku}{i j:Nat}{x y u:ku}(hx:q[i]?=some x)(hy:q[j]?=some y)(h:u∈rR q i j x y):u∈q:=by
 rcases lJ h with h|rfl
 ·rcases lJ h with h|rfl
  ·exact h
  ·exact ae hy
 ·exact ae hx
theorem HT {q:List ku}{i j:Nat}{x y:ku}(hx:q[i]?=some x)(hy:q[j]?=some y):vQ (q.map iQ) i j=decide (QZ (mg x.rk) (mg y.rk)<0):=by unfold vQ;rw[qv hx,qv hy];rfl
theorem N8 {f i n:Nat}{q:List jF}(h:n≤2*i+1):oI f q i n=q:=by
 cases f with
 |zero=>rfl
 |succ f=>rw[oI,aC h]
theorem N7 {f i n:Nat}{q:List jF}(b:0<f)(h:¬n≤2*i+1)(a:vQ q (p7 q i n) i=false):oI f q i n=q:=by
 obtain⟨k,rfl⟩:∃k,f=k+1:=⟨f-1,by omega⟩
 rw[oI,aA h,aC a]
theorem WB {f i n:Nat}{q:List jF}(b:0<f)(h:¬n≤2*i+1)(a:vQ q (p7 q i n) i=true):oI f q i n=oI (f-1) (xO q i (p7 q i n)) (p7 q i n) n:=by
 obtain⟨k,rfl⟩:∃k,f=k+1:=⟨f-1,by omega⟩
 rw[oI,aA h,aA (by rw[a];decide)];rfl
theorem V8 {a:Int}{n:Nat}(b:a=n)(c:n<4611686018427387904):IntKind.i64.wrap (a.tdiv 2)=((n/2:Nat):Int):=by
 subst b
 have h1:((n:Int)).tdiv 2=((n/2:Nat):Int):=by rw[Int.tdiv_eq_ediv_of_nonneg (by omega)];omega
 rw[h1]
 have:n/2≤n:=Nat.div_le_self ..
 exact uY (by omega)
theorem pC (j:Nat)(a:j<4611686018427387904):IntKind.i64.wrap (((j:Int)-1).tdiv 2)=(((j-1)/2:Nat):Int):=by
 by_cases h:j=0
 ·subst h;decide
 ·exact V8 (by omega) (by omega)
theorem K4 {f j:Nat}{q:List jF}(h:(j-1)/2=j∨vQ q j ((j-1)/2)=false):Jz f q j=q:=by
 cases f with
 |zero=>rfl
 |succ f=>rw[Jz,aC h]
theorem afK {f j:Nat}{q:List jF}(b:0<f)(h:(j-1)/2≠j)(a:vQ q j ((j-1)/2)=true):Jz f q j=Jz (f-1) (xO q ((j-1)/2) j) ((j-1)/2):=by
 obtain⟨k,rfl⟩:∃k,f=k+1:=⟨f-1,by omega⟩
 rw[Jz,aA (by rw[a];simp[h])];rfl
theorem Nu {n k:Nat}{q:List jF}(h:0<k):tj n k q=tj n (k-1) (oI n q (k-1) n):=by
 obtain⟨j,rfl⟩:∃j,k=j+1:=⟨k-1,by omega⟩
 rfl
theorem Si (q:List jF)(i n:Nat):i<p7 q i n:=by unfold p7;split<;>omega
theorem Cv:∀(f:Nat) (q:List jF) (i n:Nat),(oI f q i n).length=q.length
 |0,_,_,_=>rfl
 |f+1,q,i,n=>by
  rw[oI]
  split
  ·rfl
  ·split
   ·rfl
   ·rw[Cv f];unfold xO;rw[cn,cn]
theorem Sj {q:List jF}{i n:Nat}(h:2*i+1<n):p7 q i n<n:=by unfold p7;split<;>omega
theorem sJ (v0:Value)(q:List ku)(i j:Nat)(x y:ku)(hx:q[i]?=some x)(hy:q[j]?=some y):dz prog 207 #[v0,iv (i:Nat),iv (j:Nat)] [row v0 196 7 (q).length (rows jK (q))] (λv H'=>v= .tuple #[]∧H'=[row v0 196 7 (rR q i j x y).length (rows jK (rR q i j x y))]):=by
 refine dz.body (args:=[v0,iv (i:Nat),iv (j:Nat)]) 20 func207 rfl ntmps207 rfl (λc=> ?_)
 have b:=ah hx
 have a:=ah hy
 refine St.dc [row v0 196 7 (q).length (rows jK (q))] mixed (λd e=> ?_)
 repeat' first
  |with_reducible refine SW.me ?_
   first
    |refine SW.gd 0 ?_
    |refine SW.gd 1 ?_
    |refine SW.gd 2 ?_
    |refine SW.gd 3 ?_
    |refine SW.gd 4 ?_
    |refine SW.gd 5 ?_
    |refine SW.gd 8 ?_
    |refine SW.gd 9 ?_
    |refine SW.t2 6 10 ?_ ?_
    |refine SW.t2 7 10 ?_ ?_
    |refine SW.t1 10 ?_
    |refine SW.t1 11 ?_
    |refine SW.t1 12 ?_
    |refine SW.t1 13 ?_
    |refine SW.t1 14 ?_
    |refine SW.t1 15 ?_
    |refine SW.t2 7 11 ?_ ?_
    |refine SW.t1 7 ?_
    |refine SW.t2 6 11 ?_ ?_
    |refine SW.t1 6 ?_
  |with_reducible refine SW.tg 6 ?_
   refine g3 ?_;refine SW.go ?_
  |with_reducible refine SW.tg 7 ?_
   refine St.ee (Ev.vP (R:=jK) (.mk rfl) hy uU trivial ji (by omega)) ?_;refine St.slot 13 (EK y) rfl rfl ?_;refine g2 ?_;refine SW.go ?_
  |with_reducible refine SW.tg 10 ?_
   refine g3 ?_;refine SW.go ?_
  |with_reducible refine SW.tg 11 ?_
   refine St.ee (Ev.vP (R:=jK) (.mk rfl) hx uU trivial ji (by omega)) ?_;refine St.slot 17 (EK x) rfl rfl ?_;refine g2 ?_;refine SW.go ?_
  |with_reducible refine SW.tg 12 ?_
   refine g3 ?_;refine SW.go ?_
  |with_reducible refine SW.tg 13 ?_
   refine St.uO (Rr:=jK) (show jK.size=7 from rfl) y (.mk rfl) (.mk rfl) ji (by omega) (by omega) ?_;refine g2 ?_;refine SW.go ?_
  |with_reducible refine SW.tg 14 ?_
   refine g3 ?_;refine SW.go ?_
  |with_reducible refine SW.tg 15 ?_
   refine St.uO (Rr:=jK) (show jK.size=7 from rfl) x (.mk rfl) (.mk rfl) ji (by omega) (by rw[cn];omega) ?_;refine St.aM v0 (show _=(rR q i j x y).length from(oV ..).symm) (show _=rows jK (rR q i j x y)from rfl) ?_;refine g2 ?_;refine SW.go ?_
 all_goals refine SW.dn ?_
 all_goals
  refine St.eH ?_;refine St.rV [] [row v0 196 7 (rR q i j x y).length (rows jK (rR q i j x y))] ?_;exact⟨rfl,rfl⟩
theorem BP (j m0 k e:Nat)(L:List jH)(x:jH)(he:L[e]?=some x)(q:List ku)(P:q.length<4611686018427387904)(i n:Nat)(Q:n≤q.length)(I:i<q.length):dz prog 131 #[.iface 202 (cZ (.slice (some ⟨j,0,none⟩) m0 k) 3 e 1),iv (i:Nat),iv (n:Nat)] [row (.slice (some ⟨j,0,none⟩) m0 k) 194 3 (L).length (rows fO (L)),row x.nv.1 196 7 (q).length (rows jK (q)),aB (aF hS (q))] (λv H'=>∃(b:Bool) (p:List ku),v= .bool b∧p.map iQ=oI n (q.map iQ) i n∧(∀u∈p,u∈q)∧H'=[row (.slice (some ⟨j,0,none⟩) m0 k) 194 3 (L).length (rows fO (L)),row x.nv.1 196 7 (p).length (rows jK (p)),aB (aF hS (p))]):=by
 refine dz.body (args:=[.iface 202 (cZ (.slice (some ⟨j,0,none⟩) m0 k) 3 e 1),iv (i:Nat),iv (n:Nat)]) 48 func131 rfl ntmps131 rfl (λc=> ?_);refine go ?_
 have R:=ah he
 refine g12 ?_;refine St.lH (ι:=Nat×Nat×List ku) (λ⟨i1,f1,d⟩ T=>(7,iv i1)::T) (λ⟨i1,f1,d⟩=>[row (.slice (some ⟨j,0,none⟩) m0 k) 194 3 (L).length (rows fO (L)),row x.nv.1 196 7 (d).length (rows jK (d)),aB (aF hS (d))]) (λ⟨i1,f1,d⟩=>i1<d.length∧d.length=q.length∧n≤f1+i1∧oI f1 (d.map iQ) i1 n=oI n (q.map iQ) i n∧(∀u∈d,u∈q)) (λ⟨i1,f1,d⟩=>n-i1) ⟨i,n,q⟩ (aD.cons 0 rfl (aD.cons 1 rfl (aD.cons 2 rfl (aD.cons 6 rfl aD.nil)))) ⟨I,rfl,by omega,rfl,λ_ h=>h⟩ ?_;rintro ⟨i1,f1,d⟩ ⟨E,F,A,f,y⟩
 dsimp only at E F A f y⊢
 refine g4 ?_;refine St.ee (Ev.mul (.mk rfl) (.mk rfl) (by omega)) ?_;refine go ?_;refine St.slot 14 (iv ((2*i1+1:Nat):Int)) rfl (congrArg iv (by push_cast;omega)) ?_;refine g10 ?_;refine St.gf _ rfl rfl (λG=>Ev.move (.mk rfl)) rfl ?_;refine St.gf _ rfl rfl (λG=>Ev.lss (ai.gv rfl G) (.mk rfl)) rfl ?_;refine g3 ?_;refine St.cq (λJ=> ?_) (λJ=> ?_)
 ·have K:n≤2*i1+1:=by omega
  rw[N8 K]at f;refine g15 ?_;refine St.rV [_] [row (.slice (some ⟨j,0,none⟩) m0 k) 194 3 (L).length (rows fO (L)),row x.nv.1 196 7 (d).length (rows jK (d)),aB (aF hS (d))] ?_;exact⟨_,d,rfl,f,y,rfl⟩
 ·have M:2*i1+1<n:=by omega
  obtain⟨z,hz⟩:=aE E;obtain⟨N,r⟩:=aE (show 2*i1+1<d.length by omega);refine g8 ?_;refine St.join (ι:=Nat) (λg T=>(9,iv g)::T) (λg=>[row (.slice (some ⟨j,0,none⟩) m0 k) 194 3 (L).length (rows fO (L)),row x.nv.1 196 7 (d).length (rows jK (d)),aB (aF hS (d))]) (λg=>g=p7 (d.map iQ) i1 n) (aD.cons 0 rfl (aD.cons 1 rfl (aD.cons 2 rfl (aD.cons 6 rfl (aD.cons 7 rfl aD.nil))))) ?_ ?_
  ·refine g4 ?_
   refine St.slot 24 (iv ((2*i1+2:Nat):Int)) rfl (congrArg iv (by push_cast;omega)) ?_;refine g9 ?_;refine St.split 28 _ rfl (λl=> ?_) (λl=> ?_)
   ·have m:2*i1+2<n:=by have:=fM l;omega
    obtain⟨a2,s⟩:=aE (show 2*i1+2<d.length by omega)
    have t:=HT s r
    refine St.cG rfl rfl ?_;refine go ?_;refine St.cG rfl rfl ?_;refine go ?_;refine St.cG rfl rfl ?_;refine go ?_;refine St.cG rfl rfl ?_;refine St.ee (Ev.qw (Recv.row pA iY trivial (by omega) (nQ he)) (sI x.nv.1 d (2*i1+2) (2*i1+1) a2 N s r) Mp (.ej rfl rfl rfl) ((dW.row (dW.aB dW.nil) rfl rfl rfl (λ_ _=>trivial)))) ?_;refine St.ee (Ev.gZ (.mk rfl) rfl (.mk rfl)) ?_;refine g2 ?_;refine St.cond _ rfl (λB=> ?_) (λB=> ?_)
    ·skip
     refine g5 ?_;refine St.mE (2*i1+2) (by unfold p7;rw[aC ⟨m,by rw[t];exact B⟩])
    ·skip
     refine g2 ?_;refine St.mE (2*i1+1) (by unfold p7;rw[aA (λh=>by rw[t,B]at h;exact Bool.noConfusion h.2)])
   ·have m:¬2*i1+2<n:=by have:=iV l;omega
    refine St.bq rfl rfl rfl ?_;refine St.bq rfl rfl rfl ?_;refine St.bq rfl rfl rfl ?_;refine St.bq rfl rfl rfl ?_;refine St.ee (Ev.kQ (.mk rfl) rfl (.mk rfl)) ?_;refine g2 ?_;refine St.ri _ rfl rfl ?_;refine g2 ?_;refine St.mE (2*i1+1) (by unfold p7;rw[aA (λh=>m h.1)])
  ·intro g w
   have S:g<n:=by rw[w];exact Sj M
   have U:i1<g:=by rw[w];exact Si _ _ _
   obtain⟨a,o⟩:=aE (show g<d.length by omega)
   have H:=HT o hz
   refine g6 ?_;refine St.ee (Ev.qw (Recv.row pA iY trivial (by omega) (nQ he)) (sI x.nv.1 d g i1 a z o hz) Mp (.ej rfl rfl rfl) ((dW.row (dW.aB dW.nil) rfl rfl rfl (λ_ _=>trivial)))) ?_;refine g3 ?_;refine St.cond _ rfl (λC=> ?_) (λC=> ?_)
   ·skip
    have D:vQ (d.map iQ) (p7 (d.map iQ) i1 n) i1=false:=by rw[←w,H];simpa using C
    rw[N7 (by omega) (by omega) D]at f;refine g15 ?_;refine St.rV [_] [row (.slice (some ⟨j,0,none⟩) m0 k) 194 3 (L).length (rows fO (L)),row x.nv.1 196 7 (d).length (rows jK (d)),aB (aF hS (d))] ?_;exact⟨_,d,rfl,f,y,rfl⟩
   ·skip
    have D:vQ (d.map iQ) (p7 (d.map iQ) i1 n) i1=true:=by rw[←w,H];simpa using C
    refine g7 ?_;refine St.ivk (Recv.row pB iY trivial (by omega) (nQ he)) (sJ x.nv.1 d i1 g z a hz o) Mq (.ej rfl rfl rfl) rfl ?_;rintro O _ ⟨rfl,rfl⟩;refine St.ao ?_;refine St.eZ (aF hS (rR d i1 g z a)) [aF hS d] (λρ h u hu=>h (aF hS d) (aQ ..) u (oX hz o hu)) ?_;refine g8 ?_;refine St.aH ⟨g,f1-1,rR d i1 g z a⟩ ⟨by rw[oV];omega,by rw[oV,F],by dsimp only;omega,by rw[ID hz o,w,←WB (by omega) (by omega) D];exact f,λu hu=>y u (oX hz o hu)⟩
theorem Tp (g m0 i e:Nat)(L:List jH)(x:jH)(he:L[e]?=some x)(q:List ku)(D:q.length<4611686018427387904)(j f0:Nat)(A:j<q.length)(B:j<f0):dz prog 132 #[.iface 202 (cZ (.slice (some ⟨g,0,none⟩) m0 i) 3 e 1),iv (j:Nat)] [row (.slice (some ⟨g,0,none⟩) m0 i) 194 3 (L).length (rows fO (L)),row x.nv.1 196 7 (q).length (rows jK (q)),aB (aF hS (q))] (λv H'=>∃(n:List ku),v= .tuple #[]∧n.map iQ=Jz f0 (q.map iQ) j∧(∀u∈n,u∈q)∧H'=[row (.slice (some ⟨g,0,none⟩) m0 i) 194 3 (L).length (rows fO (L)),row x.nv.1 196 7 (n).length (rows jK (n)),aB (aF hS (n))]):=by
 refine dz.body (args:=[.iface 202 (cZ (.slice (some ⟨g,0,none⟩) m0 i) 3 e 1),iv (j:Nat)]) 23 func132 rfl ntmps132 rfl (λc=> ?_);refine go ?_
 have E:=ah he
 refine St.lH (ι:=Nat×Nat×List ku) (λ⟨d,f1,b⟩ T=>(1,iv d)::T) (λ⟨d,f1,b⟩=>[row (.slice (some ⟨g,0,none⟩) m0 i) 194 3 (L).length (rows fO (L)),row x.nv.1 196 7 (b).length (rows jK (b)),aB (aF hS (b))]) (λ⟨d,f1,b⟩=>d<b.length∧b.length=q.length∧d<f1∧Jz f1 (b.map iQ) d=Jz f0 (q.map iQ) j∧(∀u∈b,u∈q)) (λ⟨d,f1,b⟩=>d) ⟨j,f0,q⟩ (aD.cons 0 rfl aD.nil) ⟨A,rfl,B,rfl,λ_ h=>h⟩ ?_;rintro ⟨d,f1,b⟩ ⟨o,w,r,l,p⟩
 dsimp only at o w r l p⊢
 obtain⟨z,hz⟩:=aE o
 obtain⟨pp,f⟩:∃pp,pp=(d-1)/2:=⟨_,rfl⟩
 have C:pp≤d:=by omega
 obtain⟨a,m⟩:=aE (show pp<b.length by omega)
 have y:=HT hz m
 refine g5 ?_;refine St.ee (Ev.ae3 (.mk rfl) (.mk rfl) (by decide)) ?_;refine St.slot 7 (iv (pp:Nat)) rfl (by rw[f];exact congrArg iv (pC d (by omega))) ?_;refine g10 ?_;refine St.split 11 _ rfl (λk=> ?_) (λk=> ?_)
 ·have heq:(d-1)/2=d:=by have:=fM k;omega
  rw[K4 (.inl heq)]at l;refine St.bq rfl rfl rfl ?_;refine St.bq rfl rfl rfl ?_;refine St.bq rfl rfl rfl ?_;refine St.bq rfl rfl rfl ?_;refine St.bq rfl rfl rfl ?_;refine St.ee (Ev.gZ (.mk rfl) rfl (.mk rfl)) ?_;refine g2 ?_;refine St.Iu _ rfl rfl ?_;refine g5 ?_;refine St.eH ?_;refine St.rV [] [row (.slice (some ⟨g,0,none⟩) m0 i) 194 3 (L).length (rows fO (L)),row x.nv.1 196 7 (b).length (rows jK (b)),aB (aF hS (b))] ?_;exact⟨b,rfl,l,p,rfl⟩
 ·have F:(d-1)/2≠d:=by have:=iV k;omega
  refine St.cG rfl rfl ?_;refine go ?_;refine St.cG rfl rfl ?_;refine go ?_;refine St.cG rfl rfl ?_;refine go ?_;refine St.cG rfl rfl ?_;refine St.ee (Ev.qw (Recv.row pA iY trivial (by omega) (nQ he)) (sI x.nv.1 b d pp z a hz m) Mp (.ej rfl rfl rfl) ((dW.row (dW.aB dW.nil) rfl rfl rfl (λ_ _=>trivial)))) ?_;refine St.cG rfl rfl ?_;refine go ?_;refine St.ee (Ev.kQ (.mk rfl) rfl (.mk rfl)) ?_;refine g2 ?_;refine St.cond _ rfl (λs=> ?_) (λs=> ?_)
  ·skip
   have t:vQ (b.map iQ) d pp=false:=by rw[y];simpa using s
   rw[K4 (.inr (by rw[←f];exact t))]at l;refine g5 ?_;refine St.eH ?_;refine St.rV [] [row (.slice (some ⟨g,0,none⟩) m0 i) 194 3 (L).length (rows fO (L)),row x.nv.1 196 7 (b).length (rows jK (b)),aB (aF hS (b))] ?_;exact⟨b,rfl,l,p,rfl⟩
  ·skip
   have t:vQ (b.map iQ) d pp=true:=by rw[y];simpa using s
   refine g7 ?_;refine St.ivk (Recv.row pB iY trivial (by omega) (nQ he)) (sJ x.nv.1 b pp d a z m hz) Mq (.ej rfl rfl rfl) rfl ?_;rintro v21 _ ⟨rfl,rfl⟩;refine St.ao ?_;refine St.eZ (aF hS (rR b pp d a z)) [aF hS b] (λρ h u hu=>h (aF hS b) (aQ ..) u (oX m hz hu)) ?_;refine g8 ?_;refine St.aH ⟨pp,f1-1,rR b pp d a z⟩ ⟨by rw[oV];omega,by rw[oV,w],by dsimp only;omega,by rw[ID m hz,f,←afK (by omega) (by omega) (by rw[←f];exact t)];exact l,λu hu=>p u (oX m hz hu)⟩
theorem Kz (b m0 d e:Nat)(L:List jH)(x:jH)(he:L[e]?=some x)(q:List ku)(l:q.length<4611686018427387904):dz prog 94 #[.iface 202 (cZ (.slice (some ⟨b,0,none⟩) m0 d) 3 e 1)] [row (.slice (some ⟨b,0,none⟩) m0 d) 194 3 (L).length (rows fO (L)),row x.nv.1 196 7 (q).length (rows jK (q)),aB (aF hS (q))] (λv H'=>∃(f:List ku),v= .tuple #[]∧f.map iQ=tj q.length (q.length/2) (q.map iQ)∧(∀u∈f,u∈q)∧H'=[row (.slice (some ⟨b,0,none⟩) m0 d) 194 3 (L).length (rows fO (L)),row x.nv.1 196 7 (f).length (rows jK (f)),aB (aF hS (f))]):=by
 refine dz.body (args:=[.iface 202 (cZ (.slice (some ⟨b,0,none⟩) m0 d) 3 e 1)]) 17 func94 rfl ntmps94 rfl (λc=> ?_);refine go ?_
 have t:=ah he
 refine g2 ?_;refine St.ee (Ev.qw (Recv.row qM iY trivial (by omega) (nQ he)) (qo x.nv.1 q) RI (.au rfl) ((dW.row dW.nil rfl rfl rfl (λ_ _=>trivial)))) ?_;refine g6 ?_;refine St.ee (Ev.ae3 (.mk rfl) (.mk rfl) (by decide)) ?_;refine St.slot 7 (iv ((q.length/2:Nat):Int)) rfl (congrArg iv (V8 rfl l)) ?_;refine g5 ?_;refine St.lH (ι:=Nat×List ku) (λ⟨k,a⟩ T=>(3,iv ((k:Int)-1))::T) (λ⟨k,a⟩=>[row (.slice (some ⟨b,0,none⟩) m0 d) 194 3 (L).length (rows fO (L)),row x.nv.1 196 7 (a).length (rows jK (a)),aB (aF hS (a))]) (λ⟨k,a⟩=>k≤q.length/2∧a.length=q.length∧tj q.length k (a.map iQ)=tj q.length (q.length/2) (q.map iQ)∧(∀u∈a,u∈q)) (λ⟨k,a⟩=>k) ⟨q.length/2,q⟩ (aD.cons 0 rfl (aD.cons 2 rfl aD.nil)) ⟨aR _,rfl,rfl,λ_ h=>h⟩ ?_;rintro ⟨k,a⟩ ⟨hk,m,g,i⟩
 dsimp only at hk m g i⊢
 refine g7 ?_;refine St.cq (λn=> ?_) (λn=> ?_)
 ·have o:0<k:=by omega
  refine g7 ?_;refine St.slot 14 (iv ((k-1:Nat):Int)) rfl (congrArg iv (by omega)) ?_;refine go ?_;refine St.call (BP b m0 d e L x he a (by omega) (k-1) q.length (by omega) (by omega)) UO (.ej rfl rfl rfl) rfl ?_;rintro p _ ⟨r,f,rfl,j,s,rfl⟩;refine St.iP ?_;refine g9 ?_;refine St.aH ⟨k-1,f⟩ ⟨by dsimp only;omega,by have h:=congrArg List.length j;rw[aO,Cv,aO]at h;dsimp only;omega,by dsimp only;rw[j,←Nu (by omega)];exact g,λu hu=>i u (s u hu)⟩
 ·obtain rfl:k=0:=by omega
  refine g4 ?_;refine St.eH ?_;refine St.rV [] [row (.slice (some ⟨b,0,none⟩) m0 d) 194 3 (L).length (rows fO (L)),row x.nv.1 196 7 (a).length (rows jK (a)),aB (aF hS (a))] ?_;exact⟨a,rfl,g,i,rfl⟩
theorem KP (b m0 d e:Nat)(L:List jH)(x:jH)(he:L[e]?=some x)(q:List ku)(g:q.length<4611686018427387904)(z:ku)(hz:q[q.length-1]?=some z):dz prog 208 #[cZ (.slice (some ⟨b,0,none⟩) m0 d) 3 e 1] [row (.slice (some ⟨b,0,none⟩) m0 d) 194 3 (L).length (rows fO (L)),row x.nv.1 196 7 (q).length (rows jK (q))] (λv H'=>∃u:aV,v= .iface 196 (EK z)∧H'=[row (.slice (some ⟨b,0,none⟩) m0 d) 194 3 (L.set e (x.wn u (q.take (q.length-1)))).length (rows fO (L.set e (x.wn u (q.take (q.length-1))))),row u.1 196 7 (q.take (q.length-1)).length (rows jK (q.take (q.length-1)))]):=by
 refine dz.body (args:=[cZ (.slice (some ⟨b,0,none⟩) m0 d) 3 e 1]) 23 func208 rfl ntmps208 rfl (λc=> ?_);refine go ?_
 have i:=ah he
 have f:=ah hz
 refine g7 ?_;refine St.ee (Ev.kg rfl (.mk rfl)) ?_;refine St.ee (Ev.cu (.mk rfl) iY trivial (by omega) (nQ he)) ?_;refine g9 ?_;refine St.slot 11 (iv ((q.length-1:Nat):Int)) rfl (congrArg iv (by omega)) ?_;refine St.ee (Ev.dZ (k:=(q.length-1)) (.mk rfl) (.mk rfl) iY ji (by omega) (by omega)) ?_;refine St.ee (Ev.vP (R:=jK) (.mk rfl) hz uU trivial ji (by omega)) ?_;refine St.slot 13 (EK z) rfl rfl ?_;refine St.al (λj=> ?_);refine St.sA (.mk rfl) (.mk rfl) ji ?_ (h1:=(eW.2 λu hu=>jK.one z u hu));refine g9 ?_;refine St.slot 18 (iv ((q.length-1:Nat):Int)) rfl (congrArg iv (by omega)) ?_;refine St.ee (Ev.pI (h:=(q.length-1)) (.mk rfl) (.mk rfl) iY ji rfl (by omega)) ?_;refine St.DS x.nv.1 (q.length-1) (by omega) ?_;refine St.aM (pJ x.nv.1 7 0 (q.length-1)) (show _=(q.take (q.length-1)).length by rw[eX];omega) (show _=rows jK (q.take (q.length-1))from ve jK q _) ?_;refine St.bZ (pJ x.nv.1 7 0 (q.length-1)) (λa _=> ?_);refine St.ee (Ev.kg rfl (.mk rfl)) ?_;refine St.cI (.mk rfl) (.mk rfl) Jq a (by omega) (by decide) ?_;refine St.aM (.slice (some ⟨b,0,none⟩) m0 d) (show _=(L.set e (x.wn ⟨pJ x.nv.1 7 0 (q.length-1),a⟩ (q.take (q.length-1)))).length by rw[cn]) (show _=rows fO (L.set e (x.wn ⟨pJ x.nv.1 7 0 (q.length-1),a⟩ (q.take (q.length-1))))from oP he ⟨_,a⟩ _) ?_;refine g5 ?_;refine St.slot 21 (EK z) rfl rfl ?_;refine St.ee (Ev.iface (.mk rfl) uU trivial) ?_;refine g4 ?_;refine St.rV [_] [row (.slice (some ⟨b,0,none⟩) m0 d) 194 3 (L.set e (x.wn ⟨pJ x.nv.1 7 0 (q.length-1),a⟩ (q.take (q.length-1)))).length (rows fO (L.set e (x.wn ⟨pJ x.nv.1 7 0 (q.length-1),a⟩ (q.take (q.length-1))))),row (pJ x.nv.1 7 0 (q.length-1)) 196 7 (q.take (q.length-1)).length (rows jK (q.take (q.length-1)))] ?_;exact⟨⟨_,a⟩,rfl,rfl⟩
theorem Kv (d m0 f e:Nat)(L:List jH)(x:jH)(he:L[e]?=some x)(q:List ku)(o:q.length<4611686018427387904)(m:0<q.length):dz prog 96 #[.iface 202 (cZ (.slice (some ⟨d,0,none⟩) m0 f) 3 e 1)] [row (.slice (some ⟨d,0,none⟩) m0 f) 194 3 (L).length (rows fO (L)),row x.nv.1 196 7 (q).length (rows jK (q)),aB (aF hS (q))] (λv H'=>∃(u:aV) (a:List ku) (z:ku),v= .iface 196 (EK z)∧a.map iQ=pE (q.map iQ)∧a[q.length-1]?=some z∧(∀u∈a,u∈q)∧H'=[row (.slice (some ⟨d,0,none⟩) m0 f) 194 3 (L.set e (x.wn u (a.take (q.length-1)))).length (rows fO (L.set e (x.wn u (a.take (q.length-1))))),row u.1 196 7 (a.take (q.length-1)).length (rows jK (a.take (q.length-1))),aB (aF hS a)]):=by
 refine dz.body (args:=[.iface 202 (cZ (.slice (some ⟨d,0,none⟩) m0 f) 3 e 1)]) 15 func96 rfl ntmps96 rfl (λc=> ?_);refine go ?_
 have p:=ah he
 obtain⟨y,hy⟩:=aE m;obtain⟨w,hw⟩:=aE (show q.length-1<q.length by omega)
 obtain⟨b,g⟩:∃b,b=rR q 0 (q.length-1) y w:=⟨_,rfl⟩
 have r:b.length=q.length:=by rw[g,oV]
 have i:b.map iQ=xO (q.map iQ) 0 (q.length-1):=by rw[g];exact ID hy hw
 refine g7 ?_;refine St.ee (Ev.qw (Recv.row qM iY trivial (by omega) (nQ he)) (qo x.nv.1 q) RI (.au rfl) ((dW.row dW.nil rfl rfl rfl (λ_ _=>trivial)))) ?_;refine go ?_;refine St.slot 6 (iv ((q.length-1:Nat):Int)) rfl (congrArg iv (by omega)) ?_;refine g7 ?_;refine St.ivk (Recv.row pB iY trivial (by omega) (nQ he)) (sJ x.nv.1 q 0 (q.length-1) y w hy hw) Mq (.ej rfl rfl rfl) rfl ?_;rintro v9 _ ⟨rfl,rfl⟩;refine St.ao ?_;refine St.eZ (aF hS b) [aF hS q] (λρ h u hu=>h (aF hS q) (aQ ..) u (oX hy hw (by rw[←g];exact hu))) ?_;refine St.aM x.nv.1 (show _=b.length by rw[g]) (show _=rows jK b by rw[g]) ?_;refine g6 ?_;refine St.call (BP d m0 f e L x he b (by omega) 0 (q.length-1) (by omega) (by omega)) UO (.ej rfl rfl rfl) rfl ?_;rintro v12 _ ⟨s,a,rfl,l,j,rfl⟩;refine St.iP ?_
 have k:a.length=q.length:=by have h:=congrArg List.length l;rw[aO,Cv,aO]at h;omega
 obtain⟨z,hz⟩:=aE (show q.length-1<a.length by omega);rw[show q.length-1=a.length-1 by omega]at hz;refine g5 ?_;refine St.ivk (Recv.ptr Ex) (KP d m0 f e L x he a (by omega) z hz) Zr (.au rfl) rfl ?_;rintro n _ ⟨u,rfl,rfl⟩;refine St.dQ ?_;refine g4 ?_;refine St.rV [_] [row (.slice (some ⟨d,0,none⟩) m0 f) 194 3 (L.set e (x.wn u (a.take (a.length-1)))).length (rows fO (L.set e (x.wn u (a.take (a.length-1))))),row u.1 196 7 (a.take (a.length-1)).length (rows jK (a.take (a.length-1))),aB (aF hS a)] ?_;rw[k]at hz⊢;exact⟨u,a,z,rfl,by rw[l,i];unfold pE;rw[aO],hz,λu hu=>by have h:=j u hu;rw[g]at h;exact oX hy hw h,rfl⟩
theorem GX (a m0 b e:Nat)(L:List jH)(x:jH)(he:L[e]?=some x)(q:List ku)(g:q.length≤1200000000000)(z:ku):dz prog 209 #[cZ (.slice (some ⟨a,0,none⟩) m0 b) 3 e 1,.iface 196 (EK z)] [row (.slice (some ⟨a,0,none⟩) m0 b) 194 3 (L).length (rows fO (L)),row x.nv.1 196 7 (q).length (rows jK (q))] (λv H'=>∃u:aV,v= .tuple #[]∧H'=[row (.slice (some ⟨a,0,none⟩) m0 b) 194 3 (L.set e (x.wn u (q++ [z]))).length (rows fO (L.set e (x.wn u (q++ [z])))),row u.1 196 7 (q++ [z]).length (rows jK (q++ [z]))]):=by
 refine dz.body (args:=[cZ (.slice (some ⟨a,0,none⟩) m0 b) 3 e 1,.iface 196 (EK z)]) 13 func209 rfl ntmps209 rfl (λc=> ?_)
 have h:=ah he
 refine St.dc [row (.slice (some ⟨a,0,none⟩) m0 b) 194 3 (L).length (rows fO (L)),row x.nv.1 196 7 (q).length (rows jK (q))] mixed (λi j=> ?_)
 repeat' first
  |with_reducible refine SW.me ?_
   first
    |refine SW.gd 0 ?_
    |refine SW.gd 1 ?_
    |refine SW.gd 4 ?_
    |refine SW.dd 5 rfl (λ_=>Ev.assert (.mk rfl) uU trivial) ?_
     refine SW.slot 9 (EK z) rfl rfl ?_
    |refine SW.t2 2 6 ?_ ?_
    |refine SW.t2 3 6 ?_ ?_
    |refine SW.t1 6 ?_
    |refine SW.t1 7 ?_
    |refine SW.t1 8 ?_
    |refine SW.t1 9 ?_
    |refine SW.t1 3 ?_
    |refine SW.t1 2 ?_
  |with_reducible refine SW.tg 2 ?_
   refine St.ee (Ev.kg rfl (.mk rfl)) ?_;refine g2 ?_;refine SW.go ?_
  |with_reducible refine SW.tg 3 ?_
   refine St.ee (Ev.cu (.mk rfl) iY trivial (by omega) (nQ he)) ?_;refine g2 ?_;refine SW.go ?_
  |with_reducible refine SW.tg 6 ?_
   refine St.gX rfl (.au rfl) iY ji CJ rfl rfl (by simp[Value.cells]) rfl rfl (λk=> ?_);refine g2 ?_;refine SW.go ?_
  |with_reducible refine SW.tg 7 ?_
   refine St.aj (.mk rfl) (.mk rfl) iY ji CJ Mi (by intro u hu;exact jK.one z u hu) (by omega) (by omega) rfl rfl rfl rfl (λv11 f=> ?_);refine St.aM v11 (show _=(q++ [z]).length by rw[bQ];rfl) (show _=rows jK (q++ [z]) by rw[bB];rfl) ?_;refine St.bZ v11 (λd _=> ?_);refine g2 ?_;refine SW.go ?_
  |with_reducible refine SW.tg 8 ?_
   refine St.ee (Ev.kg rfl (.mk rfl)) ?_;refine g2 ?_;refine SW.go ?_
  |with_reducible refine SW.tg 9 ?_
   refine St.cI (.mk rfl) (.mk rfl) Jq d (by omega) (by decide) ?_;refine St.aM (.slice (some ⟨a,0,none⟩) m0 b) (show _=(L.set e (x.wn ⟨v11,d⟩ (q++ [z]))).length by rw[cn]) (show _=rows fO (L.set e (x.wn ⟨v11,d⟩ (q++ [z])))from oP he ⟨_,d⟩ _) ?_;refine g2 ?_;refine SW.go ?_
 all_goals refine SW.dn ?_
 all_goals
  refine St.eH ?_;refine St.rV [] [row (.slice (some ⟨a,0,none⟩) m0 b) 194 3 (L.set e (x.wn ⟨v11,d⟩ (q++ [z]))).length (rows fO (L.set e (x.wn ⟨v11,d⟩ (q++ [z])))),row v11 196 7 (q++ [z]).length (rows jK (q++ [z]))] ?_;exact⟨⟨_,d⟩,rfl,rfl⟩
theorem St.ae6 {n:Nat}{F:Fr}{c:Ctx}{H:List ak}{T:Act→World→Prop}{α:Type}{Rr:Rp α}{xs:List α}(v:Value)[hd:sH v H α Rr xs](h:∀ad cap,v= .slice ad xs.length cap→(ad=none→xs.length=0)→St n F (Mm c H) T):St n F (Mm c H) T:=by
 intro a w f hw;obtain⟨ρ,hm⟩:=hw.out;obtain⟨ad,cap,g,_,_,_,d⟩:=hm.sl hd;refine h ad cap g (λi=> ?_) a w f hw;subst i
 rcases d with d|⟨b,o,C,e,fr,d,_⟩
 ·simpa using d
 ·cases d
theorem Hd {L:List jH}{e:Nat}{x:jH}(he:L[e]?=some x)(u:aV)(q r:List ku):rows fO (L.set e (x.wn u q))=rows fO (L.set e (x.wn u r)):=by rw[←oP he u q,←oP he u r]
theorem HJ (b m0 d e:Nat)(L:List jH)(x:jH)(he:L[e]?=some x)(q:List ku)(g:q.length≤1200000000000)(z:ku):dz prog 98 #[.iface 202 (cZ (.slice (some ⟨b,0,none⟩) m0 d) 3 e 1),.iface 196 (EK z)] [row (.slice (some ⟨b,0,none⟩) m0 d) 194 3 (L).length (rows fO (L)),row x.nv.1 196 7 (q).length (rows jK (q)),aB (aF hS (q)),aB (hS z)] (λv H'=>∃(u:aV) (a:List ku),v= .tuple #[]∧a.map iQ=Av (q.map iQ) (iQ z)∧(∀w∈a,w∈q∨w=z)∧H'=[row (.slice (some ⟨b,0,none⟩) m0 d) 194 3 (L.set e (x.wn u (a))).length (rows fO (L.set e (x.wn u (a)))),row u.1 196 7 (a).length (rows jK (a)),aB (aF hS a)]):=by
 refine dz.body (args:=[.iface 202 (cZ (.slice (some ⟨b,0,none⟩) m0 d) 3 e 1),.iface 196 (EK z)]) 12 func98 rfl ntmps98 rfl (λc=> ?_);refine go ?_
 have i:=ah he
 refine St.eZ (aF hS (q++ [z])) [aF hS q,hS z] (λρ h u hu=>by rcases cD.1 hu with hu|hu;exact h (aF hS q) (aQ ..) u hu;rw[bO]at hu;subst hu;exact h (hS u) (cO _ (aQ ..))) ?_;refine g3 ?_;refine St.ivk (Recv.ptr DG) (GX b m0 d e L x he q g z) Zs (.aX rfl rfl) rfl ?_;rintro v6 _ ⟨u,rfl,rfl⟩;refine St.dQ ?_
 have f:(L.set e (x.wn u (q++ [z])))[e]?=some (x.wn u (q++ [z])):=fV i
 have l:(L.set e (x.wn u (q++ [z]))).length=L.length:=cn
 refine g2 ?_;refine St.cast (H':=[row (.slice (some ⟨b,0,none⟩) m0 d) 194 3 (L.set e (x.wn u (q++ [z]))).length (rows fO (L.set e (x.wn u (q++ [z])))),row (x.wn u (q++ [z])).nv.1 196 7 (q++ [z]).length (rows jK (q++ [z])),aB (aF hS (q++ [z])),aB (aF hS q),aB (hS z)]) rfl ?_;refine g3 ?_;refine St.ee (Ev.qw (Recv.row qM iY trivial (by omega) (nQ f)) (qo (x.wn u (q++ [z])).nv.1 (q++ [z])) RI (.au rfl) ((dW.row dW.nil rfl rfl rfl (λ_ _=>trivial)))) ?_;refine St.ee (Ev.sub (.mk rfl) (.mk rfl) (by rw[bQ,pc];omega)) ?_;refine St.slot 10 (iv ((q.length:Nat):Int)) rfl (congrArg iv (by rw[bQ,pc];omega)) ?_;refine St.call (Tp b m0 d e (L.set e (x.wn u (q++ [z]))) (x.wn u (q++ [z])) f (q++ [z]) (by rw[bQ,pc];omega) q.length (q.length+1) (by rw[bQ,pc];omega) (by omega)) ZY (.aX rfl rfl) rfl ?_;rintro v11 _ ⟨a,rfl,j,k,rfl⟩;refine St.iP ?_;refine St.aM (.slice (some ⟨b,0,none⟩) m0 d) (show _=(L.set e (x.wn u (a))).length by rw[cn,cn]) (show _=rows fO (L.set e (x.wn u (a)))from Hd he u _ _) ?_;refine St.cast (H':=[row (.slice (some ⟨b,0,none⟩) m0 d) 194 3 (L.set e (x.wn u (a))).length (rows fO (L.set e (x.wn u (a)))),row u.1 196 7 (a).length (rows jK (a)),aB (aF hS a),aB (aF hS q),aB (hS z)]) rfl ?_;refine go ?_;refine St.eH ?_;refine St.rV [] [row (.slice (some ⟨b,0,none⟩) m0 d) 194 3 (L.set e (x.wn u (a))).length (rows fO (L.set e (x.wn u (a)))),row u.1 196 7 (a).length (rows jK (a)),aB (aF hS a)] ?_;exact⟨u,a,rfl,by rw[j,cP];unfold Av;rw[aO];rfl,λw hw=>by rcases cD.1 (k w hw)with h|h;exact .inl h;exact .inr (bO.1 h),rfl⟩
theorem Du (v0:Value)(l:List Int)(j:l.length≤1000000):dz prog 97 #[v0] ([sl aJ v0 l].map aB) (λv H'=>∃u:aV,v=u.1∧H'=[row u.1 3 1 l.length (rows aJ l)]):=by
 refine dz.body (args:=[v0]) 8 func97 rfl ntmps97 rfl (λc=> ?_);refine St.cast (H':=[aB (sl aJ v0 l)]) rfl ?_;refine go ?_;refine St.ae6 v0 (λad cap e f=> ?_);subst e;refine g8 ?_;refine St.ee (Ev.slnil (.mk rfl) bJ) ?_;refine g2 ?_;refine St.cond _ rfl (λd=> ?_) (λd=> ?_)
 ·skip
  have g:l=[]:=lG (f (by cases ad with|none=>rfl|some a=>cases d))
  subst g;refine g7 ?_;refine St.dw 3 1 ?_;refine St.rV [_] [row (.slice none 0 0) 3 1 0 []] ?_;exact⟨bR,rfl,rfl⟩
 ·skip
  skip
  refine g4 ?_;refine St.gX rfl (.nil) bJ dK eS rfl rfl (by simp[Value.cells]) rfl rfl (λk=> ?_);refine go ?_;refine St.yT (.mk rfl) (.mk rfl) bJ dK eS xW (zZ _ _) (by omega) (by omega) rfl rfl trivial rfl (λb h=> ?_);refine St.aM b (show _=l.length by rw[hP]) (show _=rows aJ l from rfl) ?_;refine St.bZ b (λi _=> ?_);refine St.cast (H':=[row b 3 1 l.length (rows aJ l),aB (sl aJ (.slice ad l.length cap) l)]) rfl ?_;refine g4 ?_;refine St.rV [_] [row b 3 1 l.length (rows aJ l)] ?_;exact⟨⟨b,i⟩,rfl,rfl⟩
theorem qE (x:dD)(nt nf:Nat)(a:nf≤100)(hx:e9 nt nf (ay x))(b:x.nodes.length≤120):dz prog 106 #[bA x] ([aG x].map aB) (λv H'=>H'=[aB (bL (gj (ay x) 0) v)]):=by
 refine dz.body (args:=[bA x]) 5 func106 rfl ntmps106 rfl (λc=> ?_);refine St.cast (H':=[aB (aG x)]) rfl ?_;refine go ?_
 have e:=dA x
 have d:=gK hx a
 have f:=hx.pos
 refine go ?_;refine St.dJ (.mk rfl) rfl (λg=> ?_);refine St.al (λh=> ?_);refine g5 ?_;refine St.slot 3 (bA x) rfl rfl ?_;refine St.ag (uh x hx.lk b (λt ht=>by have:=(d t ht).2;omega) 0 (by omega)) Mo (.aX rfl rfl) rfl ?_;rintro v4 _ rfl;refine St.ao ?_;refine St.bL (gj (ay x) 0) v4 (λy hy=> ?_);obtain⟨rfl,i⟩:=hy;refine g4 ?_;refine St.rV [_] [aB (bL (gj (ay x) 0) (bA y))] ?_;exact rfl
theorem Ar (n:Nat)(d:n≤12)(m:Nat)(hm:m=n*(n+1)):dz prog 89 #[iv (n:Nat)] [] (λv H'=>∃u:aV,v= .agg #[iv (n:Nat),u.1]∧H'=[row u.1 58 1 (List.replicate m bR).length (rows bT (List.replicate m bR))]):=by
 refine dz.body (args:=[iv (n:Nat)]) 10 func89 rfl ntmps89 rfl (λc=> ?_);refine go ?_
 have a:((n:Nat):Int)*(((n:Nat):Int)+1)=(m:Nat):=by rw[hm];push_cast;rfl
 have e:m≤156:=by rw[hm];exact dS (Nat.mul_le_mul (show n≤12 by omega) (show n+1≤13 by omega)) (by decide)
 refine go ?_;refine St.al (λf=> ?_);refine g8 ?_;refine St.ee (Ev.mul (.mk rfl) (.mk rfl) (by rw[a];omega)) ?_;refine St.slot 7 (iv (m:Nat)) rfl (congrArg iv a) ?_;refine St.nO (Rr:=bT) (g:=bR) (m:=m) (sz:=1) rfl (.mk rfl) (.mk rfl) fK fE kJ ag8 rfl rfl (by omega) rfl rfl (λb=> ?_);refine St.aM (.slice (some ⟨b,0,none⟩) m m) (show _=(List.replicate m bR).length by rw[kF]) rfl ?_;refine St.ee (Ev.build (bF.aX rfl rfl) (λw=>Gp rfl rfl w)) ?_;refine g4 ?_;refine St.rV [_] [row (.slice (some ⟨b,0,none⟩) m m) 58 1 (List.replicate m bR).length (rows bT (List.replicate m bR))] ?_;exact⟨⟨(.slice (some ⟨b,0,none⟩) m m),rfl⟩,rfl,rfl⟩
def xG (c:Nat→Nat→Nat)(tqo:Nat):Nat→Nat→Nat
 |0,_=>1
 |l+1,en=>lY c tqo l en
def ny (l a tqo:Nat):Nat:=if l=0 then tqo else a+1
def rL (l a tqo:Nat):Nat:=if l=0 then 1 else tqo-l-a
def tS (Q:Qr)(rule frm tqo l:Nat)(x:e8)(kids:List Nat)(en:Nat)(cs:Cs)(e:Nat):Cs:=match lU Q cs rule x (kids.length+1) e with
 |none=>cs
 |some y=>match l with
  |0=>kY Q.n cs ⟨frm,tqo,0,mC y⟩ ⟨rule,0,kids++ [e]⟩
  |l+1=>vC Q rule frm tqo l cs y (kids++ [e]) en
def Ki (Q:Qr)(rule frm tqo l:Nat)(x:e8)(kids:List Nat)(a:Nat)(cs:Cs)(en:Nat):Cs:=(cs.at_ Q.n a en).foldl (tS Q rule frm tqo l x kids en) cs
theorem Iz (Q:Qr)(rule frm tqo l:Nat)(cs:Cs)(x:e8)(kids:List Nat)(a:Nat):vC Q rule frm tqo l cs x kids a=(List.range' (ny l a tqo) (rL l a tqo)).foldl (Ki Q rule frm tqo l x kids a) cs:=by
 cases l with
 |zero=>rfl
 |succ l=>rfl
theorem Rb (c:Nat→Nat→Nat)(tqo l a:Nat):lY c tqo l a=((List.range' (ny l a tqo) (rL l a tqo)).map λen=>c a en*xG c tqo l en).sum:=by
 cases l with
 |zero=>show c a tqo=(([tqo].map λen=>c a en*1)).sum;simp
 |succ l=>rfl
theorem Cx {l a tqo i:Nat}(c:a<tqo)(b:i<rL l a tqo):a<ny l a tqo+i∧ny l a tqo+i≤tqo∧(l=0→ny l a tqo+i=tqo)∧(1≤l→ny l a tqo+i<tqo):=by
 unfold ny rL at*
 by_cases h:l=0
 ·rw[aC h]at b⊢;omega
 ·rw[aA h]at b⊢;omega
theorem EV {nt nf:Nat}{Q:Qr}(d:Q.n≤12)(f:yJ nt Q.mt){rule frm tqo:Nat}(g:frm<tqo)(ht:tqo≤Q.n)(c:Nat→Nat→Nat){l:Nat}{cs:Cs}{x:e8}{kids:List Nat}{m en e:Nat}(a:ij nt nf Q.n frm tqo c m cs)(hx:e9 nt nf x)(h:frm<en∧(1≤l→en<tqo))(hk:∀k∈kids,k<cs.its.length)(he:e<cs.its.length):
 ij nt nf Q.n frm tqo c m (tS Q rule frm tqo l x kids en cs e)∧Grow Q.n frm tqo cs (tS Q rule frm tqo l x kids en cs e) (xG c tqo l en):=by
 unfold tS
 cases hy:lU Q cs rule x (kids.length+1) e with
 |none=>exact⟨a,(Grow.refl ..).mono (aP _)⟩
 |some y=>
  dsimp only
  obtain⟨i,p,_⟩:=vx f a.ok hx he hy
  have j:∀k∈kids++ [e],k<cs.its.length:=λk b=>by
   rcases cD.1 b with b|b
   ·exact hk k b
   ·rw[bO.1 b];exact he
  cases l with
  |zero=>
   obtain⟨m1,m2⟩:=qP i p;obtain⟨q,a2⟩:=yQ d a.ok (e:=⟨frm,tqo,0,mC y⟩) (w:=⟨rule,0,kids++ [e]⟩) ⟨g,ht,aP _,m1,m2⟩ j;exact⟨a.grow q a2 ht,a2⟩
  |succ l=>
   have r:ij nt nf Q.n frm tqo c cs.its.length cs:=⟨a.ok,a.len,aR _⟩
   obtain⟨o,e2⟩:=yr d f g ht c l cs y (kids++ [e]) en _ r i (.inl h.1) (h.2 (by omega)) j;exact⟨⟨o.ok,o.len,dS a.xY e2.more⟩,e2⟩
theorem BQ {nt nf:Nat}{Q:Qr}(g:Q.n≤12)(h:yJ nt Q.mt){rule frm tqo:Nat}(i:frm<tqo)(ht:tqo≤Q.n)(c:Nat→Nat→Nat){l:Nat}{cs:Cs}{x:e8}{kids:List Nat}{m en:Nat}(j:ij nt nf Q.n frm tqo c m cs)(hx:e9 nt nf x)(o:frm<en∧(1≤l→en<tqo))(hk:∀k∈kids,k<cs.its.length)(L:List Nat)(p:∀e∈L,e<cs.its.length):
 ij nt nf Q.n frm tqo c m (L.foldl (tS Q rule frm tqo l x kids en) cs)∧Grow Q.n frm tqo cs (L.foldl (tS Q rule frm tqo l x kids en) cs) (L.length*xG c tqo l en):=by
 have:=iH (n:=Q.n) (frm:=frm) (tqo:=tqo) (tS Q rule frm tqo l x kids en) (λ_=>xG c tqo l en) (λfg=>ij nt nf Q.n frm tqo c m fg∧cs.its.length≤fg.its.length) L cs ⟨j,aR _⟩ (λq e he ⟨h1,d⟩=>by
  obtain⟨a,b⟩:=EV g h i ht c (l:=l) (rule:=rule) h1 hx o (λk f=>fR (hk k f) d) (fR (p e he) d)
  exact⟨⟨a,dS d b.more⟩,b⟩)
 rw[jh]at this;exact⟨this.1.1,this.2⟩
theorem NA {nt nf:Nat}{Q:Qr}(g:Q.n≤12)(i:yJ nt Q.mt){rule frm tqo:Nat}(j:frm<tqo)(ht:tqo≤Q.n)(c:Nat→Nat→Nat){l a:Nat}{cs:Cs}{x:e8}{kids:List Nat}{m:Nat}(o:ij nt nf Q.n frm tqo c m cs)(hx:e9 nt nf x)(u:frm<a∨(a=frm∧1≤l))(hk:∀k∈kids,k<cs.its.length)(E:List Nat)(p:∀en∈E,a<en∧en≤tqo∧(1≤l→en<tqo)):
 ij nt nf Q.n frm tqo c m (E.foldl (Ki Q rule frm tqo l x kids a) cs)∧Grow Q.n frm tqo cs (E.foldl (Ki Q rule frm tqo l x kids a) cs) ((E.map λen=>c a en*xG c tqo l en).sum):=by
 have:=iH (n:=Q.n) (frm:=frm) (tqo:=tqo) (Ki Q rule frm tqo l x kids a) (λen=>c a en*xG c tqo l en) (λfg=>ij nt nf Q.n frm tqo c m fg∧cs.its.length≤fg.its.length) E cs ⟨o,aR _⟩ (λq en r ⟨h1,f⟩=>by
  obtain⟨v,e2,s⟩:=p en r;obtain⟨t,b⟩:=BQ g i j ht c (l:=l) (rule:=rule) h1 hx (en:=en) ⟨by omega,s⟩ (λk d=>fR (hk k d) f) (q.at_ Q.n a en) (λe he=>h1.ok.q9 he);rw[h1.len a en (by omega) (by intro h;omega)]at b
  exact⟨⟨t,dS f b.more⟩,b⟩)
 exact⟨this.1.1,this.2⟩
theorem vr {f:Nat→Nat}{E:List Nat}{i en:Nat}(h:E[i]?=some en):((E.take i).map f).sum+f en≤(E.map f).sum:=by
 have a:=(fA.1 h)
 obtain⟨a,rfl⟩:=a
 have e:E=E.take i++E[i]::E.drop (i+1):=by rw[←List.drop_eq_getElem_cons a,qk]
 have e2:(E.map f).sum=((E.take i).map f).sum+(f E[i]+((E.drop (i+1)).map f).sum):=by
  conv=>lhs;rw[e]
  rw[cP,List.sum_append,fN,od]
 omega
abbrev kS (f:kz)(T:List ek)(n:Nat)(g:gQ):Qr:=⟨n,gz T,q8 f,g.rules.map lL,g.aL.map oh⟩
theorem UX {d:nG}{n i j:Nat}{q:aV×List Nat}(h:d.bz[slt n i j]?=some q):d.cs.at_ n i j=q.2:=by
 show(d.bz.map Prod.snd).getD (slt n i j) []=q.2
 rw[ar,bP,h];rfl
theorem EP {d:nG}{e:Nat}{x:dL}(h:d.its[e]?=some x):d.cs.its.getD e gg=cF x:=by
 show(d.its.map cF).getD e gg=cF x
 rw[ar,bP,h];rfl
theorem iR (d:nG):d.cs.its.length=d.its.length:=aO _
theorem Cu (d:nG):d.cs.sp.length=d.bz.length:=aO _
theorem zU {nt nf n:Nat}{d:nG}(h:Room d.cs 1)(a:gh nt nf n d.cs):∀x∈d.its,x.cW.length+1≤3000000000000∧x.ba.length≤x.cW.length:=λx hx=>by
 have h1:=h.cW (cF x) (eP hx)
 have b:=a.ba (cF x) (eP hx)
 have e:(cF x).cW.length=x.cW.length:=aO _
 have e2:(cF x).ba.length=x.ba.length:=rfl
 omega
theorem Jn:∀{l:List Nat} {a:Nat},a∈l→a≤l.sum
 |b::l,a,h=>by
  rw[od]
  rcases cJ.1 h with rfl|h
  ·omega
  ·have:=Jn h;omega
theorem zj {nt nf n:Nat}{d:nG}(a:gh nt nf n d.cs){k:Nat}{q:aV×List Nat}(h:d.bz[k]?=some q):q.2.length≤d.its.length:=by
 rw[←iR,←a.tot];refine Jn (eP (f:=List.length) (?_:q.2∈d.cs.sp));exact eP (ae h)
theorem Ut {nt nf n:Nat}{d:nG}(b:gh nt nf n d.cs){e:Nat}{x:dL}(h:d.its[e]?=some x):e9 nt nf (ay x.gr)∧x.gr.nodes.length≤60:=by
 obtain⟨_,_,_,c,a⟩:=b.gr (cF x) (eP (ae h))
 have a:(ay x.gr).length≤60:=a
 rw[dA]at a;exact⟨c,a⟩
theorem y9 {nt nf:Nat}{x:e8}(h:e9 nt nf x){k:Int}:0≤rS x k↔k∈mA (x.getD 0 iJ).2:=by
 unfold rS
 cases a:(x.getD 0 iJ).2.find? (λx=>x.1==k)with
 |none=>
  refine⟨λh=>absurd h (by decide),λhm=> ?_⟩;obtain⟨y,hy,rfl⟩:=cz.1 hm;exact absurd (List.find?_eq_none.1 a y hy) (by simp)
 |some y=>
  have hy:=List.mem_of_find?_eq_some a
  have hk:=List.find?_some a
  refine⟨λ_=>cz.2 ⟨y,hy,by simpa using hk⟩,λ_=> ?_⟩;exact((h.at_ h.pos).2.2 y hy).2.1
theorem ND {l a tqo i:Nat}(b:a<tqo):((ny l a tqo+i:Nat):Int)≤(tqo:Int)-(l:Nat)↔i<rL l a tqo:=by
 unfold ny rL
 by_cases h:l=0
 ·rw[aC h,aC h];omega
 ·rw[aA h,aA h];omega
theorem ML {f:kz}{T:List ek}{n:Nat}{g:gQ}{d:nG}{rule a e:Nat}{x:dL}(h:d.its[e]?=some x):Vh (kS f T n g) d.cs rule a e=x.ba.any (q8 f rule a):=by
 unfold Vh;rw[EP h];rfl
theorem Pr {f:kz}{T:List ek}{n:Nat}{g:gQ}{d:nG}{rule a e:Nat}{x:dL}(h:d.its[e]?=some x){y:e8}(b:x.ba.any (q8 f rule a)=false):lU (kS f T n g) d.cs rule y a e=none:=by
 unfold lU;rw[ML h,b];rfl
theorem Ju {f:kz}{T:List ek}{n:Nat}{g:gQ}{d:nG}{rule a e:Nat}{x:dL}(h:d.its[e]?=some x){y:e8}(b:x.ba.any (q8 f rule a)=true):lU (kS f T n g) d.cs rule y a e=nE (gz T) y a (ay x.gr):=by
 unfold lU Cs.ed;rw[ML h,b,EP h];rfl
theorem oJ {α β:Type}(f:α→β→α)(a:α){l:List β}{k:Nat}{b:β}(h:l[k]?=some b):(l.take (k+1)).foldl f a=f ((l.take k).foldl f a) b:=by
 rw[aa h,wo];rfl
theorem EW (g:gQ)(p s:aV)(T:List ek)(hT:im T)(nf:Nat)(Ku:nf≤100)(f:kz)(hf:yE f)(n:Nat)(hn:n≤12)(A o frm tqo:Nat)(SF:frm<tqo)(YU:tqo≤n)(rule:Nat)(hrf:rule<f.nr)(r:ca)(hr:g.rules[rule]?=some r)(hK:1≤r.kids∧r.kids≤3)(c0:Nat→Nat→Nat)(sv:aV):
 ∀(l:Nat) (d:nG) (x:dD) (B:aV) (kids:List Nat) (a:Nat),d.nV=sv→lN d→ij T.length nf n frm tqo c0 0 d.cs→Room d.cs (lY c0 tqo l a)→e9 T.length nf (ay x)→x.nodes.length≤60→(∀k:Int,0≤k→k≤r.kids→0≤rS (ay x) k)→r.kids=((kids.length+l+1:Nat):Int)→(frm<a∨(a=frm∧1≤l))→a<tqo→(∀k∈kids,k<d.its.length)→
 dz prog 121 ([.pointer (some ⟨A,0,none⟩),iv (rule:Nat),bA x,B.1,iv (frm:Nat),iv (a:Nat),iv (tqo:Nat)]).toArray ([hY f,sl cT g.rv.1 g.rules,aF bx g.rules,sl bH p.1 (dg T),sl bH s.1 (de T),tz,sl aJ B.1 (bW (kids)),aG x,aF (λx:dL=>aG x.gr) d.its].map aB++([aW A (.cells (nC g p s f n d.eF.1 sv.1 o).toArray 180 (0,0)),aW o (eU mkStr d.m),row d.eF.1 186 6 d.its.length (rows eE d.its),row sv.1 58 1 d.bz.length (rows bT (d.bz.map Prod.fst))]++(bE (eo 200 3) d.its++bE (fq 3) d.bz))) (λv H'=>∃d2:nG,d2.cs=vC (kS f T n g) rule frm tqo (l) d.cs (ay x) (kids) a∧d2.nV=sv∧lN d2∧d2.bz.length=d.bz.length∧(∀k,k≠slt n frm tqo→d2.bz[k]?=d.bz[k]?)∧H'=(aB (aF (λx:dL=>aG x.gr) d2.its)::aW A (.cells (nC g p s f n d2.eF.1 sv.1 o).toArray 180 (0,0))::aW o (eU mkStr d2.m)::row d2.eF.1 186 6 d2.its.length (rows eE d2.its)::row sv.1 58 1 d2.bz.length (rows bT (d2.bz.map Prod.fst))::(bE (eo 200 3) d2.its++bE (fq 3) d2.bz))):=by
 intro l
 induction l using Nat.strongRecOn with|_ l ih=> ?_
 intro d x B kids a hsv hp JC ac2 hx AG Sc SN V SA W;refine dz.body (args:=[.pointer (some ⟨A,0,none⟩),iv (rule:Nat),bA x,B.1,iv (frm:Nat),iv (a:Nat),iv (tqo:Nat)]) 125 func121 rfl ntmps121 rfl (λc=> ?_);refine St.cast (H':=(aB (hY f)::aB (sl cT g.rv.1 g.rules)::aB (aF bx g.rules)::aB (sl bH p.1 (dg T))::aB (sl bH s.1 (de T))::aB (tz)::aB (sl aJ B.1 (bW kids))::aB (aG x)::aB (aF (λx:dL=>aG x.gr) d.its)::aW A (.cells (nC g p s f n d.eF.1 sv.1 o).toArray 180 (0,0))::aW o (eU mkStr d.m)::row d.eF.1 186 6 d.its.length (rows eE d.its)::row sv.1 58 1 d.bz.length (rows bT (d.bz.map Prod.fst))::(bE (eo 200 3) d.its++bE (fq 3) d.bz))) rfl ?_;refine go ?_
 have hnr:=hf.nr
 have YT:=zJ T
 have HF:=dA x
 have anM:kids.length+l+1≤3:=by have:=hK.2;omega
 have Y:d.bz.length=n*(n+1):=by rw[←Cu,JC.ok.GO]
 refine St.wf B.1 (λSO _=> ?_);refine go ?_;refine St.dJ (.mk rfl) rfl (λb9=> ?_);refine g10 ?_;refine St.ee (Ev.cM (k:=rule) (.mk rfl) (.mk rfl) Pu kU (by omega) (by have:=ah hr;omega)) ?_;refine St.ee (Ev.jq (.mk rfl) hr uS trivial kU j5.eq) ?_;refine St.al (λQY=> ?_);refine St.sA (.mk rfl) (.mk rfl) kU ?_ (h1:=(eW.2 λu hu=>cT.one r u hu));refine g8 ?_;refine St.slot 35 (iv (kids.length:Nat)) rfl (congrArg iv (by rw[dY])) ?_;refine go ?_;refine St.slot 36 (iv ((l+1:Nat):Int)) rfl (congrArg iv (by rw[SN];push_cast;omega)) ?_;refine go ?_;refine St.slot 37 (iv (l:Nat)) rfl (congrArg iv (by push_cast;omega)) ?_;refine g18 ?_;refine St.join (ι:=Unit) (λu T=>(17,iv ((ny l a tqo:Nat):Int))::T) (λu=>(aB (aF (λx:dL=>aG x.gr) d.its)::aW A (.cells (nC g p s f n d.eF.1 sv.1 o).toArray 180 (0,0))::aW o (eU mkStr d.m)::row d.eF.1 186 6 d.its.length (rows eE d.its)::row sv.1 58 1 d.bz.length (rows bT (d.bz.map Prod.fst))::aB (hY f)::aB (sl cT g.rv.1 g.rules)::aB (aF bx g.rules)::aB (sl bH p.1 (dg T))::aB (sl bH s.1 (de T))::aB (tz)::aB (sl aJ B.1 (bW kids))::aB (aG x)::aW b9 (.cells [x.nv.1].toArray 30 (0,0))::aW QY (.cells (zd r).toArray 110 (0,0))::(bE (eo 200 3) d.its++bE (fq 3) d.bz))) (λu=>True) (aD.cons 0 rfl (aD.cons 1 rfl (aD.cons 3 rfl (aD.cons 4 rfl (aD.cons 5 rfl (aD.cons 6 rfl (aD.cons 9 rfl (aD.cons 15 rfl (aD.cons 16 rfl aD.nil))))))))) ?_ ?_
 ·refine g6 ?_
  refine St.cq (λh44=> ?_) (λh44=> ?_)
  ·have hl0:l=0:=by omega
   refine g5 ?_;refine St.slot 17 (iv ((ny l a tqo:Nat):Int)) rfl (congrArg iv (by unfold ny;rw[aC hl0])) ?_;refine St.mE () trivial
  ·have hl0:l≠0:=by omega
   refine g2 ?_;refine St.slot 17 (iv ((ny l a tqo:Nat):Int)) rfl (congrArg iv (by unfold ny;rw[aA hl0];push_cast;rfl)) ?_;refine St.mE () trivial
 ·intro u akD
  refine g7 ?_;refine St.lH (ι:=Nat×nG) (λ⟨i,d1⟩ T=>(18,iv ((ny l a tqo+i:Nat):Int))::T) (λ⟨i,d1⟩=>(aB (aF (λx:dL=>aG x.gr) d1.its)::aW A (.cells (nC g p s f n d1.eF.1 sv.1 o).toArray 180 (0,0))::aW o (eU mkStr d1.m)::row d1.eF.1 186 6 d1.its.length (rows eE d1.its)::row sv.1 58 1 d1.bz.length (rows bT (d1.bz.map Prod.fst))::aB (hY f)::aB (sl cT g.rv.1 g.rules)::aB (aF bx g.rules)::aB (sl bH p.1 (dg T))::aB (sl bH s.1 (de T))::aB (tz)::aB (sl aJ B.1 (bW kids))::aB (aG x)::aW b9 (.cells [x.nv.1].toArray 30 (0,0))::aW QY (.cells (zd r).toArray 110 (0,0))::(bE (eo 200 3) d1.its++bE (fq 3) d1.bz))) (λ⟨i,d1⟩=>i≤rL l a tqo∧d1.nV=sv∧lN d1∧d1.cs=((List.range' (ny l a tqo) (rL l a tqo)).take i).foldl (Ki (kS f T n g) rule frm tqo l (ay x) kids a) d.cs∧d1.bz.length=d.bz.length∧(∀k,k≠slt n frm tqo→d1.bz[k]?=d.bz[k]?)) (λ⟨i,d1⟩=>rL l a tqo-i) ⟨0,d⟩ (aD.cons 0 rfl (aD.cons 1 rfl (aD.cons 3 rfl (aD.cons 4 rfl (aD.cons 5 rfl (aD.cons 6 rfl (aD.cons 9 rfl (aD.cons 15 rfl (aD.cons 16 rfl aD.nil))))))))) ⟨aP _,hsv,hp,rfl,rfl,λ_ _=>rfl⟩ ?_;rintro ⟨i,d1⟩ ⟨hi,Kx,Wi,Z,F,SQ⟩
  dsimp only at hi Kx Wi Z F SQ⊢
  refine g8 ?_;refine St.cond _ rfl (λG=> ?_) (λG=> ?_)
  ·skip
   have SJ:i<rL l a tqo:=(ND SA).1 (fM G)
   obtain⟨f1,f2,f3,f4⟩:=Cx SA SJ
   obtain⟨en,hen⟩:∃en,en=ny l a tqo+i:=⟨_,rfl⟩
   rw[←hen]at f1 f2 f3 f4⊢
   have hei:(List.range' (ny l a tqo) (rL l a tqo))[i]?=some en:=by rw[List.getElem?_range' SJ,hen,Nat.one_mul]
   have hE0:∀z∈(List.range' (ny l a tqo) (rL l a tqo)),a<z∧z≤tqo∧(1≤l→z<tqo):=λz hz=>by obtain⟨j,hj,rfl⟩:=List.mem_range'.1 hz;have:=Cx SA hj;rw[Nat.one_mul];exact⟨this.1,this.2.1,this.2.2.2⟩
   obtain⟨ti,H⟩:=NA (Q:=(kS f T n g)) hn YT SF YU c0 (l:=l) (a:=a) (rule:=rule) JC hx V (by rw[iR];exact W) ((List.range' (ny l a tqo) (rL l a tqo)).take i) (λz hz=>hE0 z (List.take_subset _ _ hz));rw[←Z]at ti H
   have ac9:=vr (f:=λen=>c0 a en*xG c0 tqo l en) hei
   rw[←Rb]at ac9
   have Wm:Room d1.cs (c0 a en*xG c0 tqo l en):=Room.grow (Room.mono ac2 ac9) H
   have ab7:∀k∈kids,k<d1.cs.its.length:=λk hk=>fR (by rw[iR];exact W k hk) H.more
   have ac6:slt n a en≠slt n frm tqo:=λh=>by have:=DY (by omega) YU h;rcases V with V|⟨_,hl⟩;omega;have:=f4 hl;omega
   obtain⟨q,hq⟩:=aE (show slt n a en<d.bz.length by rw[Y];exact sY (by omega) (by omega))
   have M0:d1.bz[slt n a en]?=some q:=by rw[SQ _ ac6];exact hq
   have I:=UX M0
   have acG:q.2.length=c0 a en:=by rw[←I];exact ti.len a en (show en≤n by omega) (λh=>by rcases V with V|⟨_,hl⟩;omega;have:=f4 hl;omega)
   refine g9 ?_;refine St.ee (Ev.iT 2 (.mk rfl) Bw trivial Br rfl rfl) ?_;refine St.slot 55 (.agg #[iv (n:Nat),sv.1]) rfl rfl ?_;refine g2 ?_;refine St.call (Cc n a en (slt n a en) hn (by omega) (by omega) rfl sv d1.bz q M0) Mn (.ej rfl rfl rfl) rfl ?_;rintro v58 _ ⟨rfl,rfl⟩;refine St.ao ?_;refine St.tail (bE (eo 200 3) d1.its++bE (fq 3) d1.bz) (row q.1.1 3 1 (q.2).length (rows aJ (bW (q.2)))::(bE (eo 200 3) d1.its++bE (fq 3) (d1.bz.eraseIdx (slt n a en)))) (pK _ _ _ M0) ?_;refine go ?_;refine St.tail (row q.1.1 3 1 (q.2).length (rows aJ (bW (q.2)))::(bE (eo 200 3) d1.its++bE (fq 3) (d1.bz.eraseIdx (slt n a en)))) (bE (eo 200 3) d1.its++bE (fq 3) d1.bz) (pK (eo 200 3) (fq 3) d1.its M0).symm ?_;refine g4 ?_;refine St.lH (ι:=Nat×nG) (λ⟨k,d2⟩ T=>(60,iv k)::T) (λ⟨k,d2⟩=>(aB (aF (λx:dL=>aG x.gr) d2.its)::aW A (.cells (nC g p s f n d2.eF.1 sv.1 o).toArray 180 (0,0))::aW o (eU mkStr d2.m)::row d2.eF.1 186 6 d2.its.length (rows eE d2.its)::row sv.1 58 1 d2.bz.length (rows bT (d2.bz.map Prod.fst))::aB (hY f)::aB (sl cT g.rv.1 g.rules)::aB (aF bx g.rules)::aB (sl bH p.1 (dg T))::aB (sl bH s.1 (de T))::aB (tz)::aB (sl aJ B.1 (bW kids))::aB (aG x)::aW b9 (.cells [x.nv.1].toArray 30 (0,0))::aW QY (.cells (zd r).toArray 110 (0,0))::(bE (eo 200 3) d2.its++bE (fq 3) d2.bz))) (λ⟨k,d2⟩=>k≤q.2.length∧d2.nV=sv∧lN d2∧d2.cs=(q.2.take k).foldl (tS (kS f T n g) rule frm tqo l (ay x) kids en) d1.cs∧d2.bz.length=d.bz.length∧(∀k,k≠slt n frm tqo→d2.bz[k]?=d.bz[k]?)) (λ⟨k,d2⟩=>q.2.length-k) ⟨0,d1⟩ (aD.cons 0 rfl (aD.cons 1 rfl (aD.cons 3 rfl (aD.cons 4 rfl (aD.cons 5 rfl (aD.cons 6 rfl (aD.cons 9 rfl (aD.cons 15 rfl (aD.cons 16 rfl (aD.cons 18 rfl (aD.cons 58 rfl (aD.cons 59 rfl aD.nil)))))))))))) ⟨aP _,Kx,Wi,rfl,F,SQ⟩ ?_;rintro ⟨k,d2⟩ ⟨hk,U,J,C,K,M⟩
   dsimp only at hk U J C K M⊢
   refine g6 ?_;refine St.cq (λh61=> ?_) (λh61=> ?_)
   ·obtain⟨e,he⟩:=aE (show k<q.2.length by omega)
    have J9:d2.bz[slt n a en]?=some q:=by rw[M _ ac6];exact hq
    have acA:∀z∈q.2,z<d1.cs.its.length:=λz hz=>ti.ok.q9 (by rw[I];exact hz)
    obtain⟨N,Eb⟩:=BQ (Q:=(kS f T n g)) hn YT SF YU c0 (l:=l) (rule:=rule) ti hx (en:=en) ⟨by omega,f4⟩ ab7 (q.2.take k) (λz hz=>acA z (List.take_subset _ _ hz));rw[←C,eX,ko (by omega)]at Eb;rw[←C]at N
    have ab1:k*xG c0 tqo l en+xG c0 tqo l en≤c0 a en*xG c0 tqo l en:=by rw[←acG,←Nat.succ_mul];exact iU _ (by omega)
    have HK:Room d2.cs (xG c0 tqo l en):=Room.grow (Room.mono Wm ab1) Eb
    have YO:e<d2.its.length:=by rw[←iR];exact fR (acA e (ae he)) Eb.more
    have aj2:∀k∈kids,k<d2.its.length:=λz hz=>by rw[←iR];exact fR (ab7 z hz) Eb.more
    obtain⟨b,D⟩:=aE YO
    have hxm:=ae D
    obtain⟨HG,NZ⟩:=Ut N.ok D
    have HI:=HK.its
    have anQ:=zj N.ok J9
    rw[iR]at HI;refine St.tail (bE (eo 200 3) d2.its++bE (fq 3) d2.bz) (row q.1.1 3 1 (q.2).length (rows aJ (bW (q.2)))::(bE (eo 200 3) d2.its++bE (fq 3) (d2.bz.eraseIdx (slt n a en)))) (pK _ _ _ J9) ?_;refine g7 ?_;refine St.ee (Ev.cu (.mk rfl) gV trivial (by omega) (gP (gO he))) ?_;refine St.tail (row q.1.1 3 1 (q.2).length (rows aJ (bW (q.2)))::(bE (eo 200 3) d2.its++bE (fq 3) (d2.bz.eraseIdx (slt n a en)))) (bE (eo 200 3) d2.its++bE (fq 3) d2.bz) (pK (eo 200 3) (fq 3) d2.its J9).symm ?_;refine g10 ?_;refine St.slot 67 (iv (kids.length:Nat)) rfl (congrArg iv (by rw[dY])) ?_;refine go ?_;refine St.slot 68 (iv ((kids.length+1:Nat):Int)) rfl (congrArg iv (by push_cast;rfl)) ?_;refine go ?_;refine St.dup (hY f) ?_;refine St.tail (bE (eo 200 3) d2.its++bE (fq 3) d2.bz) (row b.wv.1 200 3 (b.cW).length (rows mM (b.cW))::row b.tv.1 3 1 (b.ba).length (rows aJ (b.ba))::(bE (jE 3) b.cW++(bE (eo 200 3) (d2.its.eraseIdx e)++bE (fq 3) d2.bz))) (z8 _ _ D) ?_;refine St.call (tG f hf (nC g p s f n d2.eF.1 sv.1 o) rfl A rule (kids.length+1) hrf (by omega) (by omega) d2.eF rfl d2.its e b D (J.ba b hxm)) UM (.gU rfl rfl rfl rfl) rfl ?_;rintro v70 _ ⟨rfl,rfl⟩;refine St.iP ?_;refine St.mm [row b.wv.1 200 3 (b.cW).length (rows mM (b.cW)),row b.tv.1 3 1 (b.ba).length (rows aJ (b.ba))] (bE (jE 3) b.cW++(bE (eo 200 3) (d2.its.eraseIdx e)++bE (fq 3) d2.bz)) (bE (eo 200 3) d2.its++bE (fq 3) d2.bz) (z8 (eo 200 3) (bE (fq 3) d2.bz) D).symm ?_;refine g3 ?_;refine St.cond _ rfl (λO=> ?_) (λO=> ?_)
    ·skip
     have HD:b.ba.any (q8 f rule (kids.length+1))=false:=by simpa using O
     have P:lU (kS f T n g) d2.cs rule (ay x) (kids.length+1) e=none:=Pr D HD
     refine g9 ?_;refine St.aH ⟨k+1,d2⟩ ⟨by omega,U,J,by rw[oJ _ _ he,←C];exact(by unfold tS;rw[P]),K,M⟩
    ·skip
     have HD:b.ba.any (q8 f rule (kids.length+1))=true:=by simpa using O
     have P:=Ju (T:=T) (n:=n) (g:=g) (y:=ay x) D HD
     refine g3 ?_;refine St.eZ (aG b.gr) [aF (λx:dL=>aG x.gr) d2.its] (λρ h=>h _ (aQ ..) b hxm) ?_;refine St.lB d2.eF.1 (by omega) (λbs cs Nk=> ?_);refine St.dc (aB (sl bH p.1 (dg T))::aB (sl bH s.1 (de T))::aB tz::aB (aG x)::aB (aG b.gr)::(bE (eo 200 3) d2.its++bE (fq 3) d2.bz)) mixed (λnp ns=> ?_);refine SW.gd 0 ?_;refine SW.gd 1 ?_;refine SW.gd 2 ?_;refine SW.dd 3 rfl (λ_=>Ev.iT 2 (.mk rfl) wc trivial wY rfl rfl) ?_;refine SW.slot 76 (kB p s) rfl rfl ?_;refine SW.gd 4 ?_;refine SW.slot 77 (bA x) rfl rfl ?_;refine SW.gd 5 ?_;refine SW.gd 6 ?_;refine SW.slot 79 (iv (kids.length:Nat)) rfl (congrArg iv (by rw[dY])) ?_;refine SW.gd 7 ?_;refine SW.slot 80 (iv ((kids.length+1:Nat):Int)) rfl (congrArg iv (by push_cast;rfl)) ?_;refine SW.gd 8 ?_;refine SW.gd 9 ?_;refine SW.gd 10 ?_;refine SW.gd 11 ?_;refine SW.gd 12 ?_;refine SW.dd 13 rfl (λ_=>Ev.nB (k:=e) Nk (.mk rfl) (.mk rfl) nY oY (by omega) (by omega)) ?_;refine SW.dd 14 rfl (λ_=>Ev.jY Nk (.mk rfl) tY) ?_;refine SW.dd 15 rfl (λ_=>Ev.jY Nk (.mk rfl) xj) ?_;refine SW.dd 16 rfl (λ_=>Ev.O7 (Rr:=eE) (sz:=1) (.mk rfl) D mo trivial jR (by omega) (by decide) (by decide)) ?_;refine SW.slot 89 (bA b.gr) rfl rfl ?_;refine SW.t2 17 21 ?_ ?_
     focus
      refine St.ag (qq p s T hT nf Ku x b.gr ((kids.length+1:Nat):Int) hx HG AG NZ (Sc _ (by omega) (by omega))) Iq (.gU rfl rfl rfl rfl) rfl ?_;rintro v90 _ ⟨u,z,rfl,hz,rfl⟩;refine St.ao ?_;refine St.bL z u (λy hy=> ?_);obtain⟨rfl,YY⟩:=hy;refine g2 ?_;refine SW.go ?_;refine SW.gd 18 ?_;refine SW.gd 19 ?_;refine SW.gd 20 ?_;refine SW.t1 21 ?_;refine St.al (λb21=> ?_);refine g2 ?_;refine SW.go ?_;refine SW.t1 22 ?_;refine g3 ?_;refine SW.go ?_;refine SW.gd 23 ?_;refine SW.dn ?_
     rotate_left
     focus
      refine St.al (λb21=> ?_);refine g2 ?_;refine SW.go ?_;refine SW.t1 17 ?_;refine St.ag (qq p s T hT nf Ku x b.gr ((kids.length+1:Nat):Int) hx HG AG NZ (Sc _ (by omega) (by omega))) Iq (.gU rfl rfl rfl rfl) rfl ?_;rintro v90 _ ⟨u,z,rfl,hz,rfl⟩;refine St.ao ?_;refine St.bL z u (λy hy=> ?_);obtain⟨rfl,YY⟩:=hy;refine g2 ?_;refine SW.go ?_;refine SW.gd 18 ?_;refine SW.gd 19 ?_;refine SW.gd 20 ?_;refine SW.t1 22 ?_;refine g3 ?_;refine SW.go ?_;refine SW.gd 23 ?_;refine SW.dn ?_
     all_goals
      refine g8 ?_;refine St.cond _ rfl (λR=> ?_) (λR=> ?_)
      ·skip
       have hsn:nE (gz T) (ay x) ((kids.length+1:Nat):Int) (ay b.gr)=none:=by simpa using R
       rw[hsn]at P;refine g9 ?_;refine St.aH ⟨k+1,d2⟩ ⟨by omega,U,J,by rw[oJ _ _ he,←C];exact(by unfold tS;rw[P]),K,M⟩
      ·skip
       obtain⟨z1,Sd⟩:∃z1,nE (gz T) (ay x) ((kids.length+1:Nat):Int) (ay b.gr)=some z1:=Option.isSome_iff_exists.1 (by simpa using R)
       have hzz:=hz z1 Sd
       rw[hzz]at YY;rw[Sd,←YY]at P;rw[←YY]at Sd;obtain⟨y1,y2,y3⟩:=I9 YT hx HG Sd
       have hyl:y.nodes.length≤60:=by rw[←dA];exact y2
       have hyt:∀k:Int,0≤k→k≤r.kids→0≤rS (ay y) k:=λk h0 h1=>(y9 y1).2 (y3 k ((y9 hx).1 (Sc k h0 h1)))
       have ab8:∀k∈kids++ [e],k<d2.its.length:=λz hz=>by rcases cD.1 hz with hz|hz;exact aj2 z hz;rw[bO.1 hz];exact YO
       refine g7 ?_;refine St.slot 97 (iv (kids.length:Nat)) rfl (congrArg iv (by rw[dY])) ?_;refine g2 ?_;refine St.slot 99 (iv (kids.length:Nat)) rfl (congrArg iv (by rw[dY])) ?_;refine St.ee (Ev.clip (.mk rfl) (.mk rfl) (.mk rfl) bJ dK (by rw[dY]) (by rw[dY])) ?_;refine go ?_;refine St.gX rfl (.au rfl) bJ dK eS rfl rfl (by simp[Value.cells]) rfl rfl (λam4=> ?_);refine St.yS (.mk rfl) (.mk rfl) bJ dK eS xW (by simp[Value.oneCell',Value.cells]) (by rw[dY];omega) (by rw[dY];omega) rfl rfl rfl rfl (λE amQ=> ?_);refine St.aM E (show _=(kids++ [e]).length by rw[dY,bQ];rfl) (show _=rows aJ (bW (kids++ [e])) by rw[kf,bB];rfl) ?_;refine St.bZ E (λNR _=> ?_);refine g9 ?_;refine St.cq (λS5=> ?_) (λS5=> ?_)
       ·obtain⟨l1,rfl⟩:∃l1,l=l1+1:=⟨l-1,by omega⟩
        refine St.bS E aJ (bW (kids++ [e])) rfl (dY _).symm (λz hz=>by obtain⟨z2,hz2,rfl⟩:=cz.1 hz;have:=ab8 z2 hz2;unfold aJ aZ;dsimp only;omega) ?_
        have ac8:ij T.length nf n frm tqo c0 0 d2.cs:=⟨N.ok,N.len,aP _⟩
        refine g4 ?_;refine St.slot 108 (bA y) rfl rfl ?_;refine g4 ?_;refine St.pS (ds:=[hY f,sl cT g.rv.1 g.rules,aF bx g.rules,sl bH p.1 (dg T),sl bH s.1 (de T),tz,sl aJ E (bW (kids++ [e])),aG y,aF (λx:dL=>aG x.gr) d2.its]) (L:=[aW A (.cells (nC g p s f n d2.eF.1 sv.1 o).toArray 180 (0,0)),aW o (eU mkStr d2.m),row d2.eF.1 186 6 d2.its.length (rows eE d2.its),row sv.1 58 1 d2.bz.length (rows bT (d2.bz.map Prod.fst))]) (X:=(bE (eo 200 3) d2.its++bE (fq 3) d2.bz)) (post:=λv L' X'=>∃d3:nG,d3.cs=vC (kS f T n g) rule frm tqo (l1) d2.cs (ay y) (kids++ [e]) en∧d3.nV=sv∧lN d3∧d3.bz.length=d2.bz.length∧(∀k,k≠slt n frm tqo→d3.bz[k]?=d2.bz[k]?)∧L'=[aB (aF (λx:dL=>aG x.gr) d3.its),aW A (.cells (nC g p s f n d3.eF.1 sv.1 o).toArray 180 (0,0)),aW o (eU mkStr d3.m),row d3.eF.1 186 6 d3.its.length (rows eE d3.its),row sv.1 58 1 d3.bz.length (rows bT (d3.bz.map Prod.fst))]∧X'=(bE (eo 200 3) d3.its++bE (fq 3) d3.bz)) ((ih l1 (by omega) d2 y ⟨E,NR⟩ (kids++ [e]) en U J ac8 HK y1 hyl hyt (by rw[SN];simp only[List.length_append,List.length_cons,List.length_nil];push_cast;omega) (.inl (by omega)) (f4 (by omega)) ab8).mono (λv H' ⟨d3,S,a2,a3,a4,a5,a6⟩=>⟨_,_,a6,d3,S,a2,a3,a4,a5,rfl,rfl⟩)) UL (.aeM rfl rfl rfl rfl rfl rfl rfl) rfl ?_;rintro aoF _ _ ⟨d3,S,a2,a3,a4,a5,rfl,rfl⟩;refine St.Ca ?_;refine g8 ?_;refine St.aH ⟨k+1,d3⟩ ⟨by omega,a2,a3,by rw[oJ _ _ he,←C];exact(by unfold tS;rw[P];exact S),(a4.trans K),(λz hz=>(a5 z hz).trans (M z hz))⟩
       ·obtain rfl:l=0:=by omega
        obtain rfl:en=tqo:=f3 rfl;refine g5 ?_;refine St.slot 117 (bA y) rfl rfl ?_;refine St.ag (py y T.length nf Ku y1 (by omega) (hyt 0 (by omega) (by omega))) Mk (.au rfl) rfl ?_;rintro amB _ rfl;refine St.ao ?_;refine St.bL (mC (ay y)) amB (λmy hm=> ?_);obtain⟨rfl,Uo⟩:=hm;obtain⟨m1,m2⟩:=qP y1 y2;rw[←Uo]at m1 m2;rw[dA]at m2
        have hms:=gK m1 Ku
        obtain⟨q0,Qf⟩:=aE (show slt n frm en<d2.bz.length by rw[K,Y];exact sY (by omega) YU)
        have acF:=zj N.ok Qf
        have Nj:Room d2.cs 1:=HK
        have ab6:=Nj.its
        rw[iR]at ab6
        have Wl:=ah hr
        refine St.ee (Ev.build (bF.ej rfl rfl rfl) (λw=>tL rfl rfl w)) ?_;refine St.slot 119 (Gw frm en 0 my.nv.1) rfl rfl ?_;refine g2 ?_;refine St.ee (Ev.build (bF.aX rfl rfl) (λw=>yY rfl NR w)) ?_;refine St.slot 122 (.agg #[iv (rule:Nat),iv 0,E]) rfl rfl ?_;refine St.pS (ds:=[aG my,aF (λx:dL=>aG x.gr) d2.its]) (L:=[aW A (.cells (nC g p s f n d2.eF.1 sv.1 o).toArray 180 (0,0)),aW o (eU mkStr d2.m),row d2.eF.1 186 6 d2.its.length (rows eE d2.its),row sv.1 58 1 d2.bz.length (rows bT (d2.bz.map Prod.fst)),row E 3 aJ.size (kids++ [e]).length (rows aJ (bW (kids++ [e])))]) (X:=(bE (eo 200 3) d2.its++bE (fq 3) d2.bz)) (post:=λv L' X'=>∃d3:nG,d3.cs=kY n d2.cs ⟨frm,en,0,ay my⟩ ⟨(rule:Nat),0,kids++ [e]⟩∧d3.nV=sv∧lN d3∧d3.bz.length=d2.bz.length∧(∀k,k≠slt n frm en→d3.bz[k]?=d2.bz[k]?)∧L'=[aB (aF (λx:dL=>aG x.gr) d3.its),aW A (.cells (nC g p s f n d3.eF.1 sv.1 o).toArray 180 (0,0)),aW o (eU mkStr d3.m),row d3.eF.1 186 6 d3.its.length (rows eE d3.its),row sv.1 58 1 d3.bz.length (rows bT (d3.bz.map Prod.fst))]∧X'=(bE (eo 200 3) d3.its++bE (fq 3) d3.bz)) ?_ Ml (.ej rfl rfl rfl) rfl ?_
        ·subst U
         exact(um g p s f n hn d2 J A o frm en 0 my (by omega) (λt ht=>by have:=(hms t ht).2;omega) (by omega) (by omega) (rule:Nat) 0 (by unfold aZ;omega) (by omega) ⟨E,NR⟩ (kids++ [e]) q0 Qf (by omega) (by omega) (zU Nj N.ok)).mono (λv H' ⟨d3,S,a2,a3,a4,a5,a6⟩=>⟨_,_,(by rw[a2]at a6;exact a6),d3,S,a2,a3,a4,a5,rfl,rfl⟩)
        rintro aoH _ _ ⟨d3,S,a2,a3,a4,a5,rfl,rfl⟩;refine St.Ca ?_;refine g8 ?_;refine St.aH ⟨k+1,d3⟩ ⟨by omega,a2,a3,by rw[oJ _ _ he,←C];exact(by unfold tS;rw[P,S,Uo]),(a4.trans K),(λz hz=>(a5 z hz).trans (M z hz))⟩
   ·obtain rfl:k=q.2.length:=by omega
    rw[kH]at C;refine g12 ?_;refine St.aH ⟨i+1,d2⟩ ⟨by omega,U,J,by rw[oJ _ _ hei,←Z,C];show _=(d1.cs.at_ n a en).foldl _ _;rw[I],K,M⟩
  ·skip
   have SJ:¬i<rL l a tqo:=λh=>iV G ((ND SA).2 h)
   obtain rfl:i=rL l a tqo:=by omega
   rw[fF (by rw[List.length_range'];exact aR _),←Iz]at Z;refine g4 ?_;refine St.eH ?_;refine St.rV [] (aB (aF (λx:dL=>aG x.gr) d1.its)::aW A (.cells (nC g p s f n d1.eF.1 sv.1 o).toArray 180 (0,0))::aW o (eU mkStr d1.m)::row d1.eF.1 186 6 d1.its.length (rows eE d1.its)::row sv.1 58 1 d1.bz.length (rows bT (d1.bz.map Prod.fst))::(bE (eo 200 3) d1.its++bE (fq 3) d1.bz)) ?_;exact⟨d1,Z,Kx,Wi,F,SQ,rfl⟩
theorem iy (i:Nat){α:Type}(f:α→Nat→α)(a:α):(List.range (i+1)).foldl f a=f ((List.range i).foldl f a) i:=by rw[ub,wo];rfl
theorem O9 {nt nf len:Nat}{Q:Qr}(c:qp nt nf Q){w:ax}{frm tqo i:Nat}(d:frm<tqo)(ht:tqo≤Q.n){cs:Cs}(h:ng nt nf Q.n len frm cs)(e:i<Q.aL.length):
 ij nt nf Q.n frm tqo (λi j=>(cs.at_ Q.n i j).length) 0 ((List.range i).foldl (rM Q w frm tqo) cs)∧Room ((List.range i).foldl (rM Q w frm tqo) cs) 1:=by
 have f:ij nt nf Q.n frm tqo (λi j=>(cs.at_ Q.n i j).length) 0 cs:=⟨h.ok,λ_ _ _ _=>rfl,aP _⟩
 obtain⟨a,b⟩:=iH (n:=Q.n) (frm:=frm) (tqo:=tqo) (rM Q w frm tqo) (λ_=>1) _ (List.range i) cs f (λk j g h1=>zD c d ht h1 (Nat.lt_trans (dt.1 g) e));rw[jh,jT,gW]at b
 have:=c.xn
 exact⟨a,Room.grow (h.room.mono (by unfold vm;omega)) b⟩
theorem PH {nt nf len:Nat}{Q:Qr}(c:qp nt nf Q){frm tqo i:Nat}(l:frm<tqo)(ht:tqo≤Q.n)(m:tqo≠frm+1){cs:Cs}(h:ng nt nf Q.n len frm cs)(d:i<Q.rules.length):
 ij nt nf Q.n frm tqo (λi j=>(cs.at_ Q.n i j).length) 0 ((List.range i).foldl (rQ Q frm tqo) cs)∧(1<(Q.rules.getD i oS).kids→Room ((List.range i).foldl (rQ Q frm tqo) cs) (lY (λi j=>(cs.at_ Q.n i j).length) tqo ((Q.rules.getD i oS).kids.toNat-1) frm)):=by
 have o:ij nt nf Q.n frm tqo (λi j=>(cs.at_ Q.n i j).length) 0 cs:=⟨h.ok,λ_ _ _ _=>rfl,aP _⟩
 obtain⟨a,b⟩:=iH (n:=Q.n) (frm:=frm) (tqo:=tqo) (rQ Q frm tqo) (λi=>if decide (1<(Q.rules.getD i oS).kids)=true then 4000000 else 0) _ (List.range i) cs o (λs j p h1=>zb c l ht h.ok h.xY h1 (Nat.lt_trans (dt.1 p) d));refine⟨a,λhk=> ?_⟩
 have e:=vr (f:=λi=>if decide (1<(Q.rules.getD i oS).kids)=true then 4000000 else 0) (show(List.range Q.rules.length)[i]?=some i from nc d)
 rw[List.take_range,ko (by omega),rE (λr:sq=>decide (1<r.kids)) oS 4000000 Q.rules]at e
 have q:=BH c (frm:=frm) (tqo:=tqo)
 have g:Cf Q frm tqo≤vm:=dS (Nat.le_mul_of_pos_right _ (by omega)) q
 unfold Cf at g;rw[aA m]at g
 have k:Q.rules.countP (λr:sq=>decide (1<r.kids))*4000000≤vm:=g
 rw[aC (eB hk)]at e
 have k3:=(c.vg d).1.2
 exact(Room.grow (h.room.mono (dS e k)) b).mono (BO h.ok h.xY l ht (by omega) (by omega))
theorem Pv {nt nf:Nat}{Q:Qr}(l:qp nt nf Q){frm tqo i k e:Nat}(m:frm<tqo)(ht:tqo≤Q.n){cs:Cs}(h:gh nt nf Q.n cs)(o:Room cs (vW Q cs ((cs.at_ Q.n frm tqo).drop k)))(hk:(cs.at_ Q.n frm tqo)[k]?=some e)(u:(cs.ed e).cx≠3)(c:i<Q.rules.length):
 gh nt nf Q.n ((List.range i).foldl (qc Q frm tqo e) cs)∧Grow Q.n frm tqo cs ((List.range i).foldl (qc Q frm tqo e) cs) (hC Q)∧((Q.rules.getD i oS).kids=1→Room ((List.range i).foldl (qc Q frm tqo e) cs) 1):=by
 have a:=ae hk
 have b:=h.q9 a
 have p:(cs.ed e).cx≤3:=by
  unfold Cs.ed;rw[ar,bU b];exact(h.gr _ (gy b)).2.2.1
 have hu:=A5 l m ht (e:=e) (ch:=(cs.ed e).cx) (by omega) (List.range i) cs (λj q=>Nat.lt_trans (dt.1 q) c) h b rfl
 have d:=vr (f:=λi=>if decide ((Q.rules.getD i oS).kids=1)=true then 1 else 0) (show(List.range Q.rules.length)[i]?=some i from nc c)
 rw[List.take_range,ko (by omega),rE (λr:sq=>decide (r.kids=1)) oS 1 Q.rules,gW]at d
 have g:_≤hC Q:=d
 refine⟨hu.ok,hu.gr.mono (by omega),λs=> ?_⟩;rw[aC (eB s)]at g;refine Room.grow (o.mono ?_) hu.gr;refine dS g ?_;unfold vW;rw[oL _ hk]
 have t:3-(cs.ed e).cx=(2-(cs.ed e).cx)+1:=by omega
 rw[t]
 have:hC Q*1≤hC Q*(1+jx (hC Q) (2-(cs.ed e).cx)):=AA _ (by omega)
 show hC Q≤hC Q*(1+jx (hC Q) (2-(cs.ed e).cx))+_
 omega
theorem Pw {Q:Qr}{frm tqo f k e:Nat}{cs:Cs}(hk:(cs.at_ Q.n frm tqo)[k]?=some e)(a:(cs.ed e).cx=3)(b:qS Q cs ((cs.at_ Q.n frm tqo).drop k)<f):
 ∃f2,qd Q frm tqo f k cs=qd Q frm tqo f2 (k+1) cs∧qS Q cs ((cs.at_ Q.n frm tqo).drop (k+1))<f2∧qS Q cs ((cs.at_ Q.n frm tqo).drop (k+1))<qS Q cs ((cs.at_ Q.n frm tqo).drop k):=by
 obtain⟨f2,rfl⟩:∃f2,f=f2+1:=⟨f-1,by omega⟩
 have hd:(cs.at_ Q.n frm tqo).getD k 0=e:=by rw[ar,hk];rfl
 have hp:qS Q cs ((cs.at_ Q.n frm tqo).drop k)=(1+jx (hC Q) (3-(cs.ed e).cx))+qS Q cs ((cs.at_ Q.n frm tqo).drop (k+1)):=by unfold qS;exact oL _ hk
 refine⟨f2,?_,by omega,by omega⟩;rw[qd,aC (ah hk),hd,aC a]
theorem Y3 {Q:Qr}{frm tqo f k e:Nat}{cs:Cs}(hk:(cs.at_ Q.n frm tqo)[k]?=some e)(a:(cs.ed e).cx≠3)(b:qS Q cs ((cs.at_ Q.n frm tqo).drop k)<f):
 ∃f2,qd Q frm tqo f k cs=qd Q frm tqo f2 (k+1) ((List.range Q.rules.length).foldl (qc Q frm tqo e) cs)∧qS Q cs ((cs.at_ Q.n frm tqo).drop k)<f2+1:=by
 obtain⟨f2,rfl⟩:∃f2,f=f2+1:=⟨f-1,by omega⟩
 have hd:(cs.at_ Q.n frm tqo).getD k 0=e:=by rw[ar,hk];rfl
 exact⟨f2,by rw[qd,aC (ah hk),hd,aA a],b⟩
theorem Tm {Q:Qr}{frm tqo f k:Nat}{cs:Cs}(hk:(cs.at_ Q.n frm tqo).length≤k):qd Q frm tqo f k cs=cs:=by
 cases f with
 |zero=>rfl
 |succ f=>rw[qd,aA (by omega)]
theorem Lh (g:gQ)(b l:aV)(T:List ek)(hT:im T)(nf:Nat)(R:nf≤100)(f:kz)(hf:yE f)(n:Nat)(hn:n≤12)(p a:Nat)(sv:aV)(wv:Value)(words:List ax)(Nr:words.length=n)(hnr:f.nr=g.rules.length)(O:qp T.length nf (kS f T n g))(GN:∀r∈g.rules,∀k:Int,0≤k→k≤r.kids→0≤rS (ay r.graph) k)
 (frm tqo len:Nat) (hlen:1≤len) (hte:tqo=frm+len) (S:tqo≤n) (d:nG) (hsv:d.nV=sv) (hp:lN d) (hs:ng T.length nf n len frm d.cs):
 dz prog 90 ([.pointer (some ⟨p,0,none⟩),wv,iv (frm:Nat),iv (tqo:Nat)]).toArray ([hY f,sl cT g.rv.1 g.rules,aF bx g.rules,sl e7 g.xv.1 g.aL,aF eQ g.aL,sl bH b.1 (dg T),sl bH l.1 (de T),tz,sl bI wv words,aF (λx:dL=>aG x.gr) d.its].map aB++([aW p (.cells (nC g b l f n d.eF.1 sv.1 a).toArray 180 (0,0)),aW a (eU mkStr d.m),row d.eF.1 186 6 d.its.length (rows eE d.its),row sv.1 58 1 d.bz.length (rows bT (d.bz.map Prod.fst))]++(bE (eo 200 3) d.its++bE (fq 3) d.bz))) (λv H'=>∃d2:nG,d2.cs=pL (kS f T n g) words frm tqo d.cs∧d2.nV=sv∧lN d2∧H'=(aB (aF (λx:dL=>aG x.gr) d2.its)::aW p (.cells (nC g b l f n d2.eF.1 sv.1 a).toArray 180 (0,0))::aW a (eU mkStr d2.m)::row d2.eF.1 186 6 d2.its.length (rows eE d2.its)::row sv.1 58 1 d2.bz.length (rows bT (d2.bz.map Prod.fst))::(bE (eo 200 3) d2.its++bE (fq 3) d2.bz))):=by
 refine dz.body (args:=[.pointer (some ⟨p,0,none⟩),wv,iv (frm:Nat),iv (tqo:Nat)]) 171 func90 rfl ntmps90 rfl (λc=> ?_);refine St.cast (H':=(aB (hY f)::aB (sl cT g.rv.1 g.rules)::aB (aF bx g.rules)::aB (sl e7 g.xv.1 g.aL)::aB (aF eQ g.aL)::aB (sl bH b.1 (dg T))::aB (sl bH l.1 (de T))::aB (tz)::aB (sl bI wv words)::aB (aF (λx:dL=>aG x.gr) d.its)::aW p (.cells (nC g b l f n d.eF.1 sv.1 a).toArray 180 (0,0))::aW a (eU mkStr d.m)::row d.eF.1 186 6 d.its.length (rows eE d.its)::row sv.1 58 1 d.bz.length (rows bT (d.bz.map Prod.fst))::(bE (eo 200 3) d.its++bE (fq 3) d.bz))) rfl ?_
 have SF:frm<tqo:=by omega
 have YT:=zJ T
 obtain⟨w,hw⟩:=aE (show frm<words.length by omega)
 have hwd:words.getD frm []=w:=by rw[ar,hw];rfl
 have hrn:g.rules.length≤40:=by have h:(g.rules.map lL).length≤40:=O.rn;rwa[aO]at h
 have hxn:g.aL.length≤100:=by have h:(g.aL.map oh).length≤100:=O.xn;rwa[aO]at h
 have D8:∀(i:Nat) (r:ca),g.rules[i]?=some r→(1≤r.kids∧r.kids≤3)∧e9 T.length nf (ay r.graph)∧r.graph.nodes.length≤60:=λi r h=>by have h1:=O.rule (lL r) (eP (ae h));exact⟨h1.1,h1.2.1,by rw[←dA];exact h1.2.2⟩
 have Wd:∀(i:Nat) (x:eY),g.aL[i]?=some x→e9 T.length nf (ay x.graph)∧x.graph.nodes.length≤60:=λi x h=>by have h1:=O.lex (oh x) (eP (ae h));exact⟨h1.1,by rw[←dA];exact h1.2⟩
 have ab5:∀(i:Nat) (r:ca),g.rules[i]?=some r→(kS f T n g).rules.getD i oS=lL r:=λi r h=>by show(g.rules.map lL).getD i oS=_;rw[ar,bP,h];rfl
 have aj1:∀(i:Nat) (x:eY),g.aL[i]?=some x→(kS f T n g).aL.getD i Qh=oh x:=λi x h=>by show(g.aL.map oh).getD i Qh=_;rw[ar,bP,h];rfl
 obtain⟨J8,Dr,V⟩:=Db O (words:=words) hlen (show frm+len≤n by omega) hs;rw[←hte]at J8 Dr V
 have Wl:((kS f T n g)).rules.length=g.rules.length:=aO _
 have hll:((kS f T n g)).aL.length=g.aL.length:=aO _
 refine St.join (ι:=nG) (λd1 T=>T) (λd1=>(aB (aF (λx:dL=>aG x.gr) d1.its)::aW p (.cells (nC g b l f n d1.eF.1 sv.1 a).toArray 180 (0,0))::aW a (eU mkStr d1.m)::row d1.eF.1 186 6 d1.its.length (rows eE d1.its)::row sv.1 58 1 d1.bz.length (rows bT (d1.bz.map Prod.fst))::aB (hY f)::aB (sl cT g.rv.1 g.rules)::aB (aF bx g.rules)::aB (sl e7 g.xv.1 g.aL)::aB (aF eQ g.aL)::aB (sl bH b.1 (dg T))::aB (sl bH l.1 (de T))::aB (tz)::aB (sl bI wv words)::(bE (eo 200 3) d1.its++bE (fq 3) d1.bz))) (λd1=>d1.nV=sv∧lN d1∧d1.cs=n9 (kS f T n g) words frm tqo d.cs) (aD.cons 0 rfl (aD.cons 2 rfl (aD.cons 3 rfl aD.nil))) ?_ ?_
 ·refine g8 ?_
  refine St.cq (λh22=> ?_) (λh22=> ?_)
  ·have SU:tqo=frm+1:=by omega
   refine g12 ?_;refine St.lH (ι:=Nat×nG) (λ⟨i,d1⟩ T=>(29,iv i)::T) (λ⟨i,d1⟩=>(aB (aF (λx:dL=>aG x.gr) d1.its)::aW p (.cells (nC g b l f n d1.eF.1 sv.1 a).toArray 180 (0,0))::aW a (eU mkStr d1.m)::row d1.eF.1 186 6 d1.its.length (rows eE d1.its)::row sv.1 58 1 d1.bz.length (rows bT (d1.bz.map Prod.fst))::aB (hY f)::aB (sl cT g.rv.1 g.rules)::aB (aF bx g.rules)::aB (sl e7 g.xv.1 g.aL)::aB (aF eQ g.aL)::aB (sl bH b.1 (dg T))::aB (sl bH l.1 (de T))::aB (tz)::aB (sl bI wv words)::(bE (eo 200 3) d1.its++bE (fq 3) d1.bz))) (λ⟨i,d1⟩=>i≤g.aL.length∧d1.nV=sv∧lN d1∧d1.cs=(List.range i).foldl (rM (kS f T n g) w frm tqo) d.cs) (λ⟨i,d1⟩=>g.aL.length-i) ⟨0,d⟩ (aD.cons 0 rfl (aD.cons 1 rfl (aD.cons 2 rfl (aD.cons 3 rfl (aD.cons 27 rfl (aD.cons 28 rfl aD.nil)))))) ⟨aP _,hsv,hp,rfl⟩ ?_;rintro ⟨i,d1⟩ ⟨hi,s,A,D⟩
   dsimp only at hi s A D⊢
   refine g6 ?_;refine St.cq (λh30=> ?_) (λh30=> ?_)
   ·obtain⟨x,hx⟩:=aE (show i<g.aL.length by omega)
    obtain⟨I,AG⟩:=Wd i x hx
    have hxs:=gK I R
    have hxE:=aj1 i x hx
    obtain⟨ti,F⟩:=O9 O (w:=w) SF S hs (show i<((kS f T n g)).aL.length by omega);rw[←D]at ti F
    have B:gh T.length nf n d1.cs:=ti.ok
    have J:Room d1.cs 1:=F
    have HI:=J.its
    rw[iR]at HI;obtain⟨q0,Qf⟩:=aE (show slt n frm tqo<d1.bz.length by rw[←Cu,B.GO];exact sY (by omega) S)
    have acF:=zj B Qf
    refine St.cK eQ g.aL (x:=x) (ae hx) ?_;refine St.eZ (aG x.graph) [eQ x] (λρ h=>h (eQ x) (aQ ..) (aG x.graph) (aQ ..)) ?_;refine g8 ?_;refine St.ee (Ev.jq (.mk rfl) hx A2 trivial nW j5.eq) ?_;refine St.al (λb9=> ?_);refine go ?_;refine St.sA (.mk rfl) (.mk rfl) nW ?_ (h1:=(eW.2 λu hu=>e7.one x u hu));refine g3 ?_;refine St.rq mixed (by kernel_rfl) (Mm.drawn _ _) ?_;refine g9 ?_;refine St.cq (λh40=> ?_) (λh40=> ?_)
    ·have Wv:x.word=w:=by simpa using h40
     have Un:rM (kS f T n g) w frm tqo d1.cs i=kY n d1.cs ⟨frm,tqo,0,gj (ay x.graph) 0⟩ ⟨-1,i,[]⟩:=by unfold rM;rw[hxE,aC (show(oh x).word=w from Wv)];rfl
     refine g5 ?_;refine St.ee (Ev.iT 1 (.mk rfl) mo trivial jR rfl rfl) ?_;refine St.slot 45 (bA x.graph) rfl rfl ?_;refine St.ag (qE x.graph T.length nf R I (by omega)) UG (.au rfl) rfl ?_;rintro v46 _ rfl;refine St.ao ?_;refine St.bL (gj (ay x.graph) 0) v46 (λy hy=> ?_);obtain⟨rfl,W⟩:=hy;obtain⟨m1,m2,_⟩:=te I I.pos;rw[←W]at m1 m2;rw[dA,dA]at m2
     have Y:=gK m1 R
     refine St.dw 3 1 ?_;refine St.aM (.slice none 0 0) (show _=([]:List Nat).length from rfl) (show _=rows aJ (bW [])from rfl) ?_;refine St.ee (Ev.build (bF.ej rfl rfl rfl) (λw=>tL rfl rfl w)) ?_;refine St.slot 47 (Gw frm tqo 0 y.nv.1) rfl rfl ?_;refine go ?_;refine St.ee (Ev.build (bF.aX rfl rfl) (λw=>Gr rfl rfl w)) ?_;refine St.slot 49 (.agg #[iv (-1),iv (i:Nat),bR.1]) rfl rfl ?_;refine St.pS (ds:=[aG y,aF (λx:dL=>aG x.gr) d1.its]) (L:=[aW p (.cells (nC g b l f n d1.eF.1 sv.1 a).toArray 180 (0,0)),aW a (eU mkStr d1.m),row d1.eF.1 186 6 d1.its.length (rows eE d1.its),row sv.1 58 1 d1.bz.length (rows bT (d1.bz.map Prod.fst)),row (.slice none 0 0) 3 1 (([]:List Nat)).length (rows aJ (bW (([]:List Nat))))]) (X:=(bE (eo 200 3) d1.its++bE (fq 3) d1.bz)) (post:=λv L' X'=>∃d3:nG,d3.cs=kY n d1.cs ⟨frm,tqo,0,ay y⟩ ⟨-1,(i:Nat),([]:List Nat)⟩∧d3.nV=sv∧lN d3∧L'=[aB (aF (λx:dL=>aG x.gr) d3.its),aW p (.cells (nC g b l f n d3.eF.1 sv.1 a).toArray 180 (0,0)),aW a (eU mkStr d3.m),row d3.eF.1 186 6 d3.its.length (rows eE d3.its),row sv.1 58 1 d3.bz.length (rows bT (d3.bz.map Prod.fst))]∧X'=(bE (eo 200 3) d3.its++bE (fq 3) d3.bz)) ?_ Ml (.ej rfl rfl rfl) rfl ?_
     ·subst s
      exact(um g b l f n hn d1 A p a frm tqo 0 y (by omega) (λt ht=>by have:=(Y t ht).2;omega) (by omega) (by omega) (-1:Int) ((i:Nat):Int) (by unfold aZ;omega) (by omega) bR [] q0 Qf (by omega) (by omega) (zU J B)).mono (λv H' ⟨d3,K,a2,a3,a4,a5,Z⟩=>⟨_,_,(by rw[a2]at Z;exact Z),d3,K,a2,a3,rfl,rfl⟩)
     rintro v50 _ _ ⟨d3,K,a2,a3,rfl,rfl⟩;refine St.Ca ?_;refine g8 ?_;refine St.aH ⟨i+1,d3⟩ ⟨by omega,a2,a3,by rw[iy,←D,Un,K,W]⟩
    ·have Wv:x.word≠w:=by simpa using h40
     have Un:rM (kS f T n g) w frm tqo d1.cs i=d1.cs:=by unfold rM;rw[hxE,aA (show ¬(oh x).word=w from Wv)]
     refine g8 ?_;refine St.aH ⟨i+1,d1⟩ ⟨by omega,s,A,by rw[iy,←D,Un]⟩
   ·obtain rfl:i=g.aL.length:=by omega
    refine g5 ?_;refine St.mE d1 ⟨s,A,by rw[D];unfold n9;rw[aC SU,hwd,hll]⟩
  ·have SU:tqo≠frm+1:=by omega
   refine g12 ?_;refine St.lH (ι:=Nat×nG) (λ⟨i,d1⟩ T=>(58,iv i)::T) (λ⟨i,d1⟩=>(aB (aF (λx:dL=>aG x.gr) d1.its)::aW p (.cells (nC g b l f n d1.eF.1 sv.1 a).toArray 180 (0,0))::aW a (eU mkStr d1.m)::row d1.eF.1 186 6 d1.its.length (rows eE d1.its)::row sv.1 58 1 d1.bz.length (rows bT (d1.bz.map Prod.fst))::aB (hY f)::aB (sl cT g.rv.1 g.rules)::aB (aF bx g.rules)::aB (sl e7 g.xv.1 g.aL)::aB (aF eQ g.aL)::aB (sl bH b.1 (dg T))::aB (sl bH l.1 (de T))::aB (tz)::aB (sl bI wv words)::(bE (eo 200 3) d1.its++bE (fq 3) d1.bz))) (λ⟨i,d1⟩=>i≤g.rules.length∧d1.nV=sv∧lN d1∧d1.cs=(List.range i).foldl (rQ (kS f T n g) frm tqo) d.cs) (λ⟨i,d1⟩=>g.rules.length-i) ⟨0,d⟩ (aD.cons 0 rfl (aD.cons 2 rfl (aD.cons 3 rfl (aD.cons 56 rfl (aD.cons 57 rfl aD.nil))))) ⟨aP _,hsv,hp,rfl⟩ ?_;rintro ⟨i,d1⟩ ⟨hi,s,A,D⟩
   dsimp only at hi s A D⊢
   refine g6 ?_;refine St.cq (λh59=> ?_) (λh59=> ?_)
   ·obtain⟨r,E⟩:=aE (show i<g.rules.length by omega)
    obtain⟨hk,I,AG⟩:=D8 i r E
    have G:=ab5 i r E
    obtain⟨ti,F⟩:=PH O SF S SU hs (show i<((kS f T n g)).rules.length by omega);rw[←D]at ti F;rw[G]at F;refine St.cK bx g.rules (x:=r) (ae E) ?_;refine St.eZ (aG r.graph) [bx r] (λρ h=>h (bx r) (aQ ..) (aG r.graph) (aQ ..)) ?_;refine g8 ?_;refine St.ee (Ev.jq (.mk rfl) E uS trivial kU j5.eq) ?_;refine St.al (λYJ=> ?_);refine go ?_;refine St.sA (.mk rfl) (.mk rfl) kU ?_ (h1:=(eW.2 λu hu=>cT.one r u hu));refine g8 ?_;refine St.gt _ rfl rfl (λM=>Ev.da (.mk rfl) xh) rfl ?_;refine St.gt _ rfl rfl (λM=>Ev.ke (ai.gv rfl M) gV trivial (by rfl)) rfl ?_;refine St.gt _ rfl rfl (λM=>Ev.move (.mk rfl)) rfl ?_;refine St.gt _ rfl rfl (λM=>Ev.move (.mk rfl)) rfl ?_;refine St.gt _ rfl rfl (λM=>Ev.sub (ai.gv rfl M) (ai.gv rfl M) (by first|omega|(simp only[fJ]at M;omega))) rfl ?_;refine St.gt _ rfl rfl (λM=>Ev.leq (ai.gv rfl M) (ai.gv rfl M)) rfl ?_;refine g3 ?_;refine St.cq (λh73=> ?_) (λh73=> ?_)
    ·have Wo:rQ (kS f T n g) frm tqo d1.cs i=vC (kS f T n g) i frm tqo (r.kids.toNat-1) d1.cs (ay r.graph) [] frm:=by unfold rQ;rw[G,aC (show 1<(lL r).kids∧(lL r).kids≤(tqo:Int)-frm from h73)];rfl
     have JA:=F h73.1
     refine St.fm aJ ?_;refine g4 ?_;refine St.ee (Ev.iT 1 (.mk rfl) mo trivial jR rfl rfl) ?_;refine St.slot 77 (bA r.graph) rfl rfl ?_;refine g3 ?_;refine St.pS (ds:=[hY f,sl cT g.rv.1 g.rules,aF bx g.rules,sl bH b.1 (dg T),sl bH l.1 (de T),tz,sl aJ (.slice none 0 0) [],aG r.graph,aF (λx:dL=>aG x.gr) d1.its]) (L:=[aW p (.cells (nC g b l f n d1.eF.1 sv.1 a).toArray 180 (0,0)),aW a (eU mkStr d1.m),row d1.eF.1 186 6 d1.its.length (rows eE d1.its),row sv.1 58 1 d1.bz.length (rows bT (d1.bz.map Prod.fst))]) (X:=(bE (eo 200 3) d1.its++bE (fq 3) d1.bz)) (post:=λv L' X'=>∃d3:nG,d3.cs=vC (kS f T n g) i frm tqo (r.kids.toNat-1) d1.cs (ay r.graph) [] frm∧d3.nV=sv∧lN d3∧L'=[aB (aF (λx:dL=>aG x.gr) d3.its),aW p (.cells (nC g b l f n d3.eF.1 sv.1 a).toArray 180 (0,0)),aW a (eU mkStr d3.m),row d3.eF.1 186 6 d3.its.length (rows eE d3.its),row sv.1 58 1 d3.bz.length (rows bT (d3.bz.map Prod.fst))]∧X'=(bE (eo 200 3) d3.its++bE (fq 3) d3.bz)) ((EW g b l T hT nf R f hf n hn p a frm tqo SF S i (by omega) r E hk (λi j=>(d.cs.at_ n i j).length) sv (r.kids.toNat-1) d1 r.graph bR [] frm s A ti JA I AG (GN r (ae E)) (by simp only[List.length_nil];omega) (.inr ⟨rfl,by omega⟩) SF (λk hk=>by cases hk)).mono (λv H' ⟨d3,K,a2,a3,a4,a5,Z⟩=>⟨_,_,Z,d3,K,a2,a3,rfl,rfl⟩)) UL (.aeM rfl rfl rfl rfl rfl rfl rfl) rfl ?_;rintro v81 _ _ ⟨d3,K,a2,a3,rfl,rfl⟩;refine St.Ca ?_;refine g8 ?_;refine St.aH ⟨i+1,d3⟩ ⟨by omega,a2,a3,by rw[iy,←D,Wo];exact K⟩
    ·have Wo:rQ (kS f T n g) frm tqo d1.cs i=d1.cs:=by unfold rQ;rw[G,aA (show ¬(1<(lL r).kids∧(lL r).kids≤(tqo:Int)-frm)from λhh=>by have hh1:1<r.kids:=hh.1;have hh2:r.kids≤(tqo:Int)-frm:=hh.2;omega)]
     refine g8 ?_;refine St.aH ⟨i+1,d1⟩ ⟨by omega,s,A,by rw[iy,←D,Wo]⟩
   ·obtain rfl:i=g.rules.length:=by omega
    refine g5 ?_;refine St.mE d1 ⟨s,A,by rw[D];unfold n9;rw[aA SU,Wl]⟩
 ·rintro d1 ⟨s,A,D⟩
  refine g6 ?_;rw[←D]at J8 Dr V
  have C:Room d1.cs (vW (kS f T n g) d1.cs ((d1.cs.at_ n frm tqo).drop (0))):=by rw[List.drop_zero];exact Room.grow (hs.room.mono V) Dr
  refine St.lH (ι:=Nat×nG) (λ⟨k,d1⟩ T=>(12,iv k)::T) (λ⟨k,d1⟩=>(aB (aF (λx:dL=>aG x.gr) d1.its)::aW p (.cells (nC g b l f n d1.eF.1 sv.1 a).toArray 180 (0,0))::aW a (eU mkStr d1.m)::row d1.eF.1 186 6 d1.its.length (rows eE d1.its)::row sv.1 58 1 d1.bz.length (rows bT (d1.bz.map Prod.fst))::aB (hY f)::aB (sl cT g.rv.1 g.rules)::aB (aF bx g.rules)::aB (sl e7 g.xv.1 g.aL)::aB (aF eQ g.aL)::aB (sl bH b.1 (dg T))::aB (sl bH l.1 (de T))::aB (tz)::aB (sl bI wv words)::(bE (eo 200 3) d1.its++bE (fq 3) d1.bz))) (λ⟨k,d1⟩=>d1.nV=sv∧lN d1∧gh T.length nf n d1.cs∧Room d1.cs (vW (kS f T n g) d1.cs ((d1.cs.at_ n frm tqo).drop (k)))∧∃fu,qS (kS f T n g) d1.cs ((d1.cs.at_ n frm tqo).drop (k))<fu∧qd (kS f T n g) frm tqo fu k d1.cs=pL (kS f T n g) words frm tqo d.cs) (λ⟨k,d1⟩=>qS (kS f T n g) d1.cs ((d1.cs.at_ n frm tqo).drop (k))) ⟨0,d1⟩ (aD.cons 0 rfl (aD.cons 2 rfl (aD.cons 3 rfl aD.nil))) ⟨s,A,J8,C,qS (kS f T n g) d1.cs (d1.cs.at_ n frm tqo)+1,by rw[List.drop_zero];exact pP _,by unfold pL;rw[←D]⟩ ?_;rintro ⟨k,d1⟩ ⟨s,A,B,C,fu,hfu,YW⟩
  dsimp only at s A B C hfu YW⊢
  obtain⟨q,U⟩:=aE (show slt n frm tqo<d1.bz.length by rw[←Cu,B.GO];exact sY (by omega) S)
  have SA:=UX U
  have hql:=zj B U
  have HI:=C.its
  rw[iR]at HI;refine g7 ?_;refine St.ee (Ev.iT 2 (.mk rfl) Bw trivial Br rfl rfl) ?_;refine St.slot 87 (.agg #[iv (n:Nat),sv.1]) rfl rfl ?_;refine g2 ?_;refine St.call (Cc n frm tqo (slt n frm tqo) hn (by omega) (by omega) rfl sv d1.bz q U) Mn (.ej rfl rfl rfl) rfl ?_;rintro v90 _ ⟨rfl,rfl⟩;refine St.ao ?_;refine St.tail (bE (eo 200 3) d1.its++bE (fq 3) d1.bz) (row q.1.1 3 1 (q.2).length (rows aJ (bW (q.2)))::(bE (eo 200 3) d1.its++bE (fq 3) (d1.bz.eraseIdx (slt n frm tqo)))) (pK _ _ _ U) ?_;refine go ?_;refine St.tail (row q.1.1 3 1 (q.2).length (rows aJ (bW (q.2)))::(bE (eo 200 3) d1.its++bE (fq 3) (d1.bz.eraseIdx (slt n frm tqo)))) (bE (eo 200 3) d1.its++bE (fq 3) d1.bz) (pK (eo 200 3) (fq 3) d1.its U).symm ?_;refine g3 ?_;refine St.cq (λh92=> ?_) (λh92=> ?_)
  ·obtain⟨e,he⟩:=aE (show k<q.2.length by omega)
   have YQ:(d1.cs.at_ n frm tqo)[k]?=some e:=by rw[SA];exact he
   have YO:e<d1.its.length:=by rw[←iR];exact B.q9 (ae YQ)
   obtain⟨H,Sb⟩:=aE YO
   have WZ:(d1.cs.ed e).cx=H.cx:=by unfold Cs.ed;rw[EP Sb];rfl
   have anI:H.cx≤3:=by have:=B.gr (cF H) (eP (ae Sb));exact this.2.2.1
   refine g9 ?_;refine St.ee (Ev.iT 2 (.mk rfl) Bw trivial Br rfl rfl) ?_;refine St.slot 98 (.agg #[iv (n:Nat),sv.1]) rfl rfl ?_;refine g2 ?_;refine St.call (Cc n frm tqo (slt n frm tqo) hn (by omega) (by omega) rfl sv d1.bz q U) Mn (.ej rfl rfl rfl) rfl ?_;rintro al8 _ ⟨rfl,rfl⟩;refine St.ao ?_;refine St.tail (bE (eo 200 3) d1.its++bE (fq 3) d1.bz) (row q.1.1 3 1 (q.2).length (rows aJ (bW (q.2)))::(bE (eo 200 3) d1.its++bE (fq 3) (d1.bz.eraseIdx (slt n frm tqo)))) (pK _ _ _ U) ?_;refine g2 ?_;refine St.ee (Ev.cu (.mk rfl) gV trivial (by omega) (gP (gO he))) ?_;refine St.tail (row q.1.1 3 1 (q.2).length (rows aJ (bW (q.2)))::(bE (eo 200 3) d1.its++bE (fq 3) (d1.bz.eraseIdx (slt n frm tqo)))) (bE (eo 200 3) d1.its++bE (fq 3) d1.bz) (pK (eo 200 3) (fq 3) d1.its U).symm ?_;refine g13 ?_;refine St.ee (Ev.cu (.mk rfl) gV trivial (by omega) (eN eE _ e 2 _ Sb (by decide))) ?_;refine g10 ?_;refine St.cq (λaiB=> ?_) (λaiB=> ?_)
   ·have hc3:H.cx=3:=by omega
    obtain⟨f2,g1,gq2,g3⟩:=Pw (Q:=(kS f T n g)) (frm:=frm) (tqo:=tqo) YQ (by rw[WZ];exact hc3) hfu;refine g10 ?_;refine St.sL ⟨k+1,d1⟩ ⟨s,A,B,C.mono (by unfold vW;rw[oL _ YQ];exact Nat.le_add_left _ _),f2,gq2,by rw[←g1];exact YW⟩ g3 (by repeat(first|exact Sub.nil|refine Sub.cons (by first|rfl|exact congrArg (λz=>some (iv z)) (by first|omega|(dsimp only;omega))|exact congrArg (λz=>some (Value.bool z)) (by first|assumption|exact iZ (by assumption))) ?_)) (λ_ hw=>hw.sub)
   ·have hc3:H.cx≠3:=by omega
    have WY:(d1.cs.ed e).cx≠3:=by rw[WZ];exact hc3
    obtain⟨f2,g1,gq2⟩:=Y3 (Q:=(kS f T n g)) (frm:=frm) (tqo:=tqo) YQ WY hfu;refine g14 ?_;refine St.lH (ι:=Nat×nG) (λ⟨i,d2⟩ T=>(122,iv i)::T) (λ⟨i,d2⟩=>(aB (aF (λx:dL=>aG x.gr) d2.its)::aW p (.cells (nC g b l f n d2.eF.1 sv.1 a).toArray 180 (0,0))::aW a (eU mkStr d2.m)::row d2.eF.1 186 6 d2.its.length (rows eE d2.its)::row sv.1 58 1 d2.bz.length (rows bT (d2.bz.map Prod.fst))::aB (hY f)::aB (sl cT g.rv.1 g.rules)::aB (aF bx g.rules)::aB (sl e7 g.xv.1 g.aL)::aB (aF eQ g.aL)::aB (sl bH b.1 (dg T))::aB (sl bH l.1 (de T))::aB (tz)::aB (sl bI wv words)::(bE (eo 200 3) d2.its++bE (fq 3) d2.bz))) (λ⟨i,d2⟩=>i≤g.rules.length∧d2.nV=sv∧lN d2∧d2.cs=(List.range i).foldl (qc (kS f T n g) frm tqo e) d1.cs) (λ⟨i,d2⟩=>g.rules.length-i) ⟨0,d1⟩ (aD.cons 0 rfl (aD.cons 2 rfl (aD.cons 3 rfl (aD.cons 12 rfl (aD.cons 13 rfl (aD.cons 14 rfl (aD.cons 120 rfl (aD.cons 121 rfl aD.nil)))))))) ⟨aP _,s,A,rfl⟩ ?_;rintro ⟨i,d2⟩ ⟨hi,Ag,Ni,P⟩
    dsimp only at hi Ag Ni P⊢
    refine g6 ?_;refine St.cq (λaiC=> ?_) (λaiC=> ?_)
    ·obtain⟨r,E⟩:=aE (show i<g.rules.length by omega)
     obtain⟨hk,I,AG⟩:=D8 i r E
     have G:=ab5 i r E
     obtain⟨Wh,Eb,JA⟩:=Pv O SF S B C YQ WY (show i<((kS f T n g)).rules.length by omega);rw[←P]at Wh Eb JA;rw[G]at JA
     have ajW:e<d2.its.length:=by rw[←iR];exact fR (by rw[iR];exact YO) Eb.more
     obtain⟨o,N⟩:=aE ajW
     have hxm:=ae N
     obtain⟨HG,NZ⟩:=Ut Wh N
     have ajU:o.cx=H.cx:=by have h:=congrArg om.cx (Eb.ed e (by rw[iR];exact YO));rw[WZ]at h;rw[←h];unfold Cs.ed;rw[EP N];rfl
     have abY:(d2.cs.ed e).cx=H.cx:=by rw[←ajU];unfold Cs.ed;rw[EP N];rfl
     have SX:qc (kS f T n g) frm tqo e d2.cs i=if r.kids≠1 then d2.cs else match lU (kS f T n g) d2.cs i (ay r.graph) 1 e with|none=>d2.cs|some x=>kY n d2.cs ⟨frm,tqo,H.cx+1,mC x⟩ ⟨i,0,[e]⟩:=by unfold qc;rw[G,abY];rfl
     refine St.cK bx g.rules (x:=r) (ae E) ?_;refine St.eZ (aG r.graph) [bx r] (λρ h=>h (bx r) (aQ ..) (aG r.graph) (aQ ..)) ?_;refine g8 ?_;refine St.ee (Ev.jq (.mk rfl) E uS trivial kU j5.eq) ?_;refine St.al (λb16=> ?_);refine go ?_;refine St.sA (.mk rfl) (.mk rfl) kU ?_ (h1:=(eW.2 λu hu=>cT.one r u hu));refine g9 ?_;refine St.split 130 _ rfl (λhk1=> ?_) (λhk1=> ?_)
     ·have Nf:r.kids≠1:=by simpa using hk1
      refine St.bq rfl rfl rfl ?_;refine St.bq rfl rfl rfl ?_;refine St.bq rfl rfl rfl ?_;refine St.bq rfl rfl rfl ?_;refine St.bq rfl rfl rfl ?_;refine St.ee (Ev.gZ (.mk rfl) rfl (.mk rfl)) ?_;refine g2 ?_;refine St.Iu _ rfl rfl ?_;refine g9 ?_;refine St.aH ⟨i+1,d2⟩ ⟨by omega,Ag,Ni,by rw[iy,←P,SX,aC Nf]⟩
     ·have Nf:r.kids=1:=by simpa using hk1
      have akL:=JA Nf
      refine St.cG rfl rfl ?_;refine go ?_;refine St.cG rfl rfl ?_;refine go ?_;refine St.cG rfl rfl ?_;refine go ?_;refine St.cG rfl rfl ?_;refine St.dup (hY f) ?_;refine St.tail (bE (eo 200 3) d2.its++bE (fq 3) d2.bz) (row o.wv.1 200 3 (o.cW).length (rows mM (o.cW))::row o.tv.1 3 1 (o.ba).length (rows aJ (o.ba))::(bE (jE 3) o.cW++(bE (eo 200 3) (d2.its.eraseIdx e)++bE (fq 3) d2.bz))) (z8 _ _ N) ?_;refine St.call (tG f hf (nC g b l f n d2.eF.1 sv.1 a) rfl p i 1 (by omega) (by omega) (by omega) d2.eF rfl d2.its e o N (Ni.ba o hxm)) UM (.gU rfl rfl rfl rfl) rfl ?_;rintro amE _ ⟨rfl,rfl⟩;refine St.iP ?_;refine St.mm [row o.wv.1 200 3 (o.cW).length (rows mM (o.cW)),row o.tv.1 3 1 (o.ba).length (rows aJ (o.ba))] (bE (jE 3) o.cW++(bE (eo 200 3) (d2.its.eraseIdx e)++bE (fq 3) d2.bz)) (bE (eo 200 3) d2.its++bE (fq 3) d2.bz) (z8 (eo 200 3) (bE (fq 3) d2.bz) N).symm ?_;refine St.cG rfl rfl ?_;refine go ?_;refine St.ee (Ev.kQ (.mk rfl) rfl (.mk rfl)) ?_;refine g2 ?_;refine St.cond _ rfl (λWT=> ?_) (λWT=> ?_)
      ·skip
       have HD:o.ba.any (q8 f i 1)=false:=by simpa using WT
       have YV:lU (kS f T n g) d2.cs i (ay r.graph) 1 e=none:=Pr N HD
       refine g9 ?_;refine St.aH ⟨i+1,d2⟩ ⟨by omega,Ag,Ni,by rw[iy,←P,SX,aA (λh=>h Nf),YV]⟩
      ·skip
       have HD:o.ba.any (q8 f i 1)=true:=by simpa using WT
       have YV:lU (kS f T n g) d2.cs i (ay r.graph) 1 e=nE (gz T) (ay r.graph) 1 (ay o.gr):=Ju (T:=T) (n:=n) (g:=g) (y:=ay r.graph) N HD
       refine g3 ?_;refine St.eZ (aG o.gr) [aF (λx:dL=>aG x.gr) d2.its] (λρ h=>h _ (aQ ..) o hxm) ?_;refine St.lB d2.eF.1 (by omega) (λbs cs Nk=> ?_)
       have B:gh T.length nf n d2.cs:=Wh
       have J:Room d2.cs 1:=akL
       have HI:=J.its
       rw[iR]at HI;obtain⟨q0,Qf⟩:=aE (show slt n frm tqo<d2.bz.length by rw[←Cu,B.GO];exact sY (by omega) S)
       have acF:=zj B Qf
       refine St.dc (aB (sl bH b.1 (dg T))::aB (sl bH l.1 (de T))::aB tz::aB (aG r.graph)::aB (aG o.gr)::(bE (eo 200 3) d2.its++bE (fq 3) d2.bz)) mixed (λnp ns=> ?_);refine SW.gd 0 ?_;refine SW.gd 1 ?_;refine SW.gd 2 ?_;refine SW.dd 3 rfl (λ_=>Ev.iT 2 (.mk rfl) wc trivial wY rfl rfl) ?_;refine SW.slot 141 (kB b l) rfl rfl ?_;refine SW.gd 4 ?_;refine SW.dd 5 rfl (λ_=>Ev.iT 1 (.mk rfl) mo trivial jR rfl rfl) ?_;refine SW.slot 143 (bA r.graph) rfl rfl ?_;refine SW.gd 6 ?_;refine SW.gd 7 ?_;refine SW.gd 8 ?_;refine SW.gd 9 ?_;refine SW.gd 10 ?_;refine SW.dd 11 rfl (λ_=>Ev.nB (k:=e) Nk (.mk rfl) (.mk rfl) nY oY (by omega) (by omega)) ?_;refine SW.dd 12 rfl (λ_=>Ev.jY Nk (.mk rfl) tY) ?_;refine SW.dd 13 rfl (λ_=>Ev.jY Nk (.mk rfl) xj) ?_;refine SW.dd 14 rfl (λ_=>Ev.O7 (Rr:=eE) (sz:=1) (.mk rfl) N mo trivial jR (by omega) (by decide) (by decide)) ?_;refine SW.slot 152 (bA o.gr) rfl rfl ?_;refine SW.t2 15 19 ?_ ?_
       focus
        refine St.ag (qq b l T hT nf R r.graph o.gr 1 I HG AG NZ (GN r (ae E) 1 (by omega) (by omega))) Iq (.gU rfl rfl rfl rfl) rfl ?_;rintro amG _ ⟨u,z,rfl,hz,rfl⟩;refine St.ao ?_;refine St.bL z u (λy hy=> ?_);obtain⟨rfl,W⟩:=hy;refine g2 ?_;refine SW.go ?_;refine SW.gd 16 ?_;refine SW.gd 17 ?_;refine SW.gd 18 ?_;refine SW.t1 19 ?_;refine St.al (λb17=> ?_);refine g2 ?_;refine SW.go ?_;refine SW.t1 20 ?_;refine g3 ?_;refine SW.go ?_;refine SW.gd 21 ?_;refine SW.dn ?_
       rotate_left
       focus
        refine St.al (λb17=> ?_);refine g2 ?_;refine SW.go ?_;refine SW.t1 15 ?_;refine St.ag (qq b l T hT nf R r.graph o.gr 1 I HG AG NZ (GN r (ae E) 1 (by omega) (by omega))) Iq (.gU rfl rfl rfl rfl) rfl ?_;rintro amG _ ⟨u,z,rfl,hz,rfl⟩;refine St.ao ?_;refine St.bL z u (λy hy=> ?_);obtain⟨rfl,W⟩:=hy;refine g2 ?_;refine SW.go ?_;refine SW.gd 16 ?_;refine SW.gd 17 ?_;refine SW.gd 18 ?_;refine SW.t1 20 ?_;refine g3 ?_;refine SW.go ?_;refine SW.gd 21 ?_;refine SW.dn ?_
       all_goals
        refine g6 ?_;refine St.cond _ rfl (λWV=> ?_) (λWV=> ?_)
        ·skip
         obtain⟨z1,Sd⟩:∃z1,nE (gz T) (ay r.graph) 1 (ay o.gr)=some z1:=Option.isSome_iff_exists.1 (by simpa using WV)
         have hzz:=hz z1 Sd
         rw[hzz]at W;rw[Sd,←W]at YV;rw[←W]at Sd;obtain⟨y1,y2,y3⟩:=I9 YT I HG Sd
         have hyl:y.nodes.length≤60:=by rw[←dA];exact y2
         have hyt:0≤rS (ay y) 0:=(y9 y1).2 (y3 0 ((y9 I).1 (GN r (ae E) 0 (by omega) (by omega))))
         refine g6 ?_;refine St.slot 161 (iv ((H.cx+1:Nat):Int)) rfl (congrArg iv (by push_cast;rfl)) ?_;refine go ?_;refine St.slot 162 (bA y) rfl rfl ?_;refine St.ag (py y T.length nf R y1 (by omega) hyt) Mk (.au rfl) rfl ?_;rintro amH _ rfl;refine St.ao ?_;refine St.bL (mC (ay y)) amH (λmy hm=> ?_);obtain⟨rfl,Uo⟩:=hm;obtain⟨m1,m2⟩:=qP y1 y2;rw[←Uo]at m1 m2;rw[dA]at m2
         have Y:=gK m1 R
         refine St.ee (Ev.build (bF.gU rfl rfl rfl rfl) (λw=>yX rfl rfl rfl w)) ?_;refine St.slot 164 (Gw frm tqo (H.cx+1) my.nv.1) rfl rfl ?_;refine g2 ?_;refine St.gX rfl (.au rfl) bJ dK eS rfl rfl (by simp[Value.cells]) rfl rfl (λKT=> ?_);refine St.aM (.slice (some ⟨KT,0,none⟩) 1 1) (show _=[e].length from rfl) (show _=rows aJ (bW [e])from rfl) ?_;refine St.ee (Ev.build (bF.aX rfl rfl) (λw=>yY rfl rfl w)) ?_;refine St.slot 168 (.agg #[iv (i:Nat),iv 0,.slice (some ⟨KT,0,none⟩) 1 1]) rfl rfl ?_;refine St.pS (ds:=[aG my,aF (λx:dL=>aG x.gr) d2.its]) (L:=[aW p (.cells (nC g b l f n d2.eF.1 sv.1 a).toArray 180 (0,0)),aW a (eU mkStr d2.m),row d2.eF.1 186 6 d2.its.length (rows eE d2.its),row sv.1 58 1 d2.bz.length (rows bT (d2.bz.map Prod.fst)),row (.slice (some ⟨KT,0,none⟩) 1 1) 3 1 ([e]).length (rows aJ (bW ([e])))]) (X:=(bE (eo 200 3) d2.its++bE (fq 3) d2.bz)) (post:=λv L' X'=>∃d3:nG,d3.cs=kY n d2.cs ⟨frm,tqo,(H.cx+1),ay my⟩ ⟨(i:Nat),0,[e]⟩∧d3.nV=sv∧lN d3∧L'=[aB (aF (λx:dL=>aG x.gr) d3.its),aW p (.cells (nC g b l f n d3.eF.1 sv.1 a).toArray 180 (0,0)),aW a (eU mkStr d3.m),row d3.eF.1 186 6 d3.its.length (rows eE d3.its),row sv.1 58 1 d3.bz.length (rows bT (d3.bz.map Prod.fst))]∧X'=(bE (eo 200 3) d3.its++bE (fq 3) d3.bz)) ?_ Ml (.ej rfl rfl rfl) rfl ?_
         ·subst Ag
          exact(um g b l f n hn d2 Ni p a frm tqo (H.cx+1) my (by omega) (λt ht=>by have:=(Y t ht).2;omega) (by omega) (by omega) ((i:Nat):Int) (0:Int) (by unfold aZ;omega) (by omega) ⟨.slice (some ⟨KT,0,none⟩) 1 1,rfl⟩ [e] q0 Qf (by omega) (by omega) (zU J B)).mono (λv H' ⟨d3,K,a2,a3,a4,a5,Z⟩=>⟨_,_,(by rw[a2]at Z;exact Z),d3,K,a2,a3,rfl,rfl⟩)
         rintro aoN _ _ ⟨d3,K,a2,a3,rfl,rfl⟩;refine St.Ca ?_;refine g8 ?_;refine St.aH ⟨i+1,d3⟩ ⟨by omega,a2,a3,by rw[iy,←P,SX,aA (λh=>h Nf),YV,K,Uo]⟩
        ·skip
         have hsn:nE (gz T) (ay r.graph) 1 (ay o.gr)=none:=by simpa using WV
         rw[hsn]at YV;refine g8 ?_;refine St.aH ⟨i+1,d2⟩ ⟨by omega,Ag,Ni,by rw[iy,←P,SX,aA (λh=>h Nf),YV]⟩
    ·obtain rfl:i=g.rules.length:=by omega
     rw[←Wl]at P;obtain⟨s1,s2,s3,s4,s5⟩:=G8 O SF S B YQ WY P;rw[←P]at g1;refine g12 ?_;refine St.sL ⟨k+1,d2⟩ ⟨Ag,Ni,s1,Room.grow (C.mono s5) s2,f2,fR s4 (Nat.lt_succ_iff.1 gq2),by rw[←g1];exact YW⟩ (by dsimp only;exact s4) (by repeat(first|exact Sub.nil|refine Sub.cons (by first|rfl|exact congrArg (λz=>some (iv z)) (by first|omega|(dsimp only;omega))|exact congrArg (λz=>some (Value.bool z)) (by first|assumption|exact iZ (by assumption))) ?_)) (λ_ hw=>hw.sub)
  ·have SN:(d1.cs.at_ n frm tqo).length≤k:=by rw[SA];omega
   rw[Tm (Q:=(kS f T n g)) SN]at YW;refine g4 ?_;refine St.eH ?_;refine St.rV [] (aB (aF (λx:dL=>aG x.gr) d1.its)::aW p (.cells (nC g b l f n d1.eF.1 sv.1 a).toArray 180 (0,0))::aW a (eU mkStr d1.m)::row d1.eF.1 186 6 d1.its.length (rows eE d1.its)::row sv.1 58 1 d1.bz.length (rows bT (d1.bz.map Prod.fst))::(bE (eo 200 3) d1.its++bE (fq 3) d1.bz)) ?_;exact⟨d1,YW,s,A,rfl⟩
end Go.Proofs.YtblifkgpebebmaaGreatDoor
