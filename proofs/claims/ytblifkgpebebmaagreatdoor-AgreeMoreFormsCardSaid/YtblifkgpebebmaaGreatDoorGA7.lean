/-
  Laws of walks through programs, and facts on grammars, trees and queries.
  Conditions: none.
-/
import Derived.Test.YtblifkgpebebmaaGreatDoorGA6
set_option maxHeartbeats 8000000
set_option maxRecDepth 20000
set_option linter.unusedVariables false
set_option linter.unusedSimpArgs false
namespace Go.Proofs.YtblifkgpebebmaaGreatDoor
open Go Go.J Tryz
inductive AN:jY→Prop
 |mk {r l:Int} {ks:List jY} (h:ks.length≤1000) (k:∀t∈ks,AN t):AN (.mk r l ks)
def l3 (B:cr)(e:Nat):Nat:=((B.its.getD e gh).ed.tqo-(B.its.getD e gh).ed.frm)*4+(B.its.getD e gh).ed.cw
def Dh (B:cr)(e:Nat):Nat:=8*((B.its.getD e gh).ed.tqo-(B.its.getD e gh).ed.frm)-7+(B.its.getD e gh).ed.cw
def rM (B:cr)(e:Nat):Nat:=(B.its.getD e gh).cV.length
def nZ (B:cr)(l:List Nat):Nat:=(l.map (Dh B)).sum
theorem KX (B:cr)(k:Nat)(l:List Nat):nZ B (k::l)=Dh B k+nZ B l:=by unfold nZ;rw[fL,oc]
structure o7 (B:cr):Prop where
 lex:∀e w,e<B.its.length→w<rM B e→(B.fy e w).rule<0→(B.fy e w).kids=[]∧(B.fy e w).lex<B.aL.length∧1≤Dh B e
 rule:∀e w,e<B.its.length→w<rM B e→¬(B.fy e w).rule<0→(B.fy e w).rule<B.rules.length∧(B.fy e w).kids.length≤3∧(∀k∈(B.fy e w).kids,k<B.its.length∧l3 B k<l3 B e)∧nZ B (B.fy e w).kids+1≤Dh B e
 sz:∀e w,e<B.its.length→w<rM B e→ -1≤(B.fy e w).rule∧(B.fy e w).rule≤1000∧0≤(B.fy e w).lex∧(B.fy e w).lex≤1000
 wr:∀x∈B.rules,-1000000≤x∧x≤1000000
 wx:∀x∈B.aL,-1000000≤x∧x≤1000000
 bd:∀e,e<B.its.length→Dh B e≤100
 ht:∀e,e<B.its.length→l3 B e<60
 nw:∀e,e<B.its.length→rM B e≤1117240000000
def MB (x:jq):Prop:= -(1000000*(x.code.length:Int))≤x.wt∧x.wt≤1000000*(x.code.length:Int)
def YZ (x:jq):Prop:=∀v∈x.code,0≤v∧v≤2000
def Qw (t:jY):Prop:= -1≤t.rule∧t.rule≤1000∧0≤t.lex∧t.lex≤1000
structure Dr (B:cr)(e:Nat)(x:jq):Prop where
 len:x.code.length≤Dh B e
 wt:MB x
 cd:YZ x
 thin:AN x.tree
 rt:Qw x.tree
structure xj (b m:Nat)(x:jq):Prop where
 len:x.code.length≤b
 wt:MB x
 cd:YZ x
 kids:∀t∈x.tree.kids,AN t∧Qw t
 n:x.tree.kids.length≤m
 rt:Qw x.tree
theorem B9 {B:cr}{l:List Nat}{k q:Nat}(h:l[k]?=some q):nZ B (l.take (k+1))=nZ B (l.take k)+Dh B q:=by
 unfold nZ
 rw[wh,h,cO,List.sum_append];simp
theorem RE {B:cr}(l:List Nat)(k:Nat):nZ B (l.take k)≤nZ B l:=by
 have h:nZ B l=nZ B (l.take k)+nZ B (l.drop k):=by
  unfold nZ;rw[←List.sum_append,←cO,ql]
 omega
def MC (c x:jq):jq:=⟨c.wt+x.wt,c.code++x.code,.mk c.tree.rule c.tree.lex (c.tree.kids++ [x.tree])⟩
theorem Du {B:cr}{b m k:Nat}{c x:jq}(h:xj b m c)(hx:Dr B k x):xj (b+Dh B k) (m+1) (MC c x):=by
 refine⟨?_,?_,?_,?_,?_,h.rt⟩
 ·show(c.code++x.code).length≤_
  have:=h.len;have:=hx.len
  rw[bN];omega
 ·have h1:=h.wt;have d:=hx.wt
  unfold MB at h1 d⊢
  show-(1000000*((c.code++x.code).length:Int))≤c.wt+x.wt∧c.wt+x.wt≤1000000*((c.code++x.code).length:Int)
  rw[bN];push_cast;omega
 ·intro v a
  rcases cD.1 (show v∈c.code++x.code from a)with a|a
  ·exact h.cd v a
  ·exact hx.cd v a
 ·intro t ht
  rcases cD.1 (show t∈c.tree.kids++ [x.tree]from ht)with ht|ht
  ·exact h.kids t ht
  ·rw[bO]at ht;subst ht;exact⟨hx.thin,hx.rt⟩
 ·show(c.tree.kids++ [x.tree]).length≤_
  have:=h.n
  rw[bN,pc];omega
theorem jY.eta (t:jY):t= .mk t.rule t.lex t.kids:=by cases t;rfl
theorem VY {B:cr}{e b m:Nat}{x:jq}(h:xj b m x)(a:b≤Dh B e)(hm:m≤1000):Dr B e x:=
 ⟨dY h.len a,h.wt,h.cd,by rw[x.tree.eta];exact .mk (dY h.n hm) (λt ht=>(h.kids t ht).1),h.rt⟩
structure uZ (B:cr)(e D:Nat)(c:jH):Prop where
 rk:Dr B e c.rk
 fy:c.fy<rM B e
 len:c.ranks.length=(B.fy e c.fy).kids.length
 rks:∀r∈c.ranks,r≤D
theorem uZ.mono {B:cr}{e D a:Nat}{c:jH}(h:uZ B e D c)(hd:D≤a):uZ B e a c:=⟨h.rk,h.fy,h.len,λr b=>dY (h.rks r b) hd⟩
structure Qq (B:cr)(e:Nat)(x:wD):Prop where
 done:∀k∈x.done,Dr B e k
 next:∀c∈x.next,uZ B e x.done.length c
 dl:x.done.length+l3 B e≤262
 new:x.begun=false→x.done=[]∧x.next=[]
 nl:x.next.length≤rM B e+3*x.done.length
structure jm (B:cr)(st:eA):Prop where
 len:st.length=B.its.length
 nl:∀(e:Nat) (x:wD),st[e]?=some x→Qq B e x
theorem jm.at_ {B:cr}{st:eA}(h:jm B st){e:Nat}(he:e<B.its.length):∃x,st[e]?=some x∧st.getD e nq=x∧Qq B e x:=by
 have a:e<st.length:=by rw[h.len];exact he
 exact⟨st[e],bU a,by rw[aw,bU a];rfl,h.nl e _ (bU a)⟩
theorem jm.set {B:cr}{st:eA}(h:jm B st){e:Nat}{y:wD}(hy:Qq B e y):jm B (st.set e y):=by
 refine⟨by rw[cn];exact h.len,λi x hx=> ?_⟩
 by_cases a:e=i
 ·subst a
  have b:e<st.length:=by have:=(ez.1 hx).1;rwa[cn]at this
  rw[fU b]at hx;obtain rfl:=Option.some.inj hx;exact hy
 ·rw[ig a]at hx;exact h.nl i x hx
def Kp (B:cr)(e:Nat)(st a:eA):Prop:=∀i,l3 B e≤l3 B i→a[i]?=st[i]?
theorem Kp.refl (B:cr)(e:Nat)(st:eA):Kp B e st st:=λ_ _=>rfl
theorem Kp.trans {B:cr}{e:Nat}{a b c:eA}(h:Kp B e a b)(k:Kp B e b c):Kp B e a c:=λi d=>(k i d).trans (h i d)
def Hp (B:cr)(e:Nat)(st a:eA):Prop:=∀i,l3 B e<l3 B i→a[i]?=st[i]?
theorem Hp.refl (B:cr)(e:Nat)(st:eA):Hp B e st st:=λ_ _=>rfl
theorem Hp.trans {B:cr}{e:Nat}{a b c:eA}(h:Hp B e a b)(k:Hp B e b c):Hp B e a c:=λi d=>(k i d).trans (h i d)
theorem Kp.hp {B:cr}{e:Nat}{a b:eA}(h:Kp B e a b):Hp B e a b:=λi c=>h i (Nat.le_of_lt c)
theorem Hp.kp {B:cr}{k e:Nat}{a b:eA}(h:Hp B k a b)(hk:l3 B k<l3 B e):Kp B e a b:=λi c=>h i (fQ hk c)
theorem Hp.set {B:cr}{e:Nat}(st:eA)(y:wD):Hp B e st (st.set e y):=λi a=>ig (λh=>by subst h;omega)
structure sj (B:cr)(f:Nat)(get:eA→Nat→Nat→eA×Option jq):Prop where
 ok:∀(e r:Nat) (st:eA),e<B.its.length→l3 B e<f→r+1+l3 B e≤262→jm B st→jm B (get st e r).1∧Hp B e st (get st e r).1∧∀x,(get st e r).2=some x→Dr B e x
section
variable {B:cr}{f:Nat}{get:eA→Nat→Nat→eA×Option jq}
theorem vH (k r:Nat)(l:List (Nat×Nat))(st:eA)(c:jq):vG get ((k,r)::l) st c=match get st k r with|(st,none)=>(st,none)|(st,some x)=>vG get l st (MC c x):=rfl
theorem O0 (h:sj B f get){e:Nat}(q:l3 B e<f+1):∀(l:List (Nat×Nat)) (st:eA) (c:jq) (b m:Nat),(∀p∈l,p.1<B.its.length∧l3 B p.1<l3 B e∧p.2+l3 B e≤262)→jm B st→xj b m c→
 jm B (vG get l st c).1∧Kp B e st (vG get l st c).1∧∀x,(vG get l st c).2=some x→xj (b+nZ B (l.map Prod.fst)) (m+l.length) x
 | [],st,c,b,m,_,d,g=>⟨d,.refl _ _ _,λx hx=>by obtain rfl:=Option.some.inj hx;exact g⟩
 |(k,r)::l,st,c,b,m,i,d,g=>by
  obtain⟨j,a2,a3⟩:=i (k,r) (aP ..)
  dsimp only at j a2 a3
  obtain⟨h1,a,n⟩:=h.ok k r st j (by omega) (by omega) d;rw[vH]
  rcases o:get st k r with⟨st2,_|x⟩
  ·rw[o]at h1 a
   exact⟨h1,a.kp a2,λx hx=>by cases hx⟩
  ·rw[o]at h1 a n
   dsimp only
   obtain⟨s,t,k3⟩:=O0 h q l st2 (MC c x) (b+Dh B k) (m+1) (λp hp=>i p (cN _ hp)) h1 (Du g (n x rfl));refine⟨s,(a.kp a2).trans t,λy hy=> ?_⟩
   have u:=k3 y hy
   rw[fL,KX,fA];rw[show b+(Dh B k+nZ B (l.map Prod.fst))=b+Dh B k+nZ B (l.map Prod.fst) by omega,show m+(l.length+1)=m+1+l.length by omega];exact u
def XA (B:cr)(e w:Nat):jq:=⟨B.aL.getD (B.fy e w).lex.toNat 0,[1000+(B.fy e w).lex],.mk (B.fy e w).rule (B.fy e w).lex []⟩
def FR (B:cr)(e w:Nat):jq:=⟨B.rules.getD (B.fy e w).rule.toNat 0,[(B.fy e w).rule],.mk (B.fy e w).rule (B.fy e w).lex []⟩
theorem Iy {l:List Int}(h:∀x∈l,-1000000≤x∧x≤1000000)(i:Nat): -1000000≤l.getD i 0∧l.getD i 0≤1000000:=by
 rw[aw]
 cases a:l[i]? with
 |none=>exact⟨by decide,by decide⟩
 |some x=>exact h x (ae a)
theorem Sr (a:o7 B){e w:Nat}(he:e<B.its.length)(hw:w<rM B e)(b:(B.fy e w).rule<0):Dr B e (XA B e w):=by
 obtain⟨h1,g,c⟩:=a.lex e w he hw b
 have d:=a.sz e w he hw
 have h:=Iy a.wx (B.fy e w).lex.toNat
 refine⟨c,?_,?_,.mk (aO _) (λt ht=>by cases ht),d⟩
 ·unfold MB;show-(1000000*((1:Nat):Int))≤B.aL.getD _ 0∧B.aL.getD _ 0≤1000000*((1:Nat):Int);omega
 ·intro v f
  rw[show v=1000+(B.fy e w).lex from bO.1 f];omega
theorem JR (a:o7 B){e w:Nat}(he:e<B.its.length)(hw:w<rM B e)(d:¬(B.fy e w).rule<0):xj 1 0 (FR B e w):=by
 have b:=a.sz e w he hw
 have f:=Iy a.wr (B.fy e w).rule.toNat
 refine⟨aR _,?_,?_,λt ht=>(by cases ht),aO _,b⟩
 ·unfold MB;show-(1000000*((1:Nat):Int))≤B.rules.getD _ 0∧B.rules.getD _ 0≤1000000*((1:Nat):Int);omega
 ·intro v c
  rw[show v=(B.fy e w).rule from bO.1 c];omega
theorem EA {st:eA}{e w:Nat}{ranks:List Nat}(a:(B.fy e w).rule<0):mn B get st e w ranks=(st,some ⟨XA B e w,w,ranks⟩):=by unfold mn;rw[aC a];rfl
theorem yV {st:eA}{e w:Nat}{ranks:List Nat}(a:¬(B.fy e w).rule<0):mn B get st e w ranks=match vG get ((B.fy e w).kids.zip ranks) st (FR B e w)with
 |(st,none)=>(st,none)
 |(st,some x)=>(st,some ⟨x,w,ranks⟩):=by unfold mn;rw[aA a];rfl
theorem Y8 (c:o7 B){e w D:Nat}{ranks:List Nat}(he:e<B.its.length)(hw:w<rM B e)(d:¬(B.fy e w).rule<0)(f:∀r∈ranks,r≤D)(i:D+l3 B e≤262):∀p∈(B.fy e w).kids.zip ranks,p.1<B.its.length∧l3 B p.1<l3 B e∧p.2+l3 B e≤262:=λp hp=>by
 obtain⟨_,_,g,_⟩:=c.rule e w he hw d
 have h1:=List.of_mem_zip (a:=p.1) (b:=p.2) hp
 obtain⟨h,a2⟩:=g p.1 h1.1
 have:=f p.2 h1.2
 exact⟨h,a2,by omega⟩
theorem Ce (g:o7 B)(n:sj B f get){e w D:Nat}{ranks:List Nat}{st:eA}(he:e<B.its.length)(o:l3 B e<f+1)(hw:w<rM B e)(a:ranks.length=(B.fy e w).kids.length)(i:∀r∈ranks,r≤D)(p:D+l3 B e≤262)(j:jm B st):
 jm B (mn B get st e w ranks).1∧Kp B e st (mn B get st e w ranks).1∧∀c,(mn B get st e w ranks).2=some c→uZ B e D c:=by
 by_cases b:(B.fy e w).rule<0
 ·rw[EA b]
  exact⟨j,.refl _ _ _,λc d=>by obtain rfl:=Option.some.inj d;exact⟨Sr g he hw b,hw,a,i⟩⟩
 ·rw[yV b]
  obtain⟨q,s,t,u⟩:=g.rule e w he hw b;obtain⟨h1,h,k⟩:=O0 n o _ st _ 1 0 (Y8 g he hw b i p) j (JR g he hw b)
  rcases l:vG get ((B.fy e w).kids.zip ranks) st (FR B e w)with⟨st2,_|x⟩
  ·rw[l]at h1 h
   exact⟨h1,h,λc d=>by cases d⟩
  ·rw[l]at h1 h k
   refine⟨h1,h,λc d=> ?_⟩;obtain rfl:=Option.some.inj d
   have m:=k x rfl
   rw[List.map_fst_zip (by omega),List.length_zip,a,Nat.min_self]at m;exact⟨VY m (by omega) (by omega),hw,a,i⟩
end
theorem Y6:(prog.info? 69).bind (λi=>i.zero.map Value.cells)=some #[.int .i64 0,.int .i64 0,.slice none 0 0]:=by kernel_rfl
instance:type_of%(rf.mk Y6):=⟨Y6⟩
instance:gu prog 69 0 0:=⟨by kernel_rfl⟩
instance:gu prog 69 1 1:=⟨by kernel_rfl⟩
theorem alH (w:World):cu prog 69 w= .ok #[(0,1),(1,1),(2,1)] w:=by kernel_rfl
theorem pt:(prog.info? 69).map (·.size)=some 3:=by kernel_rfl
instance:type_of%(pd.mk pt):=⟨pt⟩
instance:gu prog 69 2 2:=⟨by kernel_rfl⟩
theorem Zl:aJ prog 28:=⟨_,func28,rfl,by kernel_rfl⟩
theorem Ls:(prog.info? 69).bind (·.zero)=some (Value.agg #[.int .i64 0,.int .i64 0,.slice none 0 0]):=by kernel_rfl
theorem Vm:(prog.info? 69).map (·.bytes)=some 40:=by kernel_rfl
theorem Xk:(prog.info? 44).map (·.size)=some 1:=by kernel_rfl
instance:gu prog 71 0 0:=⟨by kernel_rfl⟩
instance:gu prog 71 1 1:=⟨by kernel_rfl⟩
theorem ZF:aJ prog 101:=⟨_,func101,rfl,by kernel_rfl⟩
theorem vm:(prog.info? 71).map (·.size)=some 5:=by kernel_rfl
instance:type_of%(pd.mk vm):=⟨vm⟩
theorem ji:(prog.info? 196).map (·.size)=some 7:=by kernel_rfl
instance:type_of%(pd.mk ji):=⟨ji⟩
instance:gu prog 196 0 0:=⟨by kernel_rfl⟩
theorem Zr:aJ prog 53:=⟨_,func53,rfl,by kernel_rfl⟩
theorem p9 : y5 prog 202 "Less" 206 false 192 := ⟨by kernel_rfl, by kernel_rfl⟩
theorem pA : y5 prog 202 "Swap" 207 false 192 := ⟨by kernel_rfl, by kernel_rfl⟩
theorem Ml:aJ prog 206:=⟨_,func206,rfl,by kernel_rfl⟩
theorem Mn:aJ prog 207:=⟨_,func207,rfl,by kernel_rfl⟩
theorem qM : y5 prog 202 "Len" 95 false 192 := ⟨by kernel_rfl, by kernel_rfl⟩
theorem RL:aJ prog 95:=⟨_,func95,rfl,by kernel_rfl⟩
theorem UI:aJ prog 131:=⟨_,func131,rfl,by kernel_rfl⟩
theorem K4:(prog.info? 196).bind (λi=>i.zero.map Value.cells)=some #[.int .i64 0,.slice none 0 0,.int .i64 0,.int .i64 0,.slice none 0 0,.int .i64 0,.slice none 0 0]:=by kernel_rfl
instance:type_of%(rf.mk K4):=⟨K4⟩
theorem Ji:(prog.info? 192).map (·.size)=some 1:=by kernel_rfl
theorem Ej : y5 prog 202 "Pop" 208 true 192 := ⟨by kernel_rfl, by kernel_rfl⟩
theorem Zj:aJ prog 208:=⟨_,func208,rfl,by kernel_rfl⟩
theorem C8:(prog.info? 196).bind (·.zero)=some (Value.agg #[.int .i64 0,.slice none 0 0,.int .i64 0,.int .i64 0,.slice none 0 0,.int .i64 0,.slice none 0 0]):=by kernel_rfl
theorem Mf:(prog.info? 196).map (·.bytes)=some 104:=by kernel_rfl
theorem D7 : y5 prog 202 "Push" 209 true 192 := ⟨by kernel_rfl, by kernel_rfl⟩
theorem Zk:aJ prog 209:=⟨_,func209,rfl,by kernel_rfl⟩
theorem ZQ:aJ prog 132:=⟨_,func132,rfl,by kernel_rfl⟩
theorem Zq:aJ prog 52:=⟨_,func52,rfl,by kernel_rfl⟩
instance:gu prog 127 2 2:=⟨by kernel_rfl⟩
theorem V0 (w:World):cu prog 196 w= .ok #[(0,5),(5,1),(6,1)] w:=by kernel_rfl
instance:gu prog 71 2 2:=⟨by kernel_rfl⟩
instance:gu prog 127 1 1:=⟨by kernel_rfl⟩
instance:gu prog 127 0 0:=⟨by kernel_rfl⟩
theorem Y7:(prog.info? 71).bind (λi=>i.zero.map Value.cells)=some #[.int .i64 0,.slice none 0 0,.int .i64 0,.int .i64 0,.slice none 0 0]:=by kernel_rfl
instance:type_of%(rf.mk Y7):=⟨Y7⟩
theorem Zv:aJ prog 93:=⟨_,func93,rfl,by kernel_rfl⟩
instance:gu prog 127 3 3:=⟨by kernel_rfl⟩
theorem Pg:(prog.info? 194).map (·.size)=some 3:=by kernel_rfl
instance:type_of%(pd.mk Pg):=⟨Pg⟩
theorem Iu:bf prog 194 2=some 2:=by kernel_rfl
theorem oy:bf prog 194 1=some 1:=by kernel_rfl
theorem ahT:aJ prog 94:=⟨_,func94,rfl,by kernel_rfl⟩
theorem nH:bf prog 194 0=some 0:=by kernel_rfl
theorem ahU:aJ prog 96:=⟨_,func96,rfl,by kernel_rfl⟩
theorem Ty:(prog.info? 71).bind (·.zero)=some (Value.agg #[.int .i64 0,.slice none 0 0,.int .i64 0,.int .i64 0,.slice none 0 0]):=by kernel_rfl
theorem ZD:(prog.info? 71).map (·.bytes)=some 72:=by kernel_rfl
theorem V8:(prog.info? 190).map (·.size)=some 1:=by kernel_rfl
instance:gu prog 196 2 6:=⟨by kernel_rfl⟩
theorem ahV:aJ prog 97:=⟨_,func97,rfl,by kernel_rfl⟩
instance:gu prog 196 1 5:=⟨by kernel_rfl⟩
theorem ahW:aJ prog 98:=⟨_,func98,rfl,by kernel_rfl⟩
theorem alI (w:World):cu prog 71 w= .ok #[(0,1),(1,1),(2,3)] w:=by kernel_rfl
theorem Ge {a b:Value}(h1:a.oneCell'=true)(c:b.oneCell'=true)(w:World):(Instr.build 196 #[(1,a),(2,b)]).run prog w= .ok (.agg #[.int .i64 0,.slice none 0 0,.int .i64 0,.int .i64 0,.slice none 0 0,a,b]) w:=
 bM K4 (V0 w) (by simp[Instr.fill,J.bJ,J.cells_one h1,J.cells_one c])
theorem B7 {a b:Value}(c:a.oneCell'=true)(h1:b.oneCell'=true)(w:World):(Instr.build 69 #[(0,a),(1,b)]).run prog w= .ok (.agg #[a,b,.slice none 0 0]) w:=
 bM Y6 (alH w) (by simp[Instr.fill,J.bJ,J.cells_one c,J.cells_one h1])
theorem RA (w:World):(Instr.build 196 #[]).run prog w= .ok (.agg #[.int .i64 0,.slice none 0 0,.int .i64 0,.int .i64 0,.slice none 0 0,.int .i64 0,.slice none 0 0]) w:=
 bM K4 (V0 w) (by simp[Instr.fill,J.bJ])
theorem MY (w:World):(Instr.build 71 #[]).run prog w= .ok (.agg #[.int .i64 0,.slice none 0 0,.int .i64 0,.int .i64 0,.slice none 0 0]) w:=
 bM Y7 (alI w) (by simp[Instr.fill,J.bJ])
theorem lA (x:dE):cx x= .mk x.rule x.lex (x.kids.map cx):=by cases x;exact Fm _ _ _ _
theorem AN.kids {x:dE}(h:AN (cx x)):x.kids.length≤1000∧∀y∈x.kids,AN (cx y):=by
 rw[lA]at h
 cases h with
 |mk h k=>exact⟨by rwa[aN]at h,λy hy=>k _ (eN hy)⟩
theorem zq {x y:dE}(h:cx y=cx x):y.rule=x.rule∧y.lex=x.lex:=by
 rw[lA,lA x]at h;exact⟨(jY.mk.injEq ..▸h).1,(jY.mk.injEq ..▸h).2.1⟩
theorem Bk {α β:Type}{f:α→β}{l:List α}{k:Nat}{a:α}(h:l[k]?=some a):(l.take (k+1)).map f=(l.take k).map f++ [f a]:=by
 rw[wh,h,cO];rfl
abbrev kU (x:xL):Value:= .agg #[iv x.wt,x.cv.1,iv x.tree.rule,iv x.tree.lex,x.tree.kv.1]
abbrev E9 (x:kq):Value:= .agg #[iv x.rk.wt,x.rk.cv.1,iv x.rk.tree.rule,iv x.rk.tree.lex,x.rk.tree.kv.1,iv (x.fy:Nat),x.rv.1]
theorem Gh:∀x:dE,dC.wf x→AN (cx x)→dx prog 28 #[uM x] ([br x].map aB) (λv H'=>∃y:dE,v=uM y∧cx y=cx x∧H'=[aB (br y)]):=by
 intro x
 induction x using dE.ind
 rename_i x n
 intro hw g;refine dx.body (args:=[uM x]) 27 func28 rfl ntmps28 rfl (λc=> ?_);refine go ?_;refine St.cast (H':=[aB (br x)]) rfl ?_;obtain⟨C,i⟩:=g.kids;refine St.Ey x ?_;refine St.wf x.kv.1 (λj D=> ?_);refine go ?_;refine St.dK (.mk rfl) rfl (λo=> ?_);refine St.al (λp=> ?_);refine g8 ?_;refine St.ee (Ev.build (bH.aY rfl rfl) (λw=>B7 rfl rfl w)) ?_;refine St.al (λl=> ?_);refine g13 ?_;refine St.e9 69 3 ?_;refine St.aM (.slice none 0 0) (show _=([]:List dE).length from rfl) (show _=rows dC []from rfl) ?_;refine St.dN br ?_;refine St.lH (ι:=Nat×aV×List dE) (λ⟨k,kv,a⟩ T=>(14,iv k)::T) (λ⟨k,kv,a⟩=>[row kv.1 69 3 (a).length (rows dC (a)),aW l (.cells [iv x.rule,iv x.lex,kv.1].toArray 69 (0,0)),aB (aF br a),aB (sl dC x.kv.1 x.kids),aB (aF br x.kids),aW o (.cells (Jm x).toArray 69 (0,0)),aW p (.cells [iv 0,iv 0,(.slice none 0 0)].toArray 69 (0,0))]) (λ⟨k,kv,a⟩=>k≤x.kids.length∧a.map cx=(x.kids.take k).map cx) (λ⟨k,kv,a⟩=>x.kids.length-k) ⟨0,bT,[]⟩ (aD.cons 2 rfl (aD.cons 3 rfl (aD.cons 12 rfl (aD.cons 13 rfl aD.nil)))) ⟨aO _,rfl⟩ ?_;rintro ⟨k,kv,a⟩ ⟨hk,b⟩
 dsimp only at hk b⊢
 have q:a.length≤1000:=by have h:=congrArg List.length b;rw[aN,aN,eR]at h;omega
 refine g6 ?_;refine St.cq (λr=> ?_) (λr=> ?_)
 ·obtain⟨y,hy⟩:=aE (show k<x.kids.length by omega)
  have f:=ae hy
  refine St.cI br x.kids (x:=y) f ?_;refine g7 ?_;refine St.ee (Ev.jr (.mk rfl) hy IB trivial pt j7.eq) ?_;refine St.al (λE=> ?_);refine g3 ?_;refine St.da [aW l (.cells [iv x.rule,iv x.lex,kv.1].toArray 69 (0,0)),row kv.1 69 3 (a).length (rows dC (a))] mixed (λF G=> ?_)
  repeat' first
   |with_reducible refine SW.me ?_
    first
     |refine SW.gd 0 ?_
     |refine SW.gd 2 ?_
     |refine SW.gd 6 ?_
     |refine SW.t2 1 3 ?_ ?_
     |refine SW.t1 3 ?_
     |refine SW.t1 4 ?_
     |refine SW.t1 5 ?_
     |refine SW.t1 7 ?_
     |refine SW.t2 1 4 ?_ ?_
     |refine SW.t1 1 ?_
   |with_reducible refine SW.tg 1 ?_
    refine g3 ?_;refine SW.go ?_
   |with_reducible refine SW.tg 3 ?_
    refine St.ag (n y f (j y f) (i y f)) Zl (.ar rfl) rfl ?_;rintro v21 _ ⟨z,rfl,hz,rfl⟩;refine St.ao ?_;refine g2 ?_;refine SW.go ?_
   |with_reducible refine SW.tg 4 ?_
    refine St.fp rfl (.ar rfl) zw pt Ls rfl rfl (by simp[Value.cells]) rfl rfl (λs=> ?_);refine g2 ?_;refine SW.go ?_
   |with_reducible refine SW.tg 5 ?_
    refine St.aj (.mk rfl) (.mk rfl) zw pt Ls Vm (by intro u hu;exact dC.one z u hu) (by omega) (by omega) rfl rfl rfl rfl (λv23 t=> ?_);refine St.aM v23 (show _=(a++ [z]).length by rw[bN];rfl) (show _=rows dC (a++ [z]) by rw[ax];rfl) ?_;refine St.bZ v23 (λm _=> ?_);refine St.eY (aF br (a++ [z])) [aF br a,br z] (λρ h u hu=>by rcases cD.1 hu with hu|hu;exact h (aF br a) (aP ..) u hu;rw[bO]at hu;subst hu;exact h (br u) (cN _ (aP ..))) ?_;refine g2 ?_;refine SW.go ?_
   |with_reducible refine SW.tg 7 ?_
    refine St.cJ (.mk rfl) (.mk rfl) Xk m (by rfl) ?_;refine g2 ?_;refine SW.go ?_
  all_goals refine SW.dn ?_
  all_goals
   refine g7 ?_;refine St.aH ⟨k+1,⟨v23,m⟩,a++ [z]⟩ ⟨by omega,by rw[cO,b,Bk hy,←hz];rfl⟩
 ·obtain rfl:k=x.kids.length:=by omega
  rw[jl]at b
  obtain⟨⟨d,e⟩,A⟩:∃z,z=kv:=⟨kv,rfl⟩
  subst A;refine St.bR d dC a rfl rfl (λy hy=> ?_) ?_
  ·have hm:cx y∈x.kids.map cx:=by rw[←b];exact eN hy
   obtain⟨u,hu,he⟩:=cy.1 hm;obtain⟨B,e2⟩:=zq he.symm
   have hw:=j u hu
   exact⟨by rw[B];exact hw.1,by rw[e2];exact hw.2⟩
  refine St.eY (br (.mk x.rule x.lex ⟨d,e⟩ a)) [sl dC d a,aF br a] (λρ h=>ot.mk (x:= .mk x.rule x.lex ⟨d,e⟩ a) (h _ (aP ..)) (λy hy=>h (aF br a) (cN _ (aP ..)) y hy)) ?_;refine g8 ?_;refine St.sA (.mk rfl) (.mk rfl) pt ?_ (h1:=(by simp only[List.all_cons,List.all_nil,Bool.and_true,Bool.and_eq_true];exact⟨rfl,rfl,e⟩));refine g3 ?_;refine St.rV [_] [aB (br (.mk x.rule x.lex ⟨d,e⟩ a))] ?_;exact⟨.mk x.rule x.lex ⟨d,e⟩ a,rfl,by rw[lA,lA x,←b];rfl,rfl⟩
theorem xk (x y:xL):eD prog 53 #[kU x,kU y] [sl aI x.cv.1 x.code,sl aI y.cv.1 y.code] (iv (Qb (mV x) (mV y))):=by
 refine eD.nE (args:=[kU x,kU y]) 17 func53 rfl ntmps53 rfl (λc=> ?_);refine g2 ?_;refine St.dK (.mk rfl) rfl (λb=> ?_);refine St.dK (.mk rfl) rfl (λd=> ?_);refine g4 ?_;refine St.qS [] mixed (λe f=> ?_);refine SW.gd 0 ?_;refine SW.gd 1 ?_;refine SW.gd 2 ?_;refine SW.gd 3 ?_;refine SW.dd 4 rfl (λ_=>Ev.call (ea _ _) qE (.aY rfl rfl)) ?_;refine SW.gd 5 ?_;refine SW.gd 6 ?_;refine SW.gd 7 ?_;refine SW.gd 8 ?_;refine SW.dd 9 rfl (λ_=>Ev.call (AJ x.cv.1 y.cv.1 x.code y.code) ZF (.aY rfl rfl)) ?_;refine SW.t1 10 ?_;refine St.fp rfl (.aY rfl rfl) bI dL eQ rfl rfl (by simp[Value.cells]) rfl rfl (λa=> ?_);refine St.aM (.slice (some ⟨a,0,none⟩) 2 2) (show _=([(lg x.wt y.wt),(kO lg x.code y.code)]).length from rfl) (show _=rows aI ([(lg x.wt y.wt),(kO lg x.code y.code)])from rfl) ?_;refine g2 ?_;refine SW.go ?_;refine SW.t1 11 ?_;refine St.ee (Ev.yQ (sq (.slice (some ⟨a,0,none⟩) 2 2) [(lg x.wt y.wt),(kO lg x.code y.code)]) RM (.ar rfl) (dm.row dm.nil rfl rfl rfl (CS (λx hx=>by simp only[List.mem_cons,List.not_mem_nil,or_false]at hx;rcases hx with rfl|rfl;exact oB _ _;exact yX oB _ _)))) ?_;refine g2 ?_;refine SW.go ?_;refine SW.gd 12 ?_;refine SW.dn ?_;refine g2 ?_;refine St.rV [_] [] ?_;exact ie (show si _ (si _ 0)=_ by rw[JH];rfl)
theorem qp (v0:Value)(q:List kq):eD prog 95 #[v0] [sl jM v0 q] (iv (q.length:Nat)):=by
 refine eD.nD (args:=[v0]) 5 func95 rfl ntmps95 rfl (λc=> ?_);refine g13 ?_;refine St.rV [_] [] ?_;exact ie rfl
theorem sH (v0:Value)(q:List kq)(i j:Nat)(x y:kq)(hx:q[i]?=some x)(hy:q[j]?=some y):eD prog 206 #[v0,iv (i:Nat),iv (j:Nat)] [sl jM v0 q,aF hS q] (.bool (decide (Qb (mV x.rk) (mV y.rk)<0))):=by
 refine eD.nE (args:=[v0,iv (i:Nat),iv (j:Nat)]) 19 func206 rfl ntmps206 rfl (λc=> ?_);refine go ?_
 have b:=ah hx
 have a:=ah hy
 refine St.eY (sl aI x.rk.cv.1 x.rk.code) [aF hS q] (λρ h=>h _ (aP ..) x (ae hx) _ (aP ..)) ?_;refine St.eY (sl aI y.rk.cv.1 y.rk.code) [aF hS q] (λρ h=>h _ (aP ..) y (ae hy) _ (aP ..)) ?_;refine g5 ?_;refine St.rq mixed (by kernel_rfl) (Mm.drawn _ _) ?_;refine g4 ?_;refine Sq.ee (Ev.Ea (Rr:=jM) (sz:=5) (.mk rfl) hx IC trivial vm (by decide) (by decide)) ?_;refine Sq.slot 11 (kU x.rk) rfl rfl ?_;refine g4 ?_;refine Sq.ee (Ev.Ea (Rr:=jM) (sz:=5) (.mk rfl) hy IC trivial vm (by decide) (by decide)) ?_;refine Sq.slot 16 (kU y.rk) rfl rfl ?_;refine Sq.ee (Ev.call (xk x.rk y.rk) Zr (.aY rfl rfl)) ?_;refine g5 ?_;refine St.rV [_] [] ?_;rfl
def jJ.wn (x:jJ)(u:aV)(q:List kq):jJ:=⟨x.dv,x.done,u,q,x.begun⟩
theorem u6 {L:List jJ}{e o:Nat}{x:jJ}(h:L[e]?=some x)(a:o<3):(rows fM L)[e*3+o]?=[x.dv.1,x.nv.1,.bool x.begun][o]?:=eL fM L e o x h a
theorem nL {L:List jJ}{e:Nat}{x:jJ}(h:L[e]?=some x):(rows fM L)[e*3+1]?=some x.nv.1:=u6 h (by decide)
theorem pF {α:Type}(Rr:Rp α){l:List α}{i o:Nat}{g b:α}{u:Value}(h:l[i]?=some g)(c:o<Rr.size)(d:(Rr.cells g).set o u=Rr.cells b):(rows Rr l).set (i*Rr.size+o) u=rows Rr (l.set i b):=by
 induction l generalizing i with
 |nil=>cases h
 |cons a l f=>
  cases i with
  |zero=>
   obtain rfl:=Option.some.inj h;rw[Nat.zero_mul,jG,sD]
   show(Rr.cells a++rows Rr l).set o u=Rr.cells b++rows Rr l
   rw[List.set_append_left _ _ (by rw[Rr.len];exact c),d]
  |succ i=>
   have e:(i+1)*Rr.size+o=(Rr.cells a).length+(i*Rr.size+o):=by rw[Rr.len,jd];omega
   rw[wg]
   show(Rr.cells a++rows Rr l).set _ u=Rr.cells a++rows Rr (l.set i b)
   rw[e,lG _ _ (by omega),show(Rr.cells a).length+(i*Rr.size+o)-(Rr.cells a).length=i*Rr.size+o by omega,f h]
theorem oO {L:List jJ}{e:Nat}{x:jJ}(h:L[e]?=some x)(u:aV)(q:List kq):(rows fM L).set (e*3+1) u.1=rows fM (L.set e (x.wn u q)):=pF fM h (by decide) rfl
def rQ (q:List kq)(i j:Nat)(x y:kq):List kq:=(q.set i y).set j x
theorem oU (q:List kq)(i j:Nat)(x y:kq):(rQ q i j x y).length=q.length:=by unfold rQ;rw[cn,cn]
theorem qw {q:List kq}{i:Nat}{x:kq}(h:q[i]?=some x):(q.map iR).getD i Ie=iR x:=by rw[aw,bQ,h];rfl
theorem I3 {q:List kq}{i j:Nat}{x y:kq}(hx:q[i]?=some x)(hy:q[j]?=some y):(rQ q i j x y).map iR=xH (q.map iR) i j:=by
 unfold rQ xH;rw[jk,jk,qw hx,qw hy]
theorem oV {q:List kq}{i j:Nat}{x y u:kq}(hx:q[i]?=some x)(hy:q[j]?=some y)(h:u∈rQ q i j x y):u∈q:=by
 rcases lF h with h|rfl
 ·rcases lF h with h|rfl
  ·exact h
  ·exact ae hy
 ·exact ae hx
theorem HH {q:List kq}{i j:Nat}{x y:kq}(hx:q[i]?=some x)(hy:q[j]?=some y):vK (q.map iR) i j=decide (Qb (mV x.rk) (mV y.rk)<0):=by unfold vK;rw[qw hx,qw hy];rfl
theorem N5 {f i n:Nat}{q:List jH}(h:n≤2*i+1):oE f q i n=q:=by
 cases f with
 |zero=>rfl
 |succ f=>rw[oE,aC h]
theorem N4 {f i n:Nat}{q:List jH}(b:0<f)(h:¬n≤2*i+1)(a:vK q (p6 q i n) i=false):oE f q i n=q:=by
 obtain⟨k,rfl⟩:∃k,f=k+1:=⟨f-1,by omega⟩
 rw[oE,aA h,aC a]
theorem W3 {f i n:Nat}{q:List jH}(b:0<f)(h:¬n≤2*i+1)(a:vK q (p6 q i n) i=true):oE f q i n=oE (f-1) (xH q i (p6 q i n)) (p6 q i n) n:=by
 obtain⟨k,rfl⟩:∃k,f=k+1:=⟨f-1,by omega⟩
 rw[oE,aA h,aA (by rw[a];decide)];rfl
theorem V2 {a:Int}{n:Nat}(b:a=n)(c:n<4611686018427387904):IntKind.i64.wrap (a.tdiv 2)=((n/2:Nat):Int):=by
 subst b
 have h1:((n:Int)).tdiv 2=((n/2:Nat):Int):=by rw[Int.tdiv_eq_ediv_of_nonneg (by omega)];omega
 rw[h1]
 have:n/2≤n:=Nat.div_le_self ..
 exact uT (by omega)
theorem qS (j:Nat)(a:j<4611686018427387904):IntKind.i64.wrap (((j:Int)-1).tdiv 2)=(((j-1)/2:Nat):Int):=by
 by_cases h:j=0
 ·subst h;decide
 ·exact V2 (by omega) (by omega)
theorem Jw {f j:Nat}{q:List jH}(h:(j-1)/2=j∨vK q j ((j-1)/2)=false):Js f q j=q:=by
 cases f with
 |zero=>rfl
 |succ f=>rw[Js,aC h]
theorem afE {f j:Nat}{q:List jH}(b:0<f)(h:(j-1)/2≠j)(a:vK q j ((j-1)/2)=true):Js f q j=Js (f-1) (xH q ((j-1)/2) j) ((j-1)/2):=by
 obtain⟨k,rfl⟩:∃k,f=k+1:=⟨f-1,by omega⟩
 rw[Js,aA (by rw[a];simp[h])];rfl
theorem Nu {n k:Nat}{q:List jH}(h:0<k):td n k q=td n (k-1) (oE n q (k-1) n):=by
 obtain⟨j,rfl⟩:∃j,k=j+1:=⟨k-1,by omega⟩
 rfl
theorem Sf (q:List jH)(i n:Nat):i<p6 q i n:=by unfold p6;split<;>omega
theorem Ci:∀(f:Nat) (q:List jH) (i n:Nat),(oE f q i n).length=q.length
 |0,_,_,_=>rfl
 |f+1,q,i,n=>by
  rw[oE]
  split
  ·rfl
  ·split
   ·rfl
   ·rw[Ci f];unfold xH;rw[cn,cn]
theorem Sg {q:List jH}{i n:Nat}(h:2*i+1<n):p6 q i n<n:=by unfold p6;split<;>omega
theorem sI (v0:Value)(q:List kq)(i j:Nat)(x y:kq)(hx:q[i]?=some x)(hy:q[j]?=some y):dx prog 207 #[v0,iv (i:Nat),iv (j:Nat)] [row v0 196 7 (q).length (rows jM (q))] (λv H'=>v= .tuple #[]∧H'=[row v0 196 7 (rQ q i j x y).length (rows jM (rQ q i j x y))]):=by
 refine dx.body (args:=[v0,iv (i:Nat),iv (j:Nat)]) 20 func207 rfl ntmps207 rfl (λc=> ?_)
 have b:=ah hx
 have a:=ah hy
 refine St.da [row v0 196 7 (q).length (rows jM (q))] mixed (λd e=> ?_)
 repeat' first
  |with_reducible refine SW.me ?_
   first
    |refine SW.gd 0 ?_
    |refine SW.gd 1 ?_
    |refine SW.gd 2 ?_
    |refine SW.gd 3 ?_
    |refine SW.gd 4 ?_
    |refine SW.gd 5 ?_
    |refine SW.gd 8 ?_
    |refine SW.gd 9 ?_
    |refine SW.t2 6 10 ?_ ?_
    |refine SW.t2 7 10 ?_ ?_
    |refine SW.t1 10 ?_
    |refine SW.t1 11 ?_
    |refine SW.t1 12 ?_
    |refine SW.t1 13 ?_
    |refine SW.t1 14 ?_
    |refine SW.t1 15 ?_
    |refine SW.t2 7 11 ?_ ?_
    |refine SW.t1 7 ?_
    |refine SW.t2 6 11 ?_ ?_
    |refine SW.t1 6 ?_
  |with_reducible refine SW.tg 6 ?_
   refine g3 ?_;refine SW.go ?_
  |with_reducible refine SW.tg 7 ?_
   refine St.ee (Ev.vJ (R:=jM) (.mk rfl) hy uQ trivial ji (by omega)) ?_;refine St.slot 13 (E9 y) rfl rfl ?_;refine g2 ?_;refine SW.go ?_
  |with_reducible refine SW.tg 10 ?_
   refine g3 ?_;refine SW.go ?_
  |with_reducible refine SW.tg 11 ?_
   refine St.ee (Ev.vJ (R:=jM) (.mk rfl) hx uQ trivial ji (by omega)) ?_;refine St.slot 17 (E9 x) rfl rfl ?_;refine g2 ?_;refine SW.go ?_
  |with_reducible refine SW.tg 12 ?_
   refine g3 ?_;refine SW.go ?_
  |with_reducible refine SW.tg 13 ?_
   refine St.uJ (Rr:=jM) (show jM.size=7 from rfl) y (.mk rfl) (.mk rfl) ji (by omega) (by omega) ?_;refine g2 ?_;refine SW.go ?_
  |with_reducible refine SW.tg 14 ?_
   refine g3 ?_;refine SW.go ?_
  |with_reducible refine SW.tg 15 ?_
   refine St.uJ (Rr:=jM) (show jM.size=7 from rfl) x (.mk rfl) (.mk rfl) ji (by omega) (by rw[cn];omega) ?_;refine St.aM v0 (show _=(rQ q i j x y).length from(oU ..).symm) (show _=rows jM (rQ q i j x y)from rfl) ?_;refine g2 ?_;refine SW.go ?_
 all_goals refine SW.dn ?_
 all_goals
  refine St.eF ?_;refine St.rV [] [row v0 196 7 (rQ q i j x y).length (rows jM (rQ q i j x y))] ?_;exact⟨rfl,rfl⟩
theorem BD (j m0 k e:Nat)(L:List jJ)(x:jJ)(he:L[e]?=some x)(q:List kq)(P:q.length<4611686018427387904)(i n:Nat)(Q:n≤q.length)(I:i<q.length):dx prog 131 #[.iface 202 (cY (.slice (some ⟨j,0,none⟩) m0 k) 3 e 1),iv (i:Nat),iv (n:Nat)] [row (.slice (some ⟨j,0,none⟩) m0 k) 194 3 (L).length (rows fM (L)),row x.nv.1 196 7 (q).length (rows jM (q)),aB (aF hS (q))] (λv H'=>∃(b:Bool) (p:List kq),v= .bool b∧p.map iR=oE n (q.map iR) i n∧(∀u∈p,u∈q)∧H'=[row (.slice (some ⟨j,0,none⟩) m0 k) 194 3 (L).length (rows fM (L)),row x.nv.1 196 7 (p).length (rows jM (p)),aB (aF hS (p))]):=by
 refine dx.body (args:=[.iface 202 (cY (.slice (some ⟨j,0,none⟩) m0 k) 3 e 1),iv (i:Nat),iv (n:Nat)]) 48 func131 rfl ntmps131 rfl (λc=> ?_);refine go ?_
 have R:=ah he
 refine g12 ?_;refine St.lH (ι:=Nat×Nat×List kq) (λ⟨i1,f1,d⟩ T=>(7,iv i1)::T) (λ⟨i1,f1,d⟩=>[row (.slice (some ⟨j,0,none⟩) m0 k) 194 3 (L).length (rows fM (L)),row x.nv.1 196 7 (d).length (rows jM (d)),aB (aF hS (d))]) (λ⟨i1,f1,d⟩=>i1<d.length∧d.length=q.length∧n≤f1+i1∧oE f1 (d.map iR) i1 n=oE n (q.map iR) i n∧(∀u∈d,u∈q)) (λ⟨i1,f1,d⟩=>n-i1) ⟨i,n,q⟩ (aD.cons 0 rfl (aD.cons 1 rfl (aD.cons 2 rfl (aD.cons 6 rfl aD.nil)))) ⟨I,rfl,by omega,rfl,λ_ h=>h⟩ ?_;rintro ⟨i1,f1,d⟩ ⟨E,F,A,f,y⟩
 dsimp only at E F A f y⊢
 refine g4 ?_;refine St.ee (Ev.mul (.mk rfl) (.mk rfl) (by omega)) ?_;refine go ?_;refine St.slot 14 (iv ((2*i1+1:Nat):Int)) rfl (congrArg iv (by push_cast;omega)) ?_;refine g10 ?_;refine St.gf _ rfl rfl (λG=>Ev.move (.mk rfl)) rfl ?_;refine St.gf _ rfl rfl (λG=>Ev.lss (ai.gv rfl G) (.mk rfl)) rfl ?_;refine g3 ?_;refine St.cq (λJ=> ?_) (λJ=> ?_)
 ·have K:n≤2*i1+1:=by omega
  rw[N5 K]at f;refine g15 ?_;refine St.rV [_] [row (.slice (some ⟨j,0,none⟩) m0 k) 194 3 (L).length (rows fM (L)),row x.nv.1 196 7 (d).length (rows jM (d)),aB (aF hS (d))] ?_;exact⟨_,d,rfl,f,y,rfl⟩
 ·have M:2*i1+1<n:=by omega
  obtain⟨z,hz⟩:=aE E;obtain⟨N,r⟩:=aE (show 2*i1+1<d.length by omega);refine g8 ?_;refine St.join (ι:=Nat) (λg T=>(9,iv g)::T) (λg=>[row (.slice (some ⟨j,0,none⟩) m0 k) 194 3 (L).length (rows fM (L)),row x.nv.1 196 7 (d).length (rows jM (d)),aB (aF hS (d))]) (λg=>g=p6 (d.map iR) i1 n) (aD.cons 0 rfl (aD.cons 1 rfl (aD.cons 2 rfl (aD.cons 6 rfl (aD.cons 7 rfl aD.nil))))) ?_ ?_
  ·refine g4 ?_
   refine St.slot 24 (iv ((2*i1+2:Nat):Int)) rfl (congrArg iv (by push_cast;omega)) ?_;refine g9 ?_;refine St.split 28 _ rfl (λl=> ?_) (λl=> ?_)
   ·have m:2*i1+2<n:=by have:=ei l;omega
    obtain⟨a2,s⟩:=aE (show 2*i1+2<d.length by omega)
    have t:=HH s r
    refine St.cF rfl rfl ?_;refine go ?_;refine St.cF rfl rfl ?_;refine go ?_;refine St.cF rfl rfl ?_;refine go ?_;refine St.cF rfl rfl ?_;refine St.ee (Ev.qx (Recv.row p9 ib trivial (by omega) (nL he)) (sH x.nv.1 d (2*i1+2) (2*i1+1) a2 N s r) Ml (.eh rfl rfl rfl) ((dm.row (dm.aB dm.nil) rfl rfl rfl (λ_ _=>trivial)))) ?_;refine St.ee (Ev.gZ (.mk rfl) rfl (.mk rfl)) ?_;refine g2 ?_;refine St.cond _ rfl (λB=> ?_) (λB=> ?_)
    ·skip
     refine g5 ?_;refine St.mE (2*i1+2) (by unfold p6;rw[aC ⟨m,by rw[t];exact B⟩])
    ·skip
     refine g2 ?_;refine St.mE (2*i1+1) (by unfold p6;rw[aA (λh=>by rw[t,B]at h;exact Bool.noConfusion h.2)])
   ·have m:¬2*i1+2<n:=by have:=iX l;omega
    refine St.bq rfl rfl rfl ?_;refine St.bq rfl rfl rfl ?_;refine St.bq rfl rfl rfl ?_;refine St.bq rfl rfl rfl ?_;refine St.ee (Ev.kR (.mk rfl) rfl (.mk rfl)) ?_;refine g2 ?_;refine St.tG _ rfl rfl ?_;refine g2 ?_;refine St.mE (2*i1+1) (by unfold p6;rw[aA (λh=>m h.1)])
  ·intro g w
   have S:g<n:=by rw[w];exact Sg M
   have U:i1<g:=by rw[w];exact Sf _ _ _
   obtain⟨a,o⟩:=aE (show g<d.length by omega)
   have H:=HH o hz
   refine g6 ?_;refine St.ee (Ev.qx (Recv.row p9 ib trivial (by omega) (nL he)) (sH x.nv.1 d g i1 a z o hz) Ml (.eh rfl rfl rfl) ((dm.row (dm.aB dm.nil) rfl rfl rfl (λ_ _=>trivial)))) ?_;refine g3 ?_;refine St.cond _ rfl (λC=> ?_) (λC=> ?_)
   ·skip
    have D:vK (d.map iR) (p6 (d.map iR) i1 n) i1=false:=by rw[←w,H];simpa using C
    rw[N4 (by omega) (by omega) D]at f;refine g15 ?_;refine St.rV [_] [row (.slice (some ⟨j,0,none⟩) m0 k) 194 3 (L).length (rows fM (L)),row x.nv.1 196 7 (d).length (rows jM (d)),aB (aF hS (d))] ?_;exact⟨_,d,rfl,f,y,rfl⟩
   ·skip
    have D:vK (d.map iR) (p6 (d.map iR) i1 n) i1=true:=by rw[←w,H];simpa using C
    refine g7 ?_;refine St.ivk (Recv.row pA ib trivial (by omega) (nL he)) (sI x.nv.1 d i1 g z a hz o) Mn (.eh rfl rfl rfl) rfl ?_;rintro O _ ⟨rfl,rfl⟩;refine St.ao ?_;refine St.eY (aF hS (rQ d i1 g z a)) [aF hS d] (λρ h u hu=>h (aF hS d) (aP ..) u (oV hz o hu)) ?_;refine g8 ?_;refine St.aH ⟨g,f1-1,rQ d i1 g z a⟩ ⟨by rw[oU];omega,by rw[oU,F],by dsimp only;omega,by rw[I3 hz o,w,←W3 (by omega) (by omega) D];exact f,λu hu=>y u (oV hz o hu)⟩
theorem Tj (g m0 i e:Nat)(L:List jJ)(x:jJ)(he:L[e]?=some x)(q:List kq)(D:q.length<4611686018427387904)(j f0:Nat)(B:j<q.length)(r:j<f0):dx prog 132 #[.iface 202 (cY (.slice (some ⟨g,0,none⟩) m0 i) 3 e 1),iv (j:Nat)] [row (.slice (some ⟨g,0,none⟩) m0 i) 194 3 (L).length (rows fM (L)),row x.nv.1 196 7 (q).length (rows jM (q)),aB (aF hS (q))] (λv H'=>∃(n:List kq),v= .tuple #[]∧n.map iR=Js f0 (q.map iR) j∧(∀u∈n,u∈q)∧H'=[row (.slice (some ⟨g,0,none⟩) m0 i) 194 3 (L).length (rows fM (L)),row x.nv.1 196 7 (n).length (rows jM (n)),aB (aF hS (n))]):=by
 refine dx.body (args:=[.iface 202 (cY (.slice (some ⟨g,0,none⟩) m0 i) 3 e 1),iv (j:Nat)]) 23 func132 rfl ntmps132 rfl (λc=> ?_);refine go ?_
 have E:=ah he
 refine St.lH (ι:=Nat×Nat×List kq) (λ⟨d,f1,b⟩ T=>(1,iv d)::T) (λ⟨d,f1,b⟩=>[row (.slice (some ⟨g,0,none⟩) m0 i) 194 3 (L).length (rows fM (L)),row x.nv.1 196 7 (b).length (rows jM (b)),aB (aF hS (b))]) (λ⟨d,f1,b⟩=>d<b.length∧b.length=q.length∧d<f1∧Js f1 (b.map iR) d=Js f0 (q.map iR) j∧(∀u∈b,u∈q)) (λ⟨d,f1,b⟩=>d) ⟨j,f0,q⟩ (aD.cons 0 rfl aD.nil) ⟨B,rfl,r,rfl,λ_ h=>h⟩ ?_;rintro ⟨d,f1,b⟩ ⟨o,y,s,l,p⟩
 dsimp only at o y s l p⊢
 obtain⟨z,hz⟩:=aE o
 obtain⟨pp,f⟩:∃pp,pp=(d-1)/2:=⟨_,rfl⟩
 have C:pp≤d:=by omega
 obtain⟨a,m⟩:=aE (show pp<b.length by omega)
 have A:=HH hz m
 refine g5 ?_;refine St.ee (Ev.aeX (.mk rfl) (.mk rfl) (by decide)) ?_;refine St.slot 7 (iv (pp:Nat)) rfl (by rw[f];exact congrArg iv (qS d (by omega))) ?_;refine g10 ?_;refine St.split 11 _ rfl (λk=> ?_) (λk=> ?_)
 ·have heq:(d-1)/2=d:=by have:=ei k;omega
  rw[Jw (.inl heq)]at l;refine St.bq rfl rfl rfl ?_;refine St.bq rfl rfl rfl ?_;refine St.bq rfl rfl rfl ?_;refine St.bq rfl rfl rfl ?_;refine St.bq rfl rfl rfl ?_;refine St.ee (Ev.gZ (.mk rfl) rfl (.mk rfl)) ?_;refine g2 ?_;refine St.Ih _ rfl rfl ?_;refine g5 ?_;refine St.eF ?_;refine St.rV [] [row (.slice (some ⟨g,0,none⟩) m0 i) 194 3 (L).length (rows fM (L)),row x.nv.1 196 7 (b).length (rows jM (b)),aB (aF hS (b))] ?_;exact⟨b,rfl,l,p,rfl⟩
 ·have F:(d-1)/2≠d:=by have:=iX k;omega
  refine St.cF rfl rfl ?_;refine go ?_;refine St.cF rfl rfl ?_;refine go ?_;refine St.cF rfl rfl ?_;refine go ?_;refine St.cF rfl rfl ?_;refine St.ee (Ev.qx (Recv.row p9 ib trivial (by omega) (nL he)) (sH x.nv.1 b d pp z a hz m) Ml (.eh rfl rfl rfl) ((dm.row (dm.aB dm.nil) rfl rfl rfl (λ_ _=>trivial)))) ?_;refine St.cF rfl rfl ?_;refine go ?_;refine St.ee (Ev.kR (.mk rfl) rfl (.mk rfl)) ?_;refine g2 ?_;refine St.cond _ rfl (λt=> ?_) (λt=> ?_)
  ·skip
   have w:vK (b.map iR) d pp=false:=by rw[A];simpa using t
   rw[Jw (.inr (by rw[←f];exact w))]at l;refine g5 ?_;refine St.eF ?_;refine St.rV [] [row (.slice (some ⟨g,0,none⟩) m0 i) 194 3 (L).length (rows fM (L)),row x.nv.1 196 7 (b).length (rows jM (b)),aB (aF hS (b))] ?_;exact⟨b,rfl,l,p,rfl⟩
  ·skip
   have w:vK (b.map iR) d pp=true:=by rw[A];simpa using t
   refine g7 ?_;refine St.ivk (Recv.row pA ib trivial (by omega) (nL he)) (sI x.nv.1 b pp d a z m hz) Mn (.eh rfl rfl rfl) rfl ?_;rintro v21 _ ⟨rfl,rfl⟩;refine St.ao ?_;refine St.eY (aF hS (rQ b pp d a z)) [aF hS b] (λρ h u hu=>h (aF hS b) (aP ..) u (oV m hz hu)) ?_;refine g8 ?_;refine St.aH ⟨pp,f1-1,rQ b pp d a z⟩ ⟨by rw[oU];omega,by rw[oU,y],by dsimp only;omega,by rw[I3 m hz,f,←afE (by omega) (by omega) (by rw[←f];exact w)];exact l,λu hu=>p u (oV m hz hu)⟩
theorem Kv (b m0 d e:Nat)(L:List jJ)(x:jJ)(he:L[e]?=some x)(q:List kq)(l:q.length<4611686018427387904):dx prog 94 #[.iface 202 (cY (.slice (some ⟨b,0,none⟩) m0 d) 3 e 1)] [row (.slice (some ⟨b,0,none⟩) m0 d) 194 3 (L).length (rows fM (L)),row x.nv.1 196 7 (q).length (rows jM (q)),aB (aF hS (q))] (λv H'=>∃(f:List kq),v= .tuple #[]∧f.map iR=td q.length (q.length/2) (q.map iR)∧(∀u∈f,u∈q)∧H'=[row (.slice (some ⟨b,0,none⟩) m0 d) 194 3 (L).length (rows fM (L)),row x.nv.1 196 7 (f).length (rows jM (f)),aB (aF hS (f))]):=by
 refine dx.body (args:=[.iface 202 (cY (.slice (some ⟨b,0,none⟩) m0 d) 3 e 1)]) 17 func94 rfl ntmps94 rfl (λc=> ?_);refine go ?_
 have t:=ah he
 refine g2 ?_;refine St.ee (Ev.qx (Recv.row qM ib trivial (by omega) (nL he)) (qp x.nv.1 q) RL (.ar rfl) ((dm.row dm.nil rfl rfl rfl (λ_ _=>trivial)))) ?_;refine g6 ?_;refine St.ee (Ev.aeX (.mk rfl) (.mk rfl) (by decide)) ?_;refine St.slot 7 (iv ((q.length/2:Nat):Int)) rfl (congrArg iv (V2 rfl l)) ?_;refine g5 ?_;refine St.lH (ι:=Nat×List kq) (λ⟨k,a⟩ T=>(3,iv ((k:Int)-1))::T) (λ⟨k,a⟩=>[row (.slice (some ⟨b,0,none⟩) m0 d) 194 3 (L).length (rows fM (L)),row x.nv.1 196 7 (a).length (rows jM (a)),aB (aF hS (a))]) (λ⟨k,a⟩=>k≤q.length/2∧a.length=q.length∧td q.length k (a.map iR)=td q.length (q.length/2) (q.map iR)∧(∀u∈a,u∈q)) (λ⟨k,a⟩=>k) ⟨q.length/2,q⟩ (aD.cons 0 rfl (aD.cons 2 rfl aD.nil)) ⟨aR _,rfl,rfl,λ_ h=>h⟩ ?_;rintro ⟨k,a⟩ ⟨hk,m,g,i⟩
 dsimp only at hk m g i⊢
 refine g7 ?_;refine St.cq (λn=> ?_) (λn=> ?_)
 ·have o:0<k:=by omega
  refine g7 ?_;refine St.slot 14 (iv ((k-1:Nat):Int)) rfl (congrArg iv (by omega)) ?_;refine go ?_;refine St.call (BD b m0 d e L x he a (by omega) (k-1) q.length (by omega) (by omega)) UI (.eh rfl rfl rfl) rfl ?_;rintro p _ ⟨r,f,rfl,j,s,rfl⟩;refine St.iQ ?_;refine g9 ?_;refine St.aH ⟨k-1,f⟩ ⟨by dsimp only;omega,by have h:=congrArg List.length j;rw[aN,Ci,aN]at h;dsimp only;omega,by dsimp only;rw[j,←Nu (by omega)];exact g,λu hu=>i u (s u hu)⟩
 ·obtain rfl:k=0:=by omega
  refine g4 ?_;refine St.eF ?_;refine St.rV [] [row (.slice (some ⟨b,0,none⟩) m0 d) 194 3 (L).length (rows fM (L)),row x.nv.1 196 7 (a).length (rows jM (a)),aB (aF hS (a))] ?_;exact⟨a,rfl,g,i,rfl⟩
theorem KI (b m0 d e:Nat)(L:List jJ)(x:jJ)(he:L[e]?=some x)(q:List kq)(g:q.length<4611686018427387904)(z:kq)(hz:q[q.length-1]?=some z):dx prog 208 #[cY (.slice (some ⟨b,0,none⟩) m0 d) 3 e 1] [row (.slice (some ⟨b,0,none⟩) m0 d) 194 3 (L).length (rows fM (L)),row x.nv.1 196 7 (q).length (rows jM (q))] (λv H'=>∃u:aV,v= .iface 196 (E9 z)∧H'=[row (.slice (some ⟨b,0,none⟩) m0 d) 194 3 (L.set e (x.wn u (q.take (q.length-1)))).length (rows fM (L.set e (x.wn u (q.take (q.length-1))))),row u.1 196 7 (q.take (q.length-1)).length (rows jM (q.take (q.length-1)))]):=by
 refine dx.body (args:=[cY (.slice (some ⟨b,0,none⟩) m0 d) 3 e 1]) 23 func208 rfl ntmps208 rfl (λc=> ?_);refine go ?_
 have i:=ah he
 have f:=ah hz
 refine g7 ?_;refine St.ee (Ev.kf rfl (.mk rfl)) ?_;refine St.ee (Ev.ct (.mk rfl) ib trivial (by omega) (nL he)) ?_;refine g9 ?_;refine St.slot 11 (iv ((q.length-1:Nat):Int)) rfl (congrArg iv (by omega)) ?_;refine St.ee (Ev.dX (k:=(q.length-1)) (.mk rfl) (.mk rfl) ib ji (by omega) (by omega)) ?_;refine St.ee (Ev.vJ (R:=jM) (.mk rfl) hz uQ trivial ji (by omega)) ?_;refine St.slot 13 (E9 z) rfl rfl ?_;refine St.al (λj=> ?_);refine St.sA (.mk rfl) (.mk rfl) ji ?_ (h1:=(eW.2 λu hu=>jM.one z u hu));refine g9 ?_;refine St.slot 18 (iv ((q.length-1:Nat):Int)) rfl (congrArg iv (by omega)) ?_;refine St.ee (Ev.pG (h:=(q.length-1)) (.mk rfl) (.mk rfl) ib ji rfl (by omega)) ?_;refine St.DH x.nv.1 (q.length-1) (by omega) ?_;refine St.aM (pH x.nv.1 7 0 (q.length-1)) (show _=(q.take (q.length-1)).length by rw[eR];omega) (show _=rows jM (q.take (q.length-1))from vW jM q _) ?_;refine St.bZ (pH x.nv.1 7 0 (q.length-1)) (λa _=> ?_);refine St.ee (Ev.kf rfl (.mk rfl)) ?_;refine St.cG (.mk rfl) (.mk rfl) Ji a (by omega) (by decide) ?_;refine St.aM (.slice (some ⟨b,0,none⟩) m0 d) (show _=(L.set e (x.wn ⟨pH x.nv.1 7 0 (q.length-1),a⟩ (q.take (q.length-1)))).length by rw[cn]) (show _=rows fM (L.set e (x.wn ⟨pH x.nv.1 7 0 (q.length-1),a⟩ (q.take (q.length-1))))from oO he ⟨_,a⟩ _) ?_;refine g5 ?_;refine St.slot 21 (E9 z) rfl rfl ?_;refine St.ee (Ev.iface (.mk rfl) uQ trivial) ?_;refine g4 ?_;refine St.rV [_] [row (.slice (some ⟨b,0,none⟩) m0 d) 194 3 (L.set e (x.wn ⟨pH x.nv.1 7 0 (q.length-1),a⟩ (q.take (q.length-1)))).length (rows fM (L.set e (x.wn ⟨pH x.nv.1 7 0 (q.length-1),a⟩ (q.take (q.length-1))))),row (pH x.nv.1 7 0 (q.length-1)) 196 7 (q.take (q.length-1)).length (rows jM (q.take (q.length-1)))] ?_;exact⟨⟨_,a⟩,rfl,rfl⟩
theorem Kr (d m0 f e:Nat)(L:List jJ)(x:jJ)(he:L[e]?=some x)(q:List kq)(o:q.length<4611686018427387904)(m:0<q.length):dx prog 96 #[.iface 202 (cY (.slice (some ⟨d,0,none⟩) m0 f) 3 e 1)] [row (.slice (some ⟨d,0,none⟩) m0 f) 194 3 (L).length (rows fM (L)),row x.nv.1 196 7 (q).length (rows jM (q)),aB (aF hS (q))] (λv H'=>∃(u:aV) (a:List kq) (z:kq),v= .iface 196 (E9 z)∧a.map iR=pC (q.map iR)∧a[q.length-1]?=some z∧(∀u∈a,u∈q)∧H'=[row (.slice (some ⟨d,0,none⟩) m0 f) 194 3 (L.set e (x.wn u (a.take (q.length-1)))).length (rows fM (L.set e (x.wn u (a.take (q.length-1))))),row u.1 196 7 (a.take (q.length-1)).length (rows jM (a.take (q.length-1))),aB (aF hS a)]):=by
 refine dx.body (args:=[.iface 202 (cY (.slice (some ⟨d,0,none⟩) m0 f) 3 e 1)]) 15 func96 rfl ntmps96 rfl (λc=> ?_);refine go ?_
 have p:=ah he
 obtain⟨y,hy⟩:=aE m;obtain⟨w,hw⟩:=aE (show q.length-1<q.length by omega)
 obtain⟨b,g⟩:∃b,b=rQ q 0 (q.length-1) y w:=⟨_,rfl⟩
 have r:b.length=q.length:=by rw[g,oU]
 have i:b.map iR=xH (q.map iR) 0 (q.length-1):=by rw[g];exact I3 hy hw
 refine g7 ?_;refine St.ee (Ev.qx (Recv.row qM ib trivial (by omega) (nL he)) (qp x.nv.1 q) RL (.ar rfl) ((dm.row dm.nil rfl rfl rfl (λ_ _=>trivial)))) ?_;refine go ?_;refine St.slot 6 (iv ((q.length-1:Nat):Int)) rfl (congrArg iv (by omega)) ?_;refine g7 ?_;refine St.ivk (Recv.row pA ib trivial (by omega) (nL he)) (sI x.nv.1 q 0 (q.length-1) y w hy hw) Mn (.eh rfl rfl rfl) rfl ?_;rintro v9 _ ⟨rfl,rfl⟩;refine St.ao ?_;refine St.eY (aF hS b) [aF hS q] (λρ h u hu=>h (aF hS q) (aP ..) u (oV hy hw (by rw[←g];exact hu))) ?_;refine St.aM x.nv.1 (show _=b.length by rw[g]) (show _=rows jM b by rw[g]) ?_;refine g6 ?_;refine St.call (BD d m0 f e L x he b (by omega) 0 (q.length-1) (by omega) (by omega)) UI (.eh rfl rfl rfl) rfl ?_;rintro v12 _ ⟨s,a,rfl,l,j,rfl⟩;refine St.iQ ?_
 have k:a.length=q.length:=by have h:=congrArg List.length l;rw[aN,Ci,aN]at h;omega
 obtain⟨z,hz⟩:=aE (show q.length-1<a.length by omega);rw[show q.length-1=a.length-1 by omega]at hz;refine g5 ?_;refine St.ivk (Recv.ptr Ej) (KI d m0 f e L x he a (by omega) z hz) Zj (.ar rfl) rfl ?_;rintro n _ ⟨u,rfl,rfl⟩;refine St.dQ ?_;refine g4 ?_;refine St.rV [_] [row (.slice (some ⟨d,0,none⟩) m0 f) 194 3 (L.set e (x.wn u (a.take (a.length-1)))).length (rows fM (L.set e (x.wn u (a.take (a.length-1))))),row u.1 196 7 (a.take (a.length-1)).length (rows jM (a.take (a.length-1))),aB (aF hS a)] ?_;rw[k]at hz⊢;exact⟨u,a,z,rfl,by rw[l,i];unfold pC;rw[aN],hz,λu hu=>by have h:=j u hu;rw[g]at h;exact oV hy hw h,rfl⟩
theorem GN (a m0 b e:Nat)(L:List jJ)(x:jJ)(he:L[e]?=some x)(q:List kq)(g:q.length≤1200000000000)(z:kq):dx prog 209 #[cY (.slice (some ⟨a,0,none⟩) m0 b) 3 e 1,.iface 196 (E9 z)] [row (.slice (some ⟨a,0,none⟩) m0 b) 194 3 (L).length (rows fM (L)),row x.nv.1 196 7 (q).length (rows jM (q))] (λv H'=>∃u:aV,v= .tuple #[]∧H'=[row (.slice (some ⟨a,0,none⟩) m0 b) 194 3 (L.set e (x.wn u (q++ [z]))).length (rows fM (L.set e (x.wn u (q++ [z])))),row u.1 196 7 (q++ [z]).length (rows jM (q++ [z]))]):=by
 refine dx.body (args:=[cY (.slice (some ⟨a,0,none⟩) m0 b) 3 e 1,.iface 196 (E9 z)]) 13 func209 rfl ntmps209 rfl (λc=> ?_)
 have h:=ah he
 refine St.da [row (.slice (some ⟨a,0,none⟩) m0 b) 194 3 (L).length (rows fM (L)),row x.nv.1 196 7 (q).length (rows jM (q))] mixed (λi j=> ?_)
 repeat' first
  |with_reducible refine SW.me ?_
   first
    |refine SW.gd 0 ?_
    |refine SW.gd 1 ?_
    |refine SW.gd 4 ?_
    |refine SW.dd 5 rfl (λ_=>Ev.assert (.mk rfl) uQ trivial) ?_
     refine SW.slot 9 (E9 z) rfl rfl ?_
    |refine SW.t2 2 6 ?_ ?_
    |refine SW.t2 3 6 ?_ ?_
    |refine SW.t1 6 ?_
    |refine SW.t1 7 ?_
    |refine SW.t1 8 ?_
    |refine SW.t1 9 ?_
    |refine SW.t1 3 ?_
    |refine SW.t1 2 ?_
  |with_reducible refine SW.tg 2 ?_
   refine St.ee (Ev.kf rfl (.mk rfl)) ?_;refine g2 ?_;refine SW.go ?_
  |with_reducible refine SW.tg 3 ?_
   refine St.ee (Ev.ct (.mk rfl) ib trivial (by omega) (nL he)) ?_;refine g2 ?_;refine SW.go ?_
  |with_reducible refine SW.tg 6 ?_
   refine St.fp rfl (.ar rfl) ib ji C8 rfl rfl (by simp[Value.cells]) rfl rfl (λk=> ?_);refine g2 ?_;refine SW.go ?_
  |with_reducible refine SW.tg 7 ?_
   refine St.aj (.mk rfl) (.mk rfl) ib ji C8 Mf (by intro u hu;exact jM.one z u hu) (by omega) (by omega) rfl rfl rfl rfl (λv11 f=> ?_);refine St.aM v11 (show _=(q++ [z]).length by rw[bN];rfl) (show _=rows jM (q++ [z]) by rw[ax];rfl) ?_;refine St.bZ v11 (λd _=> ?_);refine g2 ?_;refine SW.go ?_
  |with_reducible refine SW.tg 8 ?_
   refine St.ee (Ev.kf rfl (.mk rfl)) ?_;refine g2 ?_;refine SW.go ?_
  |with_reducible refine SW.tg 9 ?_
   refine St.cG (.mk rfl) (.mk rfl) Ji d (by omega) (by decide) ?_;refine St.aM (.slice (some ⟨a,0,none⟩) m0 b) (show _=(L.set e (x.wn ⟨v11,d⟩ (q++ [z]))).length by rw[cn]) (show _=rows fM (L.set e (x.wn ⟨v11,d⟩ (q++ [z])))from oO he ⟨_,d⟩ _) ?_;refine g2 ?_;refine SW.go ?_
 all_goals refine SW.dn ?_
 all_goals
  refine St.eF ?_;refine St.rV [] [row (.slice (some ⟨a,0,none⟩) m0 b) 194 3 (L.set e (x.wn ⟨v11,d⟩ (q++ [z]))).length (rows fM (L.set e (x.wn ⟨v11,d⟩ (q++ [z])))),row v11 196 7 (q++ [z]).length (rows jM (q++ [z]))] ?_;exact⟨⟨_,d⟩,rfl,rfl⟩
theorem St.ae0 {n:Nat}{F:Fr}{c:Ctx}{H:List ak}{T:Act→World→Prop}{α:Type}{Rr:Rp α}{xs:List α}(v:Value)[hd:sG v H α Rr xs](h:∀ad cap,v= .slice ad xs.length cap→(ad=none→xs.length=0)→St n F (Mm c H) T):St n F (Mm c H) T:=by
 intro a w f hw;obtain⟨ρ,hm⟩:=hw.out;obtain⟨ad,cap,g,_,_,_,d⟩:=hm.sl hd;refine h ad cap g (λi=> ?_) a w f hw;subst i
 rcases d with d|⟨b,o,C,e,fr,d,_⟩
 ·simpa using d
 ·cases d
theorem HS {L:List jJ}{e:Nat}{x:jJ}(he:L[e]?=some x)(u:aV)(q r:List kq):rows fM (L.set e (x.wn u q))=rows fM (L.set e (x.wn u r)):=by rw[←oO he u q,←oO he u r]
theorem H5 (b m0 d e:Nat)(L:List jJ)(x:jJ)(he:L[e]?=some x)(q:List kq)(g:q.length≤1200000000000)(z:kq):dx prog 98 #[.iface 202 (cY (.slice (some ⟨b,0,none⟩) m0 d) 3 e 1),.iface 196 (E9 z)] [row (.slice (some ⟨b,0,none⟩) m0 d) 194 3 (L).length (rows fM (L)),row x.nv.1 196 7 (q).length (rows jM (q)),aB (aF hS (q)),aB (hS z)] (λv H'=>∃(u:aV) (a:List kq),v= .tuple #[]∧a.map iR=Ak (q.map iR) (iR z)∧(∀w∈a,w∈q∨w=z)∧H'=[row (.slice (some ⟨b,0,none⟩) m0 d) 194 3 (L.set e (x.wn u (a))).length (rows fM (L.set e (x.wn u (a)))),row u.1 196 7 (a).length (rows jM (a)),aB (aF hS a)]):=by
 refine dx.body (args:=[.iface 202 (cY (.slice (some ⟨b,0,none⟩) m0 d) 3 e 1),.iface 196 (E9 z)]) 12 func98 rfl ntmps98 rfl (λc=> ?_);refine go ?_
 have i:=ah he
 refine St.eY (aF hS (q++ [z])) [aF hS q,hS z] (λρ h u hu=>by rcases cD.1 hu with hu|hu;exact h (aF hS q) (aP ..) u hu;rw[bO]at hu;subst hu;exact h (hS u) (cN _ (aP ..))) ?_;refine g3 ?_;refine St.ivk (Recv.ptr D7) (GN b m0 d e L x he q g z) Zk (.aY rfl rfl) rfl ?_;rintro v6 _ ⟨u,rfl,rfl⟩;refine St.dQ ?_
 have f:(L.set e (x.wn u (q++ [z])))[e]?=some (x.wn u (q++ [z])):=fU i
 have j:(L.set e (x.wn u (q++ [z]))).length=L.length:=cn
 refine g2 ?_;refine St.cast (H':=[row (.slice (some ⟨b,0,none⟩) m0 d) 194 3 (L.set e (x.wn u (q++ [z]))).length (rows fM (L.set e (x.wn u (q++ [z])))),row (x.wn u (q++ [z])).nv.1 196 7 (q++ [z]).length (rows jM (q++ [z])),aB (aF hS (q++ [z])),aB (aF hS q),aB (hS z)]) rfl ?_;refine g3 ?_;refine St.ee (Ev.qx (Recv.row qM ib trivial (by omega) (nL f)) (qp (x.wn u (q++ [z])).nv.1 (q++ [z])) RL (.ar rfl) ((dm.row dm.nil rfl rfl rfl (λ_ _=>trivial)))) ?_;refine St.ee (Ev.sub (.mk rfl) (.mk rfl) (by rw[bN,pc];omega)) ?_;refine St.slot 10 (iv ((q.length:Nat):Int)) rfl (congrArg iv (by rw[bN,pc];omega)) ?_;refine St.call (Tj b m0 d e (L.set e (x.wn u (q++ [z]))) (x.wn u (q++ [z])) f (q++ [z]) (by rw[bN,pc];omega) q.length (q.length+1) (by rw[bN,pc];omega) (by omega)) ZQ (.aY rfl rfl) rfl ?_;rintro v11 _ ⟨a,rfl,k,l,rfl⟩;refine St.iQ ?_;refine St.aM (.slice (some ⟨b,0,none⟩) m0 d) (show _=(L.set e (x.wn u (a))).length by rw[cn,cn]) (show _=rows fM (L.set e (x.wn u (a)))from HS he u _ _) ?_;refine St.cast (H':=[row (.slice (some ⟨b,0,none⟩) m0 d) 194 3 (L.set e (x.wn u (a))).length (rows fM (L.set e (x.wn u (a)))),row u.1 196 7 (a).length (rows jM (a)),aB (aF hS a),aB (aF hS q),aB (hS z)]) rfl ?_;refine go ?_;refine St.eF ?_;refine St.rV [] [row (.slice (some ⟨b,0,none⟩) m0 d) 194 3 (L.set e (x.wn u (a))).length (rows fM (L.set e (x.wn u (a)))),row u.1 196 7 (a).length (rows jM (a)),aB (aF hS a)] ?_;exact⟨u,a,rfl,by rw[k,cO];unfold Ak;rw[aN];rfl,λw hw=>by rcases cD.1 (l w hw)with h|h;exact .inl h;exact .inr (bO.1 h),rfl⟩
theorem Dk (v0:Value)(l:List Int)(j:l.length≤1000000):dx prog 97 #[v0] ([sl aI v0 l].map aB) (λv H'=>∃u:aV,v=u.1∧H'=[row u.1 3 1 l.length (rows aI l)]):=by
 refine dx.body (args:=[v0]) 8 func97 rfl ntmps97 rfl (λc=> ?_);refine St.cast (H':=[aB (sl aI v0 l)]) rfl ?_;refine go ?_;refine St.ae0 v0 (λad cap e f=> ?_);subst e;refine g8 ?_;refine St.ee (Ev.slnil (.mk rfl) bI) ?_;refine g2 ?_;refine St.cond _ rfl (λd=> ?_) (λd=> ?_)
 ·skip
  have g:l=[]:=lD (f (by cases ad with|none=>rfl|some a=>cases d))
  subst g;refine g7 ?_;refine St.e9 3 1 ?_;refine St.rV [_] [row (.slice none 0 0) 3 1 0 []] ?_;exact⟨bT,rfl,rfl⟩
 ·skip
  skip
  refine g4 ?_;refine St.fp rfl (.nil) bI dL eQ rfl rfl (by simp[Value.cells]) rfl rfl (λk=> ?_);refine go ?_;refine St.yI (.mk rfl) (.mk rfl) bI dL eQ xO (zR _ _) (by omega) (by omega) rfl rfl trivial rfl (λb h=> ?_);refine St.aM b (show _=l.length by rw[jG]) (show _=rows aI l from rfl) ?_;refine St.bZ b (λi _=> ?_);refine St.cast (H':=[row b 3 1 l.length (rows aI l),aB (sl aI (.slice ad l.length cap) l)]) rfl ?_;refine g4 ?_;refine St.rV [_] [row b 3 1 l.length (rows aI l)] ?_;exact⟨⟨b,i⟩,rfl,rfl⟩
theorem qD (x:dD)(nt nf:Nat)(a:nf≤100)(hx:e7 nt nf (ay x))(b:x.nodes.length≤120):dx prog 106 #[bA x] ([aG x].map aB) (λv H'=>H'=[aB (bK (gl (ay x) 0) v)]):=by
 refine dx.body (args:=[bA x]) 5 func106 rfl ntmps106 rfl (λc=> ?_);refine St.cast (H':=[aB (aG x)]) rfl ?_;refine go ?_
 have e:=cz x
 have d:=gP hx a
 have f:=hx.pos
 refine go ?_;refine St.dK (.mk rfl) rfl (λg=> ?_);refine St.al (λh=> ?_);refine g5 ?_;refine St.slot 3 (bA x) rfl rfl ?_;refine St.ag (ub x hx.lk b (λt ht=>by have:=(d t ht).2;omega) 0 (by omega)) Mk (.aY rfl rfl) rfl ?_;rintro v4 _ rfl;refine St.ao ?_;refine St.bK (gl (ay x) 0) v4 (λy hy=> ?_);obtain⟨rfl,i⟩:=hy;refine g4 ?_;refine St.rV [_] [aB (bK (gl (ay x) 0) (bA y))] ?_;exact rfl
theorem Ah (n:Nat)(d:n≤12)(m:Nat)(hm:m=n*(n+1)):dx prog 89 #[iv (n:Nat)] [] (λv H'=>∃u:aV,v= .agg #[iv (n:Nat),u.1]∧H'=[row u.1 58 1 (List.replicate m bT).length (rows bS (List.replicate m bT))]):=by
 refine dx.body (args:=[iv (n:Nat)]) 10 func89 rfl ntmps89 rfl (λc=> ?_);refine go ?_
 have a:((n:Nat):Int)*(((n:Nat):Int)+1)=(m:Nat):=by rw[hm];push_cast;rfl
 have e:m≤156:=by rw[hm];exact dY (Nat.mul_le_mul (show n≤12 by omega) (show n+1≤13 by omega)) (by decide)
 refine go ?_;refine St.al (λf=> ?_);refine g8 ?_;refine St.ee (Ev.mul (.mk rfl) (.mk rfl) (by rw[a];omega)) ?_;refine St.slot 7 (iv (m:Nat)) rfl (congrArg iv a) ?_;refine St.nJ (Rr:=bS) (g:=bT) (m:=m) (sz:=1) rfl (.mk rfl) (.mk rfl) fJ fE kJ ag1 rfl rfl (by omega) rfl rfl (λb=> ?_);refine St.aM (.slice (some ⟨b,0,none⟩) m m) (show _=(List.replicate m bT).length by rw[kG]) rfl ?_;refine St.ee (Ev.build (bH.aY rfl rfl) (λw=>Gd rfl rfl w)) ?_;refine g4 ?_;refine St.rV [_] [row (.slice (some ⟨b,0,none⟩) m m) 58 1 (List.replicate m bT).length (rows bS (List.replicate m bT))] ?_;exact⟨⟨(.slice (some ⟨b,0,none⟩) m m),rfl⟩,rfl,rfl⟩
def xA (c:Nat→Nat→Nat)(tqo:Nat):Nat→Nat→Nat
 |0,_=>1
 |l+1,en=>lT c tqo l en
def nj (l a tqo:Nat):Nat:=if l=0 then tqo else a+1
def rK (l a tqo:Nat):Nat:=if l=0 then 1 else tqo-l-a
def tM (Q:Qr)(rule frm tqo l:Nat)(x:dz)(kids:List Nat)(en:Nat)(cs:Cs)(e:Nat):Cs:=match lO Q cs rule x (kids.length+1) e with
 |none=>cs
 |some y=>match l with
  |0=>kZ Q.n cs ⟨frm,tqo,0,lu y⟩ ⟨rule,0,kids++ [e]⟩
  |l+1=>uw Q rule frm tqo l cs y (kids++ [e]) en
def Kc (Q:Qr)(rule frm tqo l:Nat)(x:dz)(kids:List Nat)(a:Nat)(cs:Cs)(en:Nat):Cs:=(cs.at_ Q.n a en).foldl (tM Q rule frm tqo l x kids en) cs
theorem Im (Q:Qr)(rule frm tqo l:Nat)(cs:Cs)(x:dz)(kids:List Nat)(a:Nat):uw Q rule frm tqo l cs x kids a=(List.range' (nj l a tqo) (rK l a tqo)).foldl (Kc Q rule frm tqo l x kids a) cs:=by
 cases l with
 |zero=>rfl
 |succ l=>rfl
theorem Re (c:Nat→Nat→Nat)(tqo l a:Nat):lT c tqo l a=((List.range' (nj l a tqo) (rK l a tqo)).map λen=>c a en*xA c tqo l en).sum:=by
 cases l with
 |zero=>show c a tqo=(([tqo].map λen=>c a en*1)).sum;simp
 |succ l=>rfl
theorem Ck {l a tqo i:Nat}(c:a<tqo)(b:i<rK l a tqo):a<nj l a tqo+i∧nj l a tqo+i≤tqo∧(l=0→nj l a tqo+i=tqo)∧(1≤l→nj l a tqo+i<tqo):=by
 unfold nj rK at*
 by_cases h:l=0
 ·rw[aC h]at b⊢;omega
 ·rw[aA h]at b⊢;omega
theorem EJ {nt nf:Nat}{Q:Qr}(d:Q.n≤12)(f:y8 nt Q.mt){rule frm tqo:Nat}(g:frm<tqo)(ht:tqo≤Q.n)(c:Nat→Nat→Nat){l:Nat}{cs:Cs}{x:dz}{kids:List Nat}{m en e:Nat}(a:ik nt nf Q.n frm tqo c m cs)(hx:e7 nt nf x)(h:frm<en∧(1≤l→en<tqo))(hk:∀k∈kids,k<cs.its.length)(he:e<cs.its.length):
 ik nt nf Q.n frm tqo c m (tM Q rule frm tqo l x kids en cs e)∧Grow Q.n frm tqo cs (tM Q rule frm tqo l x kids en cs e) (xA c tqo l en):=by
 unfold tM
 cases hy:lO Q cs rule x (kids.length+1) e with
 |none=>exact⟨a,(Grow.refl ..).mono (aO _)⟩
 |some y=>
  dsimp only
  obtain⟨i,p,_⟩:=vp f a.ok hx he hy
  have j:∀k∈kids++ [e],k<cs.its.length:=λk b=>by
   rcases cD.1 b with b|b
   ·exact hk k b
   ·rw[bO.1 b];exact he
  cases l with
  |zero=>
   obtain⟨m1,m2⟩:=qP i p;obtain⟨q,a2⟩:=yF d a.ok (e:=⟨frm,tqo,0,lu y⟩) (w:=⟨rule,0,kids++ [e]⟩) ⟨g,ht,aO _,m1,m2⟩ j;exact⟨a.grow q a2 ht,a2⟩
  |succ l=>
   have r:ik nt nf Q.n frm tqo c cs.its.length cs:=⟨a.ok,a.len,aR _⟩
   obtain⟨o,e2⟩:=yh d f g ht c l cs y (kids++ [e]) en _ r i (.inl h.1) (h.2 (by omega)) j;exact⟨⟨o.ok,o.len,dY a.BF e2.more⟩,e2⟩
theorem BE {nt nf:Nat}{Q:Qr}(g:Q.n≤12)(h:y8 nt Q.mt){rule frm tqo:Nat}(i:frm<tqo)(ht:tqo≤Q.n)(c:Nat→Nat→Nat){l:Nat}{cs:Cs}{x:dz}{kids:List Nat}{m en:Nat}(j:ik nt nf Q.n frm tqo c m cs)(hx:e7 nt nf x)(o:frm<en∧(1≤l→en<tqo))(hk:∀k∈kids,k<cs.its.length)(L:List Nat)(p:∀e∈L,e<cs.its.length):
 ik nt nf Q.n frm tqo c m (L.foldl (tM Q rule frm tqo l x kids en) cs)∧Grow Q.n frm tqo cs (L.foldl (tM Q rule frm tqo l x kids en) cs) (L.length*xA c tqo l en):=by
 have:=iJ (n:=Q.n) (frm:=frm) (tqo:=tqo) (tM Q rule frm tqo l x kids en) (λ_=>xA c tqo l en) (λfg=>ik nt nf Q.n frm tqo c m fg∧cs.its.length≤fg.its.length) L cs ⟨j,aR _⟩ (λq e he ⟨h1,d⟩=>by
  obtain⟨a,b⟩:=EJ g h i ht c (l:=l) (rule:=rule) h1 hx o (λk f=>fQ (hk k f) d) (fQ (p e he) d)
  exact⟨⟨a,dY d b.more⟩,b⟩)
 rw[jh]at this;exact⟨this.1.1,this.2⟩
theorem N7 {nt nf:Nat}{Q:Qr}(g:Q.n≤12)(i:y8 nt Q.mt){rule frm tqo:Nat}(j:frm<tqo)(ht:tqo≤Q.n)(c:Nat→Nat→Nat){l a:Nat}{cs:Cs}{x:dz}{kids:List Nat}{m:Nat}(o:ik nt nf Q.n frm tqo c m cs)(hx:e7 nt nf x)(u:frm<a∨(a=frm∧1≤l))(hk:∀k∈kids,k<cs.its.length)(E:List Nat)(p:∀en∈E,a<en∧en≤tqo∧(1≤l→en<tqo)):
 ik nt nf Q.n frm tqo c m (E.foldl (Kc Q rule frm tqo l x kids a) cs)∧Grow Q.n frm tqo cs (E.foldl (Kc Q rule frm tqo l x kids a) cs) ((E.map λen=>c a en*xA c tqo l en).sum):=by
 have:=iJ (n:=Q.n) (frm:=frm) (tqo:=tqo) (Kc Q rule frm tqo l x kids a) (λen=>c a en*xA c tqo l en) (λfg=>ik nt nf Q.n frm tqo c m fg∧cs.its.length≤fg.its.length) E cs ⟨o,aR _⟩ (λq en r ⟨h1,f⟩=>by
  obtain⟨v,e2,s⟩:=p en r;obtain⟨t,b⟩:=BE g i j ht c (l:=l) (rule:=rule) h1 hx (en:=en) ⟨by omega,s⟩ (λk d=>fQ (hk k d) f) (q.at_ Q.n a en) (λe he=>h1.ok.q8 he);rw[h1.len a en (by omega) (by intro h;omega)]at b
  exact⟨⟨t,dY f b.more⟩,b⟩)
 exact⟨this.1.1,this.2⟩
theorem vk {f:Nat→Nat}{E:List Nat}{i en:Nat}(h:E[i]?=some en):((E.take i).map f).sum+f en≤(E.map f).sum:=by
 have a:=(ez.1 h)
 obtain⟨a,rfl⟩:=a
 have e:E=E.take i++E[i]::E.drop (i+1):=by rw[←List.drop_eq_getElem_cons a,ql]
 have e2:(E.map f).sum=((E.take i).map f).sum+(f E[i]+((E.drop (i+1)).map f).sum):=by
  conv=>lhs;rw[e]
  rw[cO,List.sum_append,fL,oc]
 omega
abbrev kT (f:kr)(T:List ej)(n:Nat)(g:gb):Qr:=⟨n,hC T,q7 f,g.rules.map lI,g.aL.map og⟩
theorem UP {d:nA}{n i j:Nat}{q:aV×List Nat}(h:d.bz[slt n i j]?=some q):d.cs.at_ n i j=q.2:=by
 show(d.bz.map Prod.snd).getD (slt n i j) []=q.2
 rw[aw,bQ,h];rfl
theorem EE {d:nA}{e:Nat}{x:dJ}(h:d.its[e]?=some x):d.cs.its.getD e gh=cE x:=by
 show(d.its.map cE).getD e gh=cE x
 rw[aw,bQ,h];rfl
theorem iT (d:nA):d.cs.its.length=d.its.length:=aN _
theorem Ch (d:nA):d.cs.sp.length=d.bz.length:=aN _
theorem zM {nt nf n:Nat}{d:nA}(h:Room d.cs 1)(a:gi nt nf n d.cs):∀x∈d.its,x.cV.length+1≤3000000000000∧x.ba.length≤x.cV.length:=λx hx=>by
 have h1:=h.cV (cE x) (eN hx)
 have b:=a.ba (cE x) (eN hx)
 have e:(cE x).cV.length=x.cV.length:=aN _
 have e2:(cE x).ba.length=x.ba.length:=rfl
 omega
theorem Jf:∀{l:List Nat} {a:Nat},a∈l→a≤l.sum
 |b::l,a,h=>by
  rw[oc]
  rcases cH.1 h with rfl|h
  ·omega
  ·have:=Jf h;omega
theorem za {nt nf n:Nat}{d:nA}(a:gi nt nf n d.cs){k:Nat}{q:aV×List Nat}(h:d.bz[k]?=some q):q.2.length≤d.its.length:=by
 rw[←iT,←a.tot];refine Jf (eN (f:=List.length) (?_:q.2∈d.cs.sp));exact eN (ae h)
theorem Un {nt nf n:Nat}{d:nA}(b:gi nt nf n d.cs){e:Nat}{x:dJ}(h:d.its[e]?=some x):e7 nt nf (ay x.gr)∧x.gr.nodes.length≤60:=by
 obtain⟨_,_,_,c,a⟩:=b.gr (cE x) (eN (ae h))
 have a:(ay x.gr).length≤60:=a
 rw[cz]at a;exact⟨c,a⟩
theorem xi {nt nf:Nat}{x:dz}(h:e7 nt nf x){k:Int}:0≤rR x k↔k∈lp (x.getD 0 iK).2:=by
 unfold rR
 cases a:(x.getD 0 iK).2.find? (λx=>x.1==k)with
 |none=>
  refine⟨λh=>absurd h (by decide),λhm=> ?_⟩;obtain⟨y,hy,rfl⟩:=cy.1 hm;exact absurd (List.find?_eq_none.1 a y hy) (by simp)
 |some y=>
  have hy:=List.mem_of_find?_eq_some a
  have hk:=List.find?_some a
  refine⟨λ_=>cy.2 ⟨y,hy,by simpa using hk⟩,λ_=> ?_⟩;exact((h.at_ h.pos).2.2 y hy).2.1
theorem NB {l a tqo i:Nat}(b:a<tqo):((nj l a tqo+i:Nat):Int)≤(tqo:Int)-(l:Nat)↔i<rK l a tqo:=by
 unfold nj rK
 by_cases h:l=0
 ·rw[aC h,aC h];omega
 ·rw[aA h,aA h];omega
theorem ME {f:kr}{T:List ej}{n:Nat}{g:gb}{d:nA}{rule a e:Nat}{x:dJ}(h:d.its[e]?=some x):VZ (kT f T n g) d.cs rule a e=x.ba.any (q7 f rule a):=by
 unfold VZ;rw[EE h];rfl
theorem Pu {f:kr}{T:List ej}{n:Nat}{g:gb}{d:nA}{rule a e:Nat}{x:dJ}(h:d.its[e]?=some x){y:dz}(b:x.ba.any (q7 f rule a)=false):lO (kT f T n g) d.cs rule y a e=none:=by
 unfold lO;rw[ME h,b];rfl
theorem Jn {f:kr}{T:List ej}{n:Nat}{g:gb}{d:nA}{rule a e:Nat}{x:dJ}(h:d.its[e]?=some x){y:dz}(b:x.ba.any (q7 f rule a)=true):lO (kT f T n g) d.cs rule y a e=mw (hC T) y a (ay x.gr):=by
 unfold lO Cs.ed;rw[ME h,b,EE h];rfl
theorem oH {α β:Type}(f:α→β→α)(a:α){l:List β}{k:Nat}{b:β}(h:l[k]?=some b):(l.take (k+1)).foldl f a=f ((l.take k).foldl f a) b:=by
 rw[aX h,wc];rfl
theorem EK (g:gb)(p s:aV)(T:List ej)(hT:im T)(nf:Nat)(Kq:nf≤100)(f:kr)(hf:xx f)(n:Nat)(hn:n≤12)(A o frm tqo:Nat)(SD:frm<tqo)(YK:tqo≤n)(rule:Nat)(hrf:rule<f.nr)(r:cZ)(hr:g.rules[rule]?=some r)(hK:1≤r.kids∧r.kids≤3)(c0:Nat→Nat→Nat)(sv:aV):
 ∀(l:Nat) (d:nA) (x:dD) (B:aV) (kids:List Nat) (a:Nat),d.nQ=sv→lK d→ik T.length nf n frm tqo c0 0 d.cs→Room d.cs (lT c0 tqo l a)→e7 T.length nf (ay x)→x.nodes.length≤60→(∀k:Int,0≤k→k≤r.kids→0≤rR (ay x) k)→r.kids=((kids.length+l+1:Nat):Int)→(frm<a∨(a=frm∧1≤l))→a<tqo→(∀k∈kids,k<d.its.length)→
 dx prog 121 ([.pointer (some ⟨A,0,none⟩),iv (rule:Nat),bA x,B.1,iv (frm:Nat),iv (a:Nat),iv (tqo:Nat)]).toArray ([hY f,sl cS g.rv.1 g.rules,aF bx g.rules,sl bF p.1 (de T),sl bF s.1 (db T),tz,sl aI B.1 (bW (kids)),aG x,aF (λx:dJ=>aG x.gr) d.its].map aB++([aW A (.cells (mq g p s f n d.eC.1 sv.1 o).toArray 180 (0,0)),aW o (eU mkStr d.m),row d.eC.1 186 6 d.its.length (rows eB d.its),row sv.1 58 1 d.bz.length (rows bS (d.bz.map Prod.fst))]++(bE (ek 200 3) d.its++bE (fq 3) d.bz))) (λv H'=>∃d2:nA,d2.cs=uw (kT f T n g) rule frm tqo (l) d.cs (ay x) (kids) a∧d2.nQ=sv∧lK d2∧d2.bz.length=d.bz.length∧(∀k,k≠slt n frm tqo→d2.bz[k]?=d.bz[k]?)∧H'=(aB (aF (λx:dJ=>aG x.gr) d2.its)::aW A (.cells (mq g p s f n d2.eC.1 sv.1 o).toArray 180 (0,0))::aW o (eU mkStr d2.m)::row d2.eC.1 186 6 d2.its.length (rows eB d2.its)::row sv.1 58 1 d2.bz.length (rows bS (d2.bz.map Prod.fst))::(bE (ek 200 3) d2.its++bE (fq 3) d2.bz))):=by
 intro l
 induction l using Nat.strongRecOn with|_ l ih=> ?_
 intro d x B kids a hsv hp J3 acW hx A8 SZ SK V S9 W;refine dx.body (args:=[.pointer (some ⟨A,0,none⟩),iv (rule:Nat),bA x,B.1,iv (frm:Nat),iv (a:Nat),iv (tqo:Nat)]) 125 func121 rfl ntmps121 rfl (λc=> ?_);refine St.cast (H':=(aB (hY f)::aB (sl cS g.rv.1 g.rules)::aB (aF bx g.rules)::aB (sl bF p.1 (de T))::aB (sl bF s.1 (db T))::aB (tz)::aB (sl aI B.1 (bW kids))::aB (aG x)::aB (aF (λx:dJ=>aG x.gr) d.its)::aW A (.cells (mq g p s f n d.eC.1 sv.1 o).toArray 180 (0,0))::aW o (eU mkStr d.m)::row d.eC.1 186 6 d.its.length (rows eB d.its)::row sv.1 58 1 d.bz.length (rows bS (d.bz.map Prod.fst))::(bE (ek 200 3) d.its++bE (fq 3) d.bz))) rfl ?_;refine go ?_
 have hnr:=hf.nr
 have YJ:=zB T
 have Gz:=cz x
 have anE:kids.length+l+1≤3:=by have:=hK.2;omega
 have Y:d.bz.length=n*(n+1):=by rw[←Ch,J3.ok.GF]
 refine St.wf B.1 (λSM _=> ?_);refine go ?_;refine St.dK (.mk rfl) rfl (λb9=> ?_);refine g10 ?_;refine St.ee (Ev.cL (k:=rule) (.mk rfl) (.mk rfl) Px kV (by omega) (by have:=ah hr;omega)) ?_;refine St.ee (Ev.jr (.mk rfl) hr uO trivial kV j7.eq) ?_;refine St.al (λML=> ?_);refine St.sA (.mk rfl) (.mk rfl) kV ?_ (h1:=(eW.2 λu hu=>cS.one r u hu));refine g8 ?_;refine St.slot 35 (iv (kids.length:Nat)) rfl (congrArg iv (by rw[dW])) ?_;refine go ?_;refine St.slot 36 (iv ((l+1:Nat):Int)) rfl (congrArg iv (by rw[SK];push_cast;omega)) ?_;refine go ?_;refine St.slot 37 (iv (l:Nat)) rfl (congrArg iv (by push_cast;omega)) ?_;refine g18 ?_;refine St.join (ι:=Unit) (λu T=>(17,iv ((nj l a tqo:Nat):Int))::T) (λu=>(aB (aF (λx:dJ=>aG x.gr) d.its)::aW A (.cells (mq g p s f n d.eC.1 sv.1 o).toArray 180 (0,0))::aW o (eU mkStr d.m)::row d.eC.1 186 6 d.its.length (rows eB d.its)::row sv.1 58 1 d.bz.length (rows bS (d.bz.map Prod.fst))::aB (hY f)::aB (sl cS g.rv.1 g.rules)::aB (aF bx g.rules)::aB (sl bF p.1 (de T))::aB (sl bF s.1 (db T))::aB (tz)::aB (sl aI B.1 (bW kids))::aB (aG x)::aW b9 (.cells [x.nv.1].toArray 30 (0,0))::aW ML (.cells (zU r).toArray 110 (0,0))::(bE (ek 200 3) d.its++bE (fq 3) d.bz))) (λu=>True) (aD.cons 0 rfl (aD.cons 1 rfl (aD.cons 3 rfl (aD.cons 4 rfl (aD.cons 5 rfl (aD.cons 6 rfl (aD.cons 9 rfl (aD.cons 15 rfl (aD.cons 16 rfl aD.nil))))))))) ?_ ?_
 ·refine g6 ?_
  refine St.cq (λh44=> ?_) (λh44=> ?_)
  ·have hl0:l=0:=by omega
   refine g5 ?_;refine St.slot 17 (iv ((nj l a tqo:Nat):Int)) rfl (congrArg iv (by unfold nj;rw[aC hl0])) ?_;refine St.mE () trivial
  ·have hl0:l≠0:=by omega
   refine g2 ?_;refine St.slot 17 (iv ((nj l a tqo:Nat):Int)) rfl (congrArg iv (by unfold nj;rw[aA hl0];push_cast;rfl)) ?_;refine St.mE () trivial
 ·intro u aj1
  refine g7 ?_;refine St.lH (ι:=Nat×nA) (λ⟨i,d1⟩ T=>(18,iv ((nj l a tqo+i:Nat):Int))::T) (λ⟨i,d1⟩=>(aB (aF (λx:dJ=>aG x.gr) d1.its)::aW A (.cells (mq g p s f n d1.eC.1 sv.1 o).toArray 180 (0,0))::aW o (eU mkStr d1.m)::row d1.eC.1 186 6 d1.its.length (rows eB d1.its)::row sv.1 58 1 d1.bz.length (rows bS (d1.bz.map Prod.fst))::aB (hY f)::aB (sl cS g.rv.1 g.rules)::aB (aF bx g.rules)::aB (sl bF p.1 (de T))::aB (sl bF s.1 (db T))::aB (tz)::aB (sl aI B.1 (bW kids))::aB (aG x)::aW b9 (.cells [x.nv.1].toArray 30 (0,0))::aW ML (.cells (zU r).toArray 110 (0,0))::(bE (ek 200 3) d1.its++bE (fq 3) d1.bz))) (λ⟨i,d1⟩=>i≤rK l a tqo∧d1.nQ=sv∧lK d1∧d1.cs=((List.range' (nj l a tqo) (rK l a tqo)).take i).foldl (Kc (kT f T n g) rule frm tqo l (ay x) kids a) d.cs∧d1.bz.length=d.bz.length∧(∀k,k≠slt n frm tqo→d1.bz[k]?=d.bz[k]?)) (λ⟨i,d1⟩=>rK l a tqo-i) ⟨0,d⟩ (aD.cons 0 rfl (aD.cons 1 rfl (aD.cons 3 rfl (aD.cons 4 rfl (aD.cons 5 rfl (aD.cons 6 rfl (aD.cons 9 rfl (aD.cons 15 rfl (aD.cons 16 rfl aD.nil))))))))) ⟨aO _,hsv,hp,rfl,rfl,λ_ _=>rfl⟩ ?_;rintro ⟨i,d1⟩ ⟨hi,Kt,WZ,Z,F,SO⟩
  dsimp only at hi Kt WZ Z F SO⊢
  refine g8 ?_;refine St.cond _ rfl (λG=> ?_) (λG=> ?_)
  ·skip
   have SH:i<rK l a tqo:=(NB S9).1 (ei G)
   obtain⟨f1,f2,f3,f4⟩:=Ck S9 SH
   obtain⟨en,hen⟩:∃en,en=nj l a tqo+i:=⟨_,rfl⟩
   rw[←hen]at f1 f2 f3 f4⊢
   have hei:(List.range' (nj l a tqo) (rK l a tqo))[i]?=some en:=by rw[List.getElem?_range' SH,hen,Nat.one_mul]
   have hE0:∀z∈(List.range' (nj l a tqo) (rK l a tqo)),a<z∧z≤tqo∧(1≤l→z<tqo):=λz hz=>by obtain⟨j,hj,rfl⟩:=List.mem_range'.1 hz;have:=Ck S9 hj;rw[Nat.one_mul];exact⟨this.1,this.2.1,this.2.2.2⟩
   obtain⟨tc,H⟩:=N7 (Q:=(kT f T n g)) hn YJ SD YK c0 (l:=l) (a:=a) (rule:=rule) J3 hx V (by rw[iT];exact W) ((List.range' (nj l a tqo) (rK l a tqo)).take i) (λz hz=>hE0 z (List.take_subset _ _ hz));rw[←Z]at tc H
   have ac3:=vk (f:=λen=>c0 a en*xA c0 tqo l en) hei
   rw[←Re]at ac3
   have Wd:Room d1.cs (c0 a en*xA c0 tqo l en):=Room.grow (Room.mono acW ac3) H
   have ab1:∀k∈kids,k<d1.cs.its.length:=λk hk=>fQ (by rw[iT];exact W k hk) H.more
   have ac0:slt n a en≠slt n frm tqo:=λh=>by have:=DN (by omega) YK h;rcases V with V|⟨_,hl⟩;omega;have:=f4 hl;omega
   obtain⟨q,hq⟩:=aE (show slt n a en<d.bz.length by rw[Y];exact sW (by omega) (by omega))
   have Lv:d1.bz[slt n a en]?=some q:=by rw[SO _ ac0];exact hq
   have I:=UP Lv
   have ab9:q.2.length=c0 a en:=by rw[←I];exact tc.len a en (show en≤n by omega) (λh=>by rcases V with V|⟨_,hl⟩;omega;have:=f4 hl;omega)
   refine g9 ?_;refine St.ee (Ev.iV 2 (.mk rfl) Bm trivial Bh rfl rfl) ?_;refine St.slot 55 (.agg #[iv (n:Nat),sv.1]) rfl rfl ?_;refine g2 ?_;refine St.call (CQ n a en (slt n a en) hn (by omega) (by omega) rfl sv d1.bz q Lv) Mj (.eh rfl rfl rfl) rfl ?_;rintro v58 _ ⟨rfl,rfl⟩;refine St.ao ?_;refine St.tail (bE (ek 200 3) d1.its++bE (fq 3) d1.bz) (row q.1.1 3 1 (q.2).length (rows aI (bW (q.2)))::(bE (ek 200 3) d1.its++bE (fq 3) (d1.bz.eraseIdx (slt n a en)))) (pI _ _ _ Lv) ?_;refine go ?_;refine St.tail (row q.1.1 3 1 (q.2).length (rows aI (bW (q.2)))::(bE (ek 200 3) d1.its++bE (fq 3) (d1.bz.eraseIdx (slt n a en)))) (bE (ek 200 3) d1.its++bE (fq 3) d1.bz) (pI (ek 200 3) (fq 3) d1.its Lv).symm ?_;refine g4 ?_;refine St.lH (ι:=Nat×nA) (λ⟨k,d2⟩ T=>(60,iv k)::T) (λ⟨k,d2⟩=>(aB (aF (λx:dJ=>aG x.gr) d2.its)::aW A (.cells (mq g p s f n d2.eC.1 sv.1 o).toArray 180 (0,0))::aW o (eU mkStr d2.m)::row d2.eC.1 186 6 d2.its.length (rows eB d2.its)::row sv.1 58 1 d2.bz.length (rows bS (d2.bz.map Prod.fst))::aB (hY f)::aB (sl cS g.rv.1 g.rules)::aB (aF bx g.rules)::aB (sl bF p.1 (de T))::aB (sl bF s.1 (db T))::aB (tz)::aB (sl aI B.1 (bW kids))::aB (aG x)::aW b9 (.cells [x.nv.1].toArray 30 (0,0))::aW ML (.cells (zU r).toArray 110 (0,0))::(bE (ek 200 3) d2.its++bE (fq 3) d2.bz))) (λ⟨k,d2⟩=>k≤q.2.length∧d2.nQ=sv∧lK d2∧d2.cs=(q.2.take k).foldl (tM (kT f T n g) rule frm tqo l (ay x) kids en) d1.cs∧d2.bz.length=d.bz.length∧(∀k,k≠slt n frm tqo→d2.bz[k]?=d.bz[k]?)) (λ⟨k,d2⟩=>q.2.length-k) ⟨0,d1⟩ (aD.cons 0 rfl (aD.cons 1 rfl (aD.cons 3 rfl (aD.cons 4 rfl (aD.cons 5 rfl (aD.cons 6 rfl (aD.cons 9 rfl (aD.cons 15 rfl (aD.cons 16 rfl (aD.cons 18 rfl (aD.cons 58 rfl (aD.cons 59 rfl aD.nil)))))))))))) ⟨aO _,Kt,WZ,rfl,F,SO⟩ ?_;rintro ⟨k,d2⟩ ⟨hk,U,J,C,K,M⟩
   dsimp only at hk U J C K M⊢
   refine g6 ?_;refine St.cq (λh61=> ?_) (λh61=> ?_)
   ·obtain⟨e,he⟩:=aE (show k<q.2.length by omega)
    have J0:d2.bz[slt n a en]?=some q:=by rw[M _ ac0];exact hq
    have ab4:∀z∈q.2,z<d1.cs.its.length:=λz hz=>tc.ok.q8 (by rw[I];exact hz)
    obtain⟨N,EP⟩:=BE (Q:=(kT f T n g)) hn YJ SD YK c0 (l:=l) (rule:=rule) tc hx (en:=en) ⟨by omega,f4⟩ ab1 (q.2.take k) (λz hz=>ab4 z (List.take_subset _ _ hz));rw[←C,eR,kn (by omega)]at EP;rw[←C]at N
    have abV:k*xA c0 tqo l en+xA c0 tqo l en≤c0 a en*xA c0 tqo l en:=by rw[←ab9,←Nat.succ_mul];exact iW _ (by omega)
    have H6:Room d2.cs (xA c0 tqo l en):=Room.grow (Room.mono Wd abV) EP
    have YF:e<d2.its.length:=by rw[←iT];exact fQ (ab4 e (ae he)) EP.more
    have ajQ:∀k∈kids,k<d2.its.length:=λz hz=>by rw[←iT];exact fQ (ab1 z hz) EP.more
    obtain⟨b,D⟩:=aE YF
    have hxm:=ae D
    obtain⟨H0,NY⟩:=Un N.ok D
    have H4:=H6.its
    have anJ:=za N.ok J0
    rw[iT]at H4;refine St.tail (bE (ek 200 3) d2.its++bE (fq 3) d2.bz) (row q.1.1 3 1 (q.2).length (rows aI (bW (q.2)))::(bE (ek 200 3) d2.its++bE (fq 3) (d2.bz.eraseIdx (slt n a en)))) (pI _ _ _ J0) ?_;refine g7 ?_;refine St.ee (Ev.ct (.mk rfl) gG trivial (by omega) (gU (gT he))) ?_;refine St.tail (row q.1.1 3 1 (q.2).length (rows aI (bW (q.2)))::(bE (ek 200 3) d2.its++bE (fq 3) (d2.bz.eraseIdx (slt n a en)))) (bE (ek 200 3) d2.its++bE (fq 3) d2.bz) (pI (ek 200 3) (fq 3) d2.its J0).symm ?_;refine g10 ?_;refine St.slot 67 (iv (kids.length:Nat)) rfl (congrArg iv (by rw[dW])) ?_;refine go ?_;refine St.slot 68 (iv ((kids.length+1:Nat):Int)) rfl (congrArg iv (by push_cast;rfl)) ?_;refine go ?_;refine St.dup (hY f) ?_;refine St.tail (bE (ek 200 3) d2.its++bE (fq 3) d2.bz) (row b.wv.1 200 3 (b.cV).length (rows mH (b.cV))::row b.tv.1 3 1 (b.ba).length (rows aI (b.ba))::(bE (jF 3) b.cV++(bE (ek 200 3) (d2.its.eraseIdx e)++bE (fq 3) d2.bz))) (yq _ _ D) ?_;refine St.call (sy f hf (mq g p s f n d2.eC.1 sv.1 o) rfl A rule (kids.length+1) hrf (by omega) (by omega) d2.eC rfl d2.its e b D (J.ba b hxm)) UG (.gW rfl rfl rfl rfl) rfl ?_;rintro v70 _ ⟨rfl,rfl⟩;refine St.iQ ?_;refine St.ma [row b.wv.1 200 3 (b.cV).length (rows mH (b.cV)),row b.tv.1 3 1 (b.ba).length (rows aI (b.ba))] (bE (jF 3) b.cV++(bE (ek 200 3) (d2.its.eraseIdx e)++bE (fq 3) d2.bz)) (bE (ek 200 3) d2.its++bE (fq 3) d2.bz) (yq (ek 200 3) (bE (fq 3) d2.bz) D).symm ?_;refine g3 ?_;refine St.cond _ rfl (λO=> ?_) (λO=> ?_)
    ·skip
     have Gx:b.ba.any (q7 f rule (kids.length+1))=false:=by simpa using O
     have P:lO (kT f T n g) d2.cs rule (ay x) (kids.length+1) e=none:=Pu D Gx
     refine g9 ?_;refine St.aH ⟨k+1,d2⟩ ⟨by omega,U,J,by rw[oH _ _ he,←C];exact(by unfold tM;rw[P]),K,M⟩
    ·skip
     have Gx:b.ba.any (q7 f rule (kids.length+1))=true:=by simpa using O
     have P:=Jn (T:=T) (n:=n) (g:=g) (y:=ay x) D Gx
     refine g3 ?_;refine St.eY (aG b.gr) [aF (λx:dJ=>aG x.gr) d2.its] (λρ h=>h _ (aP ..) b hxm) ?_;refine St.l8 d2.eC.1 (by omega) (λbs cs Nj=> ?_);refine St.da (aB (sl bF p.1 (de T))::aB (sl bF s.1 (db T))::aB tz::aB (aG x)::aB (aG b.gr)::(bE (ek 200 3) d2.its++bE (fq 3) d2.bz)) mixed (λnp ns=> ?_);refine SW.gd 0 ?_;refine SW.gd 1 ?_;refine SW.gd 2 ?_;refine SW.dd 3 rfl (λ_=>Ev.iV 2 (.mk rfl) wT trivial wQ rfl rfl) ?_;refine SW.slot 76 (kC p s) rfl rfl ?_;refine SW.gd 4 ?_;refine SW.slot 77 (bA x) rfl rfl ?_;refine SW.gd 5 ?_;refine SW.gd 6 ?_;refine SW.slot 79 (iv (kids.length:Nat)) rfl (congrArg iv (by rw[dW])) ?_;refine SW.gd 7 ?_;refine SW.slot 80 (iv ((kids.length+1:Nat):Int)) rfl (congrArg iv (by push_cast;rfl)) ?_;refine SW.gd 8 ?_;refine SW.gd 9 ?_;refine SW.gd 10 ?_;refine SW.gd 11 ?_;refine SW.gd 12 ?_;refine SW.dd 13 rfl (λ_=>Ev.mo (k:=e) Nj (.mk rfl) (.mk rfl) nT oX (by omega) (by omega)) ?_;refine SW.dd 14 rfl (λ_=>Ev.jZ Nj (.mk rfl) tT) ?_;refine SW.dd 15 rfl (λ_=>Ev.jZ Nj (.mk rfl) xU) ?_;refine SW.dd 16 rfl (λ_=>Ev.O8 (Rr:=eB) (sz:=1) (.mk rfl) D mf trivial jT (by omega) (by decide) (by decide)) ?_;refine SW.slot 89 (bA b.gr) rfl rfl ?_;refine SW.t2 17 21 ?_ ?_
     focus
      refine St.ag (qs p s T hT nf Kq x b.gr ((kids.length+1:Nat):Int) hx H0 A8 NY (SZ _ (by omega) (by omega))) Ic (.gW rfl rfl rfl rfl) rfl ?_;rintro v90 _ ⟨u,z,rfl,hz,rfl⟩;refine St.ao ?_;refine St.bK z u (λy hy=> ?_);obtain⟨rfl,YO⟩:=hy;refine g2 ?_;refine SW.go ?_;refine SW.gd 18 ?_;refine SW.gd 19 ?_;refine SW.gd 20 ?_;refine SW.t1 21 ?_;refine St.al (λb21=> ?_);refine g2 ?_;refine SW.go ?_;refine SW.t1 22 ?_;refine g3 ?_;refine SW.go ?_;refine SW.gd 23 ?_;refine SW.dn ?_
     rotate_left
     focus
      refine St.al (λb21=> ?_);refine g2 ?_;refine SW.go ?_;refine SW.t1 17 ?_;refine St.ag (qs p s T hT nf Kq x b.gr ((kids.length+1:Nat):Int) hx H0 A8 NY (SZ _ (by omega) (by omega))) Ic (.gW rfl rfl rfl rfl) rfl ?_;rintro v90 _ ⟨u,z,rfl,hz,rfl⟩;refine St.ao ?_;refine St.bK z u (λy hy=> ?_);obtain⟨rfl,YO⟩:=hy;refine g2 ?_;refine SW.go ?_;refine SW.gd 18 ?_;refine SW.gd 19 ?_;refine SW.gd 20 ?_;refine SW.t1 22 ?_;refine g3 ?_;refine SW.go ?_;refine SW.gd 23 ?_;refine SW.dn ?_
     all_goals
      refine g8 ?_;refine St.cond _ rfl (λR=> ?_) (λR=> ?_)
      ·skip
       have hsn:mw (hC T) (ay x) ((kids.length+1:Nat):Int) (ay b.gr)=none:=by simpa using R
       rw[hsn]at P;refine g9 ?_;refine St.aH ⟨k+1,d2⟩ ⟨by omega,U,J,by rw[oH _ _ he,←C];exact(by unfold tM;rw[P]),K,M⟩
      ·skip
       obtain⟨z1,Sa⟩:∃z1,mw (hC T) (ay x) ((kids.length+1:Nat):Int) (ay b.gr)=some z1:=Option.isSome_iff_exists.1 (by simpa using R)
       have hzz:=hz z1 Sa
       rw[hzz]at YO;rw[Sa,←YO]at P;rw[←YO]at Sa;obtain⟨y1,y2,y3⟩:=Hy YJ hx H0 Sa
       have hyl:y.nodes.length≤60:=by rw[←cz];exact y2
       have hyt:∀k:Int,0≤k→k≤r.kids→0≤rR (ay y) k:=λk h0 h1=>(xi y1).2 (y3 k ((xi hx).1 (SZ k h0 h1)))
       have ab2:∀k∈kids++ [e],k<d2.its.length:=λz hz=>by rcases cD.1 hz with hz|hz;exact ajQ z hz;rw[bO.1 hz];exact YF
       refine g7 ?_;refine St.slot 97 (iv (kids.length:Nat)) rfl (congrArg iv (by rw[dW])) ?_;refine g2 ?_;refine St.slot 99 (iv (kids.length:Nat)) rfl (congrArg iv (by rw[dW])) ?_;refine St.ee (Ev.clip (.mk rfl) (.mk rfl) (.mk rfl) bI dL (by rw[dW]) (by rw[dW])) ?_;refine go ?_;refine St.fp rfl (.ar rfl) bI dL eQ rfl rfl (by simp[Value.cells]) rfl rfl (λamT=> ?_);refine St.yH (.mk rfl) (.mk rfl) bI dL eQ xO (by simp[Value.oneCell',Value.cells]) (by rw[dW];omega) (by rw[dW];omega) rfl rfl rfl rfl (λE amE=> ?_);refine St.aM E (show _=(kids++ [e]).length by rw[dW,bN];rfl) (show _=rows aI (bW (kids++ [e])) by rw[ke,ax];rfl) ?_;refine St.bZ E (λNO _=> ?_);refine g9 ?_;refine St.cq (λS4=> ?_) (λS4=> ?_)
       ·obtain⟨l1,rfl⟩:∃l1,l=l1+1:=⟨l-1,by omega⟩
        refine St.bR E aI (bW (kids++ [e])) rfl (dW _).symm (λz hz=>by obtain⟨z2,hz2,rfl⟩:=cy.1 hz;have:=ab2 z2 hz2;unfold aI aa;dsimp only;omega) ?_
        have ac2:ik T.length nf n frm tqo c0 0 d2.cs:=⟨N.ok,N.len,aO _⟩
        refine g4 ?_;refine St.slot 108 (bA y) rfl rfl ?_;refine g4 ?_;refine St.pQ (ds:=[hY f,sl cS g.rv.1 g.rules,aF bx g.rules,sl bF p.1 (de T),sl bF s.1 (db T),tz,sl aI E (bW (kids++ [e])),aG y,aF (λx:dJ=>aG x.gr) d2.its]) (L:=[aW A (.cells (mq g p s f n d2.eC.1 sv.1 o).toArray 180 (0,0)),aW o (eU mkStr d2.m),row d2.eC.1 186 6 d2.its.length (rows eB d2.its),row sv.1 58 1 d2.bz.length (rows bS (d2.bz.map Prod.fst))]) (X:=(bE (ek 200 3) d2.its++bE (fq 3) d2.bz)) (post:=λv L' X'=>∃d3:nA,d3.cs=uw (kT f T n g) rule frm tqo (l1) d2.cs (ay y) (kids++ [e]) en∧d3.nQ=sv∧lK d3∧d3.bz.length=d2.bz.length∧(∀k,k≠slt n frm tqo→d3.bz[k]?=d2.bz[k]?)∧L'=[aB (aF (λx:dJ=>aG x.gr) d3.its),aW A (.cells (mq g p s f n d3.eC.1 sv.1 o).toArray 180 (0,0)),aW o (eU mkStr d3.m),row d3.eC.1 186 6 d3.its.length (rows eB d3.its),row sv.1 58 1 d3.bz.length (rows bS (d3.bz.map Prod.fst))]∧X'=(bE (ek 200 3) d3.its++bE (fq 3) d3.bz)) ((ih l1 (by omega) d2 y ⟨E,NO⟩ (kids++ [e]) en U J ac2 H6 y1 hyl hyt (by rw[SK];simp only[List.length_append,List.length_cons,List.length_nil];push_cast;omega) (.inl (by omega)) (f4 (by omega)) ab2).mono (λv H' ⟨d3,S,a2,a3,a4,a5,a6⟩=>⟨_,_,a6,d3,S,a2,a3,a4,a5,rfl,rfl⟩)) UE (.aeG rfl rfl rfl rfl rfl rfl rfl) rfl ?_;rintro aoB _ _ ⟨d3,S,a2,a3,a4,a5,rfl,rfl⟩;refine St.CO ?_;refine g8 ?_;refine St.aH ⟨k+1,d3⟩ ⟨by omega,a2,a3,by rw[oH _ _ he,←C];exact(by unfold tM;rw[P];exact S),(a4.trans K),(λz hz=>(a5 z hz).trans (M z hz))⟩
       ·obtain rfl:l=0:=by omega
        obtain rfl:en=tqo:=f3 rfl;refine g5 ?_;refine St.slot 117 (bA y) rfl rfl ?_;refine St.ag (px y T.length nf Kq y1 (by omega) (hyt 0 (by omega) (by omega))) Mh (.ar rfl) rfl ?_;rintro alZ _ rfl;refine St.ao ?_;refine St.bK (lu (ay y)) alZ (λmy hm=> ?_);obtain⟨rfl,Ui⟩:=hm;obtain⟨m1,m2⟩:=qP y1 y2;rw[←Ui]at m1 m2;rw[cz]at m2
        have hms:=gP m1 Kq
        obtain⟨q0,Qh⟩:=aE (show slt n frm en<d2.bz.length by rw[K,Y];exact sW (by omega) YK)
        have ab8:=za N.ok Qh
        have Ni:Room d2.cs 1:=H6
        have ab0:=Ni.its
        rw[iT]at ab0
        have Wc:=ah hr
        refine St.ee (Ev.build (bH.eh rfl rfl rfl) (λw=>tF rfl rfl w)) ?_;refine St.slot 119 (Gk frm en 0 my.nv.1) rfl rfl ?_;refine g2 ?_;refine St.ee (Ev.build (bH.aY rfl rfl) (λw=>yN rfl NO w)) ?_;refine St.slot 122 (.agg #[iv (rule:Nat),iv 0,E]) rfl rfl ?_;refine St.pQ (ds:=[aG my,aF (λx:dJ=>aG x.gr) d2.its]) (L:=[aW A (.cells (mq g p s f n d2.eC.1 sv.1 o).toArray 180 (0,0)),aW o (eU mkStr d2.m),row d2.eC.1 186 6 d2.its.length (rows eB d2.its),row sv.1 58 1 d2.bz.length (rows bS (d2.bz.map Prod.fst)),row E 3 aI.size (kids++ [e]).length (rows aI (bW (kids++ [e])))]) (X:=(bE (ek 200 3) d2.its++bE (fq 3) d2.bz)) (post:=λv L' X'=>∃d3:nA,d3.cs=kZ n d2.cs ⟨frm,en,0,ay my⟩ ⟨(rule:Nat),0,kids++ [e]⟩∧d3.nQ=sv∧lK d3∧d3.bz.length=d2.bz.length∧(∀k,k≠slt n frm en→d3.bz[k]?=d2.bz[k]?)∧L'=[aB (aF (λx:dJ=>aG x.gr) d3.its),aW A (.cells (mq g p s f n d3.eC.1 sv.1 o).toArray 180 (0,0)),aW o (eU mkStr d3.m),row d3.eC.1 186 6 d3.its.length (rows eB d3.its),row sv.1 58 1 d3.bz.length (rows bS (d3.bz.map Prod.fst))]∧X'=(bE (ek 200 3) d3.its++bE (fq 3) d3.bz)) ?_ Mi (.eh rfl rfl rfl) rfl ?_
        ·subst U
         exact(ug g p s f n hn d2 J A o frm en 0 my (by omega) (λt ht=>by have:=(hms t ht).2;omega) (by omega) (by omega) (rule:Nat) 0 (by unfold aa;omega) (by omega) ⟨E,NO⟩ (kids++ [e]) q0 Qh (by omega) (by omega) (zM Ni N.ok)).mono (λv H' ⟨d3,S,a2,a3,a4,a5,a6⟩=>⟨_,_,(by rw[a2]at a6;exact a6),d3,S,a2,a3,a4,a5,rfl,rfl⟩)
        rintro aoD _ _ ⟨d3,S,a2,a3,a4,a5,rfl,rfl⟩;refine St.CO ?_;refine g8 ?_;refine St.aH ⟨k+1,d3⟩ ⟨by omega,a2,a3,by rw[oH _ _ he,←C];exact(by unfold tM;rw[P,S,Ui]),(a4.trans K),(λz hz=>(a5 z hz).trans (M z hz))⟩
   ·obtain rfl:k=q.2.length:=by omega
    rw[jl]at C;refine g12 ?_;refine St.aH ⟨i+1,d2⟩ ⟨by omega,U,J,by rw[oH _ _ hei,←Z,C];show _=(d1.cs.at_ n a en).foldl _ _;rw[I],K,M⟩
  ·skip
   have SH:¬i<rK l a tqo:=λh=>iX G ((NB S9).2 h)
   obtain rfl:i=rK l a tqo:=by omega
   rw[fF (by rw[List.length_range'];exact aR _),←Im]at Z;refine g4 ?_;refine St.eF ?_;refine St.rV [] (aB (aF (λx:dJ=>aG x.gr) d1.its)::aW A (.cells (mq g p s f n d1.eC.1 sv.1 o).toArray 180 (0,0))::aW o (eU mkStr d1.m)::row d1.eC.1 186 6 d1.its.length (rows eB d1.its)::row sv.1 58 1 d1.bz.length (rows bS (d1.bz.map Prod.fst))::(bE (ek 200 3) d1.its++bE (fq 3) d1.bz)) ?_;exact⟨d1,Z,Kt,WZ,F,SO,rfl⟩
theorem iz (i:Nat){α:Type}(f:α→Nat→α)(a:α):(List.range (i+1)).foldl f a=f ((List.range i).foldl f a) i:=by rw[uW,wc];rfl
theorem OA {nt nf len:Nat}{Q:Qr}(c:qq nt nf Q){w:bB}{frm tqo i:Nat}(d:frm<tqo)(ht:tqo≤Q.n){cs:Cs}(h:nW nt nf Q.n len frm cs)(e:i<Q.aL.length):
 ik nt nf Q.n frm tqo (λi j=>(cs.at_ Q.n i j).length) 0 ((List.range i).foldl (rL Q w frm tqo) cs)∧Room ((List.range i).foldl (rL Q w frm tqo) cs) 1:=by
 have f:ik nt nf Q.n frm tqo (λi j=>(cs.at_ Q.n i j).length) 0 cs:=⟨h.ok,λ_ _ _ _=>rfl,aO _⟩
 obtain⟨a,b⟩:=iJ (n:=Q.n) (frm:=frm) (tqo:=tqo) (rL Q w frm tqo) (λ_=>1) _ (List.range i) cs f (λk j g h1=>yx c d ht h1 (Nat.lt_trans (dq.1 g) e));rw[jh,jV,gX]at b
 have:=c.xn
 exact⟨a,Room.grow (h.room.mono (by unfold ve;omega)) b⟩
theorem PJ {nt nf len:Nat}{Q:Qr}(c:qq nt nf Q){frm tqo i:Nat}(l:frm<tqo)(ht:tqo≤Q.n)(m:tqo≠frm+1){cs:Cs}(h:nW nt nf Q.n len frm cs)(d:i<Q.rules.length):
 ik nt nf Q.n frm tqo (λi j=>(cs.at_ Q.n i j).length) 0 ((List.range i).foldl (rP Q frm tqo) cs)∧(1<(Q.rules.getD i oQ).kids→Room ((List.range i).foldl (rP Q frm tqo) cs) (lT (λi j=>(cs.at_ Q.n i j).length) tqo ((Q.rules.getD i oQ).kids.toNat-1) frm)):=by
 have o:ik nt nf Q.n frm tqo (λi j=>(cs.at_ Q.n i j).length) 0 cs:=⟨h.ok,λ_ _ _ _=>rfl,aO _⟩
 obtain⟨a,b⟩:=iJ (n:=Q.n) (frm:=frm) (tqo:=tqo) (rP Q frm tqo) (λi=>if decide (1<(Q.rules.getD i oQ).kids)=true then 4000000 else 0) _ (List.range i) cs o (λs j p h1=>zT c l ht h.ok h.BF h1 (Nat.lt_trans (dq.1 p) d));refine⟨a,λhk=> ?_⟩
 have e:=vk (f:=λi=>if decide (1<(Q.rules.getD i oQ).kids)=true then 4000000 else 0) (show(List.range Q.rules.length)[i]?=some i from nV d)
 rw[List.take_range,kn (by omega),rE (λr:sg=>decide (1<r.kids)) oQ 4000000 Q.rules]at e
 have q:=B6 c (frm:=frm) (tqo:=tqo)
 have g:CT Q frm tqo≤ve:=dY (Nat.le_mul_of_pos_right _ (by omega)) q
 unfold CT at g;rw[aA m]at g
 have k:Q.rules.countP (λr:sg=>decide (1<r.kids))*4000000≤ve:=g
 rw[aC (dt hk)]at e
 have k3:=(c.vY d).1.2
 exact(Room.grow (h.room.mono (dY e k)) b).mono (BC h.ok h.BF l ht (by omega) (by omega))
theorem Py {nt nf:Nat}{Q:Qr}(l:qq nt nf Q){frm tqo i k e:Nat}(m:frm<tqo)(ht:tqo≤Q.n){cs:Cs}(h:gi nt nf Q.n cs)(o:Room cs (vQ Q cs ((cs.at_ Q.n frm tqo).drop k)))(hk:(cs.at_ Q.n frm tqo)[k]?=some e)(t:(cs.ed e).cw≠3)(c:i<Q.rules.length):
 gi nt nf Q.n ((List.range i).foldl (qd Q frm tqo e) cs)∧Grow Q.n frm tqo cs ((List.range i).foldl (qd Q frm tqo e) cs) (hP Q)∧((Q.rules.getD i oQ).kids=1→Room ((List.range i).foldl (qd Q frm tqo e) cs) 1):=by
 have a:=ae hk
 have b:=h.q8 a
 have u:(cs.ed e).cw≤3:=by
  unfold Cs.ed;rw[aw,bU b];exact(h.gr _ (gz b)).2.2.1
 have hu:=zx l m ht (e:=e) (ch:=(cs.ed e).cw) (by omega) (List.range i) cs (λj p=>Nat.lt_trans (dq.1 p) c) h b rfl
 have d:=vk (f:=λi=>if decide ((Q.rules.getD i oQ).kids=1)=true then 1 else 0) (show(List.range Q.rules.length)[i]?=some i from nV c)
 rw[List.take_range,kn (by omega),rE (λr:sg=>decide (r.kids=1)) oQ 1 Q.rules,gX]at d
 have g:_≤hP Q:=d
 refine⟨hu.ok,hu.gr.mono (by omega),λq=> ?_⟩;rw[aC (dt q)]at g;refine Room.grow (o.mono ?_) hu.gr;refine dY g ?_;unfold vQ;rw[oK _ hk]
 have s:3-(cs.ed e).cw=(2-(cs.ed e).cw)+1:=by omega
 rw[s]
 have:hP Q*1≤hP Q*(1+jy (hP Q) (2-(cs.ed e).cw)):=A2 _ (by omega)
 show hP Q≤hP Q*(1+jy (hP Q) (2-(cs.ed e).cw))+_
 omega
theorem Pz {Q:Qr}{frm tqo f k e:Nat}{cs:Cs}(hk:(cs.at_ Q.n frm tqo)[k]?=some e)(a:(cs.ed e).cw=3)(b:qT Q cs ((cs.at_ Q.n frm tqo).drop k)<f):
 ∃f2,qe Q frm tqo f k cs=qe Q frm tqo f2 (k+1) cs∧qT Q cs ((cs.at_ Q.n frm tqo).drop (k+1))<f2∧qT Q cs ((cs.at_ Q.n frm tqo).drop (k+1))<qT Q cs ((cs.at_ Q.n frm tqo).drop k):=by
 obtain⟨f2,rfl⟩:∃f2,f=f2+1:=⟨f-1,by omega⟩
 have hd:(cs.at_ Q.n frm tqo).getD k 0=e:=by rw[aw,hk];rfl
 have hp:qT Q cs ((cs.at_ Q.n frm tqo).drop k)=(1+jy (hP Q) (3-(cs.ed e).cw))+qT Q cs ((cs.at_ Q.n frm tqo).drop (k+1)):=by unfold qT;exact oK _ hk
 refine⟨f2,?_,by omega,by omega⟩;rw[qe,aC (ah hk),hd,aC a]
theorem Xt {Q:Qr}{frm tqo f k e:Nat}{cs:Cs}(hk:(cs.at_ Q.n frm tqo)[k]?=some e)(a:(cs.ed e).cw≠3)(b:qT Q cs ((cs.at_ Q.n frm tqo).drop k)<f):
 ∃f2,qe Q frm tqo f k cs=qe Q frm tqo f2 (k+1) ((List.range Q.rules.length).foldl (qd Q frm tqo e) cs)∧qT Q cs ((cs.at_ Q.n frm tqo).drop k)<f2+1:=by
 obtain⟨f2,rfl⟩:∃f2,f=f2+1:=⟨f-1,by omega⟩
 have hd:(cs.at_ Q.n frm tqo).getD k 0=e:=by rw[aw,hk];rfl
 exact⟨f2,by rw[qe,aC (ah hk),hd,aA a],b⟩
theorem Th {Q:Qr}{frm tqo f k:Nat}{cs:Cs}(hk:(cs.at_ Q.n frm tqo).length≤k):qe Q frm tqo f k cs=cs:=by
 cases f with
 |zero=>rfl
 |succ f=>rw[qe,aA (by omega)]
theorem Ld (g:gb)(b l:aV)(T:List ej)(hT:im T)(nf:Nat)(R:nf≤100)(f:kr)(hf:xx f)(n:Nat)(hn:n≤12)(p a:Nat)(sv:aV)(wv:Value)(words:List bB)(Nr:words.length=n)(hnr:f.nr=g.rules.length)(O:qq T.length nf (kT f T n g))(GD:∀r∈g.rules,∀k:Int,0≤k→k≤r.kids→0≤rR (ay r.graph) k)
 (frm tqo len:Nat) (hlen:1≤len) (hte:tqo=frm+len) (S:tqo≤n) (d:nA) (hsv:d.nQ=sv) (hp:lK d) (hs:nW T.length nf n len frm d.cs):
 dx prog 90 ([.pointer (some ⟨p,0,none⟩),wv,iv (frm:Nat),iv (tqo:Nat)]).toArray ([hY f,sl cS g.rv.1 g.rules,aF bx g.rules,sl dy g.xv.1 g.aL,aF eO g.aL,sl bF b.1 (de T),sl bF l.1 (db T),tz,sl bL wv words,aF (λx:dJ=>aG x.gr) d.its].map aB++([aW p (.cells (mq g b l f n d.eC.1 sv.1 a).toArray 180 (0,0)),aW a (eU mkStr d.m),row d.eC.1 186 6 d.its.length (rows eB d.its),row sv.1 58 1 d.bz.length (rows bS (d.bz.map Prod.fst))]++(bE (ek 200 3) d.its++bE (fq 3) d.bz))) (λv H'=>∃d2:nA,d2.cs=pJ (kT f T n g) words frm tqo d.cs∧d2.nQ=sv∧lK d2∧H'=(aB (aF (λx:dJ=>aG x.gr) d2.its)::aW p (.cells (mq g b l f n d2.eC.1 sv.1 a).toArray 180 (0,0))::aW a (eU mkStr d2.m)::row d2.eC.1 186 6 d2.its.length (rows eB d2.its)::row sv.1 58 1 d2.bz.length (rows bS (d2.bz.map Prod.fst))::(bE (ek 200 3) d2.its++bE (fq 3) d2.bz))):=by
 refine dx.body (args:=[.pointer (some ⟨p,0,none⟩),wv,iv (frm:Nat),iv (tqo:Nat)]) 171 func90 rfl ntmps90 rfl (λc=> ?_);refine St.cast (H':=(aB (hY f)::aB (sl cS g.rv.1 g.rules)::aB (aF bx g.rules)::aB (sl dy g.xv.1 g.aL)::aB (aF eO g.aL)::aB (sl bF b.1 (de T))::aB (sl bF l.1 (db T))::aB (tz)::aB (sl bL wv words)::aB (aF (λx:dJ=>aG x.gr) d.its)::aW p (.cells (mq g b l f n d.eC.1 sv.1 a).toArray 180 (0,0))::aW a (eU mkStr d.m)::row d.eC.1 186 6 d.its.length (rows eB d.its)::row sv.1 58 1 d.bz.length (rows bS (d.bz.map Prod.fst))::(bE (ek 200 3) d.its++bE (fq 3) d.bz))) rfl ?_
 have SD:frm<tqo:=by omega
 have YJ:=zB T
 obtain⟨w,hw⟩:=aE (show frm<words.length by omega)
 have hwd:words.getD frm []=w:=by rw[aw,hw];rfl
 have hrn:g.rules.length≤40:=by have h:(g.rules.map lI).length≤40:=O.rn;rwa[aN]at h
 have hxn:g.aL.length≤100:=by have h:(g.aL.map og).length≤100:=O.xn;rwa[aN]at h
 have Cx:∀(i:Nat) (r:cZ),g.rules[i]?=some r→(1≤r.kids∧r.kids≤3)∧e7 T.length nf (ay r.graph)∧r.graph.nodes.length≤60:=λi r h=>by have h1:=O.rule (lI r) (eN (ae h));exact⟨h1.1,h1.2.1,by rw[←cz];exact h1.2.2⟩
 have WU:∀(i:Nat) (x:eX),g.aL[i]?=some x→e7 T.length nf (ay x.graph)∧x.graph.nodes.length≤60:=λi x h=>by have h1:=O.lex (og x) (eN (ae h));exact⟨h1.1,by rw[←cz];exact h1.2⟩
 have abZ:∀(i:Nat) (r:cZ),g.rules[i]?=some r→(kT f T n g).rules.getD i oQ=lI r:=λi r h=>by show(g.rules.map lI).getD i oQ=_;rw[aw,bQ,h];rfl
 have ajP:∀(i:Nat) (x:eX),g.aL[i]?=some x→(kT f T n g).aL.getD i Qj=og x:=λi x h=>by show(g.aL.map og).getD i Qj=_;rw[aw,bQ,h];rfl
 obtain⟨Iz,Di,V⟩:=DR O (words:=words) hlen (show frm+len≤n by omega) hs;rw[←hte]at Iz Di V
 have Wc:((kT f T n g)).rules.length=g.rules.length:=aN _
 have hll:((kT f T n g)).aL.length=g.aL.length:=aN _
 refine St.join (ι:=nA) (λd1 T=>T) (λd1=>(aB (aF (λx:dJ=>aG x.gr) d1.its)::aW p (.cells (mq g b l f n d1.eC.1 sv.1 a).toArray 180 (0,0))::aW a (eU mkStr d1.m)::row d1.eC.1 186 6 d1.its.length (rows eB d1.its)::row sv.1 58 1 d1.bz.length (rows bS (d1.bz.map Prod.fst))::aB (hY f)::aB (sl cS g.rv.1 g.rules)::aB (aF bx g.rules)::aB (sl dy g.xv.1 g.aL)::aB (aF eO g.aL)::aB (sl bF b.1 (de T))::aB (sl bF l.1 (db T))::aB (tz)::aB (sl bL wv words)::(bE (ek 200 3) d1.its++bE (fq 3) d1.bz))) (λd1=>d1.nQ=sv∧lK d1∧d1.cs=mm (kT f T n g) words frm tqo d.cs) (aD.cons 0 rfl (aD.cons 2 rfl (aD.cons 3 rfl aD.nil))) ?_ ?_
 ·refine g8 ?_
  refine St.cq (λh22=> ?_) (λh22=> ?_)
  ·have SR:tqo=frm+1:=by omega
   refine g12 ?_;refine St.lH (ι:=Nat×nA) (λ⟨i,d1⟩ T=>(29,iv i)::T) (λ⟨i,d1⟩=>(aB (aF (λx:dJ=>aG x.gr) d1.its)::aW p (.cells (mq g b l f n d1.eC.1 sv.1 a).toArray 180 (0,0))::aW a (eU mkStr d1.m)::row d1.eC.1 186 6 d1.its.length (rows eB d1.its)::row sv.1 58 1 d1.bz.length (rows bS (d1.bz.map Prod.fst))::aB (hY f)::aB (sl cS g.rv.1 g.rules)::aB (aF bx g.rules)::aB (sl dy g.xv.1 g.aL)::aB (aF eO g.aL)::aB (sl bF b.1 (de T))::aB (sl bF l.1 (db T))::aB (tz)::aB (sl bL wv words)::(bE (ek 200 3) d1.its++bE (fq 3) d1.bz))) (λ⟨i,d1⟩=>i≤g.aL.length∧d1.nQ=sv∧lK d1∧d1.cs=(List.range i).foldl (rL (kT f T n g) w frm tqo) d.cs) (λ⟨i,d1⟩=>g.aL.length-i) ⟨0,d⟩ (aD.cons 0 rfl (aD.cons 1 rfl (aD.cons 2 rfl (aD.cons 3 rfl (aD.cons 27 rfl (aD.cons 28 rfl aD.nil)))))) ⟨aO _,hsv,hp,rfl⟩ ?_;rintro ⟨i,d1⟩ ⟨hi,s,A,D⟩
   dsimp only at hi s A D⊢
   refine g6 ?_;refine St.cq (λh30=> ?_) (λh30=> ?_)
   ·obtain⟨x,hx⟩:=aE (show i<g.aL.length by omega)
    obtain⟨I,A8⟩:=WU i x hx
    have hxs:=gP I R
    have hxE:=ajP i x hx
    obtain⟨tc,F⟩:=OA O (w:=w) SD S hs (show i<((kT f T n g)).aL.length by omega);rw[←D]at tc F
    have B:gi T.length nf n d1.cs:=tc.ok
    have J:Room d1.cs 1:=F
    have H4:=J.its
    rw[iT]at H4;obtain⟨q0,Qh⟩:=aE (show slt n frm tqo<d1.bz.length by rw[←Ch,B.GF];exact sW (by omega) S)
    have ab8:=za B Qh
    refine St.cI eO g.aL (x:=x) (ae hx) ?_;refine St.eY (aG x.graph) [eO x] (λρ h=>h (eO x) (aP ..) (aG x.graph) (aP ..)) ?_;refine g8 ?_;refine St.ee (Ev.jr (.mk rfl) hx zt trivial nR j7.eq) ?_;refine St.al (λb9=> ?_);refine go ?_;refine St.sA (.mk rfl) (.mk rfl) nR ?_ (h1:=(eW.2 λu hu=>dy.one x u hu));refine g3 ?_;refine St.rq mixed (by kernel_rfl) (Mm.drawn _ _) ?_;refine g9 ?_;refine St.cq (λh40=> ?_) (λh40=> ?_)
    ·have Wm:x.word=w:=by simpa using h40
     have Uh:rL (kT f T n g) w frm tqo d1.cs i=kZ n d1.cs ⟨frm,tqo,0,gl (ay x.graph) 0⟩ ⟨-1,i,[]⟩:=by unfold rL;rw[hxE,aC (show(og x).word=w from Wm)];rfl
     refine g5 ?_;refine St.ee (Ev.iV 1 (.mk rfl) mf trivial jT rfl rfl) ?_;refine St.slot 45 (bA x.graph) rfl rfl ?_;refine St.ag (qD x.graph T.length nf R I (by omega)) U9 (.ar rfl) rfl ?_;rintro v46 _ rfl;refine St.ao ?_;refine St.bK (gl (ay x.graph) 0) v46 (λy hy=> ?_);obtain⟨rfl,W⟩:=hy;obtain⟨m1,m2,_⟩:=tY I I.pos;rw[←W]at m1 m2;rw[cz,cz]at m2
     have Y:=gP m1 R
     refine St.e9 3 1 ?_;refine St.aM (.slice none 0 0) (show _=([]:List Nat).length from rfl) (show _=rows aI (bW [])from rfl) ?_;refine St.ee (Ev.build (bH.eh rfl rfl rfl) (λw=>tF rfl rfl w)) ?_;refine St.slot 47 (Gk frm tqo 0 y.nv.1) rfl rfl ?_;refine go ?_;refine St.ee (Ev.build (bH.aY rfl rfl) (λw=>Gf rfl rfl w)) ?_;refine St.slot 49 (.agg #[iv (-1),iv (i:Nat),bT.1]) rfl rfl ?_;refine St.pQ (ds:=[aG y,aF (λx:dJ=>aG x.gr) d1.its]) (L:=[aW p (.cells (mq g b l f n d1.eC.1 sv.1 a).toArray 180 (0,0)),aW a (eU mkStr d1.m),row d1.eC.1 186 6 d1.its.length (rows eB d1.its),row sv.1 58 1 d1.bz.length (rows bS (d1.bz.map Prod.fst)),row (.slice none 0 0) 3 1 (([]:List Nat)).length (rows aI (bW (([]:List Nat))))]) (X:=(bE (ek 200 3) d1.its++bE (fq 3) d1.bz)) (post:=λv L' X'=>∃d3:nA,d3.cs=kZ n d1.cs ⟨frm,tqo,0,ay y⟩ ⟨-1,(i:Nat),([]:List Nat)⟩∧d3.nQ=sv∧lK d3∧L'=[aB (aF (λx:dJ=>aG x.gr) d3.its),aW p (.cells (mq g b l f n d3.eC.1 sv.1 a).toArray 180 (0,0)),aW a (eU mkStr d3.m),row d3.eC.1 186 6 d3.its.length (rows eB d3.its),row sv.1 58 1 d3.bz.length (rows bS (d3.bz.map Prod.fst))]∧X'=(bE (ek 200 3) d3.its++bE (fq 3) d3.bz)) ?_ Mi (.eh rfl rfl rfl) rfl ?_
     ·subst s
      exact(ug g b l f n hn d1 A p a frm tqo 0 y (by omega) (λt ht=>by have:=(Y t ht).2;omega) (by omega) (by omega) (-1:Int) ((i:Nat):Int) (by unfold aa;omega) (by omega) bT [] q0 Qh (by omega) (by omega) (zM J B)).mono (λv H' ⟨d3,K,a2,a3,a4,a5,Z⟩=>⟨_,_,(by rw[a2]at Z;exact Z),d3,K,a2,a3,rfl,rfl⟩)
     rintro v50 _ _ ⟨d3,K,a2,a3,rfl,rfl⟩;refine St.CO ?_;refine g8 ?_;refine St.aH ⟨i+1,d3⟩ ⟨by omega,a2,a3,by rw[iz,←D,Uh,K,W]⟩
    ·have Wm:x.word≠w:=by simpa using h40
     have Uh:rL (kT f T n g) w frm tqo d1.cs i=d1.cs:=by unfold rL;rw[hxE,aA (show ¬(og x).word=w from Wm)]
     refine g8 ?_;refine St.aH ⟨i+1,d1⟩ ⟨by omega,s,A,by rw[iz,←D,Uh]⟩
   ·obtain rfl:i=g.aL.length:=by omega
    refine g5 ?_;refine St.mE d1 ⟨s,A,by rw[D];unfold mm;rw[aC SR,hwd,hll]⟩
  ·have SR:tqo≠frm+1:=by omega
   refine g12 ?_;refine St.lH (ι:=Nat×nA) (λ⟨i,d1⟩ T=>(58,iv i)::T) (λ⟨i,d1⟩=>(aB (aF (λx:dJ=>aG x.gr) d1.its)::aW p (.cells (mq g b l f n d1.eC.1 sv.1 a).toArray 180 (0,0))::aW a (eU mkStr d1.m)::row d1.eC.1 186 6 d1.its.length (rows eB d1.its)::row sv.1 58 1 d1.bz.length (rows bS (d1.bz.map Prod.fst))::aB (hY f)::aB (sl cS g.rv.1 g.rules)::aB (aF bx g.rules)::aB (sl dy g.xv.1 g.aL)::aB (aF eO g.aL)::aB (sl bF b.1 (de T))::aB (sl bF l.1 (db T))::aB (tz)::aB (sl bL wv words)::(bE (ek 200 3) d1.its++bE (fq 3) d1.bz))) (λ⟨i,d1⟩=>i≤g.rules.length∧d1.nQ=sv∧lK d1∧d1.cs=(List.range i).foldl (rP (kT f T n g) frm tqo) d.cs) (λ⟨i,d1⟩=>g.rules.length-i) ⟨0,d⟩ (aD.cons 0 rfl (aD.cons 2 rfl (aD.cons 3 rfl (aD.cons 56 rfl (aD.cons 57 rfl aD.nil))))) ⟨aO _,hsv,hp,rfl⟩ ?_;rintro ⟨i,d1⟩ ⟨hi,s,A,D⟩
   dsimp only at hi s A D⊢
   refine g6 ?_;refine St.cq (λh59=> ?_) (λh59=> ?_)
   ·obtain⟨r,E⟩:=aE (show i<g.rules.length by omega)
    obtain⟨hk,I,A8⟩:=Cx i r E
    have G:=abZ i r E
    obtain⟨tc,F⟩:=PJ O SD S SR hs (show i<((kT f T n g)).rules.length by omega);rw[←D]at tc F;rw[G]at F;refine St.cI bx g.rules (x:=r) (ae E) ?_;refine St.eY (aG r.graph) [bx r] (λρ h=>h (bx r) (aP ..) (aG r.graph) (aP ..)) ?_;refine g8 ?_;refine St.ee (Ev.jr (.mk rfl) E uO trivial kV j7.eq) ?_;refine St.al (λYA=> ?_);refine go ?_;refine St.sA (.mk rfl) (.mk rfl) kV ?_ (h1:=(eW.2 λu hu=>cS.one r u hu));refine g8 ?_;refine St.gt _ rfl rfl (λM=>Ev.dV (.mk rfl) xS) rfl ?_;refine St.gt _ rfl rfl (λM=>Ev.kP (ai.gv rfl M) gG trivial (by rfl)) rfl ?_;refine St.gt _ rfl rfl (λM=>Ev.move (.mk rfl)) rfl ?_;refine St.gt _ rfl rfl (λM=>Ev.move (.mk rfl)) rfl ?_;refine St.gt _ rfl rfl (λM=>Ev.sub (ai.gv rfl M) (ai.gv rfl M) (by first|omega|(simp only[ew]at M;omega))) rfl ?_;refine St.gt _ rfl rfl (λM=>Ev.leq (ai.gv rfl M) (ai.gv rfl M)) rfl ?_;refine g3 ?_;refine St.cq (λh73=> ?_) (λh73=> ?_)
    ·have Wf:rP (kT f T n g) frm tqo d1.cs i=uw (kT f T n g) i frm tqo (r.kids.toNat-1) d1.cs (ay r.graph) [] frm:=by unfold rP;rw[G,aC (show 1<(lI r).kids∧(lI r).kids≤(tqo:Int)-frm from h73)];rfl
     have J1:=F h73.1
     refine St.fk aI ?_;refine g4 ?_;refine St.ee (Ev.iV 1 (.mk rfl) mf trivial jT rfl rfl) ?_;refine St.slot 77 (bA r.graph) rfl rfl ?_;refine g3 ?_;refine St.pQ (ds:=[hY f,sl cS g.rv.1 g.rules,aF bx g.rules,sl bF b.1 (de T),sl bF l.1 (db T),tz,sl aI (.slice none 0 0) [],aG r.graph,aF (λx:dJ=>aG x.gr) d1.its]) (L:=[aW p (.cells (mq g b l f n d1.eC.1 sv.1 a).toArray 180 (0,0)),aW a (eU mkStr d1.m),row d1.eC.1 186 6 d1.its.length (rows eB d1.its),row sv.1 58 1 d1.bz.length (rows bS (d1.bz.map Prod.fst))]) (X:=(bE (ek 200 3) d1.its++bE (fq 3) d1.bz)) (post:=λv L' X'=>∃d3:nA,d3.cs=uw (kT f T n g) i frm tqo (r.kids.toNat-1) d1.cs (ay r.graph) [] frm∧d3.nQ=sv∧lK d3∧L'=[aB (aF (λx:dJ=>aG x.gr) d3.its),aW p (.cells (mq g b l f n d3.eC.1 sv.1 a).toArray 180 (0,0)),aW a (eU mkStr d3.m),row d3.eC.1 186 6 d3.its.length (rows eB d3.its),row sv.1 58 1 d3.bz.length (rows bS (d3.bz.map Prod.fst))]∧X'=(bE (ek 200 3) d3.its++bE (fq 3) d3.bz)) ((EK g b l T hT nf R f hf n hn p a frm tqo SD S i (by omega) r E hk (λi j=>(d.cs.at_ n i j).length) sv (r.kids.toNat-1) d1 r.graph bT [] frm s A tc J1 I A8 (GD r (ae E)) (by simp only[List.length_nil];omega) (.inr ⟨rfl,by omega⟩) SD (λk hk=>by cases hk)).mono (λv H' ⟨d3,K,a2,a3,a4,a5,Z⟩=>⟨_,_,Z,d3,K,a2,a3,rfl,rfl⟩)) UE (.aeG rfl rfl rfl rfl rfl rfl rfl) rfl ?_;rintro v81 _ _ ⟨d3,K,a2,a3,rfl,rfl⟩;refine St.CO ?_;refine g8 ?_;refine St.aH ⟨i+1,d3⟩ ⟨by omega,a2,a3,by rw[iz,←D,Wf];exact K⟩
    ·have Wf:rP (kT f T n g) frm tqo d1.cs i=d1.cs:=by unfold rP;rw[G,aA (show ¬(1<(lI r).kids∧(lI r).kids≤(tqo:Int)-frm)from λhh=>by have hh1:1<r.kids:=hh.1;have hh2:r.kids≤(tqo:Int)-frm:=hh.2;omega)]
     refine g8 ?_;refine St.aH ⟨i+1,d1⟩ ⟨by omega,s,A,by rw[iz,←D,Wf]⟩
   ·obtain rfl:i=g.rules.length:=by omega
    refine g5 ?_;refine St.mE d1 ⟨s,A,by rw[D];unfold mm;rw[aA SR,Wc]⟩
 ·rintro d1 ⟨s,A,D⟩
  refine g6 ?_;rw[←D]at Iz Di V
  have C:Room d1.cs (vQ (kT f T n g) d1.cs ((d1.cs.at_ n frm tqo).drop (0))):=by rw[List.drop_zero];exact Room.grow (hs.room.mono V) Di
  refine St.lH (ι:=Nat×nA) (λ⟨k,d1⟩ T=>(12,iv k)::T) (λ⟨k,d1⟩=>(aB (aF (λx:dJ=>aG x.gr) d1.its)::aW p (.cells (mq g b l f n d1.eC.1 sv.1 a).toArray 180 (0,0))::aW a (eU mkStr d1.m)::row d1.eC.1 186 6 d1.its.length (rows eB d1.its)::row sv.1 58 1 d1.bz.length (rows bS (d1.bz.map Prod.fst))::aB (hY f)::aB (sl cS g.rv.1 g.rules)::aB (aF bx g.rules)::aB (sl dy g.xv.1 g.aL)::aB (aF eO g.aL)::aB (sl bF b.1 (de T))::aB (sl bF l.1 (db T))::aB (tz)::aB (sl bL wv words)::(bE (ek 200 3) d1.its++bE (fq 3) d1.bz))) (λ⟨k,d1⟩=>d1.nQ=sv∧lK d1∧gi T.length nf n d1.cs∧Room d1.cs (vQ (kT f T n g) d1.cs ((d1.cs.at_ n frm tqo).drop (k)))∧∃fu,qT (kT f T n g) d1.cs ((d1.cs.at_ n frm tqo).drop (k))<fu∧qe (kT f T n g) frm tqo fu k d1.cs=pJ (kT f T n g) words frm tqo d.cs) (λ⟨k,d1⟩=>qT (kT f T n g) d1.cs ((d1.cs.at_ n frm tqo).drop (k))) ⟨0,d1⟩ (aD.cons 0 rfl (aD.cons 2 rfl (aD.cons 3 rfl aD.nil))) ⟨s,A,Iz,C,qT (kT f T n g) d1.cs (d1.cs.at_ n frm tqo)+1,by rw[List.drop_zero];exact pN _,by unfold pJ;rw[←D]⟩ ?_;rintro ⟨k,d1⟩ ⟨s,A,B,C,fu,hfu,YM⟩
  dsimp only at s A B C hfu YM⊢
  obtain⟨q,U⟩:=aE (show slt n frm tqo<d1.bz.length by rw[←Ch,B.GF];exact sW (by omega) S)
  have S9:=UP U
  have hql:=za B U
  have H4:=C.its
  rw[iT]at H4;refine g7 ?_;refine St.ee (Ev.iV 2 (.mk rfl) Bm trivial Bh rfl rfl) ?_;refine St.slot 87 (.agg #[iv (n:Nat),sv.1]) rfl rfl ?_;refine g2 ?_;refine St.call (CQ n frm tqo (slt n frm tqo) hn (by omega) (by omega) rfl sv d1.bz q U) Mj (.eh rfl rfl rfl) rfl ?_;rintro v90 _ ⟨rfl,rfl⟩;refine St.ao ?_;refine St.tail (bE (ek 200 3) d1.its++bE (fq 3) d1.bz) (row q.1.1 3 1 (q.2).length (rows aI (bW (q.2)))::(bE (ek 200 3) d1.its++bE (fq 3) (d1.bz.eraseIdx (slt n frm tqo)))) (pI _ _ _ U) ?_;refine go ?_;refine St.tail (row q.1.1 3 1 (q.2).length (rows aI (bW (q.2)))::(bE (ek 200 3) d1.its++bE (fq 3) (d1.bz.eraseIdx (slt n frm tqo)))) (bE (ek 200 3) d1.its++bE (fq 3) d1.bz) (pI (ek 200 3) (fq 3) d1.its U).symm ?_;refine g3 ?_;refine St.cq (λh92=> ?_) (λh92=> ?_)
  ·obtain⟨e,he⟩:=aE (show k<q.2.length by omega)
   have YH:(d1.cs.at_ n frm tqo)[k]?=some e:=by rw[S9];exact he
   have YF:e<d1.its.length:=by rw[←iT];exact B.q8 (ae YH)
   obtain⟨H,SY⟩:=aE YF
   have WO:(d1.cs.ed e).cw=H.cw:=by unfold Cs.ed;rw[EE SY];rfl
   have am9:H.cw≤3:=by have:=B.gr (cE H) (eN (ae SY));exact this.2.2.1
   refine g9 ?_;refine St.ee (Ev.iV 2 (.mk rfl) Bm trivial Bh rfl rfl) ?_;refine St.slot 98 (.agg #[iv (n:Nat),sv.1]) rfl rfl ?_;refine g2 ?_;refine St.call (CQ n frm tqo (slt n frm tqo) hn (by omega) (by omega) rfl sv d1.bz q U) Mj (.eh rfl rfl rfl) rfl ?_;rintro alW _ ⟨rfl,rfl⟩;refine St.ao ?_;refine St.tail (bE (ek 200 3) d1.its++bE (fq 3) d1.bz) (row q.1.1 3 1 (q.2).length (rows aI (bW (q.2)))::(bE (ek 200 3) d1.its++bE (fq 3) (d1.bz.eraseIdx (slt n frm tqo)))) (pI _ _ _ U) ?_;refine g2 ?_;refine St.ee (Ev.ct (.mk rfl) gG trivial (by omega) (gU (gT he))) ?_;refine St.tail (row q.1.1 3 1 (q.2).length (rows aI (bW (q.2)))::(bE (ek 200 3) d1.its++bE (fq 3) (d1.bz.eraseIdx (slt n frm tqo)))) (bE (ek 200 3) d1.its++bE (fq 3) d1.bz) (pI (ek 200 3) (fq 3) d1.its U).symm ?_;refine g13 ?_;refine St.ee (Ev.ct (.mk rfl) gG trivial (by omega) (eL eB _ e 2 _ SY (by decide))) ?_;refine g10 ?_;refine St.cq (λahZ=> ?_) (λahZ=> ?_)
   ·have hc3:H.cw=3:=by omega
    obtain⟨f2,g1,gq2,g3⟩:=Pz (Q:=(kT f T n g)) (frm:=frm) (tqo:=tqo) YH (by rw[WO];exact hc3) hfu;refine g10 ?_;refine St.sK ⟨k+1,d1⟩ ⟨s,A,B,C.mono (by unfold vQ;rw[oK _ YH];exact Nat.le_add_left _ _),f2,gq2,by rw[←g1];exact YM⟩ g3 (by repeat(first|exact Sub.nil|refine Sub.cons (by first|rfl|exact congrArg (λz=>some (iv z)) (by first|omega|(dsimp only;omega))|exact congrArg (λz=>some (Value.bool z)) (by first|assumption|exact j5 (by assumption))) ?_)) (λ_ hw=>hw.sub)
   ·have hc3:H.cw≠3:=by omega
    have WN:(d1.cs.ed e).cw≠3:=by rw[WO];exact hc3
    obtain⟨f2,g1,gq2⟩:=Xt (Q:=(kT f T n g)) (frm:=frm) (tqo:=tqo) YH WN hfu;refine g14 ?_;refine St.lH (ι:=Nat×nA) (λ⟨i,d2⟩ T=>(122,iv i)::T) (λ⟨i,d2⟩=>(aB (aF (λx:dJ=>aG x.gr) d2.its)::aW p (.cells (mq g b l f n d2.eC.1 sv.1 a).toArray 180 (0,0))::aW a (eU mkStr d2.m)::row d2.eC.1 186 6 d2.its.length (rows eB d2.its)::row sv.1 58 1 d2.bz.length (rows bS (d2.bz.map Prod.fst))::aB (hY f)::aB (sl cS g.rv.1 g.rules)::aB (aF bx g.rules)::aB (sl dy g.xv.1 g.aL)::aB (aF eO g.aL)::aB (sl bF b.1 (de T))::aB (sl bF l.1 (db T))::aB (tz)::aB (sl bL wv words)::(bE (ek 200 3) d2.its++bE (fq 3) d2.bz))) (λ⟨i,d2⟩=>i≤g.rules.length∧d2.nQ=sv∧lK d2∧d2.cs=(List.range i).foldl (qd (kT f T n g) frm tqo e) d1.cs) (λ⟨i,d2⟩=>g.rules.length-i) ⟨0,d1⟩ (aD.cons 0 rfl (aD.cons 2 rfl (aD.cons 3 rfl (aD.cons 12 rfl (aD.cons 13 rfl (aD.cons 14 rfl (aD.cons 120 rfl (aD.cons 121 rfl aD.nil)))))))) ⟨aO _,s,A,rfl⟩ ?_;rintro ⟨i,d2⟩ ⟨hi,AY,Nh,P⟩
    dsimp only at hi AY Nh P⊢
    refine g6 ?_;refine St.cq (λah0=> ?_) (λah0=> ?_)
    ·obtain⟨r,E⟩:=aE (show i<g.rules.length by omega)
     obtain⟨hk,I,A8⟩:=Cx i r E
     have G:=abZ i r E
     obtain⟨WY,EP,J1⟩:=Py O SD S B C YH WN (show i<((kT f T n g)).rules.length by omega);rw[←P]at WY EP J1;rw[G]at J1
     have ajK:e<d2.its.length:=by rw[←iT];exact fQ (by rw[iT];exact YF) EP.more
     obtain⟨o,N⟩:=aE ajK
     have hxm:=ae N
     obtain⟨H0,NY⟩:=Un WY N
     have ajI:o.cw=H.cw:=by have h:=congrArg oh.cw (EP.ed e (by rw[iT];exact YF));rw[WO]at h;rw[←h];unfold Cs.ed;rw[EE N];rfl
     have abS:(d2.cs.ed e).cw=H.cw:=by rw[←ajI];unfold Cs.ed;rw[EE N];rfl
     have SS:qd (kT f T n g) frm tqo e d2.cs i=if r.kids≠1 then d2.cs else match lO (kT f T n g) d2.cs i (ay r.graph) 1 e with|none=>d2.cs|some x=>kZ n d2.cs ⟨frm,tqo,H.cw+1,lu x⟩ ⟨i,0,[e]⟩:=by unfold qd;rw[G,abS];rfl
     refine St.cI bx g.rules (x:=r) (ae E) ?_;refine St.eY (aG r.graph) [bx r] (λρ h=>h (bx r) (aP ..) (aG r.graph) (aP ..)) ?_;refine g8 ?_;refine St.ee (Ev.jr (.mk rfl) E uO trivial kV j7.eq) ?_;refine St.al (λb16=> ?_);refine go ?_;refine St.sA (.mk rfl) (.mk rfl) kV ?_ (h1:=(eW.2 λu hu=>cS.one r u hu));refine g9 ?_;refine St.split 130 _ rfl (λhk1=> ?_) (λhk1=> ?_)
     ·have Nd:r.kids≠1:=by simpa using hk1
      refine St.bq rfl rfl rfl ?_;refine St.bq rfl rfl rfl ?_;refine St.bq rfl rfl rfl ?_;refine St.bq rfl rfl rfl ?_;refine St.bq rfl rfl rfl ?_;refine St.ee (Ev.gZ (.mk rfl) rfl (.mk rfl)) ?_;refine g2 ?_;refine St.Ih _ rfl rfl ?_;refine g9 ?_;refine St.aH ⟨i+1,d2⟩ ⟨by omega,AY,Nh,by rw[iz,←P,SS,aC Nd]⟩
     ·have Nd:r.kids=1:=by simpa using hk1
      have aj9:=J1 Nd
      refine St.cF rfl rfl ?_;refine go ?_;refine St.cF rfl rfl ?_;refine go ?_;refine St.cF rfl rfl ?_;refine go ?_;refine St.cF rfl rfl ?_;refine St.dup (hY f) ?_;refine St.tail (bE (ek 200 3) d2.its++bE (fq 3) d2.bz) (row o.wv.1 200 3 (o.cV).length (rows mH (o.cV))::row o.tv.1 3 1 (o.ba).length (rows aI (o.ba))::(bE (jF 3) o.cV++(bE (ek 200 3) (d2.its.eraseIdx e)++bE (fq 3) d2.bz))) (yq _ _ N) ?_;refine St.call (sy f hf (mq g b l f n d2.eC.1 sv.1 a) rfl p i 1 (by omega) (by omega) (by omega) d2.eC rfl d2.its e o N (Nh.ba o hxm)) UG (.gW rfl rfl rfl rfl) rfl ?_;rintro al2 _ ⟨rfl,rfl⟩;refine St.iQ ?_;refine St.ma [row o.wv.1 200 3 (o.cV).length (rows mH (o.cV)),row o.tv.1 3 1 (o.ba).length (rows aI (o.ba))] (bE (jF 3) o.cV++(bE (ek 200 3) (d2.its.eraseIdx e)++bE (fq 3) d2.bz)) (bE (ek 200 3) d2.its++bE (fq 3) d2.bz) (yq (ek 200 3) (bE (fq 3) d2.bz) N).symm ?_;refine St.cF rfl rfl ?_;refine go ?_;refine St.ee (Ev.kR (.mk rfl) rfl (.mk rfl)) ?_;refine g2 ?_;refine St.cond _ rfl (λWI=> ?_) (λWI=> ?_)
      ·skip
       have Gx:o.ba.any (q7 f i 1)=false:=by simpa using WI
       have YL:lO (kT f T n g) d2.cs i (ay r.graph) 1 e=none:=Pu N Gx
       refine g9 ?_;refine St.aH ⟨i+1,d2⟩ ⟨by omega,AY,Nh,by rw[iz,←P,SS,aA (λh=>h Nd),YL]⟩
      ·skip
       have Gx:o.ba.any (q7 f i 1)=true:=by simpa using WI
       have YL:lO (kT f T n g) d2.cs i (ay r.graph) 1 e=mw (hC T) (ay r.graph) 1 (ay o.gr):=Jn (T:=T) (n:=n) (g:=g) (y:=ay r.graph) N Gx
       refine g3 ?_;refine St.eY (aG o.gr) [aF (λx:dJ=>aG x.gr) d2.its] (λρ h=>h _ (aP ..) o hxm) ?_;refine St.l8 d2.eC.1 (by omega) (λbs cs Nj=> ?_)
       have B:gi T.length nf n d2.cs:=WY
       have J:Room d2.cs 1:=aj9
       have H4:=J.its
       rw[iT]at H4;obtain⟨q0,Qh⟩:=aE (show slt n frm tqo<d2.bz.length by rw[←Ch,B.GF];exact sW (by omega) S)
       have ab8:=za B Qh
       refine St.da (aB (sl bF b.1 (de T))::aB (sl bF l.1 (db T))::aB tz::aB (aG r.graph)::aB (aG o.gr)::(bE (ek 200 3) d2.its++bE (fq 3) d2.bz)) mixed (λnp ns=> ?_);refine SW.gd 0 ?_;refine SW.gd 1 ?_;refine SW.gd 2 ?_;refine SW.dd 3 rfl (λ_=>Ev.iV 2 (.mk rfl) wT trivial wQ rfl rfl) ?_;refine SW.slot 141 (kC b l) rfl rfl ?_;refine SW.gd 4 ?_;refine SW.dd 5 rfl (λ_=>Ev.iV 1 (.mk rfl) mf trivial jT rfl rfl) ?_;refine SW.slot 143 (bA r.graph) rfl rfl ?_;refine SW.gd 6 ?_;refine SW.gd 7 ?_;refine SW.gd 8 ?_;refine SW.gd 9 ?_;refine SW.gd 10 ?_;refine SW.dd 11 rfl (λ_=>Ev.mo (k:=e) Nj (.mk rfl) (.mk rfl) nT oX (by omega) (by omega)) ?_;refine SW.dd 12 rfl (λ_=>Ev.jZ Nj (.mk rfl) tT) ?_;refine SW.dd 13 rfl (λ_=>Ev.jZ Nj (.mk rfl) xU) ?_;refine SW.dd 14 rfl (λ_=>Ev.O8 (Rr:=eB) (sz:=1) (.mk rfl) N mf trivial jT (by omega) (by decide) (by decide)) ?_;refine SW.slot 152 (bA o.gr) rfl rfl ?_;refine SW.t2 15 19 ?_ ?_
       focus
        refine St.ag (qs b l T hT nf R r.graph o.gr 1 I H0 A8 NY (GD r (ae E) 1 (by omega) (by omega))) Ic (.gW rfl rfl rfl rfl) rfl ?_;rintro al4 _ ⟨u,z,rfl,hz,rfl⟩;refine St.ao ?_;refine St.bK z u (λy hy=> ?_);obtain⟨rfl,W⟩:=hy;refine g2 ?_;refine SW.go ?_;refine SW.gd 16 ?_;refine SW.gd 17 ?_;refine SW.gd 18 ?_;refine SW.t1 19 ?_;refine St.al (λb17=> ?_);refine g2 ?_;refine SW.go ?_;refine SW.t1 20 ?_;refine g3 ?_;refine SW.go ?_;refine SW.gd 21 ?_;refine SW.dn ?_
       rotate_left
       focus
        refine St.al (λb17=> ?_);refine g2 ?_;refine SW.go ?_;refine SW.t1 15 ?_;refine St.ag (qs b l T hT nf R r.graph o.gr 1 I H0 A8 NY (GD r (ae E) 1 (by omega) (by omega))) Ic (.gW rfl rfl rfl rfl) rfl ?_;rintro al4 _ ⟨u,z,rfl,hz,rfl⟩;refine St.ao ?_;refine St.bK z u (λy hy=> ?_);obtain⟨rfl,W⟩:=hy;refine g2 ?_;refine SW.go ?_;refine SW.gd 16 ?_;refine SW.gd 17 ?_;refine SW.gd 18 ?_;refine SW.t1 20 ?_;refine g3 ?_;refine SW.go ?_;refine SW.gd 21 ?_;refine SW.dn ?_
       all_goals
        refine g6 ?_;refine St.cond _ rfl (λWK=> ?_) (λWK=> ?_)
        ·skip
         obtain⟨z1,Sa⟩:∃z1,mw (hC T) (ay r.graph) 1 (ay o.gr)=some z1:=Option.isSome_iff_exists.1 (by simpa using WK)
         have hzz:=hz z1 Sa
         rw[hzz]at W;rw[Sa,←W]at YL;rw[←W]at Sa;obtain⟨y1,y2,y3⟩:=Hy YJ I H0 Sa
         have hyl:y.nodes.length≤60:=by rw[←cz];exact y2
         have hyt:0≤rR (ay y) 0:=(xi y1).2 (y3 0 ((xi I).1 (GD r (ae E) 0 (by omega) (by omega))))
         refine g6 ?_;refine St.slot 161 (iv ((H.cw+1:Nat):Int)) rfl (congrArg iv (by push_cast;rfl)) ?_;refine go ?_;refine St.slot 162 (bA y) rfl rfl ?_;refine St.ag (px y T.length nf R y1 (by omega) hyt) Mh (.ar rfl) rfl ?_;rintro al5 _ rfl;refine St.ao ?_;refine St.bK (lu (ay y)) al5 (λmy hm=> ?_);obtain⟨rfl,Ui⟩:=hm;obtain⟨m1,m2⟩:=qP y1 y2;rw[←Ui]at m1 m2;rw[cz]at m2
         have Y:=gP m1 R
         refine St.ee (Ev.build (bH.gW rfl rfl rfl rfl) (λw=>yM rfl rfl rfl w)) ?_;refine St.slot 164 (Gk frm tqo (H.cw+1) my.nv.1) rfl rfl ?_;refine g2 ?_;refine St.fp rfl (.ar rfl) bI dL eQ rfl rfl (by simp[Value.cells]) rfl rfl (λKN=> ?_);refine St.aM (.slice (some ⟨KN,0,none⟩) 1 1) (show _=[e].length from rfl) (show _=rows aI (bW [e])from rfl) ?_;refine St.ee (Ev.build (bH.aY rfl rfl) (λw=>yN rfl rfl w)) ?_;refine St.slot 168 (.agg #[iv (i:Nat),iv 0,.slice (some ⟨KN,0,none⟩) 1 1]) rfl rfl ?_;refine St.pQ (ds:=[aG my,aF (λx:dJ=>aG x.gr) d2.its]) (L:=[aW p (.cells (mq g b l f n d2.eC.1 sv.1 a).toArray 180 (0,0)),aW a (eU mkStr d2.m),row d2.eC.1 186 6 d2.its.length (rows eB d2.its),row sv.1 58 1 d2.bz.length (rows bS (d2.bz.map Prod.fst)),row (.slice (some ⟨KN,0,none⟩) 1 1) 3 1 ([e]).length (rows aI (bW ([e])))]) (X:=(bE (ek 200 3) d2.its++bE (fq 3) d2.bz)) (post:=λv L' X'=>∃d3:nA,d3.cs=kZ n d2.cs ⟨frm,tqo,(H.cw+1),ay my⟩ ⟨(i:Nat),0,[e]⟩∧d3.nQ=sv∧lK d3∧L'=[aB (aF (λx:dJ=>aG x.gr) d3.its),aW p (.cells (mq g b l f n d3.eC.1 sv.1 a).toArray 180 (0,0)),aW a (eU mkStr d3.m),row d3.eC.1 186 6 d3.its.length (rows eB d3.its),row sv.1 58 1 d3.bz.length (rows bS (d3.bz.map Prod.fst))]∧X'=(bE (ek 200 3) d3.its++bE (fq 3) d3.bz)) ?_ Mi (.eh rfl rfl rfl) rfl ?_
         ·subst AY
          exact(ug g b l f n hn d2 Nh p a frm tqo (H.cw+1) my (by omega) (λt ht=>by have:=(Y t ht).2;omega) (by omega) (by omega) ((i:Nat):Int) (0:Int) (by unfold aa;omega) (by omega) ⟨.slice (some ⟨KN,0,none⟩) 1 1,rfl⟩ [e] q0 Qh (by omega) (by omega) (zM J B)).mono (λv H' ⟨d3,K,a2,a3,a4,a5,Z⟩=>⟨_,_,(by rw[a2]at Z;exact Z),d3,K,a2,a3,rfl,rfl⟩)
         rintro aoJ _ _ ⟨d3,K,a2,a3,rfl,rfl⟩;refine St.CO ?_;refine g8 ?_;refine St.aH ⟨i+1,d3⟩ ⟨by omega,a2,a3,by rw[iz,←P,SS,aA (λh=>h Nd),YL,K,Ui]⟩
        ·skip
         have hsn:mw (hC T) (ay r.graph) 1 (ay o.gr)=none:=by simpa using WK
         rw[hsn]at YL;refine g8 ?_;refine St.aH ⟨i+1,d2⟩ ⟨by omega,AY,Nh,by rw[iz,←P,SS,aA (λh=>h Nd),YL]⟩
    ·obtain rfl:i=g.rules.length:=by omega
     rw[←Wc]at P;obtain⟨s1,s2,s3,s4,s5⟩:=Fx O SD S B YH WN P;rw[←P]at g1;refine g12 ?_;refine St.sK ⟨k+1,d2⟩ ⟨AY,Nh,s1,Room.grow (C.mono s5) s2,f2,fQ s4 (Nat.lt_succ_iff.1 gq2),by rw[←g1];exact YM⟩ (by dsimp only;exact s4) (by repeat(first|exact Sub.nil|refine Sub.cons (by first|rfl|exact congrArg (λz=>some (iv z)) (by first|omega|(dsimp only;omega))|exact congrArg (λz=>some (Value.bool z)) (by first|assumption|exact j5 (by assumption))) ?_)) (λ_ hw=>hw.sub)
  ·have SK:(d1.cs.at_ n frm tqo).length≤k:=by rw[S9];omega
   rw[Th (Q:=(kT f T n g)) SK]at YM;refine g4 ?_;refine St.eF ?_;refine St.rV [] (aB (aF (λx:dJ=>aG x.gr) d1.its)::aW p (.cells (mq g b l f n d1.eC.1 sv.1 a).toArray 180 (0,0))::aW a (eU mkStr d1.m)::row d1.eC.1 186 6 d1.its.length (rows eB d1.its)::row sv.1 58 1 d1.bz.length (rows bS (d1.bz.map Prod.fst))::(bE (ek 200 3) d1.its++bE (fq 3) d1.bz)) ?_;exact⟨d1,YM,s,A,rfl⟩
end Go.Proofs.YtblifkgpebebmaaGreatDoor
