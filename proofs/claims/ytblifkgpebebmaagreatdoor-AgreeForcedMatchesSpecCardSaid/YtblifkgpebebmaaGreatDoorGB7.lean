/-
  Laws of walks through programs, and facts on grammars, trees and queries.
  Conditions: none.
-/
import Derived.Test.YtblifkgpebebmaaGreatDoorGB6
set_option maxHeartbeats 8000000
set_option maxRecDepth 20000
set_option linter.unusedVariables false
set_option linter.unusedSimpArgs false
namespace Go.Proofs.YtblifkgpebebmaaGreatDoor
open Go Go.J Tryz
inductive AQ:jZ→Prop
 |mk {r l:Int} {ks:List jZ} (h:ks.length≤1000) (k:∀t∈ks,AQ t):AQ (.mk r l ks)
def l6 (B:cr)(e:Nat):Nat:=((B.its.getD e gh).ed.tqo-(B.its.getD e gh).ed.frm)*4+(B.its.getD e gh).ed.cw
def Df (B:cr)(e:Nat):Nat:=8*((B.its.getD e gh).ed.tqo-(B.its.getD e gh).ed.frm)-7+(B.its.getD e gh).ed.cw
def rO (B:cr)(e:Nat):Nat:=(B.its.getD e gh).cW.length
def nb (B:cr)(l:List Nat):Nat:=(l.map (Df B)).sum
theorem KV (B:cr)(k:Nat)(l:List Nat):nb B (k::l)=Df B k+nb B l:=by unfold nb;rw[fK,ob]
structure o7 (B:cr):Prop where
 lex:∀e w,e<B.its.length→w<rO B e→(B.fz e w).rule<0→(B.fz e w).kids=[]∧(B.fz e w).lex<B.aN.length∧1≤Df B e
 rule:∀e w,e<B.its.length→w<rO B e→¬(B.fz e w).rule<0→(B.fz e w).rule<B.rules.length∧(B.fz e w).kids.length≤3∧(∀k∈(B.fz e w).kids,k<B.its.length∧l6 B k<l6 B e)∧nb B (B.fz e w).kids+1≤Df B e
 sz:∀e w,e<B.its.length→w<rO B e→ -1≤(B.fz e w).rule∧(B.fz e w).rule≤1000∧0≤(B.fz e w).lex∧(B.fz e w).lex≤1000
 wr:∀x∈B.rules,-1000000≤x∧x≤1000000
 wx:∀x∈B.aN,-1000000≤x∧x≤1000000
 bd:∀e,e<B.its.length→Df B e≤100
 ht:∀e,e<B.its.length→l6 B e<60
 nw:∀e,e<B.its.length→rO B e≤1117240000000
def MA (x:jr):Prop:= -(1000000*(x.code.length:Int))≤x.wt∧x.wt≤1000000*(x.code.length:Int)
def Ya (x:jr):Prop:=∀v∈x.code,0≤v∧v≤2000
def Ql (t:jZ):Prop:= -1≤t.rule∧t.rule≤1000∧0≤t.lex∧t.lex≤1000
structure Ds (B:cr)(e:Nat)(x:jr):Prop where
 len:x.code.length≤Df B e
 wt:MA x
 cd:Ya x
 thin:AQ x.tree
 rt:Ql x.tree
structure y5 (b m:Nat)(x:jr):Prop where
 len:x.code.length≤b
 wt:MA x
 cd:Ya x
 kids:∀t∈x.tree.kids,AQ t∧Ql t
 n:x.tree.kids.length≤m
 rt:Ql x.tree
theorem BC {B:cr}{l:List Nat}{k q:Nat}(h:l[k]?=some q):nb B (l.take (k+1))=nb B (l.take k)+Df B q:=by
 unfold nb
 rw[wo,h,cP,List.sum_append];simp
theorem R4 {B:cr}(l:List Nat)(k:Nat):nb B (l.take k)≤nb B l:=by
 have h:nb B l=nb B (l.take k)+nb B (l.drop k):=by
  unfold nb;rw[←List.sum_append,←cP,qj]
 omega
def MB (c x:jr):jr:=⟨c.wt+x.wt,c.code++x.code,.mk c.tree.rule c.tree.lex (c.tree.kids++ [x.tree])⟩
theorem Dv {B:cr}{b m k:Nat}{c x:jr}(h:y5 b m c)(hx:Ds B k x):y5 (b+Df B k) (m+1) (MB c x):=by
 refine⟨?_,?_,?_,?_,?_,h.rt⟩
 ·show(c.code++x.code).length≤_
  have:=h.len;have:=hx.len
  rw[bR];omega
 ·have h1:=h.wt;have d:=hx.wt
  unfold MA at h1 d⊢
  show-(1000000*((c.code++x.code).length:Int))≤c.wt+x.wt∧c.wt+x.wt≤1000000*((c.code++x.code).length:Int)
  rw[bR];push_cast;omega
 ·intro v a
  rcases cG.1 (show v∈c.code++x.code from a)with a|a
  ·exact h.cd v a
  ·exact hx.cd v a
 ·intro t ht
  rcases cG.1 (show t∈c.tree.kids++ [x.tree]from ht)with ht|ht
  ·exact h.kids t ht
  ·rw[bP]at ht;subst ht;exact⟨hx.thin,hx.rt⟩
 ·show(c.tree.kids++ [x.tree]).length≤_
  have:=h.n
  rw[bR,pb];omega
theorem jZ.eta (t:jZ):t= .mk t.rule t.lex t.kids:=by cases t;rfl
theorem VX {B:cr}{e b m:Nat}{x:jr}(h:y5 b m x)(a:b≤Df B e)(hm:m≤1000):Ds B e x:=
 ⟨dW h.len a,h.wt,h.cd,by rw[x.tree.eta];exact .mk (dW h.n hm) (λt ht=>(h.kids t ht).1),h.rt⟩
structure uc (B:cr)(e D:Nat)(c:jI):Prop where
 rk:Ds B e c.rk
 fz:c.fz<rO B e
 len:c.ranks.length=(B.fz e c.fz).kids.length
 rks:∀r∈c.ranks,r≤D
theorem uc.mono {B:cr}{e D a:Nat}{c:jI}(h:uc B e D c)(hd:D≤a):uc B e a c:=⟨h.rk,h.fz,h.len,λr b=>dW (h.rks r b) hd⟩
structure Qg (B:cr)(e:Nat)(x:wF):Prop where
 done:∀k∈x.done,Ds B e k
 next:∀c∈x.next,uc B e x.done.length c
 dl:x.done.length+l6 B e≤262
 new:x.begun=false→x.done=[]∧x.next=[]
 nl:x.next.length≤rO B e+3*x.done.length
structure jn (B:cr)(st:eC):Prop where
 len:st.length=B.its.length
 nl:∀(e:Nat) (x:wF),st[e]?=some x→Qg B e x
theorem jn.at_ {B:cr}{st:eC}(h:jn B st){e:Nat}(he:e<B.its.length):∃x,st[e]?=some x∧st.getD e nq=x∧Qg B e x:=by
 have a:e<st.length:=by rw[h.len];exact he
 exact⟨st[e],bU a,by rw[aw,bU a];rfl,h.nl e _ (bU a)⟩
theorem jn.set {B:cr}{st:eC}(h:jn B st){e:Nat}{y:wF}(hy:Qg B e y):jn B (st.set e y):=by
 refine⟨by rw[cn];exact h.len,λi x hx=> ?_⟩
 by_cases a:e=i
 ·subst a
  have b:e<st.length:=by have:=(fA.1 hx).1;rwa[cn]at this
  rw[fT b]at hx;obtain rfl:=Option.some.inj hx;exact hy
 ·rw[ik a]at hx;exact h.nl i x hx
def Kp (B:cr)(e:Nat)(st a:eC):Prop:=∀i,l6 B e≤l6 B i→a[i]?=st[i]?
theorem Kp.refl (B:cr)(e:Nat)(st:eC):Kp B e st st:=λ_ _=>rfl
theorem Kp.trans {B:cr}{e:Nat}{a b c:eC}(h:Kp B e a b)(k:Kp B e b c):Kp B e a c:=λi d=>(k i d).trans (h i d)
def Hp (B:cr)(e:Nat)(st a:eC):Prop:=∀i,l6 B e<l6 B i→a[i]?=st[i]?
theorem Hp.refl (B:cr)(e:Nat)(st:eC):Hp B e st st:=λ_ _=>rfl
theorem Hp.trans {B:cr}{e:Nat}{a b c:eC}(h:Hp B e a b)(k:Hp B e b c):Hp B e a c:=λi d=>(k i d).trans (h i d)
theorem Kp.hp {B:cr}{e:Nat}{a b:eC}(h:Kp B e a b):Hp B e a b:=λi c=>h i (Nat.le_of_lt c)
theorem Hp.kp {B:cr}{k e:Nat}{a b:eC}(h:Hp B k a b)(hk:l6 B k<l6 B e):Kp B e a b:=λi c=>h i (fO hk c)
theorem Hp.set {B:cr}{e:Nat}(st:eC)(y:wF):Hp B e st (st.set e y):=λi a=>ik (λh=>by subst h;omega)
structure su (B:cr)(f:Nat)(get:eC→Nat→Nat→eC×Option jr):Prop where
 ok:∀(e r:Nat) (st:eC),e<B.its.length→l6 B e<f→r+1+l6 B e≤262→jn B st→jn B (get st e r).1∧Hp B e st (get st e r).1∧∀x,(get st e r).2=some x→Ds B e x
section
variable {B:cr}{f:Nat}{get:eC→Nat→Nat→eC×Option jr}
theorem vK (k r:Nat)(l:List (Nat×Nat))(st:eC)(c:jr):vJ get ((k,r)::l) st c=match get st k r with|(st,none)=>(st,none)|(st,some x)=>vJ get l st (MB c x):=rfl
theorem Nt (h:su B f get){e:Nat}(q:l6 B e<f+1):∀(l:List (Nat×Nat)) (st:eC) (c:jr) (b m:Nat),(∀p∈l,p.1<B.its.length∧l6 B p.1<l6 B e∧p.2+l6 B e≤262)→jn B st→y5 b m c→
 jn B (vJ get l st c).1∧Kp B e st (vJ get l st c).1∧∀x,(vJ get l st c).2=some x→y5 (b+nb B (l.map Prod.fst)) (m+l.length) x
 | [],st,c,b,m,_,d,g=>⟨d,.refl _ _ _,λx hx=>by obtain rfl:=Option.some.inj hx;exact g⟩
 |(k,r)::l,st,c,b,m,i,d,g=>by
  obtain⟨j,a2,a3⟩:=i (k,r) (aQ ..)
  dsimp only at j a2 a3
  obtain⟨h1,a,n⟩:=h.ok k r st j (by omega) (by omega) d;rw[vK]
  rcases o:get st k r with⟨st2,_|x⟩
  ·rw[o]at h1 a
   exact⟨h1,a.kp a2,λx hx=>by cases hx⟩
  ·rw[o]at h1 a n
   dsimp only
   obtain⟨s,t,k3⟩:=Nt h q l st2 (MB c x) (b+Df B k) (m+1) (λp hp=>i p (cO _ hp)) h1 (Dv g (n x rfl));refine⟨s,(a.kp a2).trans t,λy hy=> ?_⟩
   have u:=k3 y hy
   rw[fK,KV,fU];rw[show b+(Df B k+nb B (l.map Prod.fst))=b+Df B k+nb B (l.map Prod.fst) by omega,show m+(l.length+1)=m+1+l.length by omega];exact u
def XB (B:cr)(e w:Nat):jr:=⟨B.aN.getD (B.fz e w).lex.toNat 0,[1000+(B.fz e w).lex],.mk (B.fz e w).rule (B.fz e w).lex []⟩
def FT (B:cr)(e w:Nat):jr:=⟨B.rules.getD (B.fz e w).rule.toNat 0,[(B.fz e w).rule],.mk (B.fz e w).rule (B.fz e w).lex []⟩
theorem Iy {l:List Int}(h:∀x∈l,-1000000≤x∧x≤1000000)(i:Nat): -1000000≤l.getD i 0∧l.getD i 0≤1000000:=by
 rw[aw]
 cases a:l[i]? with
 |none=>exact⟨by decide,by decide⟩
 |some x=>exact h x (aZ a)
theorem Sl (a:o7 B){e w:Nat}(he:e<B.its.length)(hw:w<rO B e)(b:(B.fz e w).rule<0):Ds B e (XB B e w):=by
 obtain⟨h1,g,c⟩:=a.lex e w he hw b
 have d:=a.sz e w he hw
 have h:=Iy a.wx (B.fz e w).lex.toNat
 refine⟨c,?_,?_,.mk (aP _) (λt ht=>by cases ht),d⟩
 ·unfold MA;show-(1000000*((1:Nat):Int))≤B.aN.getD _ 0∧B.aN.getD _ 0≤1000000*((1:Nat):Int);omega
 ·intro v f
  rw[show v=1000+(B.fz e w).lex from bP.1 f];omega
theorem JR (a:o7 B){e w:Nat}(he:e<B.its.length)(hw:w<rO B e)(d:¬(B.fz e w).rule<0):y5 1 0 (FT B e w):=by
 have b:=a.sz e w he hw
 have f:=Iy a.wr (B.fz e w).rule.toNat
 refine⟨aR _,?_,?_,λt ht=>(by cases ht),aP _,b⟩
 ·unfold MA;show-(1000000*((1:Nat):Int))≤B.rules.getD _ 0∧B.rules.getD _ 0≤1000000*((1:Nat):Int);omega
 ·intro v c
  rw[show v=(B.fz e w).rule from bP.1 c];omega
theorem EA {st:eC}{e w:Nat}{ranks:List Nat}(a:(B.fz e w).rule<0):n5 B get st e w ranks=(st,some ⟨XB B e w,w,ranks⟩):=by unfold n5;rw[aC a];rfl
theorem yZ {st:eC}{e w:Nat}{ranks:List Nat}(a:¬(B.fz e w).rule<0):n5 B get st e w ranks=match vJ get ((B.fz e w).kids.zip ranks) st (FT B e w)with
 |(st,none)=>(st,none)
 |(st,some x)=>(st,some ⟨x,w,ranks⟩):=by unfold n5;rw[aA a];rfl
theorem Y9 (c:o7 B){e w D:Nat}{ranks:List Nat}(he:e<B.its.length)(hw:w<rO B e)(d:¬(B.fz e w).rule<0)(f:∀r∈ranks,r≤D)(i:D+l6 B e≤262):∀p∈(B.fz e w).kids.zip ranks,p.1<B.its.length∧l6 B p.1<l6 B e∧p.2+l6 B e≤262:=λp hp=>by
 obtain⟨_,_,g,_⟩:=c.rule e w he hw d
 have h1:=List.of_mem_zip (a:=p.1) (b:=p.2) hp
 obtain⟨h,a2⟩:=g p.1 h1.1
 have:=f p.2 h1.2
 exact⟨h,a2,by omega⟩
theorem Cg (g:o7 B)(n:su B f get){e w D:Nat}{ranks:List Nat}{st:eC}(he:e<B.its.length)(o:l6 B e<f+1)(hw:w<rO B e)(a:ranks.length=(B.fz e w).kids.length)(i:∀r∈ranks,r≤D)(p:D+l6 B e≤262)(j:jn B st):
 jn B (n5 B get st e w ranks).1∧Kp B e st (n5 B get st e w ranks).1∧∀c,(n5 B get st e w ranks).2=some c→uc B e D c:=by
 by_cases b:(B.fz e w).rule<0
 ·rw[EA b]
  exact⟨j,.refl _ _ _,λc d=>by obtain rfl:=Option.some.inj d;exact⟨Sl g he hw b,hw,a,i⟩⟩
 ·rw[yZ b]
  obtain⟨q,s,t,u⟩:=g.rule e w he hw b;obtain⟨h1,h,k⟩:=Nt n o _ st _ 1 0 (Y9 g he hw b i p) j (JR g he hw b)
  rcases l:vJ get ((B.fz e w).kids.zip ranks) st (FT B e w)with⟨st2,_|x⟩
  ·rw[l]at h1 h
   exact⟨h1,h,λc d=>by cases d⟩
  ·rw[l]at h1 h k
   refine⟨h1,h,λc d=> ?_⟩;obtain rfl:=Option.some.inj d
   have m:=k x rfl
   rw[List.map_fst_zip (by omega),List.length_zip,a,Nat.min_self]at m;exact⟨VX m (by omega) (by omega),hw,a,i⟩
end
theorem Y7:(prog.info? 69).bind (λi=>i.zero.map Value.cells)=some #[.int .i64 0,.int .i64 0,.slice none 0 0]:=by kernel_rfl
instance:type_of%(rH.mk Y7):=⟨Y7⟩
instance:gw prog 69 0 0:=⟨by kernel_rfl⟩
instance:gw prog 69 1 1:=⟨by kernel_rfl⟩
theorem alK (w:World):cu prog 69 w= .ok #[(0,1),(1,1),(2,1)] w:=by kernel_rfl
theorem pw:(prog.info? 69).map (·.size)=some 3:=by kernel_rfl
instance:type_of%(pc.mk pw):=⟨pw⟩
instance:gw prog 69 2 2:=⟨by kernel_rfl⟩
theorem Zl:aI prog 28:=⟨_,func28,rfl,by kernel_rfl⟩
theorem Lq:(prog.info? 69).bind (·.zero)=some (Value.agg #[.int .i64 0,.int .i64 0,.slice none 0 0]):=by kernel_rfl
theorem Vk:(prog.info? 69).map (·.bytes)=some 40:=by kernel_rfl
theorem Xl:(prog.info? 44).map (·.size)=some 1:=by kernel_rfl
instance:gw prog 71 0 0:=⟨by kernel_rfl⟩
instance:gw prog 71 1 1:=⟨by kernel_rfl⟩
theorem ZF:aI prog 101:=⟨_,func101,rfl,by kernel_rfl⟩
theorem vn:(prog.info? 71).map (·.size)=some 5:=by kernel_rfl
instance:type_of%(pc.mk vn):=⟨vn⟩
theorem jk:(prog.info? 196).map (·.size)=some 7:=by kernel_rfl
instance:type_of%(pc.mk jk):=⟨jk⟩
instance:gw prog 196 0 0:=⟨by kernel_rfl⟩
theorem Zp:aI prog 53:=⟨_,func53,rfl,by kernel_rfl⟩
theorem p8 : yD prog 202 "Less" 206 false 192 := ⟨by kernel_rfl, by kernel_rfl⟩
theorem p9 : yD prog 202 "Swap" 207 false 192 := ⟨by kernel_rfl, by kernel_rfl⟩
theorem Mh:aI prog 206:=⟨_,func206,rfl,by kernel_rfl⟩
theorem Mi:aI prog 207:=⟨_,func207,rfl,by kernel_rfl⟩
theorem qO : yD prog 202 "Len" 95 false 192 := ⟨by kernel_rfl, by kernel_rfl⟩
theorem RA:aI prog 95:=⟨_,func95,rfl,by kernel_rfl⟩
theorem UG:aI prog 131:=⟨_,func131,rfl,by kernel_rfl⟩
theorem K3:(prog.info? 196).bind (λi=>i.zero.map Value.cells)=some #[.int .i64 0,.slice none 0 0,.int .i64 0,.int .i64 0,.slice none 0 0,.int .i64 0,.slice none 0 0]:=by kernel_rfl
instance:type_of%(rH.mk K3):=⟨K3⟩
theorem Ji:(prog.info? 192).map (·.size)=some 1:=by kernel_rfl
theorem Ej : yD prog 202 "Pop" 208 true 192 := ⟨by kernel_rfl, by kernel_rfl⟩
theorem Zj:aI prog 208:=⟨_,func208,rfl,by kernel_rfl⟩
theorem C9:(prog.info? 196).bind (·.zero)=some (Value.agg #[.int .i64 0,.slice none 0 0,.int .i64 0,.int .i64 0,.slice none 0 0,.int .i64 0,.slice none 0 0]):=by kernel_rfl
theorem Mb:(prog.info? 196).map (·.bytes)=some 104:=by kernel_rfl
theorem D7 : yD prog 202 "Push" 209 true 192 := ⟨by kernel_rfl, by kernel_rfl⟩
theorem Zk:aI prog 209:=⟨_,func209,rfl,by kernel_rfl⟩
theorem ZR:aI prog 132:=⟨_,func132,rfl,by kernel_rfl⟩
theorem Zo:aI prog 52:=⟨_,func52,rfl,by kernel_rfl⟩
instance:gw prog 127 2 2:=⟨by kernel_rfl⟩
theorem Uy (w:World):cu prog 196 w= .ok #[(0,5),(5,1),(6,1)] w:=by kernel_rfl
instance:gw prog 71 2 2:=⟨by kernel_rfl⟩
instance:gw prog 127 1 1:=⟨by kernel_rfl⟩
instance:gw prog 127 0 0:=⟨by kernel_rfl⟩
theorem Y8:(prog.info? 71).bind (λi=>i.zero.map Value.cells)=some #[.int .i64 0,.slice none 0 0,.int .i64 0,.int .i64 0,.slice none 0 0]:=by kernel_rfl
instance:type_of%(rH.mk Y8):=⟨Y8⟩
theorem Zt:aI prog 93:=⟨_,func93,rfl,by kernel_rfl⟩
instance:gw prog 127 3 3:=⟨by kernel_rfl⟩
theorem PU:(prog.info? 194).map (·.size)=some 3:=by kernel_rfl
instance:type_of%(pc.mk PU):=⟨PU⟩
theorem Iu:bh prog 194 2=some 2:=by kernel_rfl
theorem ox:bh prog 194 1=some 1:=by kernel_rfl
theorem ahW:aI prog 94:=⟨_,func94,rfl,by kernel_rfl⟩
theorem nJ:bh prog 194 0=some 0:=by kernel_rfl
theorem ahX:aI prog 96:=⟨_,func96,rfl,by kernel_rfl⟩
theorem Tv:(prog.info? 71).bind (·.zero)=some (Value.agg #[.int .i64 0,.slice none 0 0,.int .i64 0,.int .i64 0,.slice none 0 0]):=by kernel_rfl
theorem ZD:(prog.info? 71).map (·.bytes)=some 72:=by kernel_rfl
theorem V7:(prog.info? 190).map (·.size)=some 1:=by kernel_rfl
instance:gw prog 196 2 6:=⟨by kernel_rfl⟩
theorem ahY:aI prog 97:=⟨_,func97,rfl,by kernel_rfl⟩
instance:gw prog 196 1 5:=⟨by kernel_rfl⟩
theorem ahZ:aI prog 98:=⟨_,func98,rfl,by kernel_rfl⟩
theorem alL (w:World):cu prog 71 w= .ok #[(0,1),(1,1),(2,3)] w:=by kernel_rfl
theorem Gh {a b:Value}(h1:a.oneCell'=true)(c:b.oneCell'=true)(w:World):(Instr.build 196 #[(1,a),(2,b)]).run prog w= .ok (.agg #[.int .i64 0,.slice none 0 0,.int .i64 0,.int .i64 0,.slice none 0 0,a,b]) w:=
 bM K3 (Uy w) (by simp[Instr.fill,J.bK,J.cells_one h1,J.cells_one c])
theorem BA {a b:Value}(c:a.oneCell'=true)(h1:b.oneCell'=true)(w:World):(Instr.build 69 #[(0,a),(1,b)]).run prog w= .ok (.agg #[a,b,.slice none 0 0]) w:=
 bM Y7 (alK w) (by simp[Instr.fill,J.bK,J.cells_one c,J.cells_one h1])
theorem Qz (w:World):(Instr.build 196 #[]).run prog w= .ok (.agg #[.int .i64 0,.slice none 0 0,.int .i64 0,.int .i64 0,.slice none 0 0,.int .i64 0,.slice none 0 0]) w:=
 bM K3 (Uy w) (by simp[Instr.fill,J.bK])
theorem MV (w:World):(Instr.build 71 #[]).run prog w= .ok (.agg #[.int .i64 0,.slice none 0 0,.int .i64 0,.int .i64 0,.slice none 0 0]) w:=
 bM Y8 (alL w) (by simp[Instr.fill,J.bK])
theorem lC (x:dE):cx x= .mk x.rule x.lex (x.kids.map cx):=by cases x;exact Fq _ _ _ _
theorem AQ.kids {x:dE}(h:AQ (cx x)):x.kids.length≤1000∧∀y∈x.kids,AQ (cx y):=by
 rw[lC]at h
 cases h with
 |mk h k=>exact⟨by rwa[aO]at h,λy hy=>k _ (eQ hy)⟩
theorem zt {x y:dE}(h:cx y=cx x):y.rule=x.rule∧y.lex=x.lex:=by
 rw[lC,lC x]at h;exact⟨(jZ.mk.injEq ..▸h).1,(jZ.mk.injEq ..▸h).2.1⟩
theorem Bl {α β:Type}{f:α→β}{l:List α}{k:Nat}{a:α}(h:l[k]?=some a):(l.take (k+1)).map f=(l.take k).map f++ [f a]:=by
 rw[wo,h,cP];rfl
abbrev kU (x:xQ):Value:= .agg #[iv x.wt,x.cv.1,iv x.tree.rule,iv x.tree.lex,x.tree.kv.1]
abbrev E9 (x:ku):Value:= .agg #[iv x.rk.wt,x.rk.cv.1,iv x.rk.tree.rule,iv x.rk.tree.lex,x.rk.tree.kv.1,iv (x.fz:Nat),x.rv.1]
theorem Gk:∀x:dE,dB.wf x→AQ (cx x)→dz prog 28 #[uP x] ([bx x].map aB) (λv H'=>∃y:dE,v=uP y∧cx y=cx x∧H'=[aB (bx y)]):=by
 intro x
 induction x using dE.ind
 rename_i x n
 intro hw g;refine dz.body (args:=[uP x]) 27 func28 rfl ntmps28 rfl (λc=> ?_);refine go ?_;refine St.cast (H':=[aB (bx x)]) rfl ?_;obtain⟨C,i⟩:=g.kids;refine St.Ew x ?_;refine St.wf x.kv.1 (λj D=> ?_);refine go ?_;refine St.dJ (.mk rfl) rfl (λo=> ?_);refine St.al (λp=> ?_);refine g8 ?_;refine St.ee (Ev.build (bH.aX rfl rfl) (λw=>BA rfl rfl w)) ?_;refine St.al (λl=> ?_);refine g13 ?_;refine St.dw 69 3 ?_;refine St.aM (.slice none 0 0) (show _=([]:List dE).length from rfl) (show _=rows dB []from rfl) ?_;refine St.dN bx ?_;refine St.lH (ι:=Nat×aV×List dE) (λ⟨k,kv,a⟩ T=>(14,iv k)::T) (λ⟨k,kv,a⟩=>[row kv.1 69 3 (a).length (rows dB (a)),aW l (.cells [iv x.rule,iv x.lex,kv.1].toArray 69 (0,0)),aB (aF bx a),aB (sl dB x.kv.1 x.kids),aB (aF bx x.kids),aW o (.cells (Jl x).toArray 69 (0,0)),aW p (.cells [iv 0,iv 0,(.slice none 0 0)].toArray 69 (0,0))]) (λ⟨k,kv,a⟩=>k≤x.kids.length∧a.map cx=(x.kids.take k).map cx) (λ⟨k,kv,a⟩=>x.kids.length-k) ⟨0,bT,[]⟩ (aD.cons 2 rfl (aD.cons 3 rfl (aD.cons 12 rfl (aD.cons 13 rfl aD.nil)))) ⟨aP _,rfl⟩ ?_;rintro ⟨k,kv,a⟩ ⟨hk,b⟩
 dsimp only at hk b⊢
 have q:a.length≤1000:=by have h:=congrArg List.length b;rw[aO,aO,eU]at h;omega
 refine g6 ?_;refine St.cq (λr=> ?_) (λr=> ?_)
 ·obtain⟨y,hy⟩:=aE (show k<x.kids.length by omega)
  have f:=aZ hy
  refine St.cL bx x.kids (x:=y) f ?_;refine g7 ?_;refine St.ee (Ev.js (.mk rfl) hy IE trivial pw j7.eq) ?_;refine St.al (λE=> ?_);refine g3 ?_;refine St.dc [aW l (.cells [iv x.rule,iv x.lex,kv.1].toArray 69 (0,0)),row kv.1 69 3 (a).length (rows dB (a))] mixed (λF G=> ?_)
  repeat' first
   |with_reducible refine SW.me ?_
    first
     |refine SW.gd 0 ?_
     |refine SW.gd 2 ?_
     |refine SW.gd 6 ?_
     |refine SW.t2 1 3 ?_ ?_
     |refine SW.t1 3 ?_
     |refine SW.t1 4 ?_
     |refine SW.t1 5 ?_
     |refine SW.t1 7 ?_
     |refine SW.t2 1 4 ?_ ?_
     |refine SW.t1 1 ?_
   |with_reducible refine SW.tg 1 ?_
    refine g3 ?_;refine SW.go ?_
   |with_reducible refine SW.tg 3 ?_
    refine St.ae (n y f (j y f) (i y f)) Zl (.ar rfl) rfl ?_;rintro v21 _ ⟨z,rfl,hz,rfl⟩;refine St.ao ?_;refine g2 ?_;refine SW.go ?_
   |with_reducible refine SW.tg 4 ?_
    refine St.gV rfl (.ar rfl) zy pw Lq rfl rfl (by simp[Value.cells]) rfl rfl (λs=> ?_);refine g2 ?_;refine SW.go ?_
   |with_reducible refine SW.tg 5 ?_
    refine St.aj (.mk rfl) (.mk rfl) zy pw Lq Vk (by intro u hu;exact dB.one z u hu) (by omega) (by omega) rfl rfl rfl rfl (λv23 t=> ?_);refine St.aM v23 (show _=(a++ [z]).length by rw[bR];rfl) (show _=rows dB (a++ [z]) by rw[ay];rfl) ?_;refine St.ba v23 (λm _=> ?_);refine St.ea (aF bx (a++ [z])) [aF bx a,bx z] (λρ h u hu=>by rcases cG.1 hu with hu|hu;exact h (aF bx a) (aQ ..) u hu;rw[bP]at hu;subst hu;exact h (bx u) (cO _ (aQ ..))) ?_;refine g2 ?_;refine SW.go ?_
   |with_reducible refine SW.tg 7 ?_
    refine St.cI (.mk rfl) (.mk rfl) Xl m (by rfl) ?_;refine g2 ?_;refine SW.go ?_
  all_goals refine SW.dn ?_
  all_goals
   refine g7 ?_;refine St.aH ⟨k+1,⟨v23,m⟩,a++ [z]⟩ ⟨by omega,by rw[cP,b,Bl hy,←hz];rfl⟩
 ·obtain rfl:k=x.kids.length:=by omega
  rw[jY]at b
  obtain⟨⟨d,e⟩,A⟩:∃z,z=kv:=⟨kv,rfl⟩
  subst A;refine St.bS d dB a rfl rfl (λy hy=> ?_) ?_
  ·have hm:cx y∈x.kids.map cx:=by rw[←b];exact eQ hy
   obtain⟨u,hu,he⟩:=dC.1 hm;obtain⟨B,e2⟩:=zt he.symm
   have hw:=j u hu
   exact⟨by rw[B];exact hw.1,by rw[e2];exact hw.2⟩
  refine St.ea (bx (.mk x.rule x.lex ⟨d,e⟩ a)) [sl dB d a,aF bx a] (λρ h=>oq.mk (x:= .mk x.rule x.lex ⟨d,e⟩ a) (h _ (aQ ..)) (λy hy=>h (aF bx a) (cO _ (aQ ..)) y hy)) ?_;refine g8 ?_;refine St.sA (.mk rfl) (.mk rfl) pw ?_ (h1:=(by simp only[List.all_cons,List.all_nil,Bool.and_true,Bool.and_eq_true];exact⟨rfl,rfl,e⟩));refine g3 ?_;refine St.rV [_] [aB (bx (.mk x.rule x.lex ⟨d,e⟩ a))] ?_;exact⟨.mk x.rule x.lex ⟨d,e⟩ a,rfl,by rw[lC,lC x,←b];rfl,rfl⟩
theorem y7 (x y:xQ):eE prog 53 #[kU x,kU y] [sl aJ x.cv.1 x.code,sl aJ y.cv.1 y.code] (iv (QR (ma x) (ma y))):=by
 refine eE.pO (args:=[kU x,kU y]) 17 func53 rfl ntmps53 rfl (λc=> ?_);refine g2 ?_;refine St.dJ (.mk rfl) rfl (λb=> ?_);refine St.dJ (.mk rfl) rfl (λd=> ?_);refine g4 ?_;refine St.pA [] mixed (λe f=> ?_);refine SW.gd 0 ?_;refine SW.gd 1 ?_;refine SW.gd 2 ?_;refine SW.gd 3 ?_;refine SW.dd 4 rfl (λ_=>Ev.call (ef _ _) qG (.aX rfl rfl)) ?_;refine SW.gd 5 ?_;refine SW.gd 6 ?_;refine SW.gd 7 ?_;refine SW.gd 8 ?_;refine SW.dd 9 rfl (λ_=>Ev.call (AM x.cv.1 y.cv.1 x.code y.code) ZF (.aX rfl rfl)) ?_;refine SW.t1 10 ?_;refine St.gV rfl (.aX rfl rfl) bJ dK eT rfl rfl (by simp[Value.cells]) rfl rfl (λa=> ?_);refine St.aM (.slice (some ⟨a,0,none⟩) 2 2) (show _=([(lp x.wt y.wt),(kP lp x.code y.code)]).length from rfl) (show _=rows aJ ([(lp x.wt y.wt),(kP lp x.code y.code)])from rfl) ?_;refine g2 ?_;refine SW.go ?_;refine SW.t1 11 ?_;refine St.ee (Ev.wI (tA (.slice (some ⟨a,0,none⟩) 2 2) [(lp x.wt y.wt),(kP lp x.code y.code)]) RB (.ar rfl) (dV.row dV.nil rfl rfl rfl (CT (λx hx=>by simp only[List.mem_cons,List.not_mem_nil,or_false]at hx;rcases hx with rfl|rfl;exact oB _ _;exact yb oB _ _)))) ?_;refine g2 ?_;refine SW.go ?_;refine SW.gd 12 ?_;refine SW.dn ?_;refine g2 ?_;refine St.rV [_] [] ?_;exact ie (show sq _ (sq _ 0)=_ by rw[JH];rfl)
theorem qn (v0:Value)(q:List ku):eE prog 95 #[v0] [sl jN v0 q] (iv (q.length:Nat)):=by
 refine eE.nH (args:=[v0]) 5 func95 rfl ntmps95 rfl (λc=> ?_);refine g13 ?_;refine St.rV [_] [] ?_;exact ie rfl
theorem sJ (v0:Value)(q:List ku)(i j:Nat)(x y:ku)(hx:q[i]?=some x)(hy:q[j]?=some y):eE prog 206 #[v0,iv (i:Nat),iv (j:Nat)] [sl jN v0 q,aF hS q] (.bool (decide (QR (ma x.rk) (ma y.rk)<0))):=by
 refine eE.pO (args:=[v0,iv (i:Nat),iv (j:Nat)]) 19 func206 rfl ntmps206 rfl (λc=> ?_);refine go ?_
 have b:=ai hx
 have a:=ai hy
 refine St.ea (sl aJ x.rk.cv.1 x.rk.code) [aF hS q] (λρ h=>h _ (aQ ..) x (aZ hx) _ (aQ ..)) ?_;refine St.ea (sl aJ y.rk.cv.1 y.rk.code) [aF hS q] (λρ h=>h _ (aQ ..) y (aZ hy) _ (aQ ..)) ?_;refine g5 ?_;refine St.rq mixed (by kernel_rfl) (Mm.drawn _ _) ?_;refine g4 ?_;refine Sq.ee (Ev.Ea (Rr:=jN) (sz:=5) (.mk rfl) hx IG trivial vn (by decide) (by decide)) ?_;refine Sq.slot 11 (kU x.rk) rfl rfl ?_;refine g4 ?_;refine Sq.ee (Ev.Ea (Rr:=jN) (sz:=5) (.mk rfl) hy IG trivial vn (by decide) (by decide)) ?_;refine Sq.slot 16 (kU y.rk) rfl rfl ?_;refine Sq.ee (Ev.call (y7 x.rk y.rk) Zp (.aX rfl rfl)) ?_;refine g5 ?_;refine St.rV [_] [] ?_;rfl
def jK.wn (x:jK)(u:aV)(q:List ku):jK:=⟨x.dv,x.done,u,q,x.begun⟩
theorem uB {L:List jK}{e o:Nat}{x:jK}(h:L[e]?=some x)(a:o<3):(rows fL L)[e*3+o]?=[x.dv.1,x.nv.1,.bool x.begun][o]?:=eO fL L e o x h a
theorem nN {L:List jK}{e:Nat}{x:jK}(h:L[e]?=some x):(rows fL L)[e*3+1]?=some x.nv.1:=uB h (by decide)
theorem pF {α:Type}(Rr:Rp α){l:List α}{i o:Nat}{g b:α}{u:Value}(h:l[i]?=some g)(c:o<Rr.size)(d:(Rr.cells g).set o u=Rr.cells b):(rows Rr l).set (i*Rr.size+o) u=rows Rr (l.set i b):=by
 induction l generalizing i with
 |nil=>cases h
 |cons a l f=>
  cases i with
  |zero=>
   obtain rfl:=Option.some.inj h;rw[Nat.zero_mul,iW,sG]
   show(Rr.cells a++rows Rr l).set o u=Rr.cells b++rows Rr l
   rw[List.set_append_left _ _ (by rw[Rr.len];exact c),d]
  |succ i=>
   have e:(i+1)*Rr.size+o=(Rr.cells a).length+(i*Rr.size+o):=by rw[Rr.len,jf];omega
   rw[wm]
   show(Rr.cells a++rows Rr l).set _ u=Rr.cells a++rows Rr (l.set i b)
   rw[e,lJ _ _ (by omega),show(Rr.cells a).length+(i*Rr.size+o)-(Rr.cells a).length=i*Rr.size+o by omega,f h]
theorem oM {L:List jK}{e:Nat}{x:jK}(h:L[e]?=some x)(u:aV)(q:List ku):(rows fL L).set (e*3+1) u.1=rows fL (L.set e (x.wn u q)):=pF fL h (by decide) rfl
def rS (q:List ku)(i j:Nat)(x y:ku):List ku:=(q.set i y).set j x
theorem oT (q:List ku)(i j:Nat)(x y:ku):(rS q i j x y).length=q.length:=by unfold rS;rw[cn,cn]
theorem qu {q:List ku}{i:Nat}{x:ku}(h:q[i]?=some x):(q.map iR).getD i Ih=iR x:=by rw[aw,bQ,h];rfl
theorem I6 {q:List ku}{i j:Nat}{x y:ku}(hx:q[i]?=some x)(hy:q[j]?=some y):(rS q i j x y).map iR=xL (q.map iR) i j:=by
 unfold rS xL;rw[jm,jm,qu hx,qu hy]
theorem oU {q:List ku}{i j:Nat}{x y u:ku}(hx:q[i]?=some x)(hy:q[j]?=some y)(h:u∈rS q i j x y):u∈q:=by
 rcases lI h with h|rfl
 ·rcases lI h with h|rfl
  ·exact h
  ·exact aZ hy
 ·exact aZ hx
theorem HL {q:List ku}{i j:Nat}{x y:ku}(hx:q[i]?=some x)(hy:q[j]?=some y):vN (q.map iR) i j=decide (QR (ma x.rk) (ma y.rk)<0):=by unfold vN;rw[qu hx,qu hy];rfl
theorem N1 {f i n:Nat}{q:List jI}(h:n≤2*i+1):oE f q i n=q:=by
 cases f with
 |zero=>rfl
 |succ f=>rw[oE,aC h]
theorem N0 {f i n:Nat}{q:List jI}(b:0<f)(h:¬n≤2*i+1)(a:vN q (p5 q i n) i=false):oE f q i n=q:=by
 obtain⟨k,rfl⟩:∃k,f=k+1:=⟨f-1,by omega⟩
 rw[oE,aA h,aC a]
theorem W1 {f i n:Nat}{q:List jI}(b:0<f)(h:¬n≤2*i+1)(a:vN q (p5 q i n) i=true):oE f q i n=oE (f-1) (xL q i (p5 q i n)) (p5 q i n) n:=by
 obtain⟨k,rfl⟩:∃k,f=k+1:=⟨f-1,by omega⟩
 rw[oE,aA h,aA (by rw[a];decide)];rfl
theorem V0 {a:Int}{n:Nat}(b:a=n)(c:n<4611686018427387904):IntKind.i64.wrap (a.tdiv 2)=((n/2:Nat):Int):=by
 subst b
 have h1:((n:Int)).tdiv 2=((n/2:Nat):Int):=by rw[Int.tdiv_eq_ediv_of_nonneg (by omega)];omega
 rw[h1]
 have:n/2≤n:=Nat.div_le_self ..
 exact uX (by omega)
theorem pA (j:Nat)(a:j<4611686018427387904):IntKind.i64.wrap (((j:Int)-1).tdiv 2)=(((j-1)/2:Nat):Int):=by
 by_cases h:j=0
 ·subst h;decide
 ·exact V0 (by omega) (by omega)
theorem Jv {f j:Nat}{q:List jI}(h:(j-1)/2=j∨vN q j ((j-1)/2)=false):Jr f q j=q:=by
 cases f with
 |zero=>rfl
 |succ f=>rw[Jr,aC h]
theorem afD {f j:Nat}{q:List jI}(b:0<f)(h:(j-1)/2≠j)(a:vN q j ((j-1)/2)=true):Jr f q j=Jr (f-1) (xL q ((j-1)/2) j) ((j-1)/2):=by
 obtain⟨k,rfl⟩:∃k,f=k+1:=⟨f-1,by omega⟩
 rw[Jr,aA (by rw[a];simp[h])];rfl
theorem Nk {n k:Nat}{q:List jI}(h:0<k):ti n k q=ti n (k-1) (oE n q (k-1) n):=by
 obtain⟨j,rfl⟩:∃j,k=j+1:=⟨k-1,by omega⟩
 rfl
theorem Sb (q:List jI)(i n:Nat):i<p5 q i n:=by unfold p5;split<;>omega
theorem Ck:∀(f:Nat) (q:List jI) (i n:Nat),(oE f q i n).length=q.length
 |0,_,_,_=>rfl
 |f+1,q,i,n=>by
  rw[oE]
  split
  ·rfl
  ·split
   ·rfl
   ·rw[Ck f];unfold xL;rw[cn,cn]
theorem Sc {q:List jI}{i n:Nat}(h:2*i+1<n):p5 q i n<n:=by unfold p5;split<;>omega
theorem sK (v0:Value)(q:List ku)(i j:Nat)(x y:ku)(hx:q[i]?=some x)(hy:q[j]?=some y):dz prog 207 #[v0,iv (i:Nat),iv (j:Nat)] [row v0 196 7 (q).length (rows jN (q))] (λv H'=>v= .tuple #[]∧H'=[row v0 196 7 (rS q i j x y).length (rows jN (rS q i j x y))]):=by
 refine dz.body (args:=[v0,iv (i:Nat),iv (j:Nat)]) 20 func207 rfl ntmps207 rfl (λc=> ?_)
 have b:=ai hx
 have a:=ai hy
 refine St.dc [row v0 196 7 (q).length (rows jN (q))] mixed (λd e=> ?_)
 repeat' first
  |with_reducible refine SW.me ?_
   first
    |refine SW.gd 0 ?_
    |refine SW.gd 1 ?_
    |refine SW.gd 2 ?_
    |refine SW.gd 3 ?_
    |refine SW.gd 4 ?_
    |refine SW.gd 5 ?_
    |refine SW.gd 8 ?_
    |refine SW.gd 9 ?_
    |refine SW.t2 6 10 ?_ ?_
    |refine SW.t2 7 10 ?_ ?_
    |refine SW.t1 10 ?_
    |refine SW.t1 11 ?_
    |refine SW.t1 12 ?_
    |refine SW.t1 13 ?_
    |refine SW.t1 14 ?_
    |refine SW.t1 15 ?_
    |refine SW.t2 7 11 ?_ ?_
    |refine SW.t1 7 ?_
    |refine SW.t2 6 11 ?_ ?_
    |refine SW.t1 6 ?_
  |with_reducible refine SW.tg 6 ?_
   refine g3 ?_;refine SW.go ?_
  |with_reducible refine SW.tg 7 ?_
   refine St.ee (Ev.vM (R:=jN) (.mk rfl) hy uT trivial jk (by omega)) ?_;refine St.slot 13 (E9 y) rfl rfl ?_;refine g2 ?_;refine SW.go ?_
  |with_reducible refine SW.tg 10 ?_
   refine g3 ?_;refine SW.go ?_
  |with_reducible refine SW.tg 11 ?_
   refine St.ee (Ev.vM (R:=jN) (.mk rfl) hx uT trivial jk (by omega)) ?_;refine St.slot 17 (E9 x) rfl rfl ?_;refine g2 ?_;refine SW.go ?_
  |with_reducible refine SW.tg 12 ?_
   refine g3 ?_;refine SW.go ?_
  |with_reducible refine SW.tg 13 ?_
   refine St.uN (Rr:=jN) (show jN.size=7 from rfl) y (.mk rfl) (.mk rfl) jk (by omega) (by omega) ?_;refine g2 ?_;refine SW.go ?_
  |with_reducible refine SW.tg 14 ?_
   refine g3 ?_;refine SW.go ?_
  |with_reducible refine SW.tg 15 ?_
   refine St.uN (Rr:=jN) (show jN.size=7 from rfl) x (.mk rfl) (.mk rfl) jk (by omega) (by rw[cn];omega) ?_;refine St.aM v0 (show _=(rS q i j x y).length from(oT ..).symm) (show _=rows jN (rS q i j x y)from rfl) ?_;refine g2 ?_;refine SW.go ?_
 all_goals refine SW.dn ?_
 all_goals
  refine St.eH ?_;refine St.rV [] [row v0 196 7 (rS q i j x y).length (rows jN (rS q i j x y))] ?_;exact⟨rfl,rfl⟩
theorem BG (j m0 k e:Nat)(L:List jK)(x:jK)(he:L[e]?=some x)(q:List ku)(P:q.length<4611686018427387904)(i n:Nat)(Q:n≤q.length)(I:i<q.length):dz prog 131 #[.iface 202 (cZ (.slice (some ⟨j,0,none⟩) m0 k) 3 e 1),iv (i:Nat),iv (n:Nat)] [row (.slice (some ⟨j,0,none⟩) m0 k) 194 3 (L).length (rows fL (L)),row x.nv.1 196 7 (q).length (rows jN (q)),aB (aF hS (q))] (λv H'=>∃(b:Bool) (p:List ku),v= .bool b∧p.map iR=oE n (q.map iR) i n∧(∀u∈p,u∈q)∧H'=[row (.slice (some ⟨j,0,none⟩) m0 k) 194 3 (L).length (rows fL (L)),row x.nv.1 196 7 (p).length (rows jN (p)),aB (aF hS (p))]):=by
 refine dz.body (args:=[.iface 202 (cZ (.slice (some ⟨j,0,none⟩) m0 k) 3 e 1),iv (i:Nat),iv (n:Nat)]) 48 func131 rfl ntmps131 rfl (λc=> ?_);refine go ?_
 have R:=ai he
 refine g12 ?_;refine St.lH (ι:=Nat×Nat×List ku) (λ⟨i1,f1,d⟩ T=>(7,iv i1)::T) (λ⟨i1,f1,d⟩=>[row (.slice (some ⟨j,0,none⟩) m0 k) 194 3 (L).length (rows fL (L)),row x.nv.1 196 7 (d).length (rows jN (d)),aB (aF hS (d))]) (λ⟨i1,f1,d⟩=>i1<d.length∧d.length=q.length∧n≤f1+i1∧oE f1 (d.map iR) i1 n=oE n (q.map iR) i n∧(∀u∈d,u∈q)) (λ⟨i1,f1,d⟩=>n-i1) ⟨i,n,q⟩ (aD.cons 0 rfl (aD.cons 1 rfl (aD.cons 2 rfl (aD.cons 6 rfl aD.nil)))) ⟨I,rfl,by omega,rfl,λ_ h=>h⟩ ?_;rintro ⟨i1,f1,d⟩ ⟨E,F,A,f,y⟩
 dsimp only at E F A f y⊢
 refine g4 ?_;refine St.ee (Ev.mul (.mk rfl) (.mk rfl) (by omega)) ?_;refine go ?_;refine St.slot 14 (iv ((2*i1+1:Nat):Int)) rfl (congrArg iv (by push_cast;omega)) ?_;refine g10 ?_;refine St.gf _ rfl rfl (λG=>Ev.move (.mk rfl)) rfl ?_;refine St.gf _ rfl rfl (λG=>Ev.lss (ah.gv rfl G) (.mk rfl)) rfl ?_;refine g3 ?_;refine St.cq (λJ=> ?_) (λJ=> ?_)
 ·have K:n≤2*i1+1:=by omega
  rw[N1 K]at f;refine g15 ?_;refine St.rV [_] [row (.slice (some ⟨j,0,none⟩) m0 k) 194 3 (L).length (rows fL (L)),row x.nv.1 196 7 (d).length (rows jN (d)),aB (aF hS (d))] ?_;exact⟨_,d,rfl,f,y,rfl⟩
 ·have M:2*i1+1<n:=by omega
  obtain⟨z,hz⟩:=aE E;obtain⟨N,r⟩:=aE (show 2*i1+1<d.length by omega);refine g8 ?_;refine St.join (ι:=Nat) (λg T=>(9,iv g)::T) (λg=>[row (.slice (some ⟨j,0,none⟩) m0 k) 194 3 (L).length (rows fL (L)),row x.nv.1 196 7 (d).length (rows jN (d)),aB (aF hS (d))]) (λg=>g=p5 (d.map iR) i1 n) (aD.cons 0 rfl (aD.cons 1 rfl (aD.cons 2 rfl (aD.cons 6 rfl (aD.cons 7 rfl aD.nil))))) ?_ ?_
  ·refine g4 ?_
   refine St.slot 24 (iv ((2*i1+2:Nat):Int)) rfl (congrArg iv (by push_cast;omega)) ?_;refine g9 ?_;refine St.split 28 _ rfl (λl=> ?_) (λl=> ?_)
   ·have m:2*i1+2<n:=by have:=fJ l;omega
    obtain⟨a2,s⟩:=aE (show 2*i1+2<d.length by omega)
    have t:=HL s r
    refine St.cD rfl rfl ?_;refine go ?_;refine St.cD rfl rfl ?_;refine go ?_;refine St.cD rfl rfl ?_;refine go ?_;refine St.cD rfl rfl ?_;refine St.ee (Ev.qv (Recv.row p8 ic trivial (by omega) (nN he)) (sJ x.nv.1 d (2*i1+2) (2*i1+1) a2 N s r) Mh (.ek rfl rfl rfl) ((dV.row (dV.aB dV.nil) rfl rfl rfl (λ_ _=>trivial)))) ?_;refine St.ee (Ev.gT (.mk rfl) rfl (.mk rfl)) ?_;refine g2 ?_;refine St.cond _ rfl (λB=> ?_) (λB=> ?_)
    ·skip
     refine g5 ?_;refine St.mE (2*i1+2) (by unfold p5;rw[aC ⟨m,by rw[t];exact B⟩])
    ·skip
     refine g2 ?_;refine St.mE (2*i1+1) (by unfold p5;rw[aA (λh=>by rw[t,B]at h;exact Bool.noConfusion h.2)])
   ·have m:¬2*i1+2<n:=by have:=iX l;omega
    refine St.br rfl rfl rfl ?_;refine St.br rfl rfl rfl ?_;refine St.br rfl rfl rfl ?_;refine St.br rfl rfl rfl ?_;refine St.ee (Ev.kR (.mk rfl) rfl (.mk rfl)) ?_;refine g2 ?_;refine St.rm _ rfl rfl ?_;refine g2 ?_;refine St.mE (2*i1+1) (by unfold p5;rw[aA (λh=>m h.1)])
  ·intro g w
   have S:g<n:=by rw[w];exact Sc M
   have U:i1<g:=by rw[w];exact Sb _ _ _
   obtain⟨a,o⟩:=aE (show g<d.length by omega)
   have H:=HL o hz
   refine g6 ?_;refine St.ee (Ev.qv (Recv.row p8 ic trivial (by omega) (nN he)) (sJ x.nv.1 d g i1 a z o hz) Mh (.ek rfl rfl rfl) ((dV.row (dV.aB dV.nil) rfl rfl rfl (λ_ _=>trivial)))) ?_;refine g3 ?_;refine St.cond _ rfl (λC=> ?_) (λC=> ?_)
   ·skip
    have D:vN (d.map iR) (p5 (d.map iR) i1 n) i1=false:=by rw[←w,H];simpa using C
    rw[N0 (by omega) (by omega) D]at f;refine g15 ?_;refine St.rV [_] [row (.slice (some ⟨j,0,none⟩) m0 k) 194 3 (L).length (rows fL (L)),row x.nv.1 196 7 (d).length (rows jN (d)),aB (aF hS (d))] ?_;exact⟨_,d,rfl,f,y,rfl⟩
   ·skip
    have D:vN (d.map iR) (p5 (d.map iR) i1 n) i1=true:=by rw[←w,H];simpa using C
    refine g7 ?_;refine St.ivk (Recv.row p9 ic trivial (by omega) (nN he)) (sK x.nv.1 d i1 g z a hz o) Mi (.ek rfl rfl rfl) rfl ?_;rintro O _ ⟨rfl,rfl⟩;refine St.ao ?_;refine St.ea (aF hS (rS d i1 g z a)) [aF hS d] (λρ h u hu=>h (aF hS d) (aQ ..) u (oU hz o hu)) ?_;refine g8 ?_;refine St.aH ⟨g,f1-1,rS d i1 g z a⟩ ⟨by rw[oT];omega,by rw[oT,F],by dsimp only;omega,by rw[I6 hz o,w,←W1 (by omega) (by omega) D];exact f,λu hu=>y u (oU hz o hu)⟩
theorem Tg (g m0 i e:Nat)(L:List jK)(x:jK)(he:L[e]?=some x)(q:List ku)(D:q.length<4611686018427387904)(j f0:Nat)(A:j<q.length)(B:j<f0):dz prog 132 #[.iface 202 (cZ (.slice (some ⟨g,0,none⟩) m0 i) 3 e 1),iv (j:Nat)] [row (.slice (some ⟨g,0,none⟩) m0 i) 194 3 (L).length (rows fL (L)),row x.nv.1 196 7 (q).length (rows jN (q)),aB (aF hS (q))] (λv H'=>∃(n:List ku),v= .tuple #[]∧n.map iR=Jr f0 (q.map iR) j∧(∀u∈n,u∈q)∧H'=[row (.slice (some ⟨g,0,none⟩) m0 i) 194 3 (L).length (rows fL (L)),row x.nv.1 196 7 (n).length (rows jN (n)),aB (aF hS (n))]):=by
 refine dz.body (args:=[.iface 202 (cZ (.slice (some ⟨g,0,none⟩) m0 i) 3 e 1),iv (j:Nat)]) 23 func132 rfl ntmps132 rfl (λc=> ?_);refine go ?_
 have E:=ai he
 refine St.lH (ι:=Nat×Nat×List ku) (λ⟨d,f1,b⟩ T=>(1,iv d)::T) (λ⟨d,f1,b⟩=>[row (.slice (some ⟨g,0,none⟩) m0 i) 194 3 (L).length (rows fL (L)),row x.nv.1 196 7 (b).length (rows jN (b)),aB (aF hS (b))]) (λ⟨d,f1,b⟩=>d<b.length∧b.length=q.length∧d<f1∧Jr f1 (b.map iR) d=Jr f0 (q.map iR) j∧(∀u∈b,u∈q)) (λ⟨d,f1,b⟩=>d) ⟨j,f0,q⟩ (aD.cons 0 rfl aD.nil) ⟨A,rfl,B,rfl,λ_ h=>h⟩ ?_;rintro ⟨d,f1,b⟩ ⟨o,w,r,l,p⟩
 dsimp only at o w r l p⊢
 obtain⟨z,hz⟩:=aE o
 obtain⟨pp,f⟩:∃pp,pp=(d-1)/2:=⟨_,rfl⟩
 have C:pp≤d:=by omega
 obtain⟨a,m⟩:=aE (show pp<b.length by omega)
 have y:=HL hz m
 refine g5 ?_;refine St.ee (Ev.aeW (.mk rfl) (.mk rfl) (by decide)) ?_;refine St.slot 7 (iv (pp:Nat)) rfl (by rw[f];exact congrArg iv (pA d (by omega))) ?_;refine g10 ?_;refine St.split 11 _ rfl (λk=> ?_) (λk=> ?_)
 ·have heq:(d-1)/2=d:=by have:=fJ k;omega
  rw[Jv (.inl heq)]at l;refine St.br rfl rfl rfl ?_;refine St.br rfl rfl rfl ?_;refine St.br rfl rfl rfl ?_;refine St.br rfl rfl rfl ?_;refine St.br rfl rfl rfl ?_;refine St.ee (Ev.gT (.mk rfl) rfl (.mk rfl)) ?_;refine g2 ?_;refine St.Ij _ rfl rfl ?_;refine g5 ?_;refine St.eH ?_;refine St.rV [] [row (.slice (some ⟨g,0,none⟩) m0 i) 194 3 (L).length (rows fL (L)),row x.nv.1 196 7 (b).length (rows jN (b)),aB (aF hS (b))] ?_;exact⟨b,rfl,l,p,rfl⟩
 ·have F:(d-1)/2≠d:=by have:=iX k;omega
  refine St.cD rfl rfl ?_;refine go ?_;refine St.cD rfl rfl ?_;refine go ?_;refine St.cD rfl rfl ?_;refine go ?_;refine St.cD rfl rfl ?_;refine St.ee (Ev.qv (Recv.row p8 ic trivial (by omega) (nN he)) (sJ x.nv.1 b d pp z a hz m) Mh (.ek rfl rfl rfl) ((dV.row (dV.aB dV.nil) rfl rfl rfl (λ_ _=>trivial)))) ?_;refine St.cD rfl rfl ?_;refine go ?_;refine St.ee (Ev.kR (.mk rfl) rfl (.mk rfl)) ?_;refine g2 ?_;refine St.cond _ rfl (λs=> ?_) (λs=> ?_)
  ·skip
   have t:vN (b.map iR) d pp=false:=by rw[y];simpa using s
   rw[Jv (.inr (by rw[←f];exact t))]at l;refine g5 ?_;refine St.eH ?_;refine St.rV [] [row (.slice (some ⟨g,0,none⟩) m0 i) 194 3 (L).length (rows fL (L)),row x.nv.1 196 7 (b).length (rows jN (b)),aB (aF hS (b))] ?_;exact⟨b,rfl,l,p,rfl⟩
  ·skip
   have t:vN (b.map iR) d pp=true:=by rw[y];simpa using s
   refine g7 ?_;refine St.ivk (Recv.row p9 ic trivial (by omega) (nN he)) (sK x.nv.1 b pp d a z m hz) Mi (.ek rfl rfl rfl) rfl ?_;rintro v21 _ ⟨rfl,rfl⟩;refine St.ao ?_;refine St.ea (aF hS (rS b pp d a z)) [aF hS b] (λρ h u hu=>h (aF hS b) (aQ ..) u (oU m hz hu)) ?_;refine g8 ?_;refine St.aH ⟨pp,f1-1,rS b pp d a z⟩ ⟨by rw[oT];omega,by rw[oT,w],by dsimp only;omega,by rw[I6 m hz,f,←afD (by omega) (by omega) (by rw[←f];exact t)];exact l,λu hu=>p u (oU m hz hu)⟩
theorem Kt (b m0 d e:Nat)(L:List jK)(x:jK)(he:L[e]?=some x)(q:List ku)(l:q.length<4611686018427387904):dz prog 94 #[.iface 202 (cZ (.slice (some ⟨b,0,none⟩) m0 d) 3 e 1)] [row (.slice (some ⟨b,0,none⟩) m0 d) 194 3 (L).length (rows fL (L)),row x.nv.1 196 7 (q).length (rows jN (q)),aB (aF hS (q))] (λv H'=>∃(f:List ku),v= .tuple #[]∧f.map iR=ti q.length (q.length/2) (q.map iR)∧(∀u∈f,u∈q)∧H'=[row (.slice (some ⟨b,0,none⟩) m0 d) 194 3 (L).length (rows fL (L)),row x.nv.1 196 7 (f).length (rows jN (f)),aB (aF hS (f))]):=by
 refine dz.body (args:=[.iface 202 (cZ (.slice (some ⟨b,0,none⟩) m0 d) 3 e 1)]) 17 func94 rfl ntmps94 rfl (λc=> ?_);refine go ?_
 have t:=ai he
 refine g2 ?_;refine St.ee (Ev.qv (Recv.row qO ic trivial (by omega) (nN he)) (qn x.nv.1 q) RA (.ar rfl) ((dV.row dV.nil rfl rfl rfl (λ_ _=>trivial)))) ?_;refine g6 ?_;refine St.ee (Ev.aeW (.mk rfl) (.mk rfl) (by decide)) ?_;refine St.slot 7 (iv ((q.length/2:Nat):Int)) rfl (congrArg iv (V0 rfl l)) ?_;refine g5 ?_;refine St.lH (ι:=Nat×List ku) (λ⟨k,a⟩ T=>(3,iv ((k:Int)-1))::T) (λ⟨k,a⟩=>[row (.slice (some ⟨b,0,none⟩) m0 d) 194 3 (L).length (rows fL (L)),row x.nv.1 196 7 (a).length (rows jN (a)),aB (aF hS (a))]) (λ⟨k,a⟩=>k≤q.length/2∧a.length=q.length∧ti q.length k (a.map iR)=ti q.length (q.length/2) (q.map iR)∧(∀u∈a,u∈q)) (λ⟨k,a⟩=>k) ⟨q.length/2,q⟩ (aD.cons 0 rfl (aD.cons 2 rfl aD.nil)) ⟨aR _,rfl,rfl,λ_ h=>h⟩ ?_;rintro ⟨k,a⟩ ⟨hk,m,g,i⟩
 dsimp only at hk m g i⊢
 refine g7 ?_;refine St.cq (λn=> ?_) (λn=> ?_)
 ·have o:0<k:=by omega
  refine g7 ?_;refine St.slot 14 (iv ((k-1:Nat):Int)) rfl (congrArg iv (by omega)) ?_;refine go ?_;refine St.call (BG b m0 d e L x he a (by omega) (k-1) q.length (by omega) (by omega)) UG (.ek rfl rfl rfl) rfl ?_;rintro p _ ⟨r,f,rfl,j,s,rfl⟩;refine St.iQ ?_;refine g9 ?_;refine St.aH ⟨k-1,f⟩ ⟨by dsimp only;omega,by have h:=congrArg List.length j;rw[aO,Ck,aO]at h;dsimp only;omega,by dsimp only;rw[j,←Nk (by omega)];exact g,λu hu=>i u (s u hu)⟩
 ·obtain rfl:k=0:=by omega
  refine g4 ?_;refine St.eH ?_;refine St.rV [] [row (.slice (some ⟨b,0,none⟩) m0 d) 194 3 (L).length (rows fL (L)),row x.nv.1 196 7 (a).length (rows jN (a)),aB (aF hS (a))] ?_;exact⟨a,rfl,g,i,rfl⟩
theorem KH (b m0 d e:Nat)(L:List jK)(x:jK)(he:L[e]?=some x)(q:List ku)(g:q.length<4611686018427387904)(z:ku)(hz:q[q.length-1]?=some z):dz prog 208 #[cZ (.slice (some ⟨b,0,none⟩) m0 d) 3 e 1] [row (.slice (some ⟨b,0,none⟩) m0 d) 194 3 (L).length (rows fL (L)),row x.nv.1 196 7 (q).length (rows jN (q))] (λv H'=>∃u:aV,v= .iface 196 (E9 z)∧H'=[row (.slice (some ⟨b,0,none⟩) m0 d) 194 3 (L.set e (x.wn u (q.take (q.length-1)))).length (rows fL (L.set e (x.wn u (q.take (q.length-1))))),row u.1 196 7 (q.take (q.length-1)).length (rows jN (q.take (q.length-1)))]):=by
 refine dz.body (args:=[cZ (.slice (some ⟨b,0,none⟩) m0 d) 3 e 1]) 23 func208 rfl ntmps208 rfl (λc=> ?_);refine go ?_
 have i:=ai he
 have f:=ai hz
 refine g7 ?_;refine St.ee (Ev.kg rfl (.mk rfl)) ?_;refine St.ee (Ev.ct (.mk rfl) ic trivial (by omega) (nN he)) ?_;refine g9 ?_;refine St.slot 11 (iv ((q.length-1:Nat):Int)) rfl (congrArg iv (by omega)) ?_;refine St.ee (Ev.dZ (k:=(q.length-1)) (.mk rfl) (.mk rfl) ic jk (by omega) (by omega)) ?_;refine St.ee (Ev.vM (R:=jN) (.mk rfl) hz uT trivial jk (by omega)) ?_;refine St.slot 13 (E9 z) rfl rfl ?_;refine St.al (λj=> ?_);refine St.sA (.mk rfl) (.mk rfl) jk ?_ (h1:=(eY.2 λu hu=>jN.one z u hu));refine g9 ?_;refine St.slot 18 (iv ((q.length-1:Nat):Int)) rfl (congrArg iv (by omega)) ?_;refine St.ee (Ev.pG (h:=(q.length-1)) (.mk rfl) (.mk rfl) ic jk rfl (by omega)) ?_;refine St.DI x.nv.1 (q.length-1) (by omega) ?_;refine St.aM (pH x.nv.1 7 0 (q.length-1)) (show _=(q.take (q.length-1)).length by rw[eU];omega) (show _=rows jN (q.take (q.length-1))from vZ jN q _) ?_;refine St.ba (pH x.nv.1 7 0 (q.length-1)) (λa _=> ?_);refine St.ee (Ev.kg rfl (.mk rfl)) ?_;refine St.cJ (.mk rfl) (.mk rfl) Ji a (by omega) (by decide) ?_;refine St.aM (.slice (some ⟨b,0,none⟩) m0 d) (show _=(L.set e (x.wn ⟨pH x.nv.1 7 0 (q.length-1),a⟩ (q.take (q.length-1)))).length by rw[cn]) (show _=rows fL (L.set e (x.wn ⟨pH x.nv.1 7 0 (q.length-1),a⟩ (q.take (q.length-1))))from oM he ⟨_,a⟩ _) ?_;refine g5 ?_;refine St.slot 21 (E9 z) rfl rfl ?_;refine St.ee (Ev.iface (.mk rfl) uT trivial) ?_;refine g4 ?_;refine St.rV [_] [row (.slice (some ⟨b,0,none⟩) m0 d) 194 3 (L.set e (x.wn ⟨pH x.nv.1 7 0 (q.length-1),a⟩ (q.take (q.length-1)))).length (rows fL (L.set e (x.wn ⟨pH x.nv.1 7 0 (q.length-1),a⟩ (q.take (q.length-1))))),row (pH x.nv.1 7 0 (q.length-1)) 196 7 (q.take (q.length-1)).length (rows jN (q.take (q.length-1)))] ?_;exact⟨⟨_,a⟩,rfl,rfl⟩
theorem Ko (d m0 f e:Nat)(L:List jK)(x:jK)(he:L[e]?=some x)(q:List ku)(o:q.length<4611686018427387904)(m:0<q.length):dz prog 96 #[.iface 202 (cZ (.slice (some ⟨d,0,none⟩) m0 f) 3 e 1)] [row (.slice (some ⟨d,0,none⟩) m0 f) 194 3 (L).length (rows fL (L)),row x.nv.1 196 7 (q).length (rows jN (q)),aB (aF hS (q))] (λv H'=>∃(u:aV) (a:List ku) (z:ku),v= .iface 196 (E9 z)∧a.map iR=pC (q.map iR)∧a[q.length-1]?=some z∧(∀u∈a,u∈q)∧H'=[row (.slice (some ⟨d,0,none⟩) m0 f) 194 3 (L.set e (x.wn u (a.take (q.length-1)))).length (rows fL (L.set e (x.wn u (a.take (q.length-1))))),row u.1 196 7 (a.take (q.length-1)).length (rows jN (a.take (q.length-1))),aB (aF hS a)]):=by
 refine dz.body (args:=[.iface 202 (cZ (.slice (some ⟨d,0,none⟩) m0 f) 3 e 1)]) 15 func96 rfl ntmps96 rfl (λc=> ?_);refine go ?_
 have p:=ai he
 obtain⟨y,hy⟩:=aE m;obtain⟨w,hw⟩:=aE (show q.length-1<q.length by omega)
 obtain⟨b,g⟩:∃b,b=rS q 0 (q.length-1) y w:=⟨_,rfl⟩
 have r:b.length=q.length:=by rw[g,oT]
 have i:b.map iR=xL (q.map iR) 0 (q.length-1):=by rw[g];exact I6 hy hw
 refine g7 ?_;refine St.ee (Ev.qv (Recv.row qO ic trivial (by omega) (nN he)) (qn x.nv.1 q) RA (.ar rfl) ((dV.row dV.nil rfl rfl rfl (λ_ _=>trivial)))) ?_;refine go ?_;refine St.slot 6 (iv ((q.length-1:Nat):Int)) rfl (congrArg iv (by omega)) ?_;refine g7 ?_;refine St.ivk (Recv.row p9 ic trivial (by omega) (nN he)) (sK x.nv.1 q 0 (q.length-1) y w hy hw) Mi (.ek rfl rfl rfl) rfl ?_;rintro v9 _ ⟨rfl,rfl⟩;refine St.ao ?_;refine St.ea (aF hS b) [aF hS q] (λρ h u hu=>h (aF hS q) (aQ ..) u (oU hy hw (by rw[←g];exact hu))) ?_;refine St.aM x.nv.1 (show _=b.length by rw[g]) (show _=rows jN b by rw[g]) ?_;refine g6 ?_;refine St.call (BG d m0 f e L x he b (by omega) 0 (q.length-1) (by omega) (by omega)) UG (.ek rfl rfl rfl) rfl ?_;rintro v12 _ ⟨s,a,rfl,l,j,rfl⟩;refine St.iQ ?_
 have k:a.length=q.length:=by have h:=congrArg List.length l;rw[aO,Ck,aO]at h;omega
 obtain⟨z,hz⟩:=aE (show q.length-1<a.length by omega);rw[show q.length-1=a.length-1 by omega]at hz;refine g5 ?_;refine St.ivk (Recv.ptr Ej) (KH d m0 f e L x he a (by omega) z hz) Zj (.ar rfl) rfl ?_;rintro n _ ⟨u,rfl,rfl⟩;refine St.dQ ?_;refine g4 ?_;refine St.rV [_] [row (.slice (some ⟨d,0,none⟩) m0 f) 194 3 (L.set e (x.wn u (a.take (a.length-1)))).length (rows fL (L.set e (x.wn u (a.take (a.length-1))))),row u.1 196 7 (a.take (a.length-1)).length (rows jN (a.take (a.length-1))),aB (aF hS a)] ?_;rw[k]at hz⊢;exact⟨u,a,z,rfl,by rw[l,i];unfold pC;rw[aO],hz,λu hu=>by have h:=j u hu;rw[g]at h;exact oU hy hw h,rfl⟩
theorem GP (a m0 b e:Nat)(L:List jK)(x:jK)(he:L[e]?=some x)(q:List ku)(g:q.length≤1200000000000)(z:ku):dz prog 209 #[cZ (.slice (some ⟨a,0,none⟩) m0 b) 3 e 1,.iface 196 (E9 z)] [row (.slice (some ⟨a,0,none⟩) m0 b) 194 3 (L).length (rows fL (L)),row x.nv.1 196 7 (q).length (rows jN (q))] (λv H'=>∃u:aV,v= .tuple #[]∧H'=[row (.slice (some ⟨a,0,none⟩) m0 b) 194 3 (L.set e (x.wn u (q++ [z]))).length (rows fL (L.set e (x.wn u (q++ [z])))),row u.1 196 7 (q++ [z]).length (rows jN (q++ [z]))]):=by
 refine dz.body (args:=[cZ (.slice (some ⟨a,0,none⟩) m0 b) 3 e 1,.iface 196 (E9 z)]) 13 func209 rfl ntmps209 rfl (λc=> ?_)
 have h:=ai he
 refine St.dc [row (.slice (some ⟨a,0,none⟩) m0 b) 194 3 (L).length (rows fL (L)),row x.nv.1 196 7 (q).length (rows jN (q))] mixed (λi j=> ?_)
 repeat' first
  |with_reducible refine SW.me ?_
   first
    |refine SW.gd 0 ?_
    |refine SW.gd 1 ?_
    |refine SW.gd 4 ?_
    |refine SW.dd 5 rfl (λ_=>Ev.assert (.mk rfl) uT trivial) ?_
     refine SW.slot 9 (E9 z) rfl rfl ?_
    |refine SW.t2 2 6 ?_ ?_
    |refine SW.t2 3 6 ?_ ?_
    |refine SW.t1 6 ?_
    |refine SW.t1 7 ?_
    |refine SW.t1 8 ?_
    |refine SW.t1 9 ?_
    |refine SW.t1 3 ?_
    |refine SW.t1 2 ?_
  |with_reducible refine SW.tg 2 ?_
   refine St.ee (Ev.kg rfl (.mk rfl)) ?_;refine g2 ?_;refine SW.go ?_
  |with_reducible refine SW.tg 3 ?_
   refine St.ee (Ev.ct (.mk rfl) ic trivial (by omega) (nN he)) ?_;refine g2 ?_;refine SW.go ?_
  |with_reducible refine SW.tg 6 ?_
   refine St.gV rfl (.ar rfl) ic jk C9 rfl rfl (by simp[Value.cells]) rfl rfl (λk=> ?_);refine g2 ?_;refine SW.go ?_
  |with_reducible refine SW.tg 7 ?_
   refine St.aj (.mk rfl) (.mk rfl) ic jk C9 Mb (by intro u hu;exact jN.one z u hu) (by omega) (by omega) rfl rfl rfl rfl (λv11 f=> ?_);refine St.aM v11 (show _=(q++ [z]).length by rw[bR];rfl) (show _=rows jN (q++ [z]) by rw[ay];rfl) ?_;refine St.ba v11 (λd _=> ?_);refine g2 ?_;refine SW.go ?_
  |with_reducible refine SW.tg 8 ?_
   refine St.ee (Ev.kg rfl (.mk rfl)) ?_;refine g2 ?_;refine SW.go ?_
  |with_reducible refine SW.tg 9 ?_
   refine St.cJ (.mk rfl) (.mk rfl) Ji d (by omega) (by decide) ?_;refine St.aM (.slice (some ⟨a,0,none⟩) m0 b) (show _=(L.set e (x.wn ⟨v11,d⟩ (q++ [z]))).length by rw[cn]) (show _=rows fL (L.set e (x.wn ⟨v11,d⟩ (q++ [z])))from oM he ⟨_,d⟩ _) ?_;refine g2 ?_;refine SW.go ?_
 all_goals refine SW.dn ?_
 all_goals
  refine St.eH ?_;refine St.rV [] [row (.slice (some ⟨a,0,none⟩) m0 b) 194 3 (L.set e (x.wn ⟨v11,d⟩ (q++ [z]))).length (rows fL (L.set e (x.wn ⟨v11,d⟩ (q++ [z])))),row v11 196 7 (q++ [z]).length (rows jN (q++ [z]))] ?_;exact⟨⟨_,d⟩,rfl,rfl⟩
theorem St.aeZ {n:Nat}{F:Fr}{c:Ctx}{H:List ak}{T:Act→World→Prop}{α:Type}{Rr:Rp α}{xs:List α}(v:Value)[hd:sI v H α Rr xs](h:∀ad cap,v= .slice ad xs.length cap→(ad=none→xs.length=0)→St n F (Mm c H) T):St n F (Mm c H) T:=by
 intro a w f hw;obtain⟨ρ,hm⟩:=hw.out;obtain⟨ad,cap,g,_,_,_,d⟩:=hm.sl hd;refine h ad cap g (λi=> ?_) a w f hw;subst i
 rcases d with d|⟨b,o,C,e,fr,d,_⟩
 ·simpa using d
 ·cases d
theorem HW {L:List jK}{e:Nat}{x:jK}(he:L[e]?=some x)(u:aV)(q r:List ku):rows fL (L.set e (x.wn u q))=rows fL (L.set e (x.wn u r)):=by rw[←oM he u q,←oM he u r]
theorem H9 (b m0 d e:Nat)(L:List jK)(x:jK)(he:L[e]?=some x)(q:List ku)(g:q.length≤1200000000000)(z:ku):dz prog 98 #[.iface 202 (cZ (.slice (some ⟨b,0,none⟩) m0 d) 3 e 1),.iface 196 (E9 z)] [row (.slice (some ⟨b,0,none⟩) m0 d) 194 3 (L).length (rows fL (L)),row x.nv.1 196 7 (q).length (rows jN (q)),aB (aF hS (q)),aB (hS z)] (λv H'=>∃(u:aV) (a:List ku),v= .tuple #[]∧a.map iR=Am (q.map iR) (iR z)∧(∀w∈a,w∈q∨w=z)∧H'=[row (.slice (some ⟨b,0,none⟩) m0 d) 194 3 (L.set e (x.wn u (a))).length (rows fL (L.set e (x.wn u (a)))),row u.1 196 7 (a).length (rows jN (a)),aB (aF hS a)]):=by
 refine dz.body (args:=[.iface 202 (cZ (.slice (some ⟨b,0,none⟩) m0 d) 3 e 1),.iface 196 (E9 z)]) 12 func98 rfl ntmps98 rfl (λc=> ?_);refine go ?_
 have i:=ai he
 refine St.ea (aF hS (q++ [z])) [aF hS q,hS z] (λρ h u hu=>by rcases cG.1 hu with hu|hu;exact h (aF hS q) (aQ ..) u hu;rw[bP]at hu;subst hu;exact h (hS u) (cO _ (aQ ..))) ?_;refine g3 ?_;refine St.ivk (Recv.ptr D7) (GP b m0 d e L x he q g z) Zk (.aX rfl rfl) rfl ?_;rintro v6 _ ⟨u,rfl,rfl⟩;refine St.dQ ?_
 have f:(L.set e (x.wn u (q++ [z])))[e]?=some (x.wn u (q++ [z])):=fT i
 have j:(L.set e (x.wn u (q++ [z]))).length=L.length:=cn
 refine g2 ?_;refine St.cast (H':=[row (.slice (some ⟨b,0,none⟩) m0 d) 194 3 (L.set e (x.wn u (q++ [z]))).length (rows fL (L.set e (x.wn u (q++ [z])))),row (x.wn u (q++ [z])).nv.1 196 7 (q++ [z]).length (rows jN (q++ [z])),aB (aF hS (q++ [z])),aB (aF hS q),aB (hS z)]) rfl ?_;refine g3 ?_;refine St.ee (Ev.qv (Recv.row qO ic trivial (by omega) (nN f)) (qn (x.wn u (q++ [z])).nv.1 (q++ [z])) RA (.ar rfl) ((dV.row dV.nil rfl rfl rfl (λ_ _=>trivial)))) ?_;refine St.ee (Ev.sub (.mk rfl) (.mk rfl) (by rw[bR,pb];omega)) ?_;refine St.slot 10 (iv ((q.length:Nat):Int)) rfl (congrArg iv (by rw[bR,pb];omega)) ?_;refine St.call (Tg b m0 d e (L.set e (x.wn u (q++ [z]))) (x.wn u (q++ [z])) f (q++ [z]) (by rw[bR,pb];omega) q.length (q.length+1) (by rw[bR,pb];omega) (by omega)) ZR (.aX rfl rfl) rfl ?_;rintro v11 _ ⟨a,rfl,k,l,rfl⟩;refine St.iQ ?_;refine St.aM (.slice (some ⟨b,0,none⟩) m0 d) (show _=(L.set e (x.wn u (a))).length by rw[cn,cn]) (show _=rows fL (L.set e (x.wn u (a)))from HW he u _ _) ?_;refine St.cast (H':=[row (.slice (some ⟨b,0,none⟩) m0 d) 194 3 (L.set e (x.wn u (a))).length (rows fL (L.set e (x.wn u (a)))),row u.1 196 7 (a).length (rows jN (a)),aB (aF hS a),aB (aF hS q),aB (hS z)]) rfl ?_;refine go ?_;refine St.eH ?_;refine St.rV [] [row (.slice (some ⟨b,0,none⟩) m0 d) 194 3 (L.set e (x.wn u (a))).length (rows fL (L.set e (x.wn u (a)))),row u.1 196 7 (a).length (rows jN (a)),aB (aF hS a)] ?_;exact⟨u,a,rfl,by rw[k,cP];unfold Am;rw[aO];rfl,λw hw=>by rcases cG.1 (l w hw)with h|h;exact .inl h;exact .inr (bP.1 h),rfl⟩
theorem Dj (v0:Value)(l:List Int)(j:l.length≤1000000):dz prog 97 #[v0] ([sl aJ v0 l].map aB) (λv H'=>∃u:aV,v=u.1∧H'=[row u.1 3 1 l.length (rows aJ l)]):=by
 refine dz.body (args:=[v0]) 8 func97 rfl ntmps97 rfl (λc=> ?_);refine St.cast (H':=[aB (sl aJ v0 l)]) rfl ?_;refine go ?_;refine St.aeZ v0 (λad cap e f=> ?_);subst e;refine g8 ?_;refine St.ee (Ev.slnil (.mk rfl) bJ) ?_;refine g2 ?_;refine St.cond _ rfl (λd=> ?_) (λd=> ?_)
 ·skip
  have g:l=[]:=lG (f (by cases ad with|none=>rfl|some a=>cases d))
  subst g;refine g7 ?_;refine St.dw 3 1 ?_;refine St.rV [_] [row (.slice none 0 0) 3 1 0 []] ?_;exact⟨bT,rfl,rfl⟩
 ·skip
  skip
  refine g4 ?_;refine St.gV rfl (.nil) bJ dK eT rfl rfl (by simp[Value.cells]) rfl rfl (λk=> ?_);refine go ?_;refine St.yO (.mk rfl) (.mk rfl) bJ dK eT xT (zT _ _) (by omega) (by omega) rfl rfl trivial rfl (λb h=> ?_);refine St.aM b (show _=l.length by rw[iW]) (show _=rows aJ l from rfl) ?_;refine St.ba b (λi _=> ?_);refine St.cast (H':=[row b 3 1 l.length (rows aJ l),aB (sl aJ (.slice ad l.length cap) l)]) rfl ?_;refine g4 ?_;refine St.rV [_] [row b 3 1 l.length (rows aJ l)] ?_;exact⟨⟨b,i⟩,rfl,rfl⟩
theorem qF (x:dD)(nt nf:Nat)(a:nf≤100)(hx:e9 nt nf (ax x))(b:x.nodes.length≤120):dz prog 106 #[bA x] ([aG x].map aB) (λv H'=>H'=[aB (bL (gl (ax x) 0) v)]):=by
 refine dz.body (args:=[bA x]) 5 func106 rfl ntmps106 rfl (λc=> ?_);refine St.cast (H':=[aB (aG x)]) rfl ?_;refine go ?_
 have e:=cy x
 have d:=gO hx a
 have f:=hx.pos
 refine go ?_;refine St.dJ (.mk rfl) rfl (λg=> ?_);refine St.al (λh=> ?_);refine g5 ?_;refine St.slot 3 (bA x) rfl rfl ?_;refine St.ae (ue x hx.lk b (λt ht=>by have:=(d t ht).2;omega) 0 (by omega)) Mg (.aX rfl rfl) rfl ?_;rintro v4 _ rfl;refine St.ao ?_;refine St.bL (gl (ax x) 0) v4 (λy hy=> ?_);obtain⟨rfl,i⟩:=hy;refine g4 ?_;refine St.rV [_] [aB (bL (gl (ax x) 0) (bA y))] ?_;exact rfl
theorem Ak (n:Nat)(d:n≤12)(m:Nat)(hm:m=n*(n+1)):dz prog 89 #[iv (n:Nat)] [] (λv H'=>∃u:aV,v= .agg #[iv (n:Nat),u.1]∧H'=[row u.1 58 1 (List.replicate m bT).length (rows bN (List.replicate m bT))]):=by
 refine dz.body (args:=[iv (n:Nat)]) 10 func89 rfl ntmps89 rfl (λc=> ?_);refine go ?_
 have a:((n:Nat):Int)*(((n:Nat):Int)+1)=(m:Nat):=by rw[hm];push_cast;rfl
 have e:m≤156:=by rw[hm];exact dW (Nat.mul_le_mul (show n≤12 by omega) (show n+1≤13 by omega)) (by decide)
 refine go ?_;refine St.al (λf=> ?_);refine g8 ?_;refine St.ee (Ev.mul (.mk rfl) (.mk rfl) (by rw[a];omega)) ?_;refine St.slot 7 (iv (m:Nat)) rfl (congrArg iv a) ?_;refine St.nL (Rr:=bN) (g:=bT) (m:=m) (sz:=1) rfl (.mk rfl) (.mk rfl) fH fD kJ ag1 rfl rfl (by omega) rfl rfl (λb=> ?_);refine St.aM (.slice (some ⟨b,0,none⟩) m m) (show _=(List.replicate m bT).length by rw[kG]) rfl ?_;refine St.ee (Ev.build (bH.aX rfl rfl) (λw=>Gg rfl rfl w)) ?_;refine g4 ?_;refine St.rV [_] [row (.slice (some ⟨b,0,none⟩) m m) 58 1 (List.replicate m bT).length (rows bN (List.replicate m bT))] ?_;exact⟨⟨(.slice (some ⟨b,0,none⟩) m m),rfl⟩,rfl,rfl⟩
def xE (c:Nat→Nat→Nat)(tqo:Nat):Nat→Nat→Nat
 |0,_=>1
 |l+1,en=>lV c tqo l en
def nj (l a tqo:Nat):Nat:=if l=0 then tqo else a+1
def rK (l a tqo:Nat):Nat:=if l=0 then 1 else tqo-l-a
def tQ (Q:Qr)(rule frm tqo l:Nat)(x:e8)(kids:List Nat)(en:Nat)(cs:Cs)(e:Nat):Cs:=match lQ Q cs rule x (kids.length+1) e with
 |none=>cs
 |some y=>match l with
  |0=>kZ Q.n cs ⟨frm,tqo,0,mA y⟩ ⟨rule,0,kids++ [e]⟩
  |l+1=>uz Q rule frm tqo l cs y (kids++ [e]) en
def Kb (Q:Qr)(rule frm tqo l:Nat)(x:e8)(kids:List Nat)(a:Nat)(cs:Cs)(en:Nat):Cs:=(cs.at_ Q.n a en).foldl (tQ Q rule frm tqo l x kids en) cs
theorem Iq (Q:Qr)(rule frm tqo l:Nat)(cs:Cs)(x:e8)(kids:List Nat)(a:Nat):uz Q rule frm tqo l cs x kids a=(List.range' (nj l a tqo) (rK l a tqo)).foldl (Kb Q rule frm tqo l x kids a) cs:=by
 cases l with
 |zero=>rfl
 |succ l=>rfl
theorem RR (c:Nat→Nat→Nat)(tqo l a:Nat):lV c tqo l a=((List.range' (nj l a tqo) (rK l a tqo)).map λen=>c a en*xE c tqo l en).sum:=by
 cases l with
 |zero=>show c a tqo=(([tqo].map λen=>c a en*1)).sum;simp
 |succ l=>rfl
theorem Cm {l a tqo i:Nat}(c:a<tqo)(b:i<rK l a tqo):a<nj l a tqo+i∧nj l a tqo+i≤tqo∧(l=0→nj l a tqo+i=tqo)∧(1≤l→nj l a tqo+i<tqo):=by
 unfold nj rK at*
 by_cases h:l=0
 ·rw[aC h]at b⊢;omega
 ·rw[aA h]at b⊢;omega
theorem EK {nt nf:Nat}{Q:Qr}(d:Q.n≤12)(f:yF nt Q.mt){rule frm tqo:Nat}(g:frm<tqo)(ht:tqo≤Q.n)(c:Nat→Nat→Nat){l:Nat}{cs:Cs}{x:e8}{kids:List Nat}{m en e:Nat}(a:im nt nf Q.n frm tqo c m cs)(hx:e9 nt nf x)(h:frm<en∧(1≤l→en<tqo))(hk:∀k∈kids,k<cs.its.length)(he:e<cs.its.length):
 im nt nf Q.n frm tqo c m (tQ Q rule frm tqo l x kids en cs e)∧Grow Q.n frm tqo cs (tQ Q rule frm tqo l x kids en cs e) (xE c tqo l en):=by
 unfold tQ
 cases hy:lQ Q cs rule x (kids.length+1) e with
 |none=>exact⟨a,(Grow.refl ..).mono (aP _)⟩
 |some y=>
  dsimp only
  obtain⟨i,p,_⟩:=vq f a.ok hx he hy
  have j:∀k∈kids++ [e],k<cs.its.length:=λk b=>by
   rcases cG.1 b with b|b
   ·exact hk k b
   ·rw[bP.1 b];exact he
  cases l with
  |zero=>
   obtain⟨m1,m2⟩:=qR i p;obtain⟨q,a2⟩:=yL d a.ok (e:=⟨frm,tqo,0,mA y⟩) (w:=⟨rule,0,kids++ [e]⟩) ⟨g,ht,aP _,m1,m2⟩ j;exact⟨a.grow q a2 ht,a2⟩
  |succ l=>
   have r:im nt nf Q.n frm tqo c cs.its.length cs:=⟨a.ok,a.len,aR _⟩
   obtain⟨o,e2⟩:=yj d f g ht c l cs y (kids++ [e]) en _ r i (.inl h.1) (h.2 (by omega)) j;exact⟨⟨o.ok,o.len,dW a.xV e2.more⟩,e2⟩
theorem BH {nt nf:Nat}{Q:Qr}(g:Q.n≤12)(h:yF nt Q.mt){rule frm tqo:Nat}(i:frm<tqo)(ht:tqo≤Q.n)(c:Nat→Nat→Nat){l:Nat}{cs:Cs}{x:e8}{kids:List Nat}{m en:Nat}(j:im nt nf Q.n frm tqo c m cs)(hx:e9 nt nf x)(o:frm<en∧(1≤l→en<tqo))(hk:∀k∈kids,k<cs.its.length)(L:List Nat)(p:∀e∈L,e<cs.its.length):
 im nt nf Q.n frm tqo c m (L.foldl (tQ Q rule frm tqo l x kids en) cs)∧Grow Q.n frm tqo cs (L.foldl (tQ Q rule frm tqo l x kids en) cs) (L.length*xE c tqo l en):=by
 have:=iJ (n:=Q.n) (frm:=frm) (tqo:=tqo) (tQ Q rule frm tqo l x kids en) (λ_=>xE c tqo l en) (λfi=>im nt nf Q.n frm tqo c m fi∧cs.its.length≤fi.its.length) L cs ⟨j,aR _⟩ (λq e he ⟨h1,d⟩=>by
  obtain⟨a,b⟩:=EK g h i ht c (l:=l) (rule:=rule) h1 hx o (λk f=>fO (hk k f) d) (fO (p e he) d)
  exact⟨⟨a,dW d b.more⟩,b⟩)
 rw[jj]at this;exact⟨this.1.1,this.2⟩
theorem N3 {nt nf:Nat}{Q:Qr}(g:Q.n≤12)(i:yF nt Q.mt){rule frm tqo:Nat}(j:frm<tqo)(ht:tqo≤Q.n)(c:Nat→Nat→Nat){l a:Nat}{cs:Cs}{x:e8}{kids:List Nat}{m:Nat}(o:im nt nf Q.n frm tqo c m cs)(hx:e9 nt nf x)(u:frm<a∨(a=frm∧1≤l))(hk:∀k∈kids,k<cs.its.length)(E:List Nat)(p:∀en∈E,a<en∧en≤tqo∧(1≤l→en<tqo)):
 im nt nf Q.n frm tqo c m (E.foldl (Kb Q rule frm tqo l x kids a) cs)∧Grow Q.n frm tqo cs (E.foldl (Kb Q rule frm tqo l x kids a) cs) ((E.map λen=>c a en*xE c tqo l en).sum):=by
 have:=iJ (n:=Q.n) (frm:=frm) (tqo:=tqo) (Kb Q rule frm tqo l x kids a) (λen=>c a en*xE c tqo l en) (λfi=>im nt nf Q.n frm tqo c m fi∧cs.its.length≤fi.its.length) E cs ⟨o,aR _⟩ (λq en r ⟨h1,f⟩=>by
  obtain⟨v,e2,s⟩:=p en r;obtain⟨t,b⟩:=BH g i j ht c (l:=l) (rule:=rule) h1 hx (en:=en) ⟨by omega,s⟩ (λk d=>fO (hk k d) f) (q.at_ Q.n a en) (λe he=>h1.ok.qA he);rw[h1.len a en (by omega) (by intro h;omega)]at b
  exact⟨⟨t,dW f b.more⟩,b⟩)
 exact⟨this.1.1,this.2⟩
theorem vm {f:Nat→Nat}{E:List Nat}{i en:Nat}(h:E[i]?=some en):((E.take i).map f).sum+f en≤(E.map f).sum:=by
 have a:=(fA.1 h)
 obtain⟨a,rfl⟩:=a
 have e:E=E.take i++E[i]::E.drop (i+1):=by rw[←List.drop_eq_getElem_cons a,qj]
 have e2:(E.map f).sum=((E.take i).map f).sum+(f E[i]+((E.drop (i+1)).map f).sum):=by
  conv=>lhs;rw[e]
  rw[cP,List.sum_append,fK,ob]
 omega
abbrev kT (f:kz)(T:List eo)(n:Nat)(g:gW):Qr:=⟨n,hC T,q9 f,g.rules.map lK,g.aN.map oe⟩
theorem UN {d:nE}{n i j:Nat}{q:aV×List Nat}(h:d.cA[slt n i j]?=some q):d.cs.at_ n i j=q.2:=by
 show(d.cA.map Prod.snd).getD (slt n i j) []=q.2
 rw[aw,bQ,h];rfl
theorem EE {d:nE}{e:Nat}{x:dL}(h:d.its[e]?=some x):d.cs.its.getD e gh=cH x:=by
 show(d.its.map cH).getD e gh=cH x
 rw[aw,bQ,h];rfl
theorem iT (d:nE):d.cs.its.length=d.its.length:=aO _
theorem Cj (d:nE):d.cs.sp.length=d.cA.length:=aO _
theorem zO {nt nf n:Nat}{d:nE}(h:Room d.cs 1)(a:gi nt nf n d.cs):∀x∈d.its,x.cW.length+1≤3000000000000∧x.bf.length≤x.cW.length:=λx hx=>by
 have h1:=h.cW (cH x) (eQ hx)
 have b:=a.bf (cH x) (eQ hx)
 have e:(cH x).cW.length=x.cW.length:=aO _
 have e2:(cH x).bf.length=x.bf.length:=rfl
 omega
theorem Jf:∀{l:List Nat} {a:Nat},a∈l→a≤l.sum
 |b::l,a,h=>by
  rw[ob]
  rcases cK.1 h with rfl|h
  ·omega
  ·have:=Jf h;omega
theorem zd {nt nf n:Nat}{d:nE}(a:gi nt nf n d.cs){k:Nat}{q:aV×List Nat}(h:d.cA[k]?=some q):q.2.length≤d.its.length:=by
 rw[←iT,←a.tot];refine Jf (eQ (f:=List.length) (?_:q.2∈d.cs.sp));exact eQ (aZ h)
theorem Ul {nt nf n:Nat}{d:nE}(b:gi nt nf n d.cs){e:Nat}{x:dL}(h:d.its[e]?=some x):e9 nt nf (ax x.gr)∧x.gr.nodes.length≤60:=by
 obtain⟨_,_,_,c,a⟩:=b.gr (cH x) (eQ (aZ h))
 have a:(ax x.gr).length≤60:=a
 rw[cy]at a;exact⟨c,a⟩
theorem xz {nt nf:Nat}{x:e8}(h:e9 nt nf x){k:Int}:0≤rX x k↔k∈lx (x.getD 0 iK).2:=by
 unfold rX
 cases a:(x.getD 0 iK).2.find? (λx=>x.1==k)with
 |none=>
  refine⟨λh=>absurd h (by decide),λhm=> ?_⟩;obtain⟨y,hy,rfl⟩:=dC.1 hm;exact absurd (List.find?_eq_none.1 a y hy) (by simp)
 |some y=>
  have hy:=List.mem_of_find?_eq_some a
  have hk:=List.find?_some a
  refine⟨λ_=>dC.2 ⟨y,hy,by simpa using hk⟩,λ_=> ?_⟩;exact((h.at_ h.pos).2.2 y hy).2.1
theorem N7 {l a tqo i:Nat}(b:a<tqo):((nj l a tqo+i:Nat):Int)≤(tqo:Int)-(l:Nat)↔i<rK l a tqo:=by
 unfold nj rK
 by_cases h:l=0
 ·rw[aC h,aC h];omega
 ·rw[aA h,aA h];omega
theorem MD {f:kz}{T:List eo}{n:Nat}{g:gW}{d:nE}{rule a e:Nat}{x:dL}(h:d.its[e]?=some x):VY (kT f T n g) d.cs rule a e=x.bf.any (q9 f rule a):=by
 unfold VY;rw[EE h];rfl
theorem Pg {f:kz}{T:List eo}{n:Nat}{g:gW}{d:nE}{rule a e:Nat}{x:dL}(h:d.its[e]?=some x){y:e8}(b:x.bf.any (q9 f rule a)=false):lQ (kT f T n g) d.cs rule y a e=none:=by
 unfold lQ;rw[MD h,b];rfl
theorem Jm {f:kz}{T:List eo}{n:Nat}{g:gW}{d:nE}{rule a e:Nat}{x:dL}(h:d.its[e]?=some x){y:e8}(b:x.bf.any (q9 f rule a)=true):lQ (kT f T n g) d.cs rule y a e=nC (hC T) y a (ax x.gr):=by
 unfold lQ Cs.ed;rw[MD h,b,EE h];rfl
theorem oG {α β:Type}(f:α→β→α)(a:α){l:List β}{k:Nat}{b:β}(h:l[k]?=some b):(l.take (k+1)).foldl f a=f ((l.take k).foldl f a) b:=by
 rw[ag h,wh];rfl
theorem EL (g:gW)(p s:aV)(T:List eo)(hT:ir T)(nf:Nat)(Kn:nf≤100)(f:kz)(hf:yA f)(n:Nat)(hn:n≤12)(A o frm tqo:Nat)(S8:frm<tqo)(YL:tqo≤n)(rule:Nat)(hrf:rule<f.nr)(r:ca)(hr:g.rules[rule]?=some r)(hK:1≤r.kids∧r.kids≤3)(c0:Nat→Nat→Nat)(sv:aV):
 ∀(l:Nat) (d:nE) (x:dD) (B:aV) (kids:List Nat) (a:Nat),d.nS=sv→lM d→im T.length nf n frm tqo c0 0 d.cs→Room d.cs (lV c0 tqo l a)→e9 T.length nf (ax x)→x.nodes.length≤60→(∀k:Int,0≤k→k≤r.kids→0≤rX (ax x) k)→r.kids=((kids.length+l+1:Nat):Int)→(frm<a∨(a=frm∧1≤l))→a<tqo→(∀k∈kids,k<d.its.length)→
 dz prog 121 ([.pointer (some ⟨A,0,none⟩),iv (rule:Nat),bA x,B.1,iv (frm:Nat),iv (a:Nat),iv (tqo:Nat)]).toArray ([hY f,sl cT g.rv.1 g.rules,aF bz g.rules,sl bI p.1 (dg T),sl bI s.1 (de T),tz,sl aJ B.1 (bW (kids)),aG x,aF (λx:dL=>aG x.gr) d.its].map aB++([aW A (.cells (nA g p s f n d.eF.1 sv.1 o).toArray 180 (0,0)),aW o (eW mkStr d.m),row d.eF.1 186 6 d.its.length (rows eD d.its),row sv.1 58 1 d.cA.length (rows bN (d.cA.map Prod.fst))]++(bF (ep 200 3) d.its++bF (fx 3) d.cA))) (λv H'=>∃d2:nE,d2.cs=uz (kT f T n g) rule frm tqo (l) d.cs (ax x) (kids) a∧d2.nS=sv∧lM d2∧d2.cA.length=d.cA.length∧(∀k,k≠slt n frm tqo→d2.cA[k]?=d.cA[k]?)∧H'=(aB (aF (λx:dL=>aG x.gr) d2.its)::aW A (.cells (nA g p s f n d2.eF.1 sv.1 o).toArray 180 (0,0))::aW o (eW mkStr d2.m)::row d2.eF.1 186 6 d2.its.length (rows eD d2.its)::row sv.1 58 1 d2.cA.length (rows bN (d2.cA.map Prod.fst))::(bF (ep 200 3) d2.its++bF (fx 3) d2.cA))):=by
 intro l
 induction l using Nat.strongRecOn with|_ l ih=> ?_
 intro d x B kids a hsv hp J3 acV hx AA SU SF V S3 W;refine dz.body (args:=[.pointer (some ⟨A,0,none⟩),iv (rule:Nat),bA x,B.1,iv (frm:Nat),iv (a:Nat),iv (tqo:Nat)]) 125 func121 rfl ntmps121 rfl (λc=> ?_);refine St.cast (H':=(aB (hY f)::aB (sl cT g.rv.1 g.rules)::aB (aF bz g.rules)::aB (sl bI p.1 (dg T))::aB (sl bI s.1 (de T))::aB (tz)::aB (sl aJ B.1 (bW kids))::aB (aG x)::aB (aF (λx:dL=>aG x.gr) d.its)::aW A (.cells (nA g p s f n d.eF.1 sv.1 o).toArray 180 (0,0))::aW o (eW mkStr d.m)::row d.eF.1 186 6 d.its.length (rows eD d.its)::row sv.1 58 1 d.cA.length (rows bN (d.cA.map Prod.fst))::(bF (ep 200 3) d.its++bF (fx 3) d.cA))) rfl ?_;refine go ?_
 have hnr:=hf.nr
 have YK:=zD T
 have H5:=cy x
 have anE:kids.length+l+1≤3:=by have:=hK.2;omega
 have Y:d.cA.length=n*(n+1):=by rw[←Cj,J3.ok.GH]
 refine St.wf B.1 (λSG _=> ?_);refine go ?_;refine St.dJ (.mk rfl) rfl (λb9=> ?_);refine g10 ?_;refine St.ee (Ev.cE (k:=rule) (.mk rfl) (.mk rfl) Pk kV (by omega) (by have:=ai hr;omega)) ?_;refine St.ee (Ev.js (.mk rfl) hr uR trivial kV j7.eq) ?_;refine St.al (λQQ=> ?_);refine St.sA (.mk rfl) (.mk rfl) kV ?_ (h1:=(eY.2 λu hu=>cT.one r u hu));refine g8 ?_;refine St.slot 35 (iv (kids.length:Nat)) rfl (congrArg iv (by rw[dY])) ?_;refine go ?_;refine St.slot 36 (iv ((l+1:Nat):Int)) rfl (congrArg iv (by rw[SF];push_cast;omega)) ?_;refine go ?_;refine St.slot 37 (iv (l:Nat)) rfl (congrArg iv (by push_cast;omega)) ?_;refine g18 ?_;refine St.join (ι:=Unit) (λu T=>(17,iv ((nj l a tqo:Nat):Int))::T) (λu=>(aB (aF (λx:dL=>aG x.gr) d.its)::aW A (.cells (nA g p s f n d.eF.1 sv.1 o).toArray 180 (0,0))::aW o (eW mkStr d.m)::row d.eF.1 186 6 d.its.length (rows eD d.its)::row sv.1 58 1 d.cA.length (rows bN (d.cA.map Prod.fst))::aB (hY f)::aB (sl cT g.rv.1 g.rules)::aB (aF bz g.rules)::aB (sl bI p.1 (dg T))::aB (sl bI s.1 (de T))::aB (tz)::aB (sl aJ B.1 (bW kids))::aB (aG x)::aW b9 (.cells [x.nv.1].toArray 30 (0,0))::aW QQ (.cells (zW r).toArray 110 (0,0))::(bF (ep 200 3) d.its++bF (fx 3) d.cA))) (λu=>True) (aD.cons 0 rfl (aD.cons 1 rfl (aD.cons 3 rfl (aD.cons 4 rfl (aD.cons 5 rfl (aD.cons 6 rfl (aD.cons 9 rfl (aD.cons 15 rfl (aD.cons 16 rfl aD.nil))))))))) ?_ ?_
 ·refine g6 ?_
  refine St.cq (λh44=> ?_) (λh44=> ?_)
  ·have hl0:l=0:=by omega
   refine g5 ?_;refine St.slot 17 (iv ((nj l a tqo:Nat):Int)) rfl (congrArg iv (by unfold nj;rw[aC hl0])) ?_;refine St.mE () trivial
  ·have hl0:l≠0:=by omega
   refine g2 ?_;refine St.slot 17 (iv ((nj l a tqo:Nat):Int)) rfl (congrArg iv (by unfold nj;rw[aA hl0];push_cast;rfl)) ?_;refine St.mE () trivial
 ·intro u aj4
  refine g7 ?_;refine St.lH (ι:=Nat×nE) (λ⟨i,d1⟩ T=>(18,iv ((nj l a tqo+i:Nat):Int))::T) (λ⟨i,d1⟩=>(aB (aF (λx:dL=>aG x.gr) d1.its)::aW A (.cells (nA g p s f n d1.eF.1 sv.1 o).toArray 180 (0,0))::aW o (eW mkStr d1.m)::row d1.eF.1 186 6 d1.its.length (rows eD d1.its)::row sv.1 58 1 d1.cA.length (rows bN (d1.cA.map Prod.fst))::aB (hY f)::aB (sl cT g.rv.1 g.rules)::aB (aF bz g.rules)::aB (sl bI p.1 (dg T))::aB (sl bI s.1 (de T))::aB (tz)::aB (sl aJ B.1 (bW kids))::aB (aG x)::aW b9 (.cells [x.nv.1].toArray 30 (0,0))::aW QQ (.cells (zW r).toArray 110 (0,0))::(bF (ep 200 3) d1.its++bF (fx 3) d1.cA))) (λ⟨i,d1⟩=>i≤rK l a tqo∧d1.nS=sv∧lM d1∧d1.cs=((List.range' (nj l a tqo) (rK l a tqo)).take i).foldl (Kb (kT f T n g) rule frm tqo l (ax x) kids a) d.cs∧d1.cA.length=d.cA.length∧(∀k,k≠slt n frm tqo→d1.cA[k]?=d.cA[k]?)) (λ⟨i,d1⟩=>rK l a tqo-i) ⟨0,d⟩ (aD.cons 0 rfl (aD.cons 1 rfl (aD.cons 3 rfl (aD.cons 4 rfl (aD.cons 5 rfl (aD.cons 6 rfl (aD.cons 9 rfl (aD.cons 15 rfl (aD.cons 16 rfl aD.nil))))))))) ⟨aP _,hsv,hp,rfl,rfl,λ_ _=>rfl⟩ ?_;rintro ⟨i,d1⟩ ⟨hi,Kr,Wa,Z,F,SI⟩
  dsimp only at hi Kr Wa Z F SI⊢
  refine g8 ?_;refine St.cond _ rfl (λG=> ?_) (λG=> ?_)
  ·skip
   have SC:i<rK l a tqo:=(N7 S3).1 (fJ G)
   obtain⟨f1,f2,f3,f4⟩:=Cm S3 SC
   obtain⟨en,hen⟩:∃en,en=nj l a tqo+i:=⟨_,rfl⟩
   rw[←hen]at f1 f2 f3 f4⊢
   have hei:(List.range' (nj l a tqo) (rK l a tqo))[i]?=some en:=by rw[List.getElem?_range' SC,hen,Nat.one_mul]
   have hE0:∀z∈(List.range' (nj l a tqo) (rK l a tqo)),a<z∧z≤tqo∧(1≤l→z<tqo):=λz hz=>by obtain⟨j,hj,rfl⟩:=List.mem_range'.1 hz;have:=Cm S3 hj;rw[Nat.one_mul];exact⟨this.1,this.2.1,this.2.2.2⟩
   obtain⟨th,H⟩:=N3 (Q:=(kT f T n g)) hn YK S8 YL c0 (l:=l) (a:=a) (rule:=rule) J3 hx V (by rw[iT];exact W) ((List.range' (nj l a tqo) (rK l a tqo)).take i) (λz hz=>hE0 z (List.take_subset _ _ hz));rw[←Z]at th H
   have ac2:=vm (f:=λen=>c0 a en*xE c0 tqo l en) hei
   rw[←RR]at ac2
   have We:Room d1.cs (c0 a en*xE c0 tqo l en):=Room.grow (Room.mono acV ac2) H
   have ab0:∀k∈kids,k<d1.cs.its.length:=λk hk=>fO (by rw[iT];exact W k hk) H.more
   have acZ:slt n a en≠slt n frm tqo:=λh=>by have:=DP (by omega) YL h;rcases V with V|⟨_,hl⟩;omega;have:=f4 hl;omega
   obtain⟨q,hq⟩:=aE (show slt n a en<d.cA.length by rw[Y];exact sa (by omega) (by omega))
   have Ls:d1.cA[slt n a en]?=some q:=by rw[SI _ acZ];exact hq
   have I:=UN Ls
   have ab8:q.2.length=c0 a en:=by rw[←I];exact th.len a en (show en≤n by omega) (λh=>by rcases V with V|⟨_,hl⟩;omega;have:=f4 hl;omega)
   refine g9 ?_;refine St.ee (Ev.iU 2 (.mk rfl) Bn trivial Bi rfl rfl) ?_;refine St.slot 55 (.agg #[iv (n:Nat),sv.1]) rfl rfl ?_;refine g2 ?_;refine St.call (CR n a en (slt n a en) hn (by omega) (by omega) rfl sv d1.cA q Ls) Mf (.ek rfl rfl rfl) rfl ?_;rintro v58 _ ⟨rfl,rfl⟩;refine St.ao ?_;refine St.tail (bF (ep 200 3) d1.its++bF (fx 3) d1.cA) (row q.1.1 3 1 (q.2).length (rows aJ (bW (q.2)))::(bF (ep 200 3) d1.its++bF (fx 3) (d1.cA.eraseIdx (slt n a en)))) (pI _ _ _ Ls) ?_;refine go ?_;refine St.tail (row q.1.1 3 1 (q.2).length (rows aJ (bW (q.2)))::(bF (ep 200 3) d1.its++bF (fx 3) (d1.cA.eraseIdx (slt n a en)))) (bF (ep 200 3) d1.its++bF (fx 3) d1.cA) (pI (ep 200 3) (fx 3) d1.its Ls).symm ?_;refine g4 ?_;refine St.lH (ι:=Nat×nE) (λ⟨k,d2⟩ T=>(60,iv k)::T) (λ⟨k,d2⟩=>(aB (aF (λx:dL=>aG x.gr) d2.its)::aW A (.cells (nA g p s f n d2.eF.1 sv.1 o).toArray 180 (0,0))::aW o (eW mkStr d2.m)::row d2.eF.1 186 6 d2.its.length (rows eD d2.its)::row sv.1 58 1 d2.cA.length (rows bN (d2.cA.map Prod.fst))::aB (hY f)::aB (sl cT g.rv.1 g.rules)::aB (aF bz g.rules)::aB (sl bI p.1 (dg T))::aB (sl bI s.1 (de T))::aB (tz)::aB (sl aJ B.1 (bW kids))::aB (aG x)::aW b9 (.cells [x.nv.1].toArray 30 (0,0))::aW QQ (.cells (zW r).toArray 110 (0,0))::(bF (ep 200 3) d2.its++bF (fx 3) d2.cA))) (λ⟨k,d2⟩=>k≤q.2.length∧d2.nS=sv∧lM d2∧d2.cs=(q.2.take k).foldl (tQ (kT f T n g) rule frm tqo l (ax x) kids en) d1.cs∧d2.cA.length=d.cA.length∧(∀k,k≠slt n frm tqo→d2.cA[k]?=d.cA[k]?)) (λ⟨k,d2⟩=>q.2.length-k) ⟨0,d1⟩ (aD.cons 0 rfl (aD.cons 1 rfl (aD.cons 3 rfl (aD.cons 4 rfl (aD.cons 5 rfl (aD.cons 6 rfl (aD.cons 9 rfl (aD.cons 15 rfl (aD.cons 16 rfl (aD.cons 18 rfl (aD.cons 58 rfl (aD.cons 59 rfl aD.nil)))))))))))) ⟨aP _,Kr,Wa,rfl,F,SI⟩ ?_;rintro ⟨k,d2⟩ ⟨hk,U,J,C,K,M⟩
   dsimp only at hk U J C K M⊢
   refine g6 ?_;refine St.cq (λh61=> ?_) (λh61=> ?_)
   ·obtain⟨e,he⟩:=aE (show k<q.2.length by omega)
    have J0:d2.cA[slt n a en]?=some q:=by rw[M _ acZ];exact hq
    have ab3:∀z∈q.2,z<d1.cs.its.length:=λz hz=>th.ok.qA (by rw[I];exact hz)
    obtain⟨N,EP⟩:=BH (Q:=(kT f T n g)) hn YK S8 YL c0 (l:=l) (rule:=rule) th hx (en:=en) ⟨by omega,f4⟩ ab0 (q.2.take k) (λz hz=>ab3 z (List.take_subset _ _ hz));rw[←C,eU,ko (by omega)]at EP;rw[←C]at N
    have abU:k*xE c0 tqo l en+xE c0 tqo l en≤c0 a en*xE c0 tqo l en:=by rw[←ab8,←Nat.succ_mul];exact iV _ (by omega)
    have HD:Room d2.cs (xE c0 tqo l en):=Room.grow (Room.mono We abU) EP
    have YG:e<d2.its.length:=by rw[←iT];exact fO (ab3 e (aZ he)) EP.more
    have ajT:∀k∈kids,k<d2.its.length:=λz hz=>by rw[←iT];exact fO (ab0 z hz) EP.more
    obtain⟨b,D⟩:=aE YG
    have hxm:=aZ D
    obtain⟨H6,NT⟩:=Ul N.ok D
    have H8:=HD.its
    have anI:=zd N.ok J0
    rw[iT]at H8;refine St.tail (bF (ep 200 3) d2.its++bF (fx 3) d2.cA) (row q.1.1 3 1 (q.2).length (rows aJ (bW (q.2)))::(bF (ep 200 3) d2.its++bF (fx 3) (d2.cA.eraseIdx (slt n a en)))) (pI _ _ _ J0) ?_;refine g7 ?_;refine St.ee (Ev.ct (.mk rfl) gD trivial (by omega) (gU (gQ he))) ?_;refine St.tail (row q.1.1 3 1 (q.2).length (rows aJ (bW (q.2)))::(bF (ep 200 3) d2.its++bF (fx 3) (d2.cA.eraseIdx (slt n a en)))) (bF (ep 200 3) d2.its++bF (fx 3) d2.cA) (pI (ep 200 3) (fx 3) d2.its J0).symm ?_;refine g10 ?_;refine St.slot 67 (iv (kids.length:Nat)) rfl (congrArg iv (by rw[dY])) ?_;refine go ?_;refine St.slot 68 (iv ((kids.length+1:Nat):Int)) rfl (congrArg iv (by push_cast;rfl)) ?_;refine go ?_;refine St.dup (hY f) ?_;refine St.tail (bF (ep 200 3) d2.its++bF (fx 3) d2.cA) (row b.wv.1 200 3 (b.cW).length (rows mK (b.cW))::row b.tv.1 3 1 (b.bf).length (rows aJ (b.bf))::(bF (jH 3) b.cW++(bF (ep 200 3) (d2.its.eraseIdx e)++bF (fx 3) d2.cA))) (yt _ _ D) ?_;refine St.call (tF f hf (nA g p s f n d2.eF.1 sv.1 o) rfl A rule (kids.length+1) hrf (by omega) (by omega) d2.eF rfl d2.its e b D (J.bf b hxm)) UD (.gY rfl rfl rfl rfl) rfl ?_;rintro v70 _ ⟨rfl,rfl⟩;refine St.iQ ?_;refine St.mj [row b.wv.1 200 3 (b.cW).length (rows mK (b.cW)),row b.tv.1 3 1 (b.bf).length (rows aJ (b.bf))] (bF (jH 3) b.cW++(bF (ep 200 3) (d2.its.eraseIdx e)++bF (fx 3) d2.cA)) (bF (ep 200 3) d2.its++bF (fx 3) d2.cA) (yt (ep 200 3) (bF (fx 3) d2.cA) D).symm ?_;refine g3 ?_;refine St.cond _ rfl (λO=> ?_) (λO=> ?_)
    ·skip
     have H3:b.bf.any (q9 f rule (kids.length+1))=false:=by simpa using O
     have P:lQ (kT f T n g) d2.cs rule (ax x) (kids.length+1) e=none:=Pg D H3
     refine g9 ?_;refine St.aH ⟨k+1,d2⟩ ⟨by omega,U,J,by rw[oG _ _ he,←C];exact(by unfold tQ;rw[P]),K,M⟩
    ·skip
     have H3:b.bf.any (q9 f rule (kids.length+1))=true:=by simpa using O
     have P:=Jm (T:=T) (n:=n) (g:=g) (y:=ax x) D H3
     refine g3 ?_;refine St.ea (aG b.gr) [aF (λx:dL=>aG x.gr) d2.its] (λρ h=>h _ (aQ ..) b hxm) ?_;refine St.lA d2.eF.1 (by omega) (λbs cs Nd=> ?_);refine St.dc (aB (sl bI p.1 (dg T))::aB (sl bI s.1 (de T))::aB tz::aB (aG x)::aB (aG b.gr)::(bF (ep 200 3) d2.its++bF (fx 3) d2.cA)) mixed (λnp ns=> ?_);refine SW.gd 0 ?_;refine SW.gd 1 ?_;refine SW.gd 2 ?_;refine SW.dd 3 rfl (λ_=>Ev.iU 2 (.mk rfl) wX trivial wU rfl rfl) ?_;refine SW.slot 76 (kB p s) rfl rfl ?_;refine SW.gd 4 ?_;refine SW.slot 77 (bA x) rfl rfl ?_;refine SW.gd 5 ?_;refine SW.gd 6 ?_;refine SW.slot 79 (iv (kids.length:Nat)) rfl (congrArg iv (by rw[dY])) ?_;refine SW.gd 7 ?_;refine SW.slot 80 (iv ((kids.length+1:Nat):Int)) rfl (congrArg iv (by push_cast;rfl)) ?_;refine SW.gd 8 ?_;refine SW.gd 9 ?_;refine SW.gd 10 ?_;refine SW.gd 11 ?_;refine SW.gd 12 ?_;refine SW.dd 13 rfl (λ_=>Ev.n9 (k:=e) Nd (.mk rfl) (.mk rfl) nV oV (by omega) (by omega)) ?_;refine SW.dd 14 rfl (λ_=>Ev.jb Nd (.mk rfl) tX) ?_;refine SW.dd 15 rfl (λ_=>Ev.jb Nd (.mk rfl) xc) ?_;refine SW.dd 16 rfl (λ_=>Ev.O0 (Rr:=eD) (sz:=1) (.mk rfl) D mm trivial jU (by omega) (by decide) (by decide)) ?_;refine SW.slot 89 (bA b.gr) rfl rfl ?_;refine SW.t2 17 21 ?_ ?_
     focus
      refine St.ae (qp p s T hT nf Kn x b.gr ((kids.length+1:Nat):Int) hx H6 AA NT (SU _ (by omega) (by omega))) Ig (.gY rfl rfl rfl rfl) rfl ?_;rintro v90 _ ⟨u,z,rfl,hz,rfl⟩;refine St.ao ?_;refine St.bL z u (λy hy=> ?_);obtain⟨rfl,YP⟩:=hy;refine g2 ?_;refine SW.go ?_;refine SW.gd 18 ?_;refine SW.gd 19 ?_;refine SW.gd 20 ?_;refine SW.t1 21 ?_;refine St.al (λb21=> ?_);refine g2 ?_;refine SW.go ?_;refine SW.t1 22 ?_;refine g3 ?_;refine SW.go ?_;refine SW.gd 23 ?_;refine SW.dn ?_
     rotate_left
     focus
      refine St.al (λb21=> ?_);refine g2 ?_;refine SW.go ?_;refine SW.t1 17 ?_;refine St.ae (qp p s T hT nf Kn x b.gr ((kids.length+1:Nat):Int) hx H6 AA NT (SU _ (by omega) (by omega))) Ig (.gY rfl rfl rfl rfl) rfl ?_;rintro v90 _ ⟨u,z,rfl,hz,rfl⟩;refine St.ao ?_;refine St.bL z u (λy hy=> ?_);obtain⟨rfl,YP⟩:=hy;refine g2 ?_;refine SW.go ?_;refine SW.gd 18 ?_;refine SW.gd 19 ?_;refine SW.gd 20 ?_;refine SW.t1 22 ?_;refine g3 ?_;refine SW.go ?_;refine SW.gd 23 ?_;refine SW.dn ?_
     all_goals
      refine g8 ?_;refine St.cond _ rfl (λR=> ?_) (λR=> ?_)
      ·skip
       have hsn:nC (hC T) (ax x) ((kids.length+1:Nat):Int) (ax b.gr)=none:=by simpa using R
       rw[hsn]at P;refine g9 ?_;refine St.aH ⟨k+1,d2⟩ ⟨by omega,U,J,by rw[oG _ _ he,←C];exact(by unfold tQ;rw[P]),K,M⟩
      ·skip
       obtain⟨z1,SV⟩:∃z1,nC (hC T) (ax x) ((kids.length+1:Nat):Int) (ax b.gr)=some z1:=Option.isSome_iff_exists.1 (by simpa using R)
       have hzz:=hz z1 SV
       rw[hzz]at YP;rw[SV,←YP]at P;rw[←YP]at SV;obtain⟨y1,y2,y3⟩:=I1 YK hx H6 SV
       have hyl:y.nodes.length≤60:=by rw[←cy];exact y2
       have hyt:∀k:Int,0≤k→k≤r.kids→0≤rX (ax y) k:=λk h0 h1=>(xz y1).2 (y3 k ((xz hx).1 (SU k h0 h1)))
       have ab1:∀k∈kids++ [e],k<d2.its.length:=λz hz=>by rcases cG.1 hz with hz|hz;exact ajT z hz;rw[bP.1 hz];exact YG
       refine g7 ?_;refine St.slot 97 (iv (kids.length:Nat)) rfl (congrArg iv (by rw[dY])) ?_;refine g2 ?_;refine St.slot 99 (iv (kids.length:Nat)) rfl (congrArg iv (by rw[dY])) ?_;refine St.ee (Ev.clip (.mk rfl) (.mk rfl) (.mk rfl) bJ dK (by rw[dY]) (by rw[dY])) ?_;refine go ?_;refine St.gV rfl (.ar rfl) bJ dK eT rfl rfl (by simp[Value.cells]) rfl rfl (λamV=> ?_);refine St.yN (.mk rfl) (.mk rfl) bJ dK eT xT (by simp[Value.oneCell',Value.cells]) (by rw[dY];omega) (by rw[dY];omega) rfl rfl rfl rfl (λE amH=> ?_);refine St.aM E (show _=(kids++ [e]).length by rw[dY,bR];rfl) (show _=rows aJ (bW (kids++ [e])) by rw[kf,ay];rfl) ?_;refine St.ba E (λNK _=> ?_);refine g9 ?_;refine St.cq (λRx=> ?_) (λRx=> ?_)
       ·obtain⟨l1,rfl⟩:∃l1,l=l1+1:=⟨l-1,by omega⟩
        refine St.bS E aJ (bW (kids++ [e])) rfl (dY _).symm (λz hz=>by obtain⟨z2,hz2,rfl⟩:=dC.1 hz;have:=ab1 z2 hz2;unfold aJ aa;dsimp only;omega) ?_
        have ac1:im T.length nf n frm tqo c0 0 d2.cs:=⟨N.ok,N.len,aP _⟩
        refine g4 ?_;refine St.slot 108 (bA y) rfl rfl ?_;refine g4 ?_;refine St.pQ (ds:=[hY f,sl cT g.rv.1 g.rules,aF bz g.rules,sl bI p.1 (dg T),sl bI s.1 (de T),tz,sl aJ E (bW (kids++ [e])),aG y,aF (λx:dL=>aG x.gr) d2.its]) (L:=[aW A (.cells (nA g p s f n d2.eF.1 sv.1 o).toArray 180 (0,0)),aW o (eW mkStr d2.m),row d2.eF.1 186 6 d2.its.length (rows eD d2.its),row sv.1 58 1 d2.cA.length (rows bN (d2.cA.map Prod.fst))]) (X:=(bF (ep 200 3) d2.its++bF (fx 3) d2.cA)) (post:=λv L' X'=>∃d3:nE,d3.cs=uz (kT f T n g) rule frm tqo (l1) d2.cs (ax y) (kids++ [e]) en∧d3.nS=sv∧lM d3∧d3.cA.length=d2.cA.length∧(∀k,k≠slt n frm tqo→d3.cA[k]?=d2.cA[k]?)∧L'=[aB (aF (λx:dL=>aG x.gr) d3.its),aW A (.cells (nA g p s f n d3.eF.1 sv.1 o).toArray 180 (0,0)),aW o (eW mkStr d3.m),row d3.eF.1 186 6 d3.its.length (rows eD d3.its),row sv.1 58 1 d3.cA.length (rows bN (d3.cA.map Prod.fst))]∧X'=(bF (ep 200 3) d3.its++bF (fx 3) d3.cA)) ((ih l1 (by omega) d2 y ⟨E,NK⟩ (kids++ [e]) en U J ac1 HD y1 hyl hyt (by rw[SF];simp only[List.length_append,List.length_cons,List.length_nil];push_cast;omega) (.inl (by omega)) (f4 (by omega)) ab1).mono (λv H' ⟨d3,S,a2,a3,a4,a5,a6⟩=>⟨_,_,a6,d3,S,a2,a3,a4,a5,rfl,rfl⟩)) UC (.aeF rfl rfl rfl rfl rfl rfl rfl) rfl ?_;rintro an7 _ _ ⟨d3,S,a2,a3,a4,a5,rfl,rfl⟩;refine St.CP ?_;refine g8 ?_;refine St.aH ⟨k+1,d3⟩ ⟨by omega,a2,a3,by rw[oG _ _ he,←C];exact(by unfold tQ;rw[P];exact S),(a4.trans K),(λz hz=>(a5 z hz).trans (M z hz))⟩
       ·obtain rfl:l=0:=by omega
        obtain rfl:en=tqo:=f3 rfl;refine g5 ?_;refine St.slot 117 (bA y) rfl rfl ?_;refine St.ae (pz y T.length nf Kn y1 (by omega) (hyt 0 (by omega) (by omega))) Md (.ar rfl) rfl ?_;rintro al2 _ rfl;refine St.ao ?_;refine St.bL (mA (ax y)) al2 (λmy hm=> ?_);obtain⟨rfl,Ug⟩:=hm;obtain⟨m1,m2⟩:=qR y1 y2;rw[←Ug]at m1 m2;rw[cy]at m2
        have hms:=gO m1 Kn
        obtain⟨q0,QX⟩:=aE (show slt n frm en<d2.cA.length by rw[K,Y];exact sa (by omega) YL)
        have ab7:=zd N.ok QX
        have Nc:Room d2.cs 1:=HD
        have abZ:=Nc.its
        rw[iT]at abZ
        have Wd:=ai hr
        refine St.ee (Ev.build (bH.ek rfl rfl rfl) (λw=>tK rfl rfl w)) ?_;refine St.slot 119 (Gp frm en 0 my.nv.1) rfl rfl ?_;refine g2 ?_;refine St.ee (Ev.build (bH.aX rfl rfl) (λw=>yT rfl NK w)) ?_;refine St.slot 122 (.agg #[iv (rule:Nat),iv 0,E]) rfl rfl ?_;refine St.pQ (ds:=[aG my,aF (λx:dL=>aG x.gr) d2.its]) (L:=[aW A (.cells (nA g p s f n d2.eF.1 sv.1 o).toArray 180 (0,0)),aW o (eW mkStr d2.m),row d2.eF.1 186 6 d2.its.length (rows eD d2.its),row sv.1 58 1 d2.cA.length (rows bN (d2.cA.map Prod.fst)),row E 3 aJ.size (kids++ [e]).length (rows aJ (bW (kids++ [e])))]) (X:=(bF (ep 200 3) d2.its++bF (fx 3) d2.cA)) (post:=λv L' X'=>∃d3:nE,d3.cs=kZ n d2.cs ⟨frm,en,0,ax my⟩ ⟨(rule:Nat),0,kids++ [e]⟩∧d3.nS=sv∧lM d3∧d3.cA.length=d2.cA.length∧(∀k,k≠slt n frm en→d3.cA[k]?=d2.cA[k]?)∧L'=[aB (aF (λx:dL=>aG x.gr) d3.its),aW A (.cells (nA g p s f n d3.eF.1 sv.1 o).toArray 180 (0,0)),aW o (eW mkStr d3.m),row d3.eF.1 186 6 d3.its.length (rows eD d3.its),row sv.1 58 1 d3.cA.length (rows bN (d3.cA.map Prod.fst))]∧X'=(bF (ep 200 3) d3.its++bF (fx 3) d3.cA)) ?_ Me (.ek rfl rfl rfl) rfl ?_
        ·subst U
         exact(uj g p s f n hn d2 J A o frm en 0 my (by omega) (λt ht=>by have:=(hms t ht).2;omega) (by omega) (by omega) (rule:Nat) 0 (by unfold aa;omega) (by omega) ⟨E,NK⟩ (kids++ [e]) q0 QX (by omega) (by omega) (zO Nc N.ok)).mono (λv H' ⟨d3,S,a2,a3,a4,a5,a6⟩=>⟨_,_,(by rw[a2]at a6;exact a6),d3,S,a2,a3,a4,a5,rfl,rfl⟩)
        rintro an9 _ _ ⟨d3,S,a2,a3,a4,a5,rfl,rfl⟩;refine St.CP ?_;refine g8 ?_;refine St.aH ⟨k+1,d3⟩ ⟨by omega,a2,a3,by rw[oG _ _ he,←C];exact(by unfold tQ;rw[P,S,Ug]),(a4.trans K),(λz hz=>(a5 z hz).trans (M z hz))⟩
   ·obtain rfl:k=q.2.length:=by omega
    rw[jY]at C;refine g12 ?_;refine St.aH ⟨i+1,d2⟩ ⟨by omega,U,J,by rw[oG _ _ hei,←Z,C];show _=(d1.cs.at_ n a en).foldl _ _;rw[I],K,M⟩
  ·skip
   have SC:¬i<rK l a tqo:=λh=>iX G ((N7 S3).2 h)
   obtain rfl:i=rK l a tqo:=by omega
   rw[fZ (by rw[List.length_range'];exact aR _),←Iq]at Z;refine g4 ?_;refine St.eH ?_;refine St.rV [] (aB (aF (λx:dL=>aG x.gr) d1.its)::aW A (.cells (nA g p s f n d1.eF.1 sv.1 o).toArray 180 (0,0))::aW o (eW mkStr d1.m)::row d1.eF.1 186 6 d1.its.length (rows eD d1.its)::row sv.1 58 1 d1.cA.length (rows bN (d1.cA.map Prod.fst))::(bF (ep 200 3) d1.its++bF (fx 3) d1.cA)) ?_;exact⟨d1,Z,Kr,Wa,F,SI,rfl⟩
theorem j0 (i:Nat){α:Type}(f:α→Nat→α)(a:α):(List.range (i+1)).foldl f a=f ((List.range i).foldl f a) i:=by rw[ua,wh];rfl
theorem O2 {nt nf len:Nat}{Q:Qr}(c:qo nt nf Q){w:bC}{frm tqo i:Nat}(d:frm<tqo)(ht:tqo≤Q.n){cs:Cs}(h:nZ nt nf Q.n len frm cs)(e:i<Q.aN.length):
 im nt nf Q.n frm tqo (λi j=>(cs.at_ Q.n i j).length) 0 ((List.range i).foldl (rN Q w frm tqo) cs)∧Room ((List.range i).foldl (rN Q w frm tqo) cs) 1:=by
 have f:im nt nf Q.n frm tqo (λi j=>(cs.at_ Q.n i j).length) 0 cs:=⟨h.ok,λ_ _ _ _=>rfl,aP _⟩
 obtain⟨a,b⟩:=iJ (n:=Q.n) (frm:=frm) (tqo:=tqo) (rN Q w frm tqo) (λ_=>1) _ (List.range i) cs f (λk j g h1=>z6 c d ht h1 (Nat.lt_trans (dt.1 g) e));rw[jj,jV,gZ]at b
 have:=c.xn
 exact⟨a,Room.grow (h.room.mono (by unfold vf;omega)) b⟩
theorem P7 {nt nf len:Nat}{Q:Qr}(c:qo nt nf Q){frm tqo i:Nat}(l:frm<tqo)(ht:tqo≤Q.n)(m:tqo≠frm+1){cs:Cs}(h:nZ nt nf Q.n len frm cs)(d:i<Q.rules.length):
 im nt nf Q.n frm tqo (λi j=>(cs.at_ Q.n i j).length) 0 ((List.range i).foldl (rR Q frm tqo) cs)∧(1<(Q.rules.getD i oP).kids→Room ((List.range i).foldl (rR Q frm tqo) cs) (lV (λi j=>(cs.at_ Q.n i j).length) tqo ((Q.rules.getD i oP).kids.toNat-1) frm)):=by
 have o:im nt nf Q.n frm tqo (λi j=>(cs.at_ Q.n i j).length) 0 cs:=⟨h.ok,λ_ _ _ _=>rfl,aP _⟩
 obtain⟨a,b⟩:=iJ (n:=Q.n) (frm:=frm) (tqo:=tqo) (rR Q frm tqo) (λi=>if decide (1<(Q.rules.getD i oP).kids)=true then 4000000 else 0) _ (List.range i) cs o (λs j p h1=>zV c l ht h.ok h.xV h1 (Nat.lt_trans (dt.1 p) d));refine⟨a,λhk=> ?_⟩
 have e:=vm (f:=λi=>if decide (1<(Q.rules.getD i oP).kids)=true then 4000000 else 0) (show(List.range Q.rules.length)[i]?=some i from nY d)
 rw[List.take_range,ko (by omega),rD (λr:sm=>decide (1<r.kids)) oP 4000000 Q.rules]at e
 have q:=B9 c (frm:=frm) (tqo:=tqo)
 have g:CU Q frm tqo≤vf:=dW (Nat.le_mul_of_pos_right _ (by omega)) q
 unfold CU at g;rw[aA m]at g
 have k:Q.rules.countP (λr:sm=>decide (1<r.kids))*4000000≤vf:=g
 rw[aC (eB hk)]at e
 have k3:=(c.vb d).1.2
 exact(Room.grow (h.room.mono (dW e k)) b).mono (BF h.ok h.xV l ht (by omega) (by omega))
theorem Pm {nt nf:Nat}{Q:Qr}(l:qo nt nf Q){frm tqo i k e:Nat}(m:frm<tqo)(ht:tqo≤Q.n){cs:Cs}(h:gi nt nf Q.n cs)(o:Room cs (vT Q cs ((cs.at_ Q.n frm tqo).drop k)))(hk:(cs.at_ Q.n frm tqo)[k]?=some e)(t:(cs.ed e).cw≠3)(c:i<Q.rules.length):
 gi nt nf Q.n ((List.range i).foldl (qd Q frm tqo e) cs)∧Grow Q.n frm tqo cs ((List.range i).foldl (qd Q frm tqo e) cs) (hP Q)∧((Q.rules.getD i oP).kids=1→Room ((List.range i).foldl (qd Q frm tqo e) cs) 1):=by
 have a:=aZ hk
 have b:=h.qA a
 have u:(cs.ed e).cw≤3:=by
  unfold Cs.ed;rw[aw,bU b];exact(h.gr _ (iG b)).2.2.1
 have hu:=zz l m ht (e:=e) (ch:=(cs.ed e).cw) (by omega) (List.range i) cs (λj p=>Nat.lt_trans (dt.1 p) c) h b rfl
 have d:=vm (f:=λi=>if decide ((Q.rules.getD i oP).kids=1)=true then 1 else 0) (show(List.range Q.rules.length)[i]?=some i from nY c)
 rw[List.take_range,ko (by omega),rD (λr:sm=>decide (r.kids=1)) oP 1 Q.rules,gZ]at d
 have g:_≤hP Q:=d
 refine⟨hu.ok,hu.gr.mono (by omega),λq=> ?_⟩;rw[aC (eB q)]at g;refine Room.grow (o.mono ?_) hu.gr;refine dW g ?_;unfold vT;rw[oJ _ hk]
 have s:3-(cs.ed e).cw=(2-(cs.ed e).cw)+1:=by omega
 rw[s]
 have:hP Q*1≤hP Q*(1+jx (hP Q) (2-(cs.ed e).cw)):=A4 _ (by omega)
 show hP Q≤hP Q*(1+jx (hP Q) (2-(cs.ed e).cw))+_
 omega
theorem Pn {Q:Qr}{frm tqo f k e:Nat}{cs:Cs}(hk:(cs.at_ Q.n frm tqo)[k]?=some e)(a:(cs.ed e).cw=3)(b:qU Q cs ((cs.at_ Q.n frm tqo).drop k)<f):
 ∃f2,qe Q frm tqo f k cs=qe Q frm tqo f2 (k+1) cs∧qU Q cs ((cs.at_ Q.n frm tqo).drop (k+1))<f2∧qU Q cs ((cs.at_ Q.n frm tqo).drop (k+1))<qU Q cs ((cs.at_ Q.n frm tqo).drop k):=by
 obtain⟨f2,rfl⟩:∃f2,f=f2+1:=⟨f-1,by omega⟩
 have hd:(cs.at_ Q.n frm tqo).getD k 0=e:=by rw[aw,hk];rfl
 have hp:qU Q cs ((cs.at_ Q.n frm tqo).drop k)=(1+jx (hP Q) (3-(cs.ed e).cw))+qU Q cs ((cs.at_ Q.n frm tqo).drop (k+1)):=by unfold qU;exact oJ _ hk
 refine⟨f2,?_,by omega,by omega⟩;rw[qe,aC (ai hk),hd,aC a]
theorem Xu {Q:Qr}{frm tqo f k e:Nat}{cs:Cs}(hk:(cs.at_ Q.n frm tqo)[k]?=some e)(a:(cs.ed e).cw≠3)(b:qU Q cs ((cs.at_ Q.n frm tqo).drop k)<f):
 ∃f2,qe Q frm tqo f k cs=qe Q frm tqo f2 (k+1) ((List.range Q.rules.length).foldl (qd Q frm tqo e) cs)∧qU Q cs ((cs.at_ Q.n frm tqo).drop k)<f2+1:=by
 obtain⟨f2,rfl⟩:∃f2,f=f2+1:=⟨f-1,by omega⟩
 have hd:(cs.at_ Q.n frm tqo).getD k 0=e:=by rw[aw,hk];rfl
 exact⟨f2,by rw[qe,aC (ai hk),hd,aA a],b⟩
theorem Te {Q:Qr}{frm tqo f k:Nat}{cs:Cs}(hk:(cs.at_ Q.n frm tqo).length≤k):qe Q frm tqo f k cs=cs:=by
 cases f with
 |zero=>rfl
 |succ f=>rw[qe,aA (by omega)]
theorem LZ (g:gW)(b l:aV)(T:List eo)(hT:ir T)(nf:Nat)(R:nf≤100)(f:kz)(hf:yA f)(n:Nat)(hn:n≤12)(p a:Nat)(sv:aV)(wv:Value)(words:List bC)(Lu:words.length=n)(hnr:f.nr=g.rules.length)(O:qo T.length nf (kT f T n g))(GG:∀r∈g.rules,∀k:Int,0≤k→k≤r.kids→0≤rX (ax r.graph) k)
 (frm tqo len:Nat) (hlen:1≤len) (hte:tqo=frm+len) (S:tqo≤n) (d:nE) (hsv:d.nS=sv) (hp:lM d) (hs:nZ T.length nf n len frm d.cs):
 dz prog 90 ([.pointer (some ⟨p,0,none⟩),wv,iv (frm:Nat),iv (tqo:Nat)]).toArray ([hY f,sl cT g.rv.1 g.rules,aF bz g.rules,sl e7 g.xv.1 g.aN,aF eR g.aN,sl bI b.1 (dg T),sl bI l.1 (de T),tz,sl bE wv words,aF (λx:dL=>aG x.gr) d.its].map aB++([aW p (.cells (nA g b l f n d.eF.1 sv.1 a).toArray 180 (0,0)),aW a (eW mkStr d.m),row d.eF.1 186 6 d.its.length (rows eD d.its),row sv.1 58 1 d.cA.length (rows bN (d.cA.map Prod.fst))]++(bF (ep 200 3) d.its++bF (fx 3) d.cA))) (λv H'=>∃d2:nE,d2.cs=pJ (kT f T n g) words frm tqo d.cs∧d2.nS=sv∧lM d2∧H'=(aB (aF (λx:dL=>aG x.gr) d2.its)::aW p (.cells (nA g b l f n d2.eF.1 sv.1 a).toArray 180 (0,0))::aW a (eW mkStr d2.m)::row d2.eF.1 186 6 d2.its.length (rows eD d2.its)::row sv.1 58 1 d2.cA.length (rows bN (d2.cA.map Prod.fst))::(bF (ep 200 3) d2.its++bF (fx 3) d2.cA))):=by
 refine dz.body (args:=[.pointer (some ⟨p,0,none⟩),wv,iv (frm:Nat),iv (tqo:Nat)]) 171 func90 rfl ntmps90 rfl (λc=> ?_);refine St.cast (H':=(aB (hY f)::aB (sl cT g.rv.1 g.rules)::aB (aF bz g.rules)::aB (sl e7 g.xv.1 g.aN)::aB (aF eR g.aN)::aB (sl bI b.1 (dg T))::aB (sl bI l.1 (de T))::aB (tz)::aB (sl bE wv words)::aB (aF (λx:dL=>aG x.gr) d.its)::aW p (.cells (nA g b l f n d.eF.1 sv.1 a).toArray 180 (0,0))::aW a (eW mkStr d.m)::row d.eF.1 186 6 d.its.length (rows eD d.its)::row sv.1 58 1 d.cA.length (rows bN (d.cA.map Prod.fst))::(bF (ep 200 3) d.its++bF (fx 3) d.cA))) rfl ?_
 have S8:frm<tqo:=by omega
 have YK:=zD T
 obtain⟨w,hw⟩:=aE (show frm<words.length by omega)
 have hwd:words.getD frm []=w:=by rw[aw,hw];rfl
 have hrn:g.rules.length≤40:=by have h:(g.rules.map lK).length≤40:=O.rn;rwa[aO]at h
 have hxn:g.aN.length≤100:=by have h:(g.aN.map oe).length≤100:=O.xn;rwa[aO]at h
 have Cz:∀(i:Nat) (r:ca),g.rules[i]?=some r→(1≤r.kids∧r.kids≤3)∧e9 T.length nf (ax r.graph)∧r.graph.nodes.length≤60:=λi r h=>by have h1:=O.rule (lK r) (eQ (aZ h));exact⟨h1.1,h1.2.1,by rw[←cy];exact h1.2.2⟩
 have WV:∀(i:Nat) (x:eZ),g.aN[i]?=some x→e9 T.length nf (ax x.graph)∧x.graph.nodes.length≤60:=λi x h=>by have h1:=O.lex (oe x) (eQ (aZ h));exact⟨h1.1,by rw[←cy];exact h1.2⟩
 have abY:∀(i:Nat) (r:ca),g.rules[i]?=some r→(kT f T n g).rules.getD i oP=lK r:=λi r h=>by show(g.rules.map lK).getD i oP=_;rw[aw,bQ,h];rfl
 have ajS:∀(i:Nat) (x:eZ),g.aN[i]?=some x→(kT f T n g).aN.getD i QZ=oe x:=λi x h=>by show(g.aN.map oe).getD i QZ=_;rw[aw,bQ,h];rfl
 obtain⟨Iz,Dg,V⟩:=DS O (words:=words) hlen (show frm+len≤n by omega) hs;rw[←hte]at Iz Dg V
 have Wd:((kT f T n g)).rules.length=g.rules.length:=aO _
 have hll:((kT f T n g)).aN.length=g.aN.length:=aO _
 refine St.join (ι:=nE) (λd1 T=>T) (λd1=>(aB (aF (λx:dL=>aG x.gr) d1.its)::aW p (.cells (nA g b l f n d1.eF.1 sv.1 a).toArray 180 (0,0))::aW a (eW mkStr d1.m)::row d1.eF.1 186 6 d1.its.length (rows eD d1.its)::row sv.1 58 1 d1.cA.length (rows bN (d1.cA.map Prod.fst))::aB (hY f)::aB (sl cT g.rv.1 g.rules)::aB (aF bz g.rules)::aB (sl e7 g.xv.1 g.aN)::aB (aF eR g.aN)::aB (sl bI b.1 (dg T))::aB (sl bI l.1 (de T))::aB (tz)::aB (sl bE wv words)::(bF (ep 200 3) d1.its++bF (fx 3) d1.cA))) (λd1=>d1.nS=sv∧lM d1∧d1.cs=mz (kT f T n g) words frm tqo d.cs) (aD.cons 0 rfl (aD.cons 2 rfl (aD.cons 3 rfl aD.nil))) ?_ ?_
 ·refine g8 ?_
  refine St.cq (λh22=> ?_) (λh22=> ?_)
  ·have SM:tqo=frm+1:=by omega
   refine g12 ?_;refine St.lH (ι:=Nat×nE) (λ⟨i,d1⟩ T=>(29,iv i)::T) (λ⟨i,d1⟩=>(aB (aF (λx:dL=>aG x.gr) d1.its)::aW p (.cells (nA g b l f n d1.eF.1 sv.1 a).toArray 180 (0,0))::aW a (eW mkStr d1.m)::row d1.eF.1 186 6 d1.its.length (rows eD d1.its)::row sv.1 58 1 d1.cA.length (rows bN (d1.cA.map Prod.fst))::aB (hY f)::aB (sl cT g.rv.1 g.rules)::aB (aF bz g.rules)::aB (sl e7 g.xv.1 g.aN)::aB (aF eR g.aN)::aB (sl bI b.1 (dg T))::aB (sl bI l.1 (de T))::aB (tz)::aB (sl bE wv words)::(bF (ep 200 3) d1.its++bF (fx 3) d1.cA))) (λ⟨i,d1⟩=>i≤g.aN.length∧d1.nS=sv∧lM d1∧d1.cs=(List.range i).foldl (rN (kT f T n g) w frm tqo) d.cs) (λ⟨i,d1⟩=>g.aN.length-i) ⟨0,d⟩ (aD.cons 0 rfl (aD.cons 1 rfl (aD.cons 2 rfl (aD.cons 3 rfl (aD.cons 27 rfl (aD.cons 28 rfl aD.nil)))))) ⟨aP _,hsv,hp,rfl⟩ ?_;rintro ⟨i,d1⟩ ⟨hi,s,A,D⟩
   dsimp only at hi s A D⊢
   refine g6 ?_;refine St.cq (λh30=> ?_) (λh30=> ?_)
   ·obtain⟨x,hx⟩:=aE (show i<g.aN.length by omega)
    obtain⟨I,AA⟩:=WV i x hx
    have hxs:=gO I R
    have hxE:=ajS i x hx
    obtain⟨th,F⟩:=O2 O (w:=w) S8 S hs (show i<((kT f T n g)).aN.length by omega);rw[←D]at th F
    have B:gi T.length nf n d1.cs:=th.ok
    have J:Room d1.cs 1:=F
    have H8:=J.its
    rw[iT]at H8;obtain⟨q0,QX⟩:=aE (show slt n frm tqo<d1.cA.length by rw[←Cj,B.GH];exact sa (by omega) S)
    have ab7:=zd B QX
    refine St.cL eR g.aN (x:=x) (aZ hx) ?_;refine St.ea (aG x.graph) [eR x] (λρ h=>h (eR x) (aQ ..) (aG x.graph) (aQ ..)) ?_;refine g8 ?_;refine St.ee (Ev.js (.mk rfl) hx zw trivial nT j7.eq) ?_;refine St.al (λb9=> ?_);refine go ?_;refine St.sA (.mk rfl) (.mk rfl) nT ?_ (h1:=(eY.2 λu hu=>e7.one x u hu));refine g3 ?_;refine St.rq mixed (by kernel_rfl) (Mm.drawn _ _) ?_;refine g9 ?_;refine St.cq (λh40=> ?_) (λh40=> ?_)
    ·have Wn:x.word=w:=by simpa using h40
     have Uf:rN (kT f T n g) w frm tqo d1.cs i=kZ n d1.cs ⟨frm,tqo,0,gl (ax x.graph) 0⟩ ⟨-1,i,[]⟩:=by unfold rN;rw[hxE,aC (show(oe x).word=w from Wn)];rfl
     refine g5 ?_;refine St.ee (Ev.iU 1 (.mk rfl) mm trivial jU rfl rfl) ?_;refine St.slot 45 (bA x.graph) rfl rfl ?_;refine St.ae (qF x.graph T.length nf R I (by omega)) U7 (.ar rfl) rfl ?_;rintro v46 _ rfl;refine St.ao ?_;refine St.bL (gl (ax x.graph) 0) v46 (λy hy=> ?_);obtain⟨rfl,W⟩:=hy;obtain⟨m1,m2,_⟩:=td I I.pos;rw[←W]at m1 m2;rw[cy,cy]at m2
     have Y:=gO m1 R
     refine St.dw 3 1 ?_;refine St.aM (.slice none 0 0) (show _=([]:List Nat).length from rfl) (show _=rows aJ (bW [])from rfl) ?_;refine St.ee (Ev.build (bH.ek rfl rfl rfl) (λw=>tK rfl rfl w)) ?_;refine St.slot 47 (Gp frm tqo 0 y.nv.1) rfl rfl ?_;refine go ?_;refine St.ee (Ev.build (bH.aX rfl rfl) (λw=>Gi rfl rfl w)) ?_;refine St.slot 49 (.agg #[iv (-1),iv (i:Nat),bT.1]) rfl rfl ?_;refine St.pQ (ds:=[aG y,aF (λx:dL=>aG x.gr) d1.its]) (L:=[aW p (.cells (nA g b l f n d1.eF.1 sv.1 a).toArray 180 (0,0)),aW a (eW mkStr d1.m),row d1.eF.1 186 6 d1.its.length (rows eD d1.its),row sv.1 58 1 d1.cA.length (rows bN (d1.cA.map Prod.fst)),row (.slice none 0 0) 3 1 (([]:List Nat)).length (rows aJ (bW (([]:List Nat))))]) (X:=(bF (ep 200 3) d1.its++bF (fx 3) d1.cA)) (post:=λv L' X'=>∃d3:nE,d3.cs=kZ n d1.cs ⟨frm,tqo,0,ax y⟩ ⟨-1,(i:Nat),([]:List Nat)⟩∧d3.nS=sv∧lM d3∧L'=[aB (aF (λx:dL=>aG x.gr) d3.its),aW p (.cells (nA g b l f n d3.eF.1 sv.1 a).toArray 180 (0,0)),aW a (eW mkStr d3.m),row d3.eF.1 186 6 d3.its.length (rows eD d3.its),row sv.1 58 1 d3.cA.length (rows bN (d3.cA.map Prod.fst))]∧X'=(bF (ep 200 3) d3.its++bF (fx 3) d3.cA)) ?_ Me (.ek rfl rfl rfl) rfl ?_
     ·subst s
      exact(uj g b l f n hn d1 A p a frm tqo 0 y (by omega) (λt ht=>by have:=(Y t ht).2;omega) (by omega) (by omega) (-1:Int) ((i:Nat):Int) (by unfold aa;omega) (by omega) bT [] q0 QX (by omega) (by omega) (zO J B)).mono (λv H' ⟨d3,K,a2,a3,a4,a5,Z⟩=>⟨_,_,(by rw[a2]at Z;exact Z),d3,K,a2,a3,rfl,rfl⟩)
     rintro v50 _ _ ⟨d3,K,a2,a3,rfl,rfl⟩;refine St.CP ?_;refine g8 ?_;refine St.aH ⟨i+1,d3⟩ ⟨by omega,a2,a3,by rw[j0,←D,Uf,K,W]⟩
    ·have Wn:x.word≠w:=by simpa using h40
     have Uf:rN (kT f T n g) w frm tqo d1.cs i=d1.cs:=by unfold rN;rw[hxE,aA (show ¬(oe x).word=w from Wn)]
     refine g8 ?_;refine St.aH ⟨i+1,d1⟩ ⟨by omega,s,A,by rw[j0,←D,Uf]⟩
   ·obtain rfl:i=g.aN.length:=by omega
    refine g5 ?_;refine St.mE d1 ⟨s,A,by rw[D];unfold mz;rw[aC SM,hwd,hll]⟩
  ·have SM:tqo≠frm+1:=by omega
   refine g12 ?_;refine St.lH (ι:=Nat×nE) (λ⟨i,d1⟩ T=>(58,iv i)::T) (λ⟨i,d1⟩=>(aB (aF (λx:dL=>aG x.gr) d1.its)::aW p (.cells (nA g b l f n d1.eF.1 sv.1 a).toArray 180 (0,0))::aW a (eW mkStr d1.m)::row d1.eF.1 186 6 d1.its.length (rows eD d1.its)::row sv.1 58 1 d1.cA.length (rows bN (d1.cA.map Prod.fst))::aB (hY f)::aB (sl cT g.rv.1 g.rules)::aB (aF bz g.rules)::aB (sl e7 g.xv.1 g.aN)::aB (aF eR g.aN)::aB (sl bI b.1 (dg T))::aB (sl bI l.1 (de T))::aB (tz)::aB (sl bE wv words)::(bF (ep 200 3) d1.its++bF (fx 3) d1.cA))) (λ⟨i,d1⟩=>i≤g.rules.length∧d1.nS=sv∧lM d1∧d1.cs=(List.range i).foldl (rR (kT f T n g) frm tqo) d.cs) (λ⟨i,d1⟩=>g.rules.length-i) ⟨0,d⟩ (aD.cons 0 rfl (aD.cons 2 rfl (aD.cons 3 rfl (aD.cons 56 rfl (aD.cons 57 rfl aD.nil))))) ⟨aP _,hsv,hp,rfl⟩ ?_;rintro ⟨i,d1⟩ ⟨hi,s,A,D⟩
   dsimp only at hi s A D⊢
   refine g6 ?_;refine St.cq (λh59=> ?_) (λh59=> ?_)
   ·obtain⟨r,E⟩:=aE (show i<g.rules.length by omega)
    obtain⟨hk,I,AA⟩:=Cz i r E
    have G:=abY i r E
    obtain⟨th,F⟩:=P7 O S8 S SM hs (show i<((kT f T n g)).rules.length by omega);rw[←D]at th F;rw[G]at F;refine St.cL bz g.rules (x:=r) (aZ E) ?_;refine St.ea (aG r.graph) [bz r] (λρ h=>h (bz r) (aQ ..) (aG r.graph) (aQ ..)) ?_;refine g8 ?_;refine St.ee (Ev.js (.mk rfl) E uR trivial kV j7.eq) ?_;refine St.al (λYB=> ?_);refine go ?_;refine St.sA (.mk rfl) (.mk rfl) kV ?_ (h1:=(eY.2 λu hu=>cT.one r u hu));refine g8 ?_;refine St.gt _ rfl rfl (λM=>Ev.da (.mk rfl) xY) rfl ?_;refine St.gt _ rfl rfl (λM=>Ev.ke (ah.gv rfl M) gD trivial (by rfl)) rfl ?_;refine St.gt _ rfl rfl (λM=>Ev.move (.mk rfl)) rfl ?_;refine St.gt _ rfl rfl (λM=>Ev.move (.mk rfl)) rfl ?_;refine St.gt _ rfl rfl (λM=>Ev.sub (ah.gv rfl M) (ah.gv rfl M) (by first|omega|(simp only[eM]at M;omega))) rfl ?_;refine St.gt _ rfl rfl (λM=>Ev.leq (ah.gv rfl M) (ah.gv rfl M)) rfl ?_;refine g3 ?_;refine St.cq (λh73=> ?_) (λh73=> ?_)
    ·have Wg:rR (kT f T n g) frm tqo d1.cs i=uz (kT f T n g) i frm tqo (r.kids.toNat-1) d1.cs (ax r.graph) [] frm:=by unfold rR;rw[G,aC (show 1<(lK r).kids∧(lK r).kids≤(tqo:Int)-frm from h73)];rfl
     have J1:=F h73.1
     refine St.fp aJ ?_;refine g4 ?_;refine St.ee (Ev.iU 1 (.mk rfl) mm trivial jU rfl rfl) ?_;refine St.slot 77 (bA r.graph) rfl rfl ?_;refine g3 ?_;refine St.pQ (ds:=[hY f,sl cT g.rv.1 g.rules,aF bz g.rules,sl bI b.1 (dg T),sl bI l.1 (de T),tz,sl aJ (.slice none 0 0) [],aG r.graph,aF (λx:dL=>aG x.gr) d1.its]) (L:=[aW p (.cells (nA g b l f n d1.eF.1 sv.1 a).toArray 180 (0,0)),aW a (eW mkStr d1.m),row d1.eF.1 186 6 d1.its.length (rows eD d1.its),row sv.1 58 1 d1.cA.length (rows bN (d1.cA.map Prod.fst))]) (X:=(bF (ep 200 3) d1.its++bF (fx 3) d1.cA)) (post:=λv L' X'=>∃d3:nE,d3.cs=uz (kT f T n g) i frm tqo (r.kids.toNat-1) d1.cs (ax r.graph) [] frm∧d3.nS=sv∧lM d3∧L'=[aB (aF (λx:dL=>aG x.gr) d3.its),aW p (.cells (nA g b l f n d3.eF.1 sv.1 a).toArray 180 (0,0)),aW a (eW mkStr d3.m),row d3.eF.1 186 6 d3.its.length (rows eD d3.its),row sv.1 58 1 d3.cA.length (rows bN (d3.cA.map Prod.fst))]∧X'=(bF (ep 200 3) d3.its++bF (fx 3) d3.cA)) ((EL g b l T hT nf R f hf n hn p a frm tqo S8 S i (by omega) r E hk (λi j=>(d.cs.at_ n i j).length) sv (r.kids.toNat-1) d1 r.graph bT [] frm s A th J1 I AA (GG r (aZ E)) (by simp only[List.length_nil];omega) (.inr ⟨rfl,by omega⟩) S8 (λk hk=>by cases hk)).mono (λv H' ⟨d3,K,a2,a3,a4,a5,Z⟩=>⟨_,_,Z,d3,K,a2,a3,rfl,rfl⟩)) UC (.aeF rfl rfl rfl rfl rfl rfl rfl) rfl ?_;rintro v81 _ _ ⟨d3,K,a2,a3,rfl,rfl⟩;refine St.CP ?_;refine g8 ?_;refine St.aH ⟨i+1,d3⟩ ⟨by omega,a2,a3,by rw[j0,←D,Wg];exact K⟩
    ·have Wg:rR (kT f T n g) frm tqo d1.cs i=d1.cs:=by unfold rR;rw[G,aA (show ¬(1<(lK r).kids∧(lK r).kids≤(tqo:Int)-frm)from λhh=>by have hh1:1<r.kids:=hh.1;have hh2:r.kids≤(tqo:Int)-frm:=hh.2;omega)]
     refine g8 ?_;refine St.aH ⟨i+1,d1⟩ ⟨by omega,s,A,by rw[j0,←D,Wg]⟩
   ·obtain rfl:i=g.rules.length:=by omega
    refine g5 ?_;refine St.mE d1 ⟨s,A,by rw[D];unfold mz;rw[aA SM,Wd]⟩
 ·rintro d1 ⟨s,A,D⟩
  refine g6 ?_;rw[←D]at Iz Dg V
  have C:Room d1.cs (vT (kT f T n g) d1.cs ((d1.cs.at_ n frm tqo).drop (0))):=by rw[List.drop_zero];exact Room.grow (hs.room.mono V) Dg
  refine St.lH (ι:=Nat×nE) (λ⟨k,d1⟩ T=>(12,iv k)::T) (λ⟨k,d1⟩=>(aB (aF (λx:dL=>aG x.gr) d1.its)::aW p (.cells (nA g b l f n d1.eF.1 sv.1 a).toArray 180 (0,0))::aW a (eW mkStr d1.m)::row d1.eF.1 186 6 d1.its.length (rows eD d1.its)::row sv.1 58 1 d1.cA.length (rows bN (d1.cA.map Prod.fst))::aB (hY f)::aB (sl cT g.rv.1 g.rules)::aB (aF bz g.rules)::aB (sl e7 g.xv.1 g.aN)::aB (aF eR g.aN)::aB (sl bI b.1 (dg T))::aB (sl bI l.1 (de T))::aB (tz)::aB (sl bE wv words)::(bF (ep 200 3) d1.its++bF (fx 3) d1.cA))) (λ⟨k,d1⟩=>d1.nS=sv∧lM d1∧gi T.length nf n d1.cs∧Room d1.cs (vT (kT f T n g) d1.cs ((d1.cs.at_ n frm tqo).drop (k)))∧∃fu,qU (kT f T n g) d1.cs ((d1.cs.at_ n frm tqo).drop (k))<fu∧qe (kT f T n g) frm tqo fu k d1.cs=pJ (kT f T n g) words frm tqo d.cs) (λ⟨k,d1⟩=>qU (kT f T n g) d1.cs ((d1.cs.at_ n frm tqo).drop (k))) ⟨0,d1⟩ (aD.cons 0 rfl (aD.cons 2 rfl (aD.cons 3 rfl aD.nil))) ⟨s,A,Iz,C,qU (kT f T n g) d1.cs (d1.cs.at_ n frm tqo)+1,by rw[List.drop_zero];exact pM _,by unfold pJ;rw[←D]⟩ ?_;rintro ⟨k,d1⟩ ⟨s,A,B,C,fu,hfu,YN⟩
  dsimp only at s A B C hfu YN⊢
  obtain⟨q,U⟩:=aE (show slt n frm tqo<d1.cA.length by rw[←Cj,B.GH];exact sa (by omega) S)
  have S3:=UN U
  have hql:=zd B U
  have H8:=C.its
  rw[iT]at H8;refine g7 ?_;refine St.ee (Ev.iU 2 (.mk rfl) Bn trivial Bi rfl rfl) ?_;refine St.slot 87 (.agg #[iv (n:Nat),sv.1]) rfl rfl ?_;refine g2 ?_;refine St.call (CR n frm tqo (slt n frm tqo) hn (by omega) (by omega) rfl sv d1.cA q U) Mf (.ek rfl rfl rfl) rfl ?_;rintro v90 _ ⟨rfl,rfl⟩;refine St.ao ?_;refine St.tail (bF (ep 200 3) d1.its++bF (fx 3) d1.cA) (row q.1.1 3 1 (q.2).length (rows aJ (bW (q.2)))::(bF (ep 200 3) d1.its++bF (fx 3) (d1.cA.eraseIdx (slt n frm tqo)))) (pI _ _ _ U) ?_;refine go ?_;refine St.tail (row q.1.1 3 1 (q.2).length (rows aJ (bW (q.2)))::(bF (ep 200 3) d1.its++bF (fx 3) (d1.cA.eraseIdx (slt n frm tqo)))) (bF (ep 200 3) d1.its++bF (fx 3) d1.cA) (pI (ep 200 3) (fx 3) d1.its U).symm ?_;refine g3 ?_;refine St.cq (λh92=> ?_) (λh92=> ?_)
  ·obtain⟨e,he⟩:=aE (show k<q.2.length by omega)
   have YI:(d1.cs.at_ n frm tqo)[k]?=some e:=by rw[S3];exact he
   have YG:e<d1.its.length:=by rw[←iT];exact B.qA (aZ YI)
   obtain⟨H,SS⟩:=aE YG
   have WQ:(d1.cs.ed e).cw=H.cw:=by unfold Cs.ed;rw[EE SS];rfl
   have am9:H.cw≤3:=by have:=B.gr (cH H) (eQ (aZ SS));exact this.2.2.1
   refine g9 ?_;refine St.ee (Ev.iU 2 (.mk rfl) Bn trivial Bi rfl rfl) ?_;refine St.slot 98 (.agg #[iv (n:Nat),sv.1]) rfl rfl ?_;refine g2 ?_;refine St.call (CR n frm tqo (slt n frm tqo) hn (by omega) (by omega) rfl sv d1.cA q U) Mf (.ek rfl rfl rfl) rfl ?_;rintro alZ _ ⟨rfl,rfl⟩;refine St.ao ?_;refine St.tail (bF (ep 200 3) d1.its++bF (fx 3) d1.cA) (row q.1.1 3 1 (q.2).length (rows aJ (bW (q.2)))::(bF (ep 200 3) d1.its++bF (fx 3) (d1.cA.eraseIdx (slt n frm tqo)))) (pI _ _ _ U) ?_;refine g2 ?_;refine St.ee (Ev.ct (.mk rfl) gD trivial (by omega) (gU (gQ he))) ?_;refine St.tail (row q.1.1 3 1 (q.2).length (rows aJ (bW (q.2)))::(bF (ep 200 3) d1.its++bF (fx 3) (d1.cA.eraseIdx (slt n frm tqo)))) (bF (ep 200 3) d1.its++bF (fx 3) d1.cA) (pI (ep 200 3) (fx 3) d1.its U).symm ?_;refine g13 ?_;refine St.ee (Ev.ct (.mk rfl) gD trivial (by omega) (eO eD _ e 2 _ SS (by decide))) ?_;refine g10 ?_;refine St.cq (λah2=> ?_) (λah2=> ?_)
   ·have hc3:H.cw=3:=by omega
    obtain⟨f2,g1,gq2,g3⟩:=Pn (Q:=(kT f T n g)) (frm:=frm) (tqo:=tqo) YI (by rw[WQ];exact hc3) hfu;refine g10 ?_;refine St.sM ⟨k+1,d1⟩ ⟨s,A,B,C.mono (by unfold vT;rw[oJ _ YI];exact Nat.le_add_left _ _),f2,gq2,by rw[←g1];exact YN⟩ g3 (by repeat(first|exact Sub.nil|refine Sub.cons (by first|rfl|exact congrArg (λz=>some (iv z)) (by first|omega|(dsimp only;omega))|exact congrArg (λz=>some (Value.bool z)) (by first|assumption|exact ig (by assumption))) ?_)) (λ_ hw=>hw.sub)
   ·have hc3:H.cw≠3:=by omega
    have WO:(d1.cs.ed e).cw≠3:=by rw[WQ];exact hc3
    obtain⟨f2,g1,gq2⟩:=Xu (Q:=(kT f T n g)) (frm:=frm) (tqo:=tqo) YI WO hfu;refine g14 ?_;refine St.lH (ι:=Nat×nE) (λ⟨i,d2⟩ T=>(122,iv i)::T) (λ⟨i,d2⟩=>(aB (aF (λx:dL=>aG x.gr) d2.its)::aW p (.cells (nA g b l f n d2.eF.1 sv.1 a).toArray 180 (0,0))::aW a (eW mkStr d2.m)::row d2.eF.1 186 6 d2.its.length (rows eD d2.its)::row sv.1 58 1 d2.cA.length (rows bN (d2.cA.map Prod.fst))::aB (hY f)::aB (sl cT g.rv.1 g.rules)::aB (aF bz g.rules)::aB (sl e7 g.xv.1 g.aN)::aB (aF eR g.aN)::aB (sl bI b.1 (dg T))::aB (sl bI l.1 (de T))::aB (tz)::aB (sl bE wv words)::(bF (ep 200 3) d2.its++bF (fx 3) d2.cA))) (λ⟨i,d2⟩=>i≤g.rules.length∧d2.nS=sv∧lM d2∧d2.cs=(List.range i).foldl (qd (kT f T n g) frm tqo e) d1.cs) (λ⟨i,d2⟩=>g.rules.length-i) ⟨0,d1⟩ (aD.cons 0 rfl (aD.cons 2 rfl (aD.cons 3 rfl (aD.cons 12 rfl (aD.cons 13 rfl (aD.cons 14 rfl (aD.cons 120 rfl (aD.cons 121 rfl aD.nil)))))))) ⟨aP _,s,A,rfl⟩ ?_;rintro ⟨i,d2⟩ ⟨hi,Aa,Nb,P⟩
    dsimp only at hi Aa Nb P⊢
    refine g6 ?_;refine St.cq (λah3=> ?_) (λah3=> ?_)
    ·obtain⟨r,E⟩:=aE (show i<g.rules.length by omega)
     obtain⟨hk,I,AA⟩:=Cz i r E
     have G:=abY i r E
     obtain⟨WZ,EP,J1⟩:=Pm O S8 S B C YI WO (show i<((kT f T n g)).rules.length by omega);rw[←P]at WZ EP J1;rw[G]at J1
     have ajN:e<d2.its.length:=by rw[←iT];exact fO (by rw[iT];exact YG) EP.more
     obtain⟨o,N⟩:=aE ajN
     have hxm:=aZ N
     obtain⟨H6,NT⟩:=Ul WZ N
     have ajL:o.cw=H.cw:=by have h:=congrArg og.cw (EP.ed e (by rw[iT];exact YG));rw[WQ]at h;rw[←h];unfold Cs.ed;rw[EE N];rfl
     have abR:(d2.cs.ed e).cw=H.cw:=by rw[←ajL];unfold Cs.ed;rw[EE N];rfl
     have SO:qd (kT f T n g) frm tqo e d2.cs i=if r.kids≠1 then d2.cs else match lQ (kT f T n g) d2.cs i (ax r.graph) 1 e with|none=>d2.cs|some x=>kZ n d2.cs ⟨frm,tqo,H.cw+1,mA x⟩ ⟨i,0,[e]⟩:=by unfold qd;rw[G,abR];rfl
     refine St.cL bz g.rules (x:=r) (aZ E) ?_;refine St.ea (aG r.graph) [bz r] (λρ h=>h (bz r) (aQ ..) (aG r.graph) (aQ ..)) ?_;refine g8 ?_;refine St.ee (Ev.js (.mk rfl) E uR trivial kV j7.eq) ?_;refine St.al (λb16=> ?_);refine go ?_;refine St.sA (.mk rfl) (.mk rfl) kV ?_ (h1:=(eY.2 λu hu=>cT.one r u hu));refine g9 ?_;refine St.split 130 _ rfl (λhk1=> ?_) (λhk1=> ?_)
     ·have NY:r.kids≠1:=by simpa using hk1
      refine St.br rfl rfl rfl ?_;refine St.br rfl rfl rfl ?_;refine St.br rfl rfl rfl ?_;refine St.br rfl rfl rfl ?_;refine St.br rfl rfl rfl ?_;refine St.ee (Ev.gT (.mk rfl) rfl (.mk rfl)) ?_;refine g2 ?_;refine St.Ij _ rfl rfl ?_;refine g9 ?_;refine St.aH ⟨i+1,d2⟩ ⟨by omega,Aa,Nb,by rw[j0,←P,SO,aC NY]⟩
     ·have NY:r.kids=1:=by simpa using hk1
      have akC:=J1 NY
      refine St.cD rfl rfl ?_;refine go ?_;refine St.cD rfl rfl ?_;refine go ?_;refine St.cD rfl rfl ?_;refine go ?_;refine St.cD rfl rfl ?_;refine St.dup (hY f) ?_;refine St.tail (bF (ep 200 3) d2.its++bF (fx 3) d2.cA) (row o.wv.1 200 3 (o.cW).length (rows mK (o.cW))::row o.tv.1 3 1 (o.bf).length (rows aJ (o.bf))::(bF (jH 3) o.cW++(bF (ep 200 3) (d2.its.eraseIdx e)++bF (fx 3) d2.cA))) (yt _ _ N) ?_;refine St.call (tF f hf (nA g b l f n d2.eF.1 sv.1 a) rfl p i 1 (by omega) (by omega) (by omega) d2.eF rfl d2.its e o N (Nb.bf o hxm)) UD (.gY rfl rfl rfl rfl) rfl ?_;rintro al5 _ ⟨rfl,rfl⟩;refine St.iQ ?_;refine St.mj [row o.wv.1 200 3 (o.cW).length (rows mK (o.cW)),row o.tv.1 3 1 (o.bf).length (rows aJ (o.bf))] (bF (jH 3) o.cW++(bF (ep 200 3) (d2.its.eraseIdx e)++bF (fx 3) d2.cA)) (bF (ep 200 3) d2.its++bF (fx 3) d2.cA) (yt (ep 200 3) (bF (fx 3) d2.cA) N).symm ?_;refine St.cD rfl rfl ?_;refine go ?_;refine St.ee (Ev.kR (.mk rfl) rfl (.mk rfl)) ?_;refine g2 ?_;refine St.cond _ rfl (λWJ=> ?_) (λWJ=> ?_)
      ·skip
       have H3:o.bf.any (q9 f i 1)=false:=by simpa using WJ
       have YM:lQ (kT f T n g) d2.cs i (ax r.graph) 1 e=none:=Pg N H3
       refine g9 ?_;refine St.aH ⟨i+1,d2⟩ ⟨by omega,Aa,Nb,by rw[j0,←P,SO,aA (λh=>h NY),YM]⟩
      ·skip
       have H3:o.bf.any (q9 f i 1)=true:=by simpa using WJ
       have YM:lQ (kT f T n g) d2.cs i (ax r.graph) 1 e=nC (hC T) (ax r.graph) 1 (ax o.gr):=Jm (T:=T) (n:=n) (g:=g) (y:=ax r.graph) N H3
       refine g3 ?_;refine St.ea (aG o.gr) [aF (λx:dL=>aG x.gr) d2.its] (λρ h=>h _ (aQ ..) o hxm) ?_;refine St.lA d2.eF.1 (by omega) (λbs cs Nd=> ?_)
       have B:gi T.length nf n d2.cs:=WZ
       have J:Room d2.cs 1:=akC
       have H8:=J.its
       rw[iT]at H8;obtain⟨q0,QX⟩:=aE (show slt n frm tqo<d2.cA.length by rw[←Cj,B.GH];exact sa (by omega) S)
       have ab7:=zd B QX
       refine St.dc (aB (sl bI b.1 (dg T))::aB (sl bI l.1 (de T))::aB tz::aB (aG r.graph)::aB (aG o.gr)::(bF (ep 200 3) d2.its++bF (fx 3) d2.cA)) mixed (λnp ns=> ?_);refine SW.gd 0 ?_;refine SW.gd 1 ?_;refine SW.gd 2 ?_;refine SW.dd 3 rfl (λ_=>Ev.iU 2 (.mk rfl) wX trivial wU rfl rfl) ?_;refine SW.slot 141 (kB b l) rfl rfl ?_;refine SW.gd 4 ?_;refine SW.dd 5 rfl (λ_=>Ev.iU 1 (.mk rfl) mm trivial jU rfl rfl) ?_;refine SW.slot 143 (bA r.graph) rfl rfl ?_;refine SW.gd 6 ?_;refine SW.gd 7 ?_;refine SW.gd 8 ?_;refine SW.gd 9 ?_;refine SW.gd 10 ?_;refine SW.dd 11 rfl (λ_=>Ev.n9 (k:=e) Nd (.mk rfl) (.mk rfl) nV oV (by omega) (by omega)) ?_;refine SW.dd 12 rfl (λ_=>Ev.jb Nd (.mk rfl) tX) ?_;refine SW.dd 13 rfl (λ_=>Ev.jb Nd (.mk rfl) xc) ?_;refine SW.dd 14 rfl (λ_=>Ev.O0 (Rr:=eD) (sz:=1) (.mk rfl) N mm trivial jU (by omega) (by decide) (by decide)) ?_;refine SW.slot 152 (bA o.gr) rfl rfl ?_;refine SW.t2 15 19 ?_ ?_
       focus
        refine St.ae (qp b l T hT nf R r.graph o.gr 1 I H6 AA NT (GG r (aZ E) 1 (by omega) (by omega))) Ig (.gY rfl rfl rfl rfl) rfl ?_;rintro al7 _ ⟨u,z,rfl,hz,rfl⟩;refine St.ao ?_;refine St.bL z u (λy hy=> ?_);obtain⟨rfl,W⟩:=hy;refine g2 ?_;refine SW.go ?_;refine SW.gd 16 ?_;refine SW.gd 17 ?_;refine SW.gd 18 ?_;refine SW.t1 19 ?_;refine St.al (λb17=> ?_);refine g2 ?_;refine SW.go ?_;refine SW.t1 20 ?_;refine g3 ?_;refine SW.go ?_;refine SW.gd 21 ?_;refine SW.dn ?_
       rotate_left
       focus
        refine St.al (λb17=> ?_);refine g2 ?_;refine SW.go ?_;refine SW.t1 15 ?_;refine St.ae (qp b l T hT nf R r.graph o.gr 1 I H6 AA NT (GG r (aZ E) 1 (by omega) (by omega))) Ig (.gY rfl rfl rfl rfl) rfl ?_;rintro al7 _ ⟨u,z,rfl,hz,rfl⟩;refine St.ao ?_;refine St.bL z u (λy hy=> ?_);obtain⟨rfl,W⟩:=hy;refine g2 ?_;refine SW.go ?_;refine SW.gd 16 ?_;refine SW.gd 17 ?_;refine SW.gd 18 ?_;refine SW.t1 20 ?_;refine g3 ?_;refine SW.go ?_;refine SW.gd 21 ?_;refine SW.dn ?_
       all_goals
        refine g6 ?_;refine St.cond _ rfl (λWL=> ?_) (λWL=> ?_)
        ·skip
         obtain⟨z1,SV⟩:∃z1,nC (hC T) (ax r.graph) 1 (ax o.gr)=some z1:=Option.isSome_iff_exists.1 (by simpa using WL)
         have hzz:=hz z1 SV
         rw[hzz]at W;rw[SV,←W]at YM;rw[←W]at SV;obtain⟨y1,y2,y3⟩:=I1 YK I H6 SV
         have hyl:y.nodes.length≤60:=by rw[←cy];exact y2
         have hyt:0≤rX (ax y) 0:=(xz y1).2 (y3 0 ((xz I).1 (GG r (aZ E) 0 (by omega) (by omega))))
         refine g6 ?_;refine St.slot 161 (iv ((H.cw+1:Nat):Int)) rfl (congrArg iv (by push_cast;rfl)) ?_;refine go ?_;refine St.slot 162 (bA y) rfl rfl ?_;refine St.ae (pz y T.length nf R y1 (by omega) hyt) Md (.ar rfl) rfl ?_;rintro al8 _ rfl;refine St.ao ?_;refine St.bL (mA (ax y)) al8 (λmy hm=> ?_);obtain⟨rfl,Ug⟩:=hm;obtain⟨m1,m2⟩:=qR y1 y2;rw[←Ug]at m1 m2;rw[cy]at m2
         have Y:=gO m1 R
         refine St.ee (Ev.build (bH.gY rfl rfl rfl rfl) (λw=>yS rfl rfl rfl w)) ?_;refine St.slot 164 (Gp frm tqo (H.cw+1) my.nv.1) rfl rfl ?_;refine g2 ?_;refine St.gV rfl (.ar rfl) bJ dK eT rfl rfl (by simp[Value.cells]) rfl rfl (λKM=> ?_);refine St.aM (.slice (some ⟨KM,0,none⟩) 1 1) (show _=[e].length from rfl) (show _=rows aJ (bW [e])from rfl) ?_;refine St.ee (Ev.build (bH.aX rfl rfl) (λw=>yT rfl rfl w)) ?_;refine St.slot 168 (.agg #[iv (i:Nat),iv 0,.slice (some ⟨KM,0,none⟩) 1 1]) rfl rfl ?_;refine St.pQ (ds:=[aG my,aF (λx:dL=>aG x.gr) d2.its]) (L:=[aW p (.cells (nA g b l f n d2.eF.1 sv.1 a).toArray 180 (0,0)),aW a (eW mkStr d2.m),row d2.eF.1 186 6 d2.its.length (rows eD d2.its),row sv.1 58 1 d2.cA.length (rows bN (d2.cA.map Prod.fst)),row (.slice (some ⟨KM,0,none⟩) 1 1) 3 1 ([e]).length (rows aJ (bW ([e])))]) (X:=(bF (ep 200 3) d2.its++bF (fx 3) d2.cA)) (post:=λv L' X'=>∃d3:nE,d3.cs=kZ n d2.cs ⟨frm,tqo,(H.cw+1),ax my⟩ ⟨(i:Nat),0,[e]⟩∧d3.nS=sv∧lM d3∧L'=[aB (aF (λx:dL=>aG x.gr) d3.its),aW p (.cells (nA g b l f n d3.eF.1 sv.1 a).toArray 180 (0,0)),aW a (eW mkStr d3.m),row d3.eF.1 186 6 d3.its.length (rows eD d3.its),row sv.1 58 1 d3.cA.length (rows bN (d3.cA.map Prod.fst))]∧X'=(bF (ep 200 3) d3.its++bF (fx 3) d3.cA)) ?_ Me (.ek rfl rfl rfl) rfl ?_
         ·subst Aa
          exact(uj g b l f n hn d2 Nb p a frm tqo (H.cw+1) my (by omega) (λt ht=>by have:=(Y t ht).2;omega) (by omega) (by omega) ((i:Nat):Int) (0:Int) (by unfold aa;omega) (by omega) ⟨.slice (some ⟨KM,0,none⟩) 1 1,rfl⟩ [e] q0 QX (by omega) (by omega) (zO J B)).mono (λv H' ⟨d3,K,a2,a3,a4,a5,Z⟩=>⟨_,_,(by rw[a2]at Z;exact Z),d3,K,a2,a3,rfl,rfl⟩)
         rintro aoF _ _ ⟨d3,K,a2,a3,rfl,rfl⟩;refine St.CP ?_;refine g8 ?_;refine St.aH ⟨i+1,d3⟩ ⟨by omega,a2,a3,by rw[j0,←P,SO,aA (λh=>h NY),YM,K,Ug]⟩
        ·skip
         have hsn:nC (hC T) (ax r.graph) 1 (ax o.gr)=none:=by simpa using WL
         rw[hsn]at YM;refine g8 ?_;refine St.aH ⟨i+1,d2⟩ ⟨by omega,Aa,Nb,by rw[j0,←P,SO,aA (λh=>h NY),YM]⟩
    ·obtain rfl:i=g.rules.length:=by omega
     rw[←Wd]at P;obtain⟨s1,s2,s3,s4,s5⟩:=G0 O S8 S B YI WO P;rw[←P]at g1;refine g12 ?_;refine St.sM ⟨k+1,d2⟩ ⟨Aa,Nb,s1,Room.grow (C.mono s5) s2,f2,fO s4 (Nat.lt_succ_iff.1 gq2),by rw[←g1];exact YN⟩ (by dsimp only;exact s4) (by repeat(first|exact Sub.nil|refine Sub.cons (by first|rfl|exact congrArg (λz=>some (iv z)) (by first|omega|(dsimp only;omega))|exact congrArg (λz=>some (Value.bool z)) (by first|assumption|exact ig (by assumption))) ?_)) (λ_ hw=>hw.sub)
  ·have SF:(d1.cs.at_ n frm tqo).length≤k:=by rw[S3];omega
   rw[Te (Q:=(kT f T n g)) SF]at YN;refine g4 ?_;refine St.eH ?_;refine St.rV [] (aB (aF (λx:dL=>aG x.gr) d1.its)::aW p (.cells (nA g b l f n d1.eF.1 sv.1 a).toArray 180 (0,0))::aW a (eW mkStr d1.m)::row d1.eF.1 186 6 d1.its.length (rows eD d1.its)::row sv.1 58 1 d1.cA.length (rows bN (d1.cA.map Prod.fst))::(bF (ep 200 3) d1.its++bF (fx 3) d1.cA)) ?_;exact⟨d1,YN,s,A,rfl⟩
end Go.Proofs.YtblifkgpebebmaaGreatDoor
