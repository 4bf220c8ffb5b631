/-
  Laws of walks through programs, and facts on grammars, trees and queries.
  Conditions: none.
-/
import Derived.Test.YtblifkgpebebmaaGreatDoorGC2
import Derived.Shelf.Spec.TrailingZeros
set_option maxHeartbeats 2000000
set_option maxRecDepth 20000
set_option linter.unusedVariables false
set_option linter.unusedSimpArgs false
namespace Go.Proofs.YtblifkgpebebmaaGreatDoor
open Go Go.J Tryz
theorem uM (b:ax)(v:aV)(l:List fa):df (.mk b v l)= .mk b (l.map df):=by rw[df,vj]
theorem qX (k:Int)(s:ax)(i:Int)(t:fa)(v:aV)(l:List di):dH (.mk k s i t v l)= .mk k s i (df t) (l.map dH):=by rw[dH,sa]
theorem G2 (r x:Int)(v:aV)(l:List dE):cy (.mk r x v l)= .mk r x (l.map cy):=by rw[cy,zz]
abbrev S0:ig:= .mk [] []
abbrev o6:fa:= .mk [] bR []
theorem De {α:Type}{p:α→Prop}{x y:α}(hx:p x)(hy:p y):∀z∈[x,y],p z:=λz hz=>by
 simp only[List.mem_cons,List.not_mem_nil,or_false]at hz
 rcases hz with rfl|rfl
 ·exact hx
 ·exact hy
theorem OZ {α:Type}{p:α→Prop}{x:α}(hx:p x):∀z∈[x],p z:=λz hz=>by rw[bO.1 hz];exact hx
theorem ad2:aZ 1:=by unfold aZ;decide
theorem ad3:aZ 2:=by unfold aZ;decide
theorem ad4:aZ 3:=by unfold aZ;decide
theorem ad5:aZ 4:=by unfold aZ;decide
theorem Ns:aZ 0:=by unfold aZ;decide
theorem mG (s:ax)(a:nD s):dz prog 54 #[sv s] ([].map aB) (λv H'=>H'=[aB (db (.mk s []) v)]):=by
 refine dz.body (args:=[sv s]) 5 func54 rfl ntmps54 rfl (λc=> ?_);refine St.cast (H':=[]) rfl ?_;refine g2 ?_;refine St.al (λb=> ?_);refine g5 ?_;refine St.ee (Ev.build (bF.au rfl) (λw=>MY rfl w)) ?_;refine g4 ?_;refine St.fm kL ?_;refine St.dN ep ?_;refine St.u7 s (.slice none 0 0) rfl [] ?_;refine St.VG (.mk s bR []) (s:= .mk s []) (aU (.mk s bR [])) rfl (uM _ _ _) a ?_;refine St.rV [_] [aB (db (.mk s []) (aU (.mk s bR [])))] ?_;rfl
theorem fI (a b:Value)(s1 s2:ig):dz prog 55 #[a,b] ([db s1 a,db s2 b].map aB) (λv H'=>H'=[aB (db (.mk [] [s1,s2]) v)]):=by
 refine dz.body (args:=[a,b]) 9 func55 rfl ntmps55 rfl (λc=> ?_);refine St.cast (H':=[aB (db s1 a),aB (db s2 b)]) rfl ?_;refine go ?_;refine St.db s1 a (λx hx=> ?_);obtain⟨rfl,rfl,f⟩:=hx;refine St.db s2 b (λy hy=> ?_);obtain⟨rfl,rfl,e⟩:=hy;refine go ?_;refine St.dJ (.mk rfl) rfl (λg=> ?_);refine St.dJ (.mk rfl) rfl (λh=> ?_);refine St.al (λi=> ?_);refine g6 ?_;refine St.gX rfl (.aX rfl rfl) j2 iX KE rfl rfl (by simp[Value.cells]) rfl rfl (λd=> ?_);refine St.bS (.slice (some ⟨d,0,none⟩) 2 2) kL [x,y] rfl rfl (De f e) ?_;refine St.dN ep ?_;refine St.mU ep (xs:=[]) (x:=y) ?_;refine St.mU ep (xs:=[y]) (x:=x) ?_;refine St.u7 [] (.slice (some ⟨d,0,none⟩) 2 2) rfl [x,y] ?_;refine St.ee (Ev.build (bF.au rfl) (λw=>EF rfl w)) ?_;refine g4 ?_;refine St.VG (.mk [] ⟨(.slice (some ⟨d,0,none⟩) 2 2),rfl⟩ [x,y]) (s:= .mk [] [df x,df y]) (aU (.mk [] ⟨(.slice (some ⟨d,0,none⟩) 2 2),rfl⟩ [x,y])) rfl (uM _ _ _) (aP _) ?_;refine St.rV [_] [aB (db (.mk [] [df x,df y]) (aU (.mk [] ⟨(.slice (some ⟨d,0,none⟩) 2 2),rfl⟩ [x,y])))] ?_;rfl
theorem eL (name:ax)(a:nD name)(u:Value)(s:ig):dz prog 61 #[sv name,u] ([db s u].map aB) (λv H'=>H'=[aB (isTerm (.mk 1 name 0 s []) v)]):=by
 refine dz.body (args:=[sv name,u]) 8 func61 rfl ntmps61 rfl (λc=> ?_);refine St.cast (H':=[aB (db s u)]) rfl ?_;refine go ?_;refine St.db s u (λx hx=> ?_);obtain⟨rfl,rfl,b⟩:=hx;refine go ?_;refine St.dJ (.mk rfl) rfl (λd=> ?_);refine St.al (λe=> ?_);refine g6 ?_;refine St.ee (Ev.build (bF.ej rfl rfl rfl) (λw=>Ch rfl rfl w)) ?_;refine g4 ?_;refine St.fm dI ?_;refine St.dN cm ?_;refine St.DH 1 name 0 x (.slice none 0 0) rfl [] ?_;refine St.toTerm (.mk 1 name 0 x bR []) (s:= .mk 1 name 0 (df x) []) (cN (.mk 1 name 0 x bR [])) rfl (qX _ _ _ _ _ _) ⟨ad2,a,Ns,b⟩ ?_;refine St.rV [_] [aB (isTerm (.mk 1 name 0 (df x) []) (cN (.mk 1 name 0 x bR [])))] ?_;rfl
theorem cg (i:Int)(a:aZ i):dz prog 64 #[iv i] ([].map aB) (λv H'=>H'=[aB (isTerm (.mk 2 [] i S0 []) v)]):=by
 refine dz.body (args:=[iv i]) 5 func64 rfl ntmps64 rfl (λc=> ?_);refine St.cast (H':=[]) rfl ?_;refine g2 ?_;refine St.al (λb=> ?_);refine g5 ?_;refine St.ee (Ev.build (bF.aX rfl rfl) (λw=>Gi rfl rfl w)) ?_;refine g4 ?_;refine St.fm kL ?_;refine St.dN ep ?_;refine St.u7 [] (.slice none 0 0) rfl [] ?_;refine St.fm dI ?_;refine St.dN cm ?_;refine St.DH 2 [] i o6 (.slice none 0 0) rfl [] ?_;refine St.toTerm (.mk 2 [] i o6 bR []) (s:= .mk 2 [] i S0 []) (cN (.mk 2 [] i o6 bR [])) rfl (by rw[qX,uM];rfl) ⟨ad3,aP _,a,aP _⟩ ?_;refine St.rV [_] [aB (isTerm (.mk 2 [] i S0 []) (cN (.mk 2 [] i o6 bR [])))] ?_;rfl
theorem eA (a b:Value)(s:ig)(t:jI):dz prog 62 #[a,b] ([db s a,isTerm t b].map aB) (λv H'=>H'=[aB (isTerm (.mk 3 [] 0 s [t]) v)]):=by
 refine dz.body (args:=[a,b]) 9 func62 rfl ntmps62 rfl (λc=> ?_);refine St.cast (H':=[aB (db s a),aB (isTerm t b)]) rfl ?_;refine go ?_;refine St.db s a (λx hx=> ?_);obtain⟨rfl,rfl,f⟩:=hx;refine St.isTerm t b (λy hy=> ?_);obtain⟨rfl,rfl,e⟩:=hy;refine go ?_;refine St.dJ (.mk rfl) rfl (λg=> ?_);refine St.dJ (.mk rfl) rfl (λh=> ?_);refine St.al (λi=> ?_);refine g6 ?_;refine St.gX rfl (.au rfl) iE fc QT rfl rfl (by simp[Value.cells]) rfl rfl (λd=> ?_);refine St.bS (.slice (some ⟨d,0,none⟩) 1 1) dI [y] rfl rfl (OZ e) ?_;refine St.dN cm ?_;refine St.mU cm (xs:=[]) (x:=y) ?_;refine St.DH 3 [] 0 x (.slice (some ⟨d,0,none⟩) 1 1) rfl [y] ?_;refine St.ee (Ev.build (bF.ej rfl rfl rfl) (λw=>Ci rfl rfl w)) ?_;refine g4 ?_;refine St.toTerm (.mk 3 [] 0 x ⟨(.slice (some ⟨d,0,none⟩) 1 1),rfl⟩ [y]) (s:= .mk 3 [] 0 (df x) [dH y]) (cN (.mk 3 [] 0 x ⟨(.slice (some ⟨d,0,none⟩) 1 1),rfl⟩ [y])) rfl (qX _ _ _ _ _ _) ⟨ad4,aP _,Ns,f⟩ ?_;refine St.rV [_] [aB (isTerm (.mk 3 [] 0 (df x) [dH y]) (cN (.mk 3 [] 0 x ⟨(.slice (some ⟨d,0,none⟩) 1 1),rfl⟩ [y])))] ?_;rfl
theorem ef (a b:Value)(t1 t2:jI):dz prog 63 #[a,b] ([isTerm t1 a,isTerm t2 b].map aB) (λv H'=>H'=[aB (isTerm (.mk 4 [] 0 S0 [t1,t2]) v)]):=by
 refine dz.body (args:=[a,b]) 9 func63 rfl ntmps63 rfl (λc=> ?_);refine St.cast (H':=[aB (isTerm t1 a),aB (isTerm t2 b)]) rfl ?_;refine go ?_;refine St.isTerm t1 a (λx hx=> ?_);obtain⟨rfl,rfl,f⟩:=hx;refine St.isTerm t2 b (λy hy=> ?_);obtain⟨rfl,rfl,e⟩:=hy;refine go ?_;refine St.dJ (.mk rfl) rfl (λg=> ?_);refine St.dJ (.mk rfl) rfl (λh=> ?_);refine St.al (λi=> ?_);refine g6 ?_;refine St.gX rfl (.aX rfl rfl) iE fc QT rfl rfl (by simp[Value.cells]) rfl rfl (λd=> ?_);refine St.bS (.slice (some ⟨d,0,none⟩) 2 2) dI [x,y] rfl rfl (De f e) ?_;refine St.fm kL ?_;refine St.dN ep ?_;refine St.u7 [] (.slice none 0 0) rfl [] ?_;refine St.dN cm ?_;refine St.mU cm (xs:=[]) (x:=y) ?_;refine St.mU cm (xs:=[y]) (x:=x) ?_;refine St.DH 4 [] 0 o6 (.slice (some ⟨d,0,none⟩) 2 2) rfl [x,y] ?_;refine St.ee (Ev.build (bF.aX rfl rfl) (λw=>Gj rfl rfl w)) ?_;refine g4 ?_;refine St.toTerm (.mk 4 [] 0 o6 ⟨(.slice (some ⟨d,0,none⟩) 2 2),rfl⟩ [x,y]) (s:= .mk 4 [] 0 S0 [dH x,dH y]) (cN (.mk 4 [] 0 o6 ⟨(.slice (some ⟨d,0,none⟩) 2 2),rfl⟩ [x,y])) rfl (by rw[qX,uM];rfl) ⟨ad5,aP _,Ns,aP _⟩ ?_;refine St.rV [_] [aB (isTerm (.mk 4 [] 0 S0 [dH x,dH y]) (cN (.mk 4 [] 0 o6 ⟨(.slice (some ⟨d,0,none⟩) 2 2),rfl⟩ [x,y])))] ?_;rfl
mutual
def szS:ig→Nat
 | .mk _ l=>Th l+1
def Th:List ig→Nat
 | []=>0
 |x::l=>szS x+Th l
end
mutual
def szT:jI→Nat
 | .mk _ _ _ _ l=>Ti l+1
def Ti:List jI→Nat
 | []=>0
 |x::l=>szT x+Ti l
end
theorem TT (x:ig)(d n:Nat):mF x d n=if 200<n+1∨40<d then(n+1,1)else if jP x.base x.args.length=false then(n+1,5)else lf x.args (d+1) (n+1):=by cases x;rw[mF];rfl
def zy (x:jI)(b:Nat):Int:=kC x.kind x.name x.index x.type x.args.length b
theorem Xw (x:jI)(d b n:Nat):mK x d b n=if 200<n+1∨40<d then(n+1,1,(n:Int))else if zy x b≠0 then(n+1,zy x b,(n:Int))else o8 x.args (d+1) (if x.kind=3 then b+1 else b) (n+1):=by cases x;rw[mK];rfl
theorem Pn:∀(x:jI) (d b n:Nat),(mK x d b n).2.1=0→(mK x d b n).2=(0,0):=by
 intro x;refine jI.rec (motive_1:=λx=>∀d b n,(mK x d b n).2.1=0→(mK x d b n).2=(0,0)) (motive_2:=λl=>∀d b n,(o8 l d b n).2.1=0→(o8 l d b n).2=(0,0)) ?_ ?_ ?_ x
 ·intro k s i t l c d b n h
  rw[mK]at h⊢
  split
  ·rename_i h1;rw[aC h1]at h;exact absurd h (by simp)
  ·rename_i h1
   rw[aA h1]at h
   split
   ·rename_i a;rw[aC a]at h;exact absurd h a
   ·rename_i a;rw[aA a]at h;exact c _ _ _ h
 ·intro d b n _;rfl
 ·intro x l f e d b n h
  rw[o8]at h⊢
  split
  ·rename_i h1;rw[aC h1]at h;exact absurd h h1
  ·rename_i h1;rw[aA h1]at h;exact e _ _ _ h
theorem Pp:∀(x:jI) (d b n:Nat),(mK x d b n).2.1=0→(mK x d b n).1≤200∧(mK x d b n).1=n+szT x:=by
 intro x;refine jI.rec (motive_1:=λx=>∀d b n,(mK x d b n).2.1=0→(mK x d b n).1≤200∧(mK x d b n).1=n+szT x) (motive_2:=λl=>∀d b n,(o8 l d b n).2.1=0→(n≤200→(o8 l d b n).1≤200)∧(o8 l d b n).1=n+Ti l) ?_ ?_ ?_ x
 ·intro k s i t l c d b n h
  rw[mK]at h⊢
  by_cases h1:200<n+1∨40<d
  ·rw[aC h1]at h;exact absurd h (by simp)
  rw[aA h1]at h⊢
  by_cases a:kC k s i t l.length b≠0
  ·rw[aC a]at h;exact absurd h a
  rw[aA a]at h⊢;obtain⟨e,f⟩:=c _ _ _ h;exact⟨e (by omega),by rw[f,szT];omega⟩
 ·intro d b n _;exact⟨λh=>h,rfl⟩
 ·intro x l g j d b n h
  rw[o8]at h⊢
  by_cases h1:(mK x d b n).2.1≠0
  ·rw[aC h1]at h;exact absurd h h1
  rw[aA h1]at h⊢;obtain⟨m,a2⟩:=g d b n (ez.1 h1);obtain⟨o,p⟩:=j _ _ _ h;exact⟨λ_=>o m,by rw[p,a2,Ti];omega⟩
theorem Xx:∀(x:jI) (d b n:Nat),n≤200→(mK x d b n).1≤201:=by
 intro x;refine jI.rec (motive_1:=λx=>∀d b n,n≤200→(mK x d b n).1≤201) (motive_2:=λl=>∀d b n,n≤200→(o8 l d b n).1≤201) ?_ ?_ ?_ x
 ·intro k s i t l a d b n f
  rw[mK]
  split
  ·show n+1≤201;omega
  ·split
   ·show n+1≤201;omega
   ·exact a _ _ _ (by omega)
 ·intro d b n h;show n≤201;omega
 ·intro x l c e d b n h
  rw[o8]
  split
  ·exact c d b n h
  ·rename_i h1
   exact e _ _ _ (Pp x d b n (ez.1 h1)).1
inductive Qw:jI→Nat→Nat→Prop
 |mk {x:jI} {d b:Nat} (hd:d≤40) (h:zy x b=0) (k:∀y∈x.args,Qw y (d+1) (if x.kind=3 then b+1 else b)):Qw x d b
theorem Po:∀(x:jI) (d b n:Nat),(mK x d b n).2.1=0→Qw x d b:=by
 intro x;refine jI.rec (motive_1:=λx=>∀d b n,(mK x d b n).2.1=0→Qw x d b) (motive_2:=λl=>∀d b n,(o8 l d b n).2.1=0→∀y∈l,Qw y d b) ?_ ?_ ?_ x
 ·intro k s i t l c d b n h
  rw[mK]at h
  by_cases h1:200<n+1∨40<d
  ·rw[aC h1]at h;exact absurd h (by simp)
  rw[aA h1]at h
  by_cases a:kC k s i t l.length b≠0
  ·rw[aC a]at h;exact absurd h a
  rw[aA a]at h;exact .mk (by omega) (ez.1 a) (c _ _ _ h)
 ·intro d b n _ y hy;cases hy
 ·intro x l e f d b n h y hy
  rw[o8]at h
  by_cases h1:(mK x d b n).2.1≠0
  ·rw[aC h1]at h;exact absurd h h1
  rw[aA h1]at h
  rcases cJ.1 hy with rfl|hy
  ·exact e _ _ _ (ez.1 h1)
  ·exact f _ _ _ h y hy
theorem Qw.inv {x:jI}{d b:Nat}(h:Qw x d b):d≤40∧zy x b=0∧∀y∈x.args,Qw y (d+1) (if x.kind=3 then b+1 else b):=by
 cases h with
 |mk a b c=>exact⟨a,b,c⟩
theorem Ll {k:Int}{nm:ax}{ix:Int}{a:ig}{m b:Nat}(h:kC k nm ix a m b=0):
 (k=1∧vk a=0∧m=0)∨(k=2∧0≤ix∧ix<b∧m=0)∨(k=3∧m=1∧vk a=0)∨(k=4∧m=2):=by
 unfold kC at h
 by_cases h1:k=1
 ·rw[aC h1]at h
  by_cases c:ix≠0∨m≠0
  ·rw[aC c]at h;cases h
  rw[aA c]at h
  by_cases c2:isName nm=false
  ·rw[aC c2]at h;cases h
  rw[aA c2]at h
  by_cases c3:vk a≠0
  ·rw[aC c3]at h;cases h
  exact .inl ⟨h1,ez.1 c3,by omega⟩
 rw[aA h1]at h
 by_cases d:k=2
 ·rw[aC d]at h
  by_cases c:nm≠ []∨pU a=false∨m≠0
  ·rw[aC c]at h;cases h
  rw[aA c]at h
  by_cases c2:ix<0∨(b:Int)≤ix
  ·rw[aC c2]at h;cases h
  exact .inr (.inl ⟨d,by omega,by omega,ez.1 λhm=>c (.inr (.inr hm))⟩)
 rw[aA d]at h
 by_cases e:k=3
 ·rw[aC e]at h
  by_cases c:nm≠ []∨ix≠0∨m≠1
  ·rw[aC c]at h;cases h
  rw[aA c]at h
  by_cases c3:vk a≠0
  ·rw[aC c3]at h;cases h
  exact .inr (.inr (.inl ⟨e,ez.1 λhm=>c (.inr (.inr hm)),ez.1 c3⟩))
 rw[aA e]at h
 by_cases f:k=4
 ·rw[aC f]at h
  by_cases c:nm≠ []∨ix≠0∨pU a=false∨m≠2
  ·rw[aC c]at h;cases h
  exact .inr (.inr (.inr ⟨f,ez.1 λhm=>c (.inr (.inr (.inr hm)))⟩))
 rw[aA f]at h;cases h
theorem Tl (x:jI)(c:List ig):xP x c=if x.kind=1 then some x.type else if x.kind=2 then c[c.length-1-x.index.toNat]? else if x.kind=3 then(nX x.args (c++ [x.type])).map λb=> .mk [] [x.type,b]else Gf (nX x.args c) (Df x.args c):=by
 cases x;rw[xP];rfl
theorem uR (x:jI)(l:List jI)(c:List ig):nX (x::l) c=xP x c:=by rw[nX]
theorem G5 (x y:jI)(l:List jI)(c:List ig):Df (x::y::l) c=xP y c:=by rw[Df,nX]
theorem KR (a b:Option ig)(h:∀s l x,a=some s→s.args=l→b=some x→¬∃p q,l=[p,q]∧lZ p x=true):Gf a b=none:=by
 unfold Gf
 split
 ·rename_i _ p q x
  split
  ·rename_i c;exact absurd ⟨p,q,rfl,c⟩ (h _ _ _ rfl rfl rfl)
  ·rfl
 ·rfl
theorem KS {s p q x:ig}(a:s.args=[p,q])(h:lZ p x=true):Gf (some s) (some x)=some q:=by
 cases s with
 |mk b l=>
  cases (show l=[p,q]from a)
  show(if lZ p x then some q else none)=some q
  rw[aC h]
theorem G0 (x:jI)(d b n:Nat):o8 [x] d b n=mK x d b n:=by
 rw[o8,o8]
 split
 ·rfl
 ·rename_i h
  have:=Pn x d b n (ez.1 h)
  rw[←this]
theorem Pm (x y:jI)(d b n:Nat):o8 [x,y] d b n=if(mK x d b n).2.1≠0 then mK x d b n else mK y d b (mK x d b n).1:=by rw[o8,G0]
inductive GZ:ig→Prop
 |leaf {b:ax} (h:b=sE∨b=sT):GZ (.mk b [])
 |fn {x y:ig} (hx:GZ x) (hy:GZ y):GZ (.mk [] [x,y])
theorem zf {b:ax}{l:List ig}(h:jP b l.length=true):((b=sE∨b=sT)∧l=[])∨(b=[]∧∃x y,l=[x,y]):=by
 unfold jP at h
 simp only[Bool.or_eq_true,Bool.and_eq_true,decide_eq_true_eq]at h
 rcases h with⟨h1,a⟩|⟨h1,a⟩
 ·exact .inl ⟨h1,lG a⟩
 ·refine .inr ⟨h1,?_⟩
  match l,a with
  | [x,y],_=>exact⟨x,y,rfl⟩
theorem Jc:∀(x:ig) (d n:Nat),(mF x d n).2=0→GZ x∧(mF x d n).1=n+szS x∧(mF x d n).1≤200:=by
 intro x;refine ig.rec (motive_1:=λx=>∀d n,(mF x d n).2=0→GZ x∧(mF x d n).1=n+szS x∧(mF x d n).1≤200) (motive_2:=λl=>∀d n,(lf l d n).2=0→(∀x∈l,GZ x)∧(lf l d n).1=n+Th l∧(n≤200→(lf l d n).1≤200)) ?_ ?_ ?_ x
 ·intro b l e d n h
  rw[mF]at h⊢
  by_cases h1:200<n+1∨40<d
  ·rw[aC h1]at h;exact absurd h (by simp)
  rw[aA h1]at h⊢
  by_cases a:jP b l.length=false
  ·rw[aC a]at h;exact absurd h (by simp)
  rw[aA a]at h⊢;obtain⟨c,f,k3⟩:=e _ _ h;refine⟨?_,by rw[f,szS];omega,k3 (by omega)⟩
  rcases zf (by simpa using a)with⟨g,rfl⟩|⟨rfl,x,y,rfl⟩
  ·exact .leaf g
  ·exact .fn (c x (by simp)) (c y (by simp))
 ·intro d n _;exact⟨λx hx=>(by cases hx),rfl,λh=>h⟩
 ·intro x l i j d n h
  rw[lf]at h⊢
  by_cases h1:(mF x d n).2≠0
  ·rw[aC h1]at h;exact absurd h h1
  rw[aA h1]at h⊢;obtain⟨k,a2,a3⟩:=i d n (ez.1 h1);obtain⟨m,o,p⟩:=j _ _ h;refine⟨λy hy=> ?_,by rw[o,a2,Th];omega,λ_=>p a3⟩
  rcases cJ.1 hy with rfl|hy
  ·exact k
  ·exact m y hy
end Go.Proofs.YtblifkgpebebmaaGreatDoor
namespace Go.Proofs.YtblifkgpebebmaaGreatDoor
open Go Go.J Tryz
theorem TU:∀(x:ig) (d n:Nat),n≤200→(mF x d n).1≤201:=by
 intro x;refine ig.rec (motive_1:=λx=>∀d n,n≤200→(mF x d n).1≤201) (motive_2:=λl=>∀d n,n≤200→(lf l d n).1≤201) ?_ ?_ ?_ x
 ·intro b l a d n f
  rw[mF]
  split
  ·show n+1≤201;omega
  ·split
   ·show n+1≤201;omega
   ·exact a _ _ (by omega)
 ·intro d n h;show n≤201;omega
 ·intro x l c e d n h
  rw[lf]
  split
  ·exact c d n h
  ·rename_i h1
   exact e _ _ (Jc x d n (ez.1 h1)).2.2
theorem I0 {l:List ig}{k:Nat}{y:ig}(h:l[k]?=some y)(d n:Nat):lf (l.drop k) d n=if(mF y d n).2≠0 then mF y d n else lf (l.drop (k+1)) d (mF y d n).1:=by rw[bN h,lf]
theorem LZ {l:List ig}{k:Nat}(h:l.length≤k)(d n:Nat):lf (l.drop k) d n=(n,0):=by rw[j4 h,lf]
theorem Fm {b:ax}{m:Nat}(h:jP b m=true):m≤2:=by
 unfold jP at h
 simp only[Bool.or_eq_true,Bool.and_eq_true,decide_eq_true_eq]at h
 rcases h with⟨_,h⟩|⟨_,h⟩<;>omega
theorem Fl (b:ax)(m:Nat):(((b==([101]:ax))||(b==([116]:ax)))&&decide ((m:Int)=0)||((b==([]:ax))&&decide ((m:Int)=2)))=jP b m:=by
 unfold jP;rw[B7]
 simp only[Bool.or_eq_true,Bool.and_eq_true,beq_iff_eq,decide_eq_true_eq]
 constructor
 ·rintro (⟨h,k⟩|⟨h,k⟩)
  ·exact .inl ⟨h,by omega⟩
  ·exact .inr ⟨h,by omega⟩
 ·rintro (⟨h,k⟩|⟨h,k⟩)
  ·exact .inl ⟨h,by omega⟩
  ·exact .inr ⟨h,by omega⟩
theorem qn (s:ax)(i:s.length≤9223372036854775807):eC prog 46 #[sv s] [] (.bool (isName s)):=by
 refine eC.qC (args:=[sv s]) 55 func46 rfl ntmps46 rfl (λc=> ?_);refine g12 ?_;refine St.gf _ rfl rfl (λa=>Ev.move (.mk rfl)) rfl ?_;refine St.gf _ rfl rfl (λa=>Ev.O8 (ai.gv rfl a) xQ) rfl ?_;refine St.gf _ rfl rfl (λa=>Ev.gtr (ai.gv rfl a) (.mk rfl)) rfl ?_;refine g2 ?_;refine St.gf _ rfl rfl (λa=>Ev.move (.mk rfl)) rfl ?_;refine St.gf _ rfl rfl (λa=>Ev.DA (k:=0) (ai.gv rfl a) (.mk rfl) xQ rfl (by first|omega|(simp only[fJ]at a;omega))) rfl ?_;refine St.gf _ rfl rfl (λa=>Ev.lss (ai.gv rfl a) (.mk rfl)) rfl ?_;refine g2 ?_;refine St.gf _ rfl rfl (λa=>Ev.move (.mk rfl)) rfl ?_;refine St.gf _ rfl rfl (λa=>Ev.DA (k:=0) (ai.gv rfl a) (.mk rfl) xQ rfl (by first|omega|(simp only[fJ]at a;omega))) rfl ?_;refine St.gf _ rfl rfl (λa=>Ev.gtr (ai.gv rfl a) (.mk rfl)) rfl ?_;refine g3 ?_;refine St.cq (λf=> ?_) (λf=> ?_)
 ·refine g7 ?_
  refine St.rV [_] [] ?_;exact be (Ee (by omega)).symm
 ·refine g11 ?_
  refine St.lS (ι:=Nat) (λk T=>(25,iv k)::T) (λk=>k≤s.length∧(s.take k).all oK=true) (λk=>s.length-k) 0 (aD.cons 0 rfl (aD.cons 24 rfl aD.nil)) ⟨aP _,rfl⟩ ?_;intro k g;obtain⟨hk,e⟩:=g;refine g6 ?_;refine St.cq (λh=> ?_) (λh=> ?_)
  ·refine g14 ?_
   refine St.ee (Ev.DA (.mk rfl) (.mk rfl) xQ rfl (by omega)) ?_;refine g8 ?_;refine St.gt _ rfl rfl (λa=>Ev.move (.mk rfl)) rfl ?_;refine St.gt _ rfl rfl (λa=>Ev.leq (ai.gv rfl a) (.mk rfl)) rfl ?_;refine g2 ?_;refine St.gf _ rfl rfl (λa=>Ev.move (.mk rfl)) rfl ?_;refine St.gf _ rfl rfl (λa=>Ev.geq (ai.gv rfl a) (.mk rfl)) rfl ?_;refine St.gf _ rfl rfl (λa=>Ev.move (ai.gv rfl a)) rfl ?_;refine St.YM _ rfl rfl (λa=>Ev.move (.mk rfl)) rfl ?_;refine St.YM _ rfl rfl (λa=>Ev.leq (ai.gv rfl a) (.mk rfl)) rfl ?_;refine St.gf _ rfl rfl (λa=>Ev.and (ai.gv rfl a) (λhp=>ai.gv rfl (U8 a hp))) rfl ?_;refine g2 ?_;refine St.gf _ rfl rfl (λa=>Ev.move (.mk rfl)) rfl ?_;refine St.gf _ rfl rfl (λa=>Ev.eql (ai.gv rfl a) (.mk rfl)) rfl ?_;refine g2 ?_;refine St.gf _ rfl rfl (λa=>Ev.move (.mk rfl)) rfl ?_;refine St.gf _ rfl rfl (λa=>Ev.eql (ai.gv rfl a) (.mk rfl)) rfl ?_;refine g4 ?_;refine St.cq (λb=> ?_) (λb=> ?_)
   ·refine g11 ?_
    refine St.rV [_] [] ?_;exact be (Ef (k:=k) (by omega) (by simp only[oK,low,digit,Bool.and_eq_false_iff,Bool.or_eq_false_iff,decide_eq_false_iff_not];omega)).symm
   ·refine g8 ?_
    refine St.aS (k+1) ⟨by omega,AZ (d:=0) e (by simp only[oK,low,digit,Bool.and_eq_true,Bool.or_eq_true,decide_eq_true_eq];exact b)⟩
  ·refine g11 ?_
   refine St.rV [_] [] ?_;exact be (Eg (by omega) (by omega) (by simp only[low,Bool.and_eq_true,decide_eq_true_eq];omega) (EA e (by omega))).symm
theorem ei (a b:Int):eC prog 44 #[iv a,iv b] [] (fv (a,b)):=by
 refine eC.qC (args:=[iv a,iv b]) 8 func44 rfl ntmps44 rfl (λc=> ?_);refine g2 ?_;refine St.al (λd=> ?_);refine g6 ?_;refine St.ee (Ev.build (bF.aX rfl rfl) (λw=>gi rfl rfl w)) ?_;refine g4 ?_;refine St.rV [_] [] ?_;rfl
theorem cR (a b:Int):eC prog 78 #[iv a,iv b] [] (fv (a,b)):=by
 refine eC.qC (args:=[iv a,iv b]) 8 func78 rfl ntmps78 rfl (λc=> ?_);refine g2 ?_;refine St.al (λd=> ?_);refine g6 ?_;refine St.ee (Ev.build (bF.aX rfl rfl) (λw=>gi rfl rfl w)) ?_;refine g4 ?_;refine St.rV [_] [] ?_;rfl
theorem fz (a b:Int):eC prog 85 #[iv a,iv b] [] (fv (a,b)):=by
 refine eC.qC (args:=[iv a,iv b]) 8 func85 rfl ntmps85 rfl (λc=> ?_);refine g2 ?_;refine St.al (λd=> ?_);refine g6 ?_;refine St.ee (Ev.build (bF.aX rfl rfl) (λw=>gi rfl rfl w)) ?_;refine g4 ?_;refine St.rV [_] [] ?_;rfl
theorem Bb (x:fa):eC prog 115 #[aU x] [ep x] (.bool (pU (df x))):=by
 refine eC.nJ (args:=[aU x]) 12 func115 rfl ntmps115 rfl (λc=> ?_);refine g2 ?_;refine St.dJ (.mk rfl) rfl (λb=> ?_);refine g4 ?_;refine St.uE x ?_;refine g5 ?_;refine St.gt _ rfl rfl (λa=>Ev.da (.mk rfl) ly) rfl ?_;refine St.gt _ rfl rfl (λa=>Ev.ke (ai.gv rfl a) j2 trivial (by rfl)) rfl ?_;refine St.gt _ rfl rfl (λa=>Ev.fk (ai.gv rfl a) j2) rfl ?_;refine St.gt _ rfl rfl (λa=>Ev.eql (ai.gv rfl a) (.mk rfl)) rfl ?_;refine g5 ?_;refine St.rV [_] [] ?_;exact be (by rw[pU,rA,km,aO,B7];simp only[Bool.and_eq_true,beq_iff_eq,decide_eq_true_eq];exact⟨λh=>⟨h.1,by have:=h.2;omega⟩,λh=>⟨h.1,by have:=h.2;omega⟩⟩)
theorem DV (b bw f:Nat):∀(x:fa) (d n:Nat),d≤100→n≤200→dz prog 139 ([aU x,iv (d:Nat)]++ [Value.pointer (some ⟨b,0,none⟩),Value.pointer (some ⟨bw,0,none⟩)]).toArray [aB (ep x),aW b (.cells [iv (n:Nat)].toArray 3 (0,0)),aW bw (.cells [(.func (.func 139) #[] [Value.pointer (some ⟨b,0,none⟩),Value.pointer (some ⟨bw,0,none⟩)].toArray)].toArray f (0,0))] (λv H'=>v=iv (mF (df x) d n).2∧H'=[aW b (.cells [iv ((mF (df x) d n).1:Nat)].toArray 3 (0,0)),aW bw (.cells [(.func (.func 139) #[] [Value.pointer (some ⟨b,0,none⟩),Value.pointer (some ⟨bw,0,none⟩)].toArray)].toArray f (0,0))]):=by
 intro x
 induction x using fa.ind
 rename_i x p
 intro d n hd t;refine dz.body (args:=[aU x,iv (d:Nat)]++ [Value.pointer (some ⟨b,0,none⟩),Value.pointer (some ⟨bw,0,none⟩)]) 62 func139 rfl ntmps139 rfl (λc=> ?_);refine go ?_
 have e:=TT (df x) d n
 rw[rA,km,aO]at e;refine St.uE x ?_;refine go ?_;refine St.dJ (.mk rfl) rfl (λu=> ?_);refine g7 ?_;refine St.cH (.mk rfl) (.mk rfl) dK rfl (by rfl) ?_;refine St.mP b (L':=[iv ((n+1:Nat):Int)]) rfl ?_;refine g8 ?_;refine St.gf _ rfl rfl (λa=>Ev.move (.mk rfl)) rfl ?_;refine St.gf _ rfl rfl (λa=>Ev.gtr (ai.gv rfl a) (.mk rfl)) rfl ?_;refine g3 ?_;refine St.cq (λi=> ?_) (λi=> ?_)
 ·rw[aC (by omega)]at e
  refine g7 ?_;refine St.rV [_] [aW b (.cells [iv ((n+1):Nat)].toArray 3 (0,0)),aW bw (.cells [(.func (.func 139) #[] [Value.pointer (some ⟨b,0,none⟩),Value.pointer (some ⟨bw,0,none⟩)].toArray)].toArray f (0,0))] ?_
  rw[e];exact⟨rfl,rfl⟩
 ·rw[aA (by omega)]at e
  refine g8 ?_;refine St.gf _ rfl rfl (λa=>Ev.da (.mk rfl) xc) rfl ?_;refine St.gf _ rfl rfl (λa=>Ev.ke (ai.gv rfl a) xQ trivial (by rfl)) rfl ?_;refine St.gf _ rfl rfl (λa=>Ev.PY (ai.gv rfl a) (.mk rfl)) rfl ?_;refine g9 ?_;refine St.gt _ rfl rfl (λa=>Ev.da (.mk rfl) ly) rfl ?_;refine St.gt _ rfl rfl (λa=>Ev.ke (ai.gv rfl a) j2 trivial (by rfl)) rfl ?_;refine St.gt _ rfl rfl (λa=>Ev.fk (ai.gv rfl a) j2) rfl ?_;refine St.gt _ rfl rfl (λa=>Ev.eql (ai.gv rfl a) (.mk rfl)) rfl ?_;refine g2 ?_;refine St.gf _ rfl rfl (λa=>Ev.da (.mk rfl) xc) rfl ?_;refine St.gf _ rfl rfl (λa=>Ev.ke (ai.gv rfl a) xQ trivial (by rfl)) rfl ?_;refine St.gf _ rfl rfl (λa=>Ev.PY (ai.gv rfl a) (.mk rfl)) rfl ?_;refine St.gf _ rfl rfl (λa=>Ev.move (ai.gv rfl a)) rfl ?_;refine St.YM _ rfl rfl (λa=>Ev.da (.mk rfl) ly) rfl ?_;refine St.YM _ rfl rfl (λa=>Ev.ke (ai.gv rfl a) j2 trivial (by rfl)) rfl ?_;refine St.YM _ rfl rfl (λa=>Ev.fk (ai.gv rfl a) j2) rfl ?_;refine St.YM _ rfl rfl (λa=>Ev.eql (ai.gv rfl a) (.mk rfl)) rfl ?_;refine St.gf _ rfl rfl (λa=>Ev.and (ai.gv rfl a) (λhp=>ai.gv rfl (U8 a hp))) rfl ?_;refine g4 ?_;refine St.cond _ rfl (λg=> ?_) (λg=> ?_)
  ·rw[Fl]at g
   rw[aC (by simpa using g)]at e;refine g7 ?_;refine St.rV [_] [aW b (.cells [iv ((n+1):Nat)].toArray 3 (0,0)),aW bw (.cells [(.func (.func 139) #[] [Value.pointer (some ⟨b,0,none⟩),Value.pointer (some ⟨bw,0,none⟩)].toArray)].toArray f (0,0))] ?_
   rw[e];exact⟨rfl,rfl⟩
  ·rw[Fl]at g
   have w:=Fm (show jP x.base x.args.length=true by simpa using g)
   rw[aA (by simpa using g)]at e;refine g12 ?_;refine St.tn (ι:=Nat) (κ:=Nat) (λk z T=>(49,iv k)::T) (λk z=>[aW b (.cells [iv (z:Nat)].toArray 3 (0,0)),aW bw (.cells [(.func (.func 139) #[] [Value.pointer (some ⟨b,0,none⟩),Value.pointer (some ⟨bw,0,none⟩)].toArray)].toArray f (0,0)),aB (sl kL x.av.1 x.args),aB (aF ep x.args)]) (λk z=>k≤x.args.length∧z≤200∧lf (x.args.map df) (d+1) (n+1)=lf ((x.args.map df).drop k) (d+1) z) (λk z=>x.args.length-k) 0 (n+1) (aD.cons 1 rfl (aD.cons 3 rfl (aD.cons 47 rfl (aD.cons 48 rfl aD.nil)))) ⟨aP _,by omega,rfl⟩ ?_;rintro k z ⟨hk,hz,h⟩;refine g6 ?_;refine St.cq (λq=> ?_) (λq=> ?_)
   ·obtain⟨y,hy⟩:=aE (show k<x.args.length by omega)
    have m:=ae hy
    have o:=I0 (l:=x.args.map df) (k:=k) (y:=df y) (by rw[bP,hy];rfl) (d+1) z
    refine St.cK ep x.args (x:=y) m ?_
    have hle:=TU (df y) (d+1) z hz
    refine g7 ?_;refine St.ee (Ev.jq (.mk rfl) hy lg trivial iX j5.eq) ?_;refine St.al (λA=> ?_);refine g9 ?_;refine St.slot 56 (iv ((d+1:Nat):Int)) rfl rfl ?_;refine St.eh (p y m (d+1) z (by omega) hz) UR (.mk rfl) (.aX rfl rfl) rfl ?_;rintro r _ ⟨rfl,rfl⟩;refine St.dQ ?_;refine g9 ?_;refine St.cq (λs=> ?_) (λs=> ?_)
    ·refine g12 ?_
     refine St.rV [_] [aW b (.cells [iv ((mF (df y) (d+1) z).1:Nat)].toArray 3 (0,0)),aW bw (.cells [(.func (.func 139) #[] [Value.pointer (some ⟨b,0,none⟩),Value.pointer (some ⟨bw,0,none⟩)].toArray)].toArray f (0,0))] ?_
     rw[e,h,o,aC (by omega)];exact⟨rfl,rfl⟩
    ·refine g8 ?_
     have j:=(Jc (df y) (d+1) z (by omega)).2.2
     refine St.uk (k+1) (mF (df y) (d+1) z).1 ⟨by omega,j,by rw[h,o,aA (by omega)]⟩
   ·rw[LZ (by rw[aO];omega)]at h
    refine g11 ?_;refine St.rV [_] [aW b (.cells [iv (z:Nat)].toArray 3 (0,0)),aW bw (.cells [(.func (.func 139) #[] [Value.pointer (some ⟨b,0,none⟩),Value.pointer (some ⟨bw,0,none⟩)].toArray)].toArray f (0,0))] ?_
    rw[e,h];exact⟨rfl,rfl⟩
theorem wW (x:fa):eC prog 114 #[aU x] [ep x] (fv (vk (df x),0)):=by
 refine eC.nJ (args:=[aU x]) 10 func114 rfl ntmps114 rfl (λc=> ?_);refine g2 ?_;refine St.dJ (.mk rfl) rfl (λd=> ?_);refine St.al (λe=> ?_);refine g4 ?_;refine St.al (λa=> ?_);refine St.cH (.mk rfl) (.mk rfl) dK rfl (by rfl) ?_;refine St.mP a (L':=[iv ((0:Nat):Int)]) rfl ?_;refine g4 ?_;refine St.al (λb=> ?_);refine g4 ?_;refine St.ee (Ev.func (.aX rfl rfl)) ?_;refine St.cH (.mk rfl) (.mk rfl) afE rfl (by rfl) ?_;refine g6 ?_;refine St.eh (DV a b 260 x 1 0 (by omega) (by omega)) UR (.mk rfl) (.aX rfl rfl) rfl ?_;rintro f _ ⟨rfl,rfl⟩;refine St.dQ ?_;refine St.ee (Ev.build (bF.au rfl) (λw=>RA rfl w)) ?_;refine g4 ?_;refine St.rV [_] [] ?_;rfl
theorem PM (x y:ig):lZ x y=(decide (x.base=y.base)&&decide (x.args.length=y.args.length)&&o5 x.args y.args):=by cases x;cases y;rw[lZ];rfl
theorem Fj {l m:List ig}{k:Nat}{x y:ig}(hx:l[k]?=some x)(hy:m[k]?=some y):o5 (l.drop k) (m.drop k)=(lZ x y&&o5 (l.drop (k+1)) (m.drop (k+1))):=by rw[bN hx,bN hy,o5]
theorem Hy {l m:List ig}{k:Nat}(h:l.length≤k):o5 (l.drop k) (m.drop k)=true:=by rw[j4 h,o5];intro _ _ _ _ h;cases h
theorem LY:∀(x y:fa),eC prog 140 #[aU x,aU y] [ep x,ep y] (.bool (lZ (df x) (df y))):=by
 intro x
 induction x using fa.ind
 rename_i x i
 intro y;refine eC.nK (args:=[aU x,aU y]) 39 func140 rfl ntmps140 rfl (λc=> ?_);refine go ?_
 have b:=PM (df x) (df y)
 rw[rA,rA,km,km,aO,aO]at b;refine St.uE x ?_;refine St.uE y ?_;refine St.wf x.av.1 (λq r=> ?_);refine go ?_;refine St.dJ (.mk rfl) rfl (λs=> ?_);refine St.dJ (.mk rfl) rfl (λt=> ?_);refine g12 ?_;refine St.gf _ rfl rfl (λa=>Ev.da (.mk rfl) ly) rfl ?_;refine St.gf _ rfl rfl (λa=>Ev.ke (ai.gv rfl a) j2 trivial (by rfl)) rfl ?_;refine St.gf _ rfl rfl (λa=>Ev.fk (ai.gv rfl a) j2) rfl ?_;refine St.gf _ rfl rfl (λa=>Ev.da (.mk rfl) ly) rfl ?_;refine St.gf _ rfl rfl (λa=>Ev.ke (ai.gv rfl a) j2 trivial (by rfl)) rfl ?_;refine St.gf _ rfl rfl (λa=>Ev.fk (ai.gv rfl a) j2) rfl ?_;refine St.gf _ rfl rfl (λa=>Ev.neq (ai.gv rfl a) (ai.gv rfl a)) rfl ?_;refine g3 ?_;refine St.cq (λd=> ?_) (λd=> ?_)
 ·refine g7 ?_
  refine St.rV [_] [] ?_;exact be (by rw[b];rcases d with h|h<;>simp[h]<;>omega)
 ·obtain⟨j,n⟩:x.base=y.base∧x.args.length=y.args.length:=⟨by simpa using d.1,by have:=d.2;omega⟩
  rw[j,n,eB rfl,eB rfl,IY,IY]at b;refine g12 ?_;refine St.lS (ι:=Nat) (λk T=>(23,iv k)::T) (λk=>k≤x.args.length∧o5 (x.args.map df) (y.args.map df)=o5 ((x.args.map df).drop k) ((y.args.map df).drop k)) (λk=>x.args.length-k) 0 (aD.cons 2 rfl (aD.cons 3 rfl (aD.cons 22 rfl aD.nil))) ⟨aP _,rfl⟩ ?_;intro k o;obtain⟨hk,e⟩:=o;refine g6 ?_;refine St.cq (λp=> ?_) (λp=> ?_)
  ·obtain⟨u,hu⟩:=aE (show k<x.args.length by omega)
   obtain⟨w,hw⟩:=aE (show k<y.args.length by omega);refine St.cK ep x.args (x:=u) (ae hu) ?_;refine St.cK ep y.args (x:=w) (ae hw) ?_
   have g:=Fj (l:=x.args.map df) (m:=y.args.map df) (k:=k) (x:=df u) (y:=df w) (by rw[bP,hu];rfl) (by rw[bP,hw];rfl)
   refine g11 ?_;refine St.rq mixed (by kernel_rfl) (Mm.drawn _ _) ?_;refine g4 ?_;refine Sq.ee (Ev.jq (.mk rfl) hu lg trivial iX j5.eq) ?_;refine g4 ?_;refine Sq.ee (Ev.jq (.mk rfl) hw lg trivial iX j5.eq) ?_;refine Sq.ee (Ev.call (i u (ae hu) w) US (.aX rfl rfl)) ?_;refine g3 ?_;refine St.cond _ rfl (λf=> ?_) (λf=> ?_)
   ·skip
    refine g11 ?_;refine St.rV [_] [] ?_;exact be (by rw[b,e,g,show lZ (df u) (df w)=false by simpa using f];rfl)
   ·skip
    refine g8 ?_;refine St.aS (k+1) ⟨by omega,by rw[e,g,show lZ (df u) (df w)=true by simpa using f,IY]⟩
  ·rw[Hy (by rw[aO];omega)]at e
   refine g11 ?_;refine St.rV [_] [] ?_;exact be (by rw[b,e])
theorem Js (x:di)(b:Nat):zy (dH x) b=kC x.kind x.name x.index (df x.type) x.args.length b:=by
 cases x with
 |mk k s i t v l=>rw[qX];show kC k s i (df t) (l.map dH).length b=_;rw[aO];rfl
theorem sc (x:di):(dH x).kind=x.kind:=by cases x;rfl
theorem tm1 (nm:ax)(ix:Int)(a:ig)(m b:Nat):kC 1 nm ix a m b=if ix≠0∨m≠0 then 5 else if isName nm=false then 10 else if vk a≠0 then 12 else 0:=by unfold kC;rw[aC rfl]
theorem tm2 (nm:ax)(ix:Int)(a:ig)(m b:Nat):kC 2 nm ix a m b=if nm≠ []∨pU a=false∨m≠0 then 5 else if ix<0∨(b:Int)≤ix then 15 else 0:=by unfold kC;rw[aA (by decide),aC rfl]
theorem tm3 (nm:ax)(ix:Int)(a:ig)(m b:Nat):kC 3 nm ix a m b=if nm≠ []∨ix≠0∨m≠1 then 5 else if vk a≠0 then 12 else 0:=by unfold kC;rw[aA (by decide),aA (by decide),aC rfl]
theorem tm4 (nm:ax)(ix:Int)(a:ig)(m b:Nat):kC 4 nm ix a m b=if nm≠ []∨ix≠0∨pU a=false∨m≠2 then 5 else 0:=by unfold kC;rw[aA (by decide),aA (by decide),aA (by decide),aC rfl]
theorem tm5 {k:Int}(h1:k≠1)(a:k≠2)(c:k≠3)(d:k≠4)(nm:ax)(ix:Int)(e:ig)(m b:Nat):kC k nm ix e m b=4:=by unfold kC;rw[aA h1,aA a,aA c,aA d]
theorem FF {α:Type}{l:List α}(h:l.length=1):∃y,l=[y]:=by
 match l,h with
 | [y],_=>exact⟨y,rfl⟩
theorem A1 {α:Type}{l:List α}(h:l.length=2):∃y z,l=[y,z]:=by
 match l,h with
 | [y,z],_=>exact⟨y,z,rfl⟩
theorem jJ (b:Nat)(cd at_:Int):eC prog 113 ([iv cd]++ [Value.pointer (some ⟨b,0,none⟩)]).toArray [pf b (iv at_)] (fv (cd,at_)):=by
 refine eC.nJ (args:=[iv cd]++ [Value.pointer (some ⟨b,0,none⟩)]) 7 func113 rfl ntmps113 rfl (λc=> ?_);refine g2 ?_;refine St.al (λa=> ?_);refine g6 ?_;refine St.ee (Ev.build (bF.aX rfl rfl) (λw=>gi rfl rfl w)) ?_;refine g4 ?_;refine St.rV [_] [] ?_;rfl
theorem B3 (e bw g:Nat):∀(x:di) (d b n:Nat),dI.wf x→d≤100→b≤d→n≤200→dz prog 112 ([cN x,iv (d:Nat),iv (b:Nat)]++ [Value.pointer (some ⟨e,0,none⟩),Value.pointer (some ⟨bw,0,none⟩)]).toArray [aB (cm x),aW e (.cells [iv (n:Nat)].toArray 3 (0,0)),aW bw (.cells [(.func (.func 112) #[] [Value.pointer (some ⟨e,0,none⟩),Value.pointer (some ⟨bw,0,none⟩)].toArray)].toArray g (0,0))] (λv H'=>v=fv (mK (dH x) d b n).2∧H'=[aW e (.cells [iv ((mK (dH x) d b n).1:Nat)].toArray 3 (0,0)),aW bw (.cells [(.func (.func 112) #[] [Value.pointer (some ⟨e,0,none⟩),Value.pointer (some ⟨bw,0,none⟩)].toArray)].toArray g (0,0))]):=by
 intro x
 induction x using di.ind
 rename_i x C
 intro d b n N hd O V
 have P:x.name.length≤9223372036854775807:=by have:=N.2.1;omega
 refine dz.body (args:=[cN x,iv (d:Nat),iv (b:Nat)]++ [Value.pointer (some ⟨e,0,none⟩),Value.pointer (some ⟨bw,0,none⟩)]) 166 func112 rfl ntmps112 rfl (λc=> ?_);refine go ?_
 have f:=Xw (dH x) d b n
 rw[Js,sb,sc]at f;refine St.FG x ?_;refine St.wf x.av.1 (λD W=> ?_);refine go ?_;refine St.dJ (.mk rfl) rfl (λX=> ?_);refine St.al (λJ=> ?_);refine g5 ?_;refine St.al (λj=> ?_);refine St.cH (.mk rfl) (.mk rfl) dK rfl (by rfl) ?_;refine g6 ?_;refine St.cH (.mk rfl) (.mk rfl) dK rfl (by rfl) ?_;refine St.mP e (L':=[iv ((n+1:Nat):Int)]) rfl ?_;refine g4 ?_;refine St.ee (Ev.func (.au rfl)) ?_;refine g9 ?_;refine St.gf _ rfl rfl (λa=>Ev.move (.mk rfl)) rfl ?_;refine St.gf _ rfl rfl (λa=>Ev.gtr (ai.gv rfl a) (.mk rfl)) rfl ?_;refine g3 ?_;refine St.cq (λQ=> ?_) (λQ=> ?_)
 ·rw[aC (by omega)]at f
  refine g3 ?_;refine St.ee (Ev.nj (jJ j 1 n) rh (.mk rfl) (.au rfl) (dW.aW dW.nil)) ?_;refine g5 ?_;refine St.rV [_] [aW e (.cells [iv ((n+1):Nat)].toArray 3 (0,0)),aW bw (.cells [(.func (.func 112) #[] [Value.pointer (some ⟨e,0,none⟩),Value.pointer (some ⟨bw,0,none⟩)].toArray)].toArray g (0,0))] ?_;rw[f];exact⟨rfl,rfl⟩
 ·rw[aA (by omega)]at f
  refine g16 ?_;refine St.cond _ rfl (λp=> ?_) (λp=> ?_)
  focus
   skip
   try simp only[fJ]at p
   rw[p,tm1]at f;refine g7 ?_;refine St.gf _ rfl rfl (λa=>Ev.da (.mk rfl) qu) rfl ?_;refine St.gf _ rfl rfl (λa=>Ev.ke (ai.gv rfl a) iE trivial (by rfl)) rfl ?_;refine St.gf _ rfl rfl (λa=>Ev.fk (ai.gv rfl a) iE) rfl ?_;refine St.gf _ rfl rfl (λa=>Ev.neq (ai.gv rfl a) (.mk rfl)) rfl ?_;refine g3 ?_;refine St.cond _ rfl (λE=> ?_) (λE=> ?_)
   focus
    skip
    try simp only[fJ]at E
    rw[aC (show x.index≠0∨x.args.length≠0 by omega)]at f;refine g3 ?_;refine St.ee (Ev.nj (jJ j 5 n) rh (.mk rfl) (.au rfl) (dW.aW dW.nil)) ?_;refine g7 ?_;refine St.rV [_] [aW e (.cells [iv ((n+1):Nat)].toArray 3 (0,0)),aW bw (.cells [(.func (.func 112) #[] [Value.pointer (some ⟨e,0,none⟩),Value.pointer (some ⟨bw,0,none⟩)].toArray)].toArray g (0,0))] ?_;rw[f,aC (by decide)];exact⟨rfl,rfl⟩
   focus
    skip
    try simp only[fJ]at E
    obtain⟨Y,q⟩:x.index=0∧x.args.length=0:=by omega
    rw[aA (show ¬(x.index≠0∨x.args.length≠0) by omega)]at f;refine g7 ?_;refine St.ee (Ev.call (qn x.name P) RG (.au rfl)) ?_;refine g3 ?_;refine St.cond _ rfl (λr=> ?_) (λr=> ?_)
    focus
     skip
     try simp only[fJ]at r
     rw[aC (show isName x.name=false by simpa using r)]at f;refine g3 ?_;refine St.ee (Ev.nj (jJ j 10 n) rh (.mk rfl) (.au rfl) (dW.aW dW.nil)) ?_;refine g7 ?_;refine St.rV [_] [aW e (.cells [iv ((n+1):Nat)].toArray 3 (0,0)),aW bw (.cells [(.func (.func 112) #[] [Value.pointer (some ⟨e,0,none⟩),Value.pointer (some ⟨bw,0,none⟩)].toArray)].toArray g (0,0))] ?_;rw[f,aC (by decide)];exact⟨rfl,rfl⟩
    focus
     skip
     try simp only[fJ]at r
     rw[aA (show ¬isName x.name=false by simpa using r)]at f;refine g5 ?_;refine St.ee (Ev.iT 2 (.mk rfl) lg trivial iX rfl rfl) ?_;refine St.ee (Ev.call (wW x.type) UI (.au rfl)) ?_;refine St.ee (Ev.Cw (.mk rfl) Lm rfl (by first|rw[gV]|(dsimp only;rw[gV])|kernel_rfl) rfl) ?_;refine g3 ?_;refine St.cond _ rfl (λs=> ?_) (λs=> ?_)
     focus
      skip
      try simp only[fJ]at s
      rw[aC (show vk (df x.type)≠0 by simpa using s)]at f;refine g3 ?_;refine St.ee (Ev.nj (jJ j 12 n) rh (.mk rfl) (.au rfl) (dW.aW dW.nil)) ?_;refine g6 ?_;refine St.rV [_] [aW e (.cells [iv ((n+1):Nat)].toArray 3 (0,0)),aW bw (.cells [(.func (.func 112) #[] [Value.pointer (some ⟨e,0,none⟩),Value.pointer (some ⟨bw,0,none⟩)].toArray)].toArray g (0,0))] ?_;rw[f,aC (by decide)];exact⟨rfl,rfl⟩
     focus
      skip
      try simp only[fJ]at s
      rw[aA (show ¬vk (df x.type)≠0 by simpa using s),aA (by decide),lG q,lI,o8]at f;refine go ?_
  rotate_left
  focus
   skip
   try simp only[fJ]at p
   refine g6 ?_;refine St.cond _ rfl (λt=> ?_) (λt=> ?_)
   focus
    skip
    try simp only[fJ]at t
    rw[t,tm2]at f;refine g7 ?_;refine St.gf _ rfl rfl (λa=>Ev.da (.mk rfl) xg) rfl ?_;refine St.gf _ rfl rfl (λa=>Ev.iT 2 (ai.gv rfl a) lg trivial iX rfl rfl) rfl ?_;refine St.gf _ rfl rfl (λa=>Ev.call (Bb x.type) UJ (.cons (ai.gv rfl a) .nil)) rfl ?_;refine St.gf _ rfl rfl (λa=>Ev.not (ai.gv rfl a)) rfl ?_;refine g2 ?_;refine St.gf _ rfl rfl (λa=>Ev.da (.mk rfl) qu) rfl ?_;refine St.gf _ rfl rfl (λa=>Ev.ke (ai.gv rfl a) iE trivial (by rfl)) rfl ?_;refine St.gf _ rfl rfl (λa=>Ev.fk (ai.gv rfl a) iE) rfl ?_;refine St.gf _ rfl rfl (λa=>Ev.neq (ai.gv rfl a) (.mk rfl)) rfl ?_;refine g3 ?_;refine St.cond _ rfl (λu=> ?_) (λu=> ?_)
    focus
     skip
     simp only[Bool.or_eq_true,Bool.or_eq_false_iff,Bool.not_eq_true',Bool.not_eq_false',decide_eq_true_eq,decide_eq_false_iff_not,beq_iff_eq,beq_eq_false_iff_ne]at u
     rw[aC (show x.name≠ []∨pU (df x.type)=false∨x.args.length≠0 by rcases u with(h|h)|h;exact .inl h;exact .inr (.inl h);exact .inr (.inr (by omega)))]at f;refine g3 ?_;refine St.ee (Ev.nj (jJ j 5 n) rh (.mk rfl) (.au rfl) (dW.aW dW.nil)) ?_;refine g7 ?_;refine St.rV [_] [aW e (.cells [iv ((n+1):Nat)].toArray 3 (0,0)),aW bw (.cells [(.func (.func 112) #[] [Value.pointer (some ⟨e,0,none⟩),Value.pointer (some ⟨bw,0,none⟩)].toArray)].toArray g (0,0))] ?_;rw[f,aC (by decide)];exact⟨rfl,rfl⟩
    focus
     skip
     simp only[Bool.or_eq_true,Bool.or_eq_false_iff,Bool.not_eq_true',Bool.not_eq_false',decide_eq_true_eq,decide_eq_false_iff_not,beq_iff_eq,beq_eq_false_iff_ne]at u
     obtain⟨⟨A,F⟩,G⟩:=u
     have q:x.args.length=0:=by omega
     rw[aA (show ¬(x.name≠ []∨pU (df x.type)=false∨x.args.length≠0) by rintro (h|h|h);exact h (by simpa using A);rw[F]at h;cases h;omega)]at f;refine g8 ?_;refine St.gf _ rfl rfl (λa=>Ev.da (.mk rfl) tT) rfl ?_;refine St.gf _ rfl rfl (λa=>Ev.ke (ai.gv rfl a) gV trivial (by rfl)) rfl ?_;refine St.gf _ rfl rfl (λa=>Ev.move (.mk rfl)) rfl ?_;refine St.gf _ rfl rfl (λa=>Ev.geq (ai.gv rfl a) (ai.gv rfl a)) rfl ?_;refine g3 ?_;refine St.cond _ rfl (λl=> ?_) (λl=> ?_)
     focus
      skip
      try simp only[fJ]at l
      rw[aC (show x.index<0∨(b:Int)≤x.index by omega)]at f;refine g3 ?_;refine St.ee (Ev.nj (jJ j 15 n) rh (.mk rfl) (.au rfl) (dW.aW dW.nil)) ?_;refine g6 ?_;refine St.rV [_] [aW e (.cells [iv ((n+1):Nat)].toArray 3 (0,0)),aW bw (.cells [(.func (.func 112) #[] [Value.pointer (some ⟨e,0,none⟩),Value.pointer (some ⟨bw,0,none⟩)].toArray)].toArray g (0,0))] ?_;rw[f,aC (by decide)];exact⟨rfl,rfl⟩
     focus
      skip
      try simp only[fJ]at l
      rw[aA (show ¬(x.index<0∨(b:Int)≤x.index) by omega),aA (by decide),lG q,lI,o8]at f;refine go ?_
   rotate_left
   focus
    skip
    try simp only[fJ]at t
    refine g6 ?_;refine St.cq (λm=> ?_) (λm=> ?_)
    ·rw[m,tm3]at f
     refine g7 ?_;refine St.gf _ rfl rfl (λa=>Ev.da (.mk rfl) tT) rfl ?_;refine St.gf _ rfl rfl (λa=>Ev.ke (ai.gv rfl a) gV trivial (by rfl)) rfl ?_;refine St.gf _ rfl rfl (λa=>Ev.neq (ai.gv rfl a) (.mk rfl)) rfl ?_;refine g2 ?_;refine St.gf _ rfl rfl (λa=>Ev.da (.mk rfl) qu) rfl ?_;refine St.gf _ rfl rfl (λa=>Ev.ke (ai.gv rfl a) iE trivial (by rfl)) rfl ?_;refine St.gf _ rfl rfl (λa=>Ev.fk (ai.gv rfl a) iE) rfl ?_;refine St.gf _ rfl rfl (λa=>Ev.neq (ai.gv rfl a) (.mk rfl)) rfl ?_;refine g3 ?_;refine St.cond _ rfl (λi=> ?_) (λi=> ?_)
     ·simp only[Bool.or_eq_true,Bool.or_eq_false_iff,Bool.not_eq_true',Bool.not_eq_false',decide_eq_true_eq,decide_eq_false_iff_not,beq_iff_eq,beq_eq_false_iff_ne]at i
      rw[aC (show x.name≠ []∨x.index≠0∨x.args.length≠1 by rcases i with(h|h)|h;exact .inl h;exact .inr (.inl h);exact .inr (.inr (by omega)))]at f;refine g3 ?_;refine St.ee (Ev.nj (jJ j 5 n) rh (.mk rfl) (.au rfl) (dW.aW dW.nil)) ?_;refine g7 ?_;refine St.rV [_] [aW e (.cells [iv ((n+1):Nat)].toArray 3 (0,0)),aW bw (.cells [(.func (.func 112) #[] [Value.pointer (some ⟨e,0,none⟩),Value.pointer (some ⟨bw,0,none⟩)].toArray)].toArray g (0,0))] ?_;rw[f,aC (by decide)];exact⟨rfl,rfl⟩
     ·simp only[Bool.or_eq_true,Bool.or_eq_false_iff,Bool.not_eq_true',Bool.not_eq_false',decide_eq_true_eq,decide_eq_false_iff_not,beq_iff_eq,beq_eq_false_iff_ne]at i
      obtain⟨⟨A,F⟩,G⟩:=i
      have q:x.args.length=1:=by omega
      rw[aA (show ¬(x.name≠ []∨x.index≠0∨x.args.length≠1) by rintro (h|h|h);exact h (by simpa using A);omega;omega)]at f;refine g6 ?_;refine St.ee (Ev.iT 2 (.mk rfl) lg trivial iX rfl rfl) ?_;refine St.ee (Ev.call (wW x.type) UI (.au rfl)) ?_;refine St.ee (Ev.Cw (.mk rfl) Lm rfl (by first|rw[gV]|(dsimp only;rw[gV])|kernel_rfl) rfl) ?_;refine g3 ?_;refine St.cq (λH=> ?_) (λH=> ?_)
      ·rw[aC (show vk (df x.type)≠0 by simpa using H)]at f
       refine g3 ?_;refine St.ee (Ev.nj (jJ j 12 n) rh (.mk rfl) (.au rfl) (dW.aW dW.nil)) ?_;refine g7 ?_;refine St.rV [_] [aW e (.cells [iv ((n+1):Nat)].toArray 3 (0,0)),aW bw (.cells [(.func (.func 112) #[] [Value.pointer (some ⟨e,0,none⟩),Value.pointer (some ⟨bw,0,none⟩)].toArray)].toArray g (0,0))] ?_;rw[f,aC (by decide)];exact⟨rfl,rfl⟩
      ·obtain⟨y,hy⟩:=FF q
       rw[aA (show ¬vk (df x.type)≠0 by simpa using H),aA (by decide),aC rfl,hy,fN,lI,G0]at f;refine St.cK cm x.args (x:=y) (by rw[hy];simp) ?_;refine g3 ?_;refine St.dc [aW e (.cells [iv ((n+1):Nat)].toArray 3 (0,0)),aW bw (.cells [(.func (.func 112) #[] [Value.pointer (some ⟨e,0,none⟩),Value.pointer (some ⟨bw,0,none⟩)].toArray)].toArray g (0,0)),aB (cm y),aW J (.cells [iv 0,iv 0].toArray 35 (0,0))] mixed (λK L=> ?_);refine SW.gd 1 ?_;refine SW.gd 2 ?_;refine SW.dd 3 rfl (λ_=>Ev.cM (k:=0) (.mk rfl) (.mk rfl) iE fc rfl (by omega)) ?_;refine SW.dd 4 rfl (λ_=>Ev.jq (.mk rfl) (show x.args[0]?=some y by rw[hy];rfl) lh trivial fc j5.eq) ?_;refine SW.gd 5 ?_;refine SW.gd 6 ?_;refine SW.slot 115 (iv ((d+1:Nat):Int)) rfl rfl ?_;refine SW.gd 7 ?_;refine SW.gd 8 ?_;refine SW.slot 117 (iv ((b+1:Nat):Int)) rfl rfl ?_;refine SW.t1 0 ?_;refine g3 ?_;refine SW.go ?_;refine SW.t1 9 ?_;refine St.eh (C y (by rw[hy];simp) (d+1) (b+1) (n+1) (D y (by rw[hy];simp)) (by omega) (by omega) (by omega)) Im (.mk rfl) (.ej rfl rfl rfl) rfl ?_;rintro R _ ⟨rfl,rfl⟩;refine St.dQ ?_;refine g2 ?_;refine SW.go ?_;refine SW.t1 10 ?_;refine g3 ?_;refine SW.go ?_;refine SW.dn ?_;refine g4 ?_;refine St.rV [_] [aW e (.cells [iv ((mK (dH y) (d+1) (b+1) (n+1)).1:Nat)].toArray 3 (0,0)),aW bw (.cells [(.func (.func 112) #[] [Value.pointer (some ⟨e,0,none⟩),Value.pointer (some ⟨bw,0,none⟩)].toArray)].toArray g (0,0))] ?_
       rw[f];exact⟨rfl,rfl⟩
    ·refine g6 ?_
     refine St.cq (λI=> ?_) (λI=> ?_)
     ·rw[I,tm4]at f
      refine g7 ?_;refine St.gf _ rfl rfl (λa=>Ev.da (.mk rfl) tT) rfl ?_;refine St.gf _ rfl rfl (λa=>Ev.ke (ai.gv rfl a) gV trivial (by rfl)) rfl ?_;refine St.gf _ rfl rfl (λa=>Ev.neq (ai.gv rfl a) (.mk rfl)) rfl ?_;refine g2 ?_;refine St.gf _ rfl rfl (λa=>Ev.da (.mk rfl) xg) rfl ?_;refine St.gf _ rfl rfl (λa=>Ev.iT 2 (ai.gv rfl a) lg trivial iX rfl rfl) rfl ?_;refine St.gf _ rfl rfl (λa=>Ev.call (Bb x.type) UJ (.cons (ai.gv rfl a) .nil)) rfl ?_;refine St.gf _ rfl rfl (λa=>Ev.not (ai.gv rfl a)) rfl ?_;refine g2 ?_;refine St.gf _ rfl rfl (λa=>Ev.da (.mk rfl) qu) rfl ?_;refine St.gf _ rfl rfl (λa=>Ev.ke (ai.gv rfl a) iE trivial (by rfl)) rfl ?_;refine St.gf _ rfl rfl (λa=>Ev.fk (ai.gv rfl a) iE) rfl ?_;refine St.gf _ rfl rfl (λa=>Ev.neq (ai.gv rfl a) (.mk rfl)) rfl ?_;refine g3 ?_;refine St.cond _ rfl (λB=> ?_) (λB=> ?_)
      ·simp only[Bool.or_eq_true,Bool.or_eq_false_iff,Bool.not_eq_true',Bool.not_eq_false',decide_eq_true_eq,decide_eq_false_iff_not,beq_iff_eq,beq_eq_false_iff_ne]at B
       rw[aC (show x.name≠ []∨x.index≠0∨pU (df x.type)=false∨x.args.length≠2 by rcases B with((h|h)|h)|h;exact .inl h;exact .inr (.inl h);exact .inr (.inr (.inl h));exact .inr (.inr (.inr (by omega))))]at f;refine g3 ?_;refine St.ee (Ev.nj (jJ j 5 n) rh (.mk rfl) (.au rfl) (dW.aW dW.nil)) ?_;refine g7 ?_;refine St.rV [_] [aW e (.cells [iv ((n+1):Nat)].toArray 3 (0,0)),aW bw (.cells [(.func (.func 112) #[] [Value.pointer (some ⟨e,0,none⟩),Value.pointer (some ⟨bw,0,none⟩)].toArray)].toArray g (0,0))] ?_;rw[f,aC (by decide)];exact⟨rfl,rfl⟩
      ·simp only[Bool.or_eq_true,Bool.or_eq_false_iff,Bool.not_eq_true',Bool.not_eq_false',decide_eq_true_eq,decide_eq_false_iff_not,beq_iff_eq,beq_eq_false_iff_ne]at B
       obtain⟨⟨⟨A,F⟩,G⟩,S⟩:=B;obtain⟨y,z,hy⟩:=A1 (show x.args.length=2 by omega);rw[aA (show ¬(x.name≠ []∨x.index≠0∨pU (df x.type)=false∨x.args.length≠2) by rintro (h|h|h|h);exact h (by simpa using A);omega;rw[G]at h;cases h;omega),aA (by decide),aA (by decide),hy,fN,fN,lI,Pm]at f;refine St.cK cm x.args (x:=y) (by rw[hy];simp) ?_;refine St.cK cm x.args (x:=z) (by rw[hy];simp) ?_
       have hle:=Xx (dH y) (d+1) b (n+1) (by omega)
       have T:x.args.length=2:=by rw[hy];rfl
       refine g4 ?_;refine St.dc [aW e (.cells [iv ((n+1):Nat)].toArray 3 (0,0)),aW bw (.cells [(.func (.func 112) #[] [Value.pointer (some ⟨e,0,none⟩),Value.pointer (some ⟨bw,0,none⟩)].toArray)].toArray g (0,0)),aB (cm y)] mixed (λK L=> ?_)
       repeat' first
        |with_reducible refine SW.me ?_
         first
          |refine SW.gd 1 ?_
          |refine SW.gd 2 ?_
          |refine SW.dd 3 rfl (λ_=>Ev.cM (k:=0) (.mk rfl) (.mk rfl) iE fc rfl (by omega)) ?_
          |refine SW.dd 4 rfl (λ_=>Ev.jq (.mk rfl) (show x.args[0]?=some y by rw[hy];rfl) lh trivial fc j5.eq) ?_
          |refine SW.gd 5 ?_
          |refine SW.gd 6 ?_
           refine SW.slot 149 (iv ((d+1:Nat):Int)) rfl rfl ?_
          |refine SW.gd 7 ?_
          |refine SW.t2 0 9 ?_ ?_
          |refine SW.t2 8 9 ?_ ?_
          |refine SW.t1 9 ?_
          |refine SW.t1 10 ?_
          |refine SW.t1 8 ?_
          |refine SW.t1 0 ?_
        |with_reducible refine SW.tg 0 ?_
         refine g3 ?_;refine SW.go ?_
        |with_reducible refine SW.tg 8 ?_
         refine St.eh (C y (by rw[hy];simp) (d+1) b (n+1) (D y (by rw[hy];simp)) (by omega) (by omega) (by omega)) Im (.mk rfl) (.ej rfl rfl rfl) rfl ?_;rintro U _ ⟨rfl,rfl⟩;refine St.dQ ?_;refine g2 ?_;refine SW.go ?_
        |with_reducible refine SW.tg 9 ?_
         refine St.al (λZ=> ?_);refine g2 ?_;refine SW.go ?_
        |with_reducible refine SW.tg 10 ?_
         refine g3 ?_;refine SW.go ?_
       all_goals refine SW.dn ?_
       all_goals
        refine g8 ?_;refine St.cq (λo=> ?_) (λo=> ?_)
        ·rw[aC (show(mK (dH y) (d+1) b (n+1)).2.1≠0 by simpa using o)]at f
         refine g10 ?_;refine St.rV [_] [aW e (.cells [iv ((mK (dH y) (d+1) b (n+1)).1:Nat)].toArray 3 (0,0)),aW bw (.cells [(.func (.func 112) #[] [Value.pointer (some ⟨e,0,none⟩),Value.pointer (some ⟨bw,0,none⟩)].toArray)].toArray g (0,0))] ?_
         rw[f];exact⟨rfl,rfl⟩
        ·have M:(mK (dH y) (d+1) b (n+1)).2.1=0:=by simpa using o
         have hok:=(Pp (dH y) (d+1) b (n+1) M).1
         rw[aA (by rw[M];decide)]at f;refine g3 ?_;refine St.dc [aW e (.cells [iv ((mK (dH y) (d+1) b (n+1)).1:Nat)].toArray 3 (0,0)),aW bw (.cells [(.func (.func 112) #[] [Value.pointer (some ⟨e,0,none⟩),Value.pointer (some ⟨bw,0,none⟩)].toArray)].toArray g (0,0)),aB (cm z),aW J (.cells [iv 0,iv 0].toArray 35 (0,0))] mixed (λK L=> ?_);refine SW.gd 1 ?_;refine SW.gd 2 ?_;refine SW.dd 3 rfl (λ_=>Ev.cM (k:=1) (.mk rfl) (.mk rfl) iE fc rfl (by omega)) ?_;refine SW.dd 4 rfl (λ_=>Ev.jq (.mk rfl) (show x.args[1]?=some z by rw[hy];rfl) lh trivial fc j5.eq) ?_;refine SW.gd 5 ?_;refine SW.gd 6 ?_;refine SW.slot 162 (iv ((d+1:Nat):Int)) rfl rfl ?_;refine SW.gd 7 ?_;refine SW.t1 0 ?_;refine g3 ?_;refine SW.go ?_;refine SW.t1 8 ?_;refine St.eh (C z (by rw[hy];simp) (d+1) b (mK (dH y) (d+1) b (n+1)).1 (D z (by rw[hy];simp)) (by omega) (by omega) (by omega)) Im (.mk rfl) (.ej rfl rfl rfl) rfl ?_;rintro v164 _ ⟨rfl,rfl⟩;refine St.dQ ?_;refine g2 ?_;refine SW.go ?_;refine SW.t1 9 ?_;refine g3 ?_;refine SW.go ?_;refine SW.dn ?_;refine g4 ?_;refine St.rV [_] [aW e (.cells [iv ((mK (dH z) (d+1) b (mK (dH y) (d+1) b (n+1)).1).1:Nat)].toArray 3 (0,0)),aW bw (.cells [(.func (.func 112) #[] [Value.pointer (some ⟨e,0,none⟩),Value.pointer (some ⟨bw,0,none⟩)].toArray)].toArray g (0,0))] ?_
         rw[f];exact⟨rfl,rfl⟩
     ·rw[tm5 p t m I]at f
      refine g3 ?_;refine St.ee (Ev.nj (jJ j 4 n) rh (.mk rfl) (.au rfl) (dW.aW dW.nil)) ?_;refine g6 ?_;refine St.rV [_] [aW e (.cells [iv ((n+1):Nat)].toArray 3 (0,0)),aW bw (.cells [(.func (.func 112) #[] [Value.pointer (some ⟨e,0,none⟩),Value.pointer (some ⟨bw,0,none⟩)].toArray)].toArray g (0,0))] ?_;rw[f,aC (by decide)];exact⟨rfl,rfl⟩
  all_goals
   refine g4 ?_;refine St.ee (Ev.build (bF.nil) (λw=>jX w)) ?_;refine g4 ?_;refine St.rV [_] [aW e (.cells [iv ((n+1):Nat)].toArray 3 (0,0)),aW bw (.cells [(.func (.func 112) #[] [Value.pointer (some ⟨e,0,none⟩),Value.pointer (some ⟨bw,0,none⟩)].toArray)].toArray g (0,0))] ?_;rw[f];exact⟨rfl,rfl⟩
theorem IE (x:di):(dH x).type=df x.type:=by cases x;rfl
theorem Fy (x:di):(dH x).index=x.index:=by cases x;rfl
theorem rF {a b:Option ig}{s1 s2:ig}{c d:Bool}(h1:c=true→a=some s1)(e:c=false→a=none)(g:d=true→b=some s2)(f:d=false→b=none)
 (h:c=true→d=true→∀p q,s1.args=[p,q]→lZ p s2=true→False):Gf a b=none:=by
 cases c with
 |false=>rw[e rfl];rfl
 |true=>
  cases d with
  |false=>
   rw[f rfl];unfold Gf
   split
   ·contradiction
   ·rfl
  |true=>
   rw[h1 rfl,g rfl]
   refine KR _ _ λs l x i e2 j=> ?_
   cases i;cases j
   rintro ⟨p,q,rfl,k⟩;exact h rfl rfl p q e2 k
theorem Kr {l:List fa}{p q:fa}(h:l=[p,q]):l[0]?=some (l.headD o6):=by rw[h];rfl
section
variable {n:Nat}{F:Fr}{c:Ctx}{H:List ak}{T:Act→World→Prop}
theorem St.SB (l:List fa)[hd:lW (aF ep l) H](k:St n F (Mm c (aB (ep (l.headD o6))::H)) T):St n F (Mm c H) T:=
 St.eZ (ep (l.headD o6)) [aF ep l] (λρ h=>by
  cases l with
  |nil=>exact .mk (x:=o6) (sX kL ρ) (λy hy=>by cases hy)
  |cons p l=>exact h _ (aQ ..) p (aQ ..)) k
end
theorem IJ:∀(x:di) (ctx:List fa) (v:Value) (d:Nat),Qw (dH x) d ctx.length→dI.wf x→ctx.length≤d→dz prog 116 #[cN x,v] ([cm x,sl kL v ctx,aF ep ctx].map aB) (λr H'=>∃(s:fa) (b:Bool),r= .tuple #[aU s,.bool b]∧kL.wf s∧(b=true→xP (dH x) (ctx.map df)=some (df s))∧(b=false→xP (dH x) (ctx.map df)=none)∧H'=[aB (ep s)]):=by
 intro x
 induction x using di.ind
 rename_i x T
 intro ctx v d a hw NW;refine dz.body (args:=[cN x,v]) 101 func116 rfl ntmps116 rfl (λc=> ?_);refine St.cast (H':=[aB (cm x),aB (sl kL v ctx),aB (aF ep ctx)]) rfl ?_;refine go ?_;obtain⟨Z,X,hk⟩:=a.inv;rw[Js]at X
 have hinv:=Ll X
 rw[sb,sc]at hk
 have i:=Tl (dH x) (ctx.map df)
 rw[sc,sb,IE,Fy,aO]at i;refine St.FG x ?_;refine St.wf x.av.1 (λU Us=> ?_);refine St.wf v (λH hcx=> ?_);refine go ?_;refine St.dJ (.mk rfl) rfl (λI=> ?_);refine St.al (λb4=> ?_);refine g17 ?_;refine St.cond _ rfl (λJ=> ?_) (λJ=> ?_)
 focus
  skip
  try simp only[fJ]at J
  rw[aC J]at i;refine g3 ?_;refine St.ee (Ev.iT 2 (.mk rfl) lg trivial iX rfl rfl) ?_;refine St.slot 18 (aU x.type) rfl rfl ?_;refine g7 ?_;refine St.rV [_,_] [aB (ep x.type)] ?_;exact⟨x.type,true,rfl,hw.2.2.2,(λ_=>i),((λj=>by cases j)),rfl⟩
 focus
  skip
  try simp only[fJ]at J
  rw[aA J]at i;refine g6 ?_;refine St.cond _ rfl (λK=> ?_) (λK=> ?_)
  focus
   skip
   try simp only[fJ]at K
   rw[aC K]at i;obtain⟨s,E⟩:=aE (show ctx.length-1-x.index.toNat<ctx.length by omega);refine St.cK ep ctx (x:=s) (ae E) ?_;refine g9 ?_;refine St.ee (Ev.cM (k:=(ctx.length-1-x.index.toNat)) (.mk rfl) (.mk rfl) j2 iX (by omega) (by omega)) ?_;refine St.ee (Ev.jq (.mk rfl) E lg trivial iX j5.eq) ?_;refine g7 ?_;refine St.rV [_,_] [aB (ep s)] ?_;exact⟨s,true,rfl,H s (ae E),(λ_=>by rw[i,bP,E];rfl),((λj=>by cases j)),rfl⟩
  focus
   skip
   try simp only[fJ]at K
   rw[aA K]at i;refine g6 ?_;refine St.cond _ rfl (λB=> ?_) (λB=> ?_)
   focus
    skip
    try simp only[fJ]at B
    rw[aC B]at i;obtain⟨y,hy⟩:=FF (show x.args.length=1 by omega)
    have h1l:x.args.length=1:=by omega
    have o:y∈x.args:=by rw[hy];simp
    have n:=hk (dH y) (eP o)
    rw[aC B]at n;refine St.cK cm x.args (x:=y) o ?_;rw[hy,fN,lI,uR]at i;refine go ?_;refine St.pC [] mixed (λf g=> ?_);refine SW.gd 0 ?_;refine SW.gd 1 ?_;refine SW.gd 2 ?_;refine SW.gd 3 ?_;refine SW.gd 4 ?_;refine SW.dd 5 rfl (λ_=>Ev.clip (.mk rfl) (.mk rfl) (.mk rfl) j2 iX rfl rfl) ?_;refine SW.gd 6 ?_;refine SW.dd 7 rfl (λ_=>Ev.iT 2 (.mk rfl) lg trivial iX rfl rfl) ?_;refine SW.slot 39 (aU x.type) rfl rfl ?_;refine SW.t1 8 ?_;refine St.gX rfl (.au rfl) j2 iX KE rfl rfl (by simp[Value.cells]) rfl rfl (λb40=> ?_);refine g2 ?_;refine SW.go ?_;refine SW.t1 9 ?_;refine St.yS (.mk rfl) (.mk rfl) j2 iX KE ZA (De (p:=λu:Value=>u.oneCell'=true) rfl x.type.av.2) (by omega) (by omega) rfl rfl rfl rfl (λv41 anY=> ?_);refine St.bS v41 kL (ctx++ [x.type]) (by simp[rows];rfl) (by simp) (λu hu=>(List.mem_append.1 hu).elim (H u) (λh=>by rw[List.mem_singleton.1 h];exact hw.2.2.2)) ?_;refine St.tN ep (xs:=ctx) (x:=x.type) ?_;refine g2 ?_;refine SW.go ?_;refine SW.gd 10 ?_;refine SW.dn ?_;refine g5 ?_;refine St.ee (Ev.cM (k:=0) (.mk rfl) (.mk rfl) iE fc rfl (by omega)) ?_;refine St.ee (Ev.jq (.mk rfl) (show x.args[0]?=some y by rw[hy];rfl) lh trivial fc j5.eq) ?_;refine go ?_;refine St.ag (T y o (ctx++ [x.type]) v41 (d+1) (by rw[←cS];exact n) (U y o) (by rw[←cS];omega)) Ip (.aX rfl rfl) rfl ?_;rintro v48 _ ⟨s,F,rfl,L,C,G,rfl⟩;refine St.ao ?_;refine g3 ?_;refine St.al (λb7=> ?_);refine g7 ?_;refine St.ee (Ev.iT 2 (.mk rfl) lg trivial iX rfl rfl) ?_;refine St.slot 52 (aU x.type) rfl rfl ?_;refine go ?_;refine St.gX rfl (.aX rfl rfl) j2 iX KE rfl rfl (by simp[Value.cells]) rfl rfl (λt=> ?_);refine St.bS (.slice (some ⟨t,0,none⟩) 2 2) kL [x.type,s] rfl rfl (De hw.2.2.2 L) ?_;refine St.dN ep ?_;refine St.mU ep (xs:=[]) (x:=s) ?_;refine St.mU ep (xs:=[s]) (x:=x.type) ?_;refine St.u7 [] (.slice (some ⟨t,0,none⟩) 2 2) rfl [x.type,s] ?_;refine St.ee (Ev.build (bF.au rfl) (λw=>EF rfl w)) ?_;refine g8 ?_;refine St.rV [_,_] [aB (ep (.mk [] ⟨(.slice (some ⟨t,0,none⟩) 2 2),rfl⟩ [x.type,s]))] ?_;exact⟨(.mk [] ⟨(.slice (some ⟨t,0,none⟩) 2 2),rfl⟩ [x.type,s]),F,rfl,aP _,(λj=>by rw[i,show xP (dH y) (ctx.map df++ [df x.type])=some (df s) by rw[←C j,cP];rfl,uM];rfl),(λj=>by rw[i,show xP (dH y) (ctx.map df++ [df x.type])=none by rw[←G j,cP];rfl];rfl),rfl⟩
   focus
    skip
    try simp only[fJ]at B
    rw[aA B]at i;obtain⟨y,z,hy⟩:=A1 (show x.args.length=2 by omega)
    have h2l:x.args.length=2:=by omega
    have o:y∈x.args:=by rw[hy];simp
    have A:z∈x.args:=by rw[hy];simp
    have n:=hk (dH y) (eP o)
    have M:=hk (dH z) (eP A)
    rw[aA B]at n M;refine St.cK cm x.args (x:=y) o ?_;refine St.cK cm x.args (x:=z) A ?_;rw[hy,fN,fN,lI,uR,G5]at i;refine go ?_
 all_goals
  refine g6 ?_;refine St.ee (Ev.cM (k:=0) (.mk rfl) (.mk rfl) iE fc rfl (by omega)) ?_;refine St.ee (Ev.jq (.mk rfl) (show x.args[0]?=some y by rw[hy];rfl) lh trivial fc j5.eq) ?_;refine go ?_;refine St.ag (T y o ctx v (d+1) n (U y o) (by omega)) Ip (.aX rfl rfl) rfl ?_;rintro v63 _ ⟨s1,F,rfl,L,C,G,rfl⟩;refine St.ao ?_;refine g3 ?_;refine St.al (λb9=> ?_);refine g8 ?_;refine St.ee (Ev.cM (k:=1) (.mk rfl) (.mk rfl) iE fc rfl (by omega)) ?_;refine St.ee (Ev.jq (.mk rfl) (show x.args[1]?=some z by rw[hy];rfl) lh trivial fc j5.eq) ?_;refine go ?_;refine St.ag (T z A ctx v (d+1) M (U z A) (by omega)) Ip (.aX rfl rfl) rfl ?_;rintro v72 _ ⟨s2,I,rfl,anV,N,Q,rfl⟩;refine St.ao ?_;refine g3 ?_;refine St.al (λYJ=> ?_);refine g6 ?_;refine St.uE s1 ?_;refine St.wf s1.av.1 (λV hpl=> ?_);refine St.SB s1.args ?_;refine St.dc [] mixed (λf g=> ?_);refine SW.gd 0 ?_;refine SW.gd 1 ?_;refine SW.gd 2 ?_;refine SW.split 77 _ rfl (λO=> ?_) (λO=> ?_)
  ·refine SW.gf 3 undef f g rfl rfl rfl (λR a=>by cases a) (by kernel_rfl) rfl ?_
   refine SW.slot 78 undef rfl (cL rfl _) ?_;refine SW.gf 4 undef f g rfl rfl rfl (λR a=>by cases a) (by kernel_rfl) rfl ?_;refine SW.slot 79 undef rfl (cL rfl _) ?_;refine SW.dd 5 rfl (λ_=>Ev.gZ (.mk rfl) rfl (.mk rfl)) ?_;refine SW.gd 6 ?_;refine SW.slot 81 (.bool true) rfl (congrArg Value.bool rfl) ?_;refine SW.gf 7 undef f g rfl rfl rfl (λR a=>by cases a) (by kernel_rfl) rfl ?_;refine SW.slot 82 undef rfl (cL rfl _) ?_;refine SW.gf 8 undef f g rfl rfl rfl (λR a=>by cases a) (by kernel_rfl) rfl ?_;refine SW.slot 83 undef rfl (cL rfl _) ?_;refine SW.gf 9 undef f g rfl rfl rfl (λR a=>by cases a) (by kernel_rfl) rfl ?_;refine SW.slot 84 undef rfl (cL rfl _) ?_;refine SW.gf 10 undef f g rfl rfl rfl (λR a=>by cases a) (by kernel_rfl) rfl ?_;refine SW.slot 85 undef rfl (cL rfl _) ?_;refine SW.dd 11 rfl (λ_=>Ev.gZ (.mk rfl) rfl (.mk rfl)) ?_;refine SW.gd 12 ?_;refine SW.slot 87 (.bool true) rfl (congrArg Value.bool rfl) ?_;refine SW.gf 13 undef f g rfl rfl rfl (λR a=>by cases a) (by kernel_rfl) rfl ?_;refine SW.slot 88 undef rfl (cL rfl _) ?_;refine SW.gf 14 undef f g rfl rfl rfl (λR a=>by cases a) (by kernel_rfl) rfl ?_;refine SW.slot 89 undef rfl (cL rfl _) ?_;refine SW.gf 15 undef f g rfl rfl rfl (λR a=>by cases a) (by kernel_rfl) rfl ?_;refine SW.slot 90 undef rfl (cL rfl _) ?_;refine SW.gf 16 undef f g rfl rfl rfl (λR a=>by cases a) (by kernel_rfl) rfl ?_;refine SW.slot 91 undef rfl (cL rfl _) ?_;refine SW.gf 17 undef f g rfl rfl rfl (λR a=>by cases a) (by kernel_rfl) rfl ?_;refine SW.slot 92 undef rfl (cL rfl _) ?_;refine SW.gf 18 undef f g rfl rfl rfl (λR a=>by cases a) (by kernel_rfl) rfl ?_;refine SW.slot 93 undef rfl (cL rfl _) ?_;refine SW.gf 19 undef f g rfl rfl rfl (λR a=>by cases a) (by kernel_rfl) rfl ?_;refine SW.slot 94 undef rfl (cL rfl _) ?_;refine SW.dd 20 rfl (λ_=>Ev.gZ (.mk rfl) rfl (.mk rfl)) ?_;refine SW.dn ?_;refine go ?_;refine St.cond _ rfl (λm=> ?_) (λm=> ?_)
   ·skip
    have D:F=true→I=true→∀p q,(df s1).args=[p,q]→lZ p (df s2)=true→False:=λe1 _ _ _ _ _=>by rw[e1]at O;cases O
    refine g2 ?_;refine St.ee (Ev.build (bF.nil) (λw=>xU w)) ?_;refine g6 ?_;refine St.fm kL ?_;refine St.dN ep ?_;refine St.u7 [] (.slice none 0 0) rfl [] ?_;refine St.rV [_,_] [aB (ep o6)] ?_;exact⟨o6,false,rfl,aP _,((λj=>by cases j)),(λ_=>by rw[i];exact rF C G N Q D),rfl⟩
   ·skip
    cases m
  ·refine SW.gf 3 _ f g rfl rfl rfl (λR _=>Ev.move (.mk rfl)) (by kernel_rfl) rfl ?_
   refine SW.slot 78 _ rfl (cr rfl _) ?_;refine SW.gf 4 _ f g rfl rfl rfl (λR _=>Ev.not (.mk rfl)) (by kernel_rfl) rfl ?_;refine SW.slot 79 _ rfl (cr rfl _) ?_;refine SW.dd 5 rfl (λ_=>Ev.kQ (.mk rfl) rfl (.mk rfl)) ?_;refine SW.gd 6 ?_;refine SW.split 81 _ rfl (λP=> ?_) (λP=> ?_)
   ·refine SW.gf 7 undef f g rfl rfl rfl (λR a=>by cases a) (by kernel_rfl) rfl ?_
    refine SW.slot 82 undef rfl (cL rfl _) ?_;refine SW.gf 8 undef f g rfl rfl rfl (λR a=>by cases a) (by kernel_rfl) rfl ?_;refine SW.slot 83 undef rfl (cL rfl _) ?_;refine SW.gf 9 undef f g rfl rfl rfl (λR a=>by cases a) (by kernel_rfl) rfl ?_;refine SW.slot 84 undef rfl (cL rfl _) ?_;refine SW.gf 10 undef f g rfl rfl rfl (λR a=>by cases a) (by kernel_rfl) rfl ?_;refine SW.slot 85 undef rfl (cL rfl _) ?_;refine SW.dd 11 rfl (λ_=>Ev.gZ (.mk rfl) rfl (.mk rfl)) ?_;refine SW.gd 12 ?_;refine SW.slot 87 (.bool true) rfl (congrArg Value.bool rfl) ?_;refine SW.gf 13 undef f g rfl rfl rfl (λR a=>by cases a) (by kernel_rfl) rfl ?_;refine SW.slot 88 undef rfl (cL rfl _) ?_;refine SW.gf 14 undef f g rfl rfl rfl (λR a=>by cases a) (by kernel_rfl) rfl ?_;refine SW.slot 89 undef rfl (cL rfl _) ?_;refine SW.gf 15 undef f g rfl rfl rfl (λR a=>by cases a) (by kernel_rfl) rfl ?_;refine SW.slot 90 undef rfl (cL rfl _) ?_;refine SW.gf 16 undef f g rfl rfl rfl (λR a=>by cases a) (by kernel_rfl) rfl ?_;refine SW.slot 91 undef rfl (cL rfl _) ?_;refine SW.gf 17 undef f g rfl rfl rfl (λR a=>by cases a) (by kernel_rfl) rfl ?_;refine SW.slot 92 undef rfl (cL rfl _) ?_;refine SW.gf 18 undef f g rfl rfl rfl (λR a=>by cases a) (by kernel_rfl) rfl ?_;refine SW.slot 93 undef rfl (cL rfl _) ?_;refine SW.gf 19 undef f g rfl rfl rfl (λR a=>by cases a) (by kernel_rfl) rfl ?_;refine SW.slot 94 undef rfl (cL rfl _) ?_;refine SW.dd 20 rfl (λ_=>Ev.gZ (.mk rfl) rfl (.mk rfl)) ?_;refine SW.dn ?_;refine go ?_;refine St.cond _ rfl (λm=> ?_) (λm=> ?_)
    ·skip
     have D:F=true→I=true→∀p q,(df s1).args=[p,q]→lZ p (df s2)=true→False:=λ_ e2 _ _ _ _=>by rw[e2]at P;cases P
     refine g2 ?_;refine St.ee (Ev.build (bF.nil) (λw=>xU w)) ?_;refine g6 ?_;refine St.fm kL ?_;refine St.dN ep ?_;refine St.u7 [] (.slice none 0 0) rfl [] ?_;refine St.rV [_,_] [aB (ep o6)] ?_;exact⟨o6,false,rfl,aP _,((λj=>by cases j)),(λ_=>by rw[i];exact rF C G N Q D),rfl⟩
    ·skip
     cases m
   ·refine SW.gf 7 _ f g rfl rfl rfl (λR _=>Ev.da (.mk rfl) ly) (by kernel_rfl) rfl ?_
    refine SW.slot 82 _ rfl (cr rfl _) ?_;refine SW.gf 8 _ f g rfl rfl rfl (λR _=>Ev.ke (.mk rfl) j2 trivial (by rfl)) (by kernel_rfl) rfl ?_;refine SW.slot 83 _ rfl (cr rfl _) ?_;refine SW.gf 9 _ f g rfl rfl rfl (λR _=>Ev.fk (.mk rfl) j2) (by kernel_rfl) rfl ?_;refine SW.slot 84 _ rfl (cr rfl _) ?_;refine SW.gf 10 _ f g rfl rfl rfl (λR _=>Ev.ne0) (by kernel_rfl) rfl ?_;refine SW.slot 85 _ rfl (cr rfl _) ?_;refine SW.dd 11 rfl (λ_=>Ev.kQ (.mk rfl) rfl (.mk rfl)) ?_;refine SW.gd 12 ?_;refine SW.split 87 _ rfl (λS=> ?_) (λS=> ?_)
    ·refine SW.gf 13 undef f g rfl rfl rfl (λR a=>by cases a) (by kernel_rfl) rfl ?_
     refine SW.slot 88 undef rfl (cL rfl _) ?_;refine SW.gf 14 undef f g rfl rfl rfl (λR a=>by cases a) (by kernel_rfl) rfl ?_;refine SW.slot 89 undef rfl (cL rfl _) ?_;refine SW.gf 15 undef f g rfl rfl rfl (λR a=>by cases a) (by kernel_rfl) rfl ?_;refine SW.slot 90 undef rfl (cL rfl _) ?_;refine SW.gf 16 undef f g rfl rfl rfl (λR a=>by cases a) (by kernel_rfl) rfl ?_;refine SW.slot 91 undef rfl (cL rfl _) ?_;refine SW.gf 17 undef f g rfl rfl rfl (λR a=>by cases a) (by kernel_rfl) rfl ?_;refine SW.slot 92 undef rfl (cL rfl _) ?_;refine SW.gf 18 undef f g rfl rfl rfl (λR a=>by cases a) (by kernel_rfl) rfl ?_;refine SW.slot 93 undef rfl (cL rfl _) ?_;refine SW.gf 19 undef f g rfl rfl rfl (λR a=>by cases a) (by kernel_rfl) rfl ?_;refine SW.slot 94 undef rfl (cL rfl _) ?_;refine SW.dd 20 rfl (λ_=>Ev.gZ (.mk rfl) rfl (.mk rfl)) ?_;refine SW.dn ?_;refine go ?_;refine St.cond _ rfl (λm=> ?_) (λm=> ?_)
     ·skip
      simp only[fJ]at S
      have D:F=true→I=true→∀p q,(df s1).args=[p,q]→lZ p (df s2)=true→False:=λ_ _ p q e _=>by rw[km]at e;have Y:=congrArg List.length e;rw[aO]at Y;exact S (by rw[Y];rfl)
      refine g2 ?_;refine St.ee (Ev.build (bF.nil) (λw=>xU w)) ?_;refine g6 ?_;refine St.fm kL ?_;refine St.dN ep ?_;refine St.u7 [] (.slice none 0 0) rfl [] ?_;refine St.rV [_,_] [aB (ep o6)] ?_;exact⟨o6,false,rfl,aP _,((λj=>by cases j)),(λ_=>by rw[i];exact rF C G N Q D),rfl⟩
     ·skip
      cases m
    ·have W:=S
     simp only[fJ]at W
     have hl2:s1.args.length=2:=by omega
     obtain⟨p,q,l⟩:=A1 hl2;refine SW.gf 13 _ f g rfl rfl rfl (λR _=>Ev.da (.mk rfl) ly) (by kernel_rfl) rfl ?_;refine SW.slot 88 _ rfl (cr rfl _) ?_;refine SW.gf 14 _ f g rfl rfl rfl (λR _=>Ev.ke (.mk rfl) j2 trivial (by rfl)) (by kernel_rfl) rfl ?_;refine SW.slot 89 _ rfl (cr rfl _) ?_;refine SW.gf 15 _ f g rfl rfl rfl (λR _=>Ev.cM (k:=0) (.mk rfl) (.mk rfl) j2 iX rfl (by omega)) (by kernel_rfl) rfl ?_;refine SW.slot 90 _ rfl (cr rfl _) ?_;refine SW.gf 16 _ f g rfl rfl rfl (λR _=>Ev.jq (.mk rfl) (Kr l) lg trivial iX j5.eq) (by kernel_rfl) rfl ?_;refine SW.slot 91 _ rfl (cr rfl _) ?_;refine SW.gf 17 _ f g rfl rfl rfl (λR _=>Ev.XC (.mk rfl) lg trivial (by exact iX)) (by kernel_rfl) rfl ?_;refine SW.slot 92 _ rfl (cr rfl _) ?_;refine SW.gf 18 _ f g rfl rfl rfl (λR _=>Ev.call (LY (s1.args.headD o6) s2) US (.aX rfl rfl)) (by kernel_rfl) rfl ?_;refine SW.slot 93 _ rfl (cr rfl _) ?_;refine SW.gf 19 _ f g rfl rfl rfl (λR _=>Ev.not (.mk rfl)) (by kernel_rfl) rfl ?_;refine SW.slot 94 _ rfl (cr rfl _) ?_;refine SW.dd 20 rfl (λ_=>Ev.kQ (.mk rfl) rfl (.mk rfl)) ?_;refine SW.dn ?_;refine go ?_;refine St.cond _ rfl (λm=> ?_) (λm=> ?_)
     ·skip
      simp only[fJ]at m
      have D:F=true→I=true→∀p q,(df s1).args=[p,q]→lZ p (df s2)=true→False:=λ_ _ p1 q1 e E=>by rw[km,l]at e;cases e;rw[l]at m;exact absurd (m.symm.trans E) (by decide)
      refine g2 ?_;refine St.ee (Ev.build (bF.nil) (λw=>xU w)) ?_;refine g6 ?_;refine St.fm kL ?_;refine St.dN ep ?_;refine St.u7 [] (.slice none 0 0) rfl [] ?_;refine St.rV [_,_] [aB (ep o6)] ?_;exact⟨o6,false,rfl,aP _,((λj=>by cases j)),(λ_=>by rw[i];exact rF C G N Q D),rfl⟩
     ·skip
      simp only[fJ]at m O P
      rw[l]at m;refine St.cK ep s1.args (x:=q) (by rw[l];simp) ?_;refine g6 ?_;refine St.ee (Ev.cM (k:=1) (.mk rfl) (.mk rfl) j2 iX rfl (by omega)) ?_;refine St.ee (Ev.jq (.mk rfl) (show s1.args[1]?=some q by rw[l];rfl) lg trivial iX j5.eq) ?_;refine g5 ?_;refine St.rV [_,_] [aB (ep q)] ?_;exact⟨q,true,rfl,V q (by rw[l];simp),(λ_=>by rw[i,C O,N P];exact KS (by rw[km,l];rfl) m),((λj=>by cases j)),rfl⟩
theorem Lj {t:jI}(h:(mK t 1 0 0).2.1≠0):qY t=(mK t 1 0 0).2:=by unfold qY;rw[aC h]
theorem IG {t:jI}(h:¬(mK t 1 0 0).2.1≠0)(a:xP t []=none):qY t=(12,-1):=by unfold qY;rw[aA h,a];rfl
theorem Pg {t:jI}{s:ig}(h:¬(mK t 1 0 0).2.1≠0)(a:xP t []=some s):qY t=(0,0):=by unfold qY;rw[aA h,a,aA (by simp)]
theorem uP (x:di)(hw:dI.wf x):eC prog 82 #[cN x] [cm x] (fv (qY (dH x))):=by
 refine eC.nJ (args:=[cN x]) 25 func82 rfl ntmps82 rfl (λc=> ?_);refine g2 ?_;refine St.dJ (.mk rfl) rfl (λk=> ?_);refine St.al (λl=> ?_);refine g4 ?_;refine St.al (λg=> ?_);refine St.cH (.mk rfl) (.mk rfl) dK rfl (by rfl) ?_;refine St.mP g (L':=[iv ((0:Nat):Int)]) rfl ?_;refine g4 ?_;refine St.al (λh=> ?_);refine g4 ?_;refine St.ee (Ev.func (.aX rfl rfl)) ?_;refine St.cH (.mk rfl) (.mk rfl) afC rfl (by rfl) ?_;refine g4 ?_;refine St.dup (cm x) ?_;refine g3 ?_;refine St.eh (B3 g h 225 x 1 0 0 hw (by omega) (by omega) (by omega)) Im (.mk rfl) (.ej rfl rfl rfl) rfl ?_;rintro v11 _ ⟨rfl,rfl⟩;refine St.dQ ?_;refine St.al (λm=> ?_);refine g10 ?_;refine St.cond _ rfl (λd=> ?_) (λd=> ?_)
 ·skip
  have a:(mK (dH x) 1 0 0).2.1≠0:=by simpa using d
  refine g8 ?_;refine St.rV [_] [] ?_;exact congrArg fv (Lj a).symm
 ·skip
  have a:¬(mK (dH x) 1 0 0).2.1≠0:=by simpa using d
  refine St.fm kL ?_;refine St.dN ep ?_;refine g6 ?_;refine St.ag (IJ x [] (.slice none 0 0) 1 (Po _ _ _ _ (ez.1 a)) hw (aP _)) Ip (.aX rfl rfl) rfl ?_;rintro i _ ⟨s,b,rfl,n,j,e,rfl⟩;refine St.ao ?_;refine g3 ?_;refine St.al (λo=> ?_);refine g10 ?_;refine St.cq (λf=> ?_) (λf=> ?_)
  ·refine g2 ?_
   refine St.ee (Ev.build (bF.aX rfl rfl) (λw=>gi rfl rfl w)) ?_;refine g5 ?_;refine St.rV [_] [] ?_;exact congrArg fv (IG a (e (by simpa using f))).symm
  ·refine g4 ?_
   refine St.ee (Ev.build (bF.nil) (λw=>jX w)) ?_;refine g4 ?_;refine St.rV [_] [] ?_;exact congrArg fv (Pg a (j (by simpa using f))).symm
theorem wC:∀(l:List ek) (U:List Nat),(nZ U l).length=U.length+l.length
 | [],U=>rfl
 |t::l,U=>by rw[nZ,wC l];simp;omega
theorem uV (l:List ek):(B5 l).length=l.length:=by unfold B5;rw[wC];simp
theorem pN:∀(l m:List ek) (U:List Nat),nZ U (l++m)=nZ (nZ U l) m
 | [],_,_=>rfl
 |t::l,m,U=>by rw[wj,nZ,nZ,pN l m]
theorem C5:∀(l:List ek) (U:List Nat) (i:Nat),i<U.length→(nZ U l)[i]?=U[i]?
 | [],_,_,_=>rfl
 |t::l,U,i,h=>by rw[nZ,C5 l _ i (by simp;omega),oc h]
theorem QA (l:List ek)(t:ek):B5 (l++ [t])=B5 l++ [Q3 (B5 l) l.length t.2]:=by
 unfold B5;rw[pN,nZ,nZ,wC];simp
theorem A7 (l:List ek)(k i:Nat)(h:i<k)(hk:k≤l.length):(B5 (l.take k)).getD i 0=(B5 l).getD i 0:=by
 have e:B5 l=nZ (B5 (l.take k)) (l.drop k):=by unfold B5;rw[←pN,qk]
 rw[e,ar,ar,C5 _ _ _ (by rw[uV,eX];omega)]
theorem Q9 {l:List ek}{k:Nat}{t:ek}(h:l[k]?=some t):(B5 l).getD k 0=Q3 (B5 (l.take k)) k t.2:=by
 have hk:=ah h
 rw[←A7 l (k+1) k (pP _) hk,aa h,QA]
 have e:(l.take k).length=k:=by rw[eX];omega
 rw[ar,lp (by rw[uV,e];exact aR _),uV,e,ff];rfl
theorem J4 (g:Int→Nat)(j:Nat):∀(ps:List Int) (u:Nat),(ps.foldl (λu p=>u|||g p) u).testBit j=(u.testBit j||ps.any λp=>(g p).testBit j)
 | [],u=>by simp
 |p::ps,u=>by rw[s6,J4 g j ps,Nat.testBit_or,List.any_cons,Bool.or_assoc]
theorem Q4 (U:List Nat)(i:Nat)(ps:List Int)(j:Nat):(Q3 U i ps).testBit j=(decide (i=j)||ps.any λp=>(U.getD p.toNat 0).testBit j):=by
 unfold Q3;rw[J4,Nat.testBit_two_pow]
structure im (l:List ek):Prop where
 len:l.length≤60
 par:∀(i:Nat) (t:ek),l[i]?=some t→∀p∈t.2,0≤p∧p<i
theorem JQ {i:Int}:∀{ps:List Int} {last:Int},(rP i last ps).1=0→rP i last ps=(0,0)∧∀p∈ps,0≤p∧p<i
 | [],_,_=>⟨rfl,λp h=>by cases h⟩
 |p::ps,last,h=>by
  rw[rP]at h⊢
  by_cases h1:p<0∨i≤p
  ·rw[aC h1]at h;exact absurd h (by simp)
  ·rw[aA h1]at h⊢
   by_cases b:p≤last
   ·rw[aC b]at h;exact absurd h (by simp)
   ·rw[aA b]at h⊢
    obtain⟨e,k⟩:=JQ h;refine⟨e,λq a=> ?_⟩
    rcases cJ.1 a with rfl|a
    ·omega
    ·exact k q a
theorem Bv:∀{l:List ek} {known:List ax} {i:Nat},(lV known i l).1=0→lV known i l=(0,0)∧∀(k:Nat) (t:ek),l[k]?=some t→∀p∈t.2,0≤p∧p<(i+k:Nat)
 | [],_,_,_=>⟨rfl,λk t h=>by simp at h⟩
 |t::l,known,i,h=>by
  rw[lV]at h⊢
  by_cases h1:isName t.1=false
  ·rw[aC h1]at h;exact absurd h (by simp)
  rw[aA h1]at h⊢
  by_cases c:t.1∈known
  ·rw[aC c]at h;exact absurd h (by simp)
  rw[aA c]at h⊢
  by_cases d:decide (i=0)≠decide (t.2.length=0)
  ·rw[aC d]at h;exact absurd h (by simp)
  rw[aA d]at h⊢
  by_cases a:(rP i (-1) t.2).1≠0
  ·rw[aC a]at h;exact absurd h a
  rw[aA a]at h⊢;obtain⟨e,k⟩:=Bv h;refine⟨e,λj u b=> ?_⟩
  cases j with
  |zero=>
   simp only[List.getElem?_cons_zero,Option.some.injEq]at b
   subst b;intro p hp
   have:=(JQ (ez.1 a)).2 p hp
   omega
  |succ j=>
   rw[s7]at b;intro p hp
   have:=k j u b p hp
   omega
theorem IH {l:List ek}(h:(B4 l).1=0):B4 l=(0,0)∧0<l.length∧im l:=by
 unfold B4 at h⊢
 by_cases h1:l.length=0∨60<l.length
 ·rw[aC h1]at h;exact absurd h (by simp)
 ·rw[aA h1]at h⊢
  obtain⟨e,k⟩:=Bv h;refine⟨e,by omega,by omega,λi t a p hp=> ?_⟩
  have:=k i t a p hp
  omega
section
variable {l:List ek}
theorem Te {i:Nat}(a:l.length≤i)(j:Nat):iD l i j=false:=by
 unfold iD;rw[ar,ib (by rw[uV];exact a)];exact Nat.zero_testBit _
theorem sub_lt {i j:Nat}(h:iD l i j=true):i<l.length:=by
 rcases eO i l.length with k|k
 ·exact k
 ·rw[Te k]at h;cases h
theorem qU (b:im l){i:Nat}{t:ek}(a:l[i]?=some t)(j:Nat):iD l i j=(decide (i=j)||t.2.any λp=>iD l p.toNat j):=by
 show((B5 l).getD i 0).testBit j=_
 rw[Q9 a,Q4]
 congr 1
 rw[B7,nb,nb]
 have e:∀p∈t.2,(B5 (l.take i)).getD p.toNat 0=(B5 l).getD p.toNat 0:=λp hp=>by
  have:=b.par i t a p hp
  exact A7 l i _ (by omega) (Nat.le_of_lt (ah a))
 constructor
 ·rintro ⟨p,hp,h⟩;rw[e p hp]at h;exact⟨p,hp,h⟩
 ·rintro ⟨p,hp,h⟩;exact⟨p,hp,by rw[e p hp];exact h⟩
theorem sub_self (a:im l){i:Nat}(b:i<l.length):iD l i i=true:=by
 rw[qU a (bU b)];simp
theorem vo (b:im l){i j:Nat}(h:iD l i j=true):i=j∨∃t p,l[i]?=some t∧p∈t.2∧0≤p∧p<i∧iD l p.toNat j=true:=by
 have a:=sub_lt h
 rw[qU b (bU a)]at h
 simp only[Bool.or_eq_true,decide_eq_true_eq,List.any_eq_true]at h
 rcases h with h|⟨p,hp,h⟩
 ·exact .inl h
 ·have:=b.par i _ (bU a) p hp
  exact .inr ⟨_,p,bU a,hp,this.1,this.2,h⟩
theorem sub_le (a:im l):∀{i j:Nat},iD l i j=true→j≤i:=by
 intro i
 induction i using Nat.strongRecOn with
 |ind i b=>
  intro j h
  rcases vo a h with rfl|⟨t,p,_,_,d,h1,c⟩
  ·exact aR _
  ·have:=b p.toNat (by omega) c
   omega
theorem vp (a:im l):∀{i j k:Nat},iD l i j=true→iD l j k=true→iD l i k=true:=by
 intro i
 induction i using Nat.strongRecOn with
 |ind i c=>
  intro j k h1 b
  rcases vo a h1 with rfl|⟨t,p,ht,hp,e,f,d⟩
  ·exact b
  ·have:=c p.toNat (by omega) d b
   rw[qU a ht]
   simp only[Bool.or_eq_true,List.any_eq_true]
   exact .inr ⟨p,hp,this⟩
theorem PZ (a:im l):∀{i j:Nat},iD l i j=true→i≠j→∃z t,iD l i z=true∧l[z]?=some t∧(j:Int)∈t.2∧j<z:=by
 intro i
 induction i using Nat.strongRecOn with
 |ind i b=>
  intro j h c
  rcases vo a h with e|⟨t,p,ht,hp,o,q,d⟩
  ·exact absurd e c
  ·by_cases e:p.toNat=j
   ·have f:p=(j:Int):=by omega
    subst f;exact⟨i,t,sub_self a (ah ht),ht,hp,by omega⟩
   ·obtain⟨z,u,g,k,m,n⟩:=b p.toNat (by omega) d e
    refine⟨z,u,?_,k,m,n⟩;rw[qU a ht]
    simp only[Bool.or_eq_true,List.any_eq_true]
    exact .inr ⟨p,hp,g⟩
structure yI (l:List ek)(a i:Nat)(M:List Bool):Prop where
 len:M.length=l.length
 snd:∀x,M[x]?=some true→iD l a x=true
 top:M[a]?=some true
 cls:∀(y:Nat) (t:ek),i<y→M[y]?=some true→l[y]?=some t→∀p∈t.2,M[p.toNat]?=some true
theorem yI.start (c:im l){a:Nat}(b:a<l.length):yI l a a ((List.replicate l.length false).set a true):=by
 refine⟨by simp,λx hx=> ?_,by rw[List.getElem?_set_self (by simp;exact b)],λy t hy hm _=> ?_⟩
 ·by_cases e:a=x
  ·subst e;exact sub_self c b
  ·rw[ic e,s8]at hx
   split at hx<;>simp at hx
 ·rw[ic (by omega),s8]at hm
  split at hm<;>simp at hm
theorem yI.done (c:im l){a b:Nat}{M:List Bool}(h:yI l a b M):∀(n y:Nat),a-y=n→b≤y→iD l a y=true→M[y]?=some true:=by
 intro n
 induction n using Nat.strongRecOn with
 |ind n d=>
  intro y j hy f
  by_cases e:a=y
  ·subst e;exact h.top
  ·obtain⟨z,t,h1,g,i,k⟩:=PZ c f e
   have hz:=sub_le c h1
   have:=d (a-z) (by omega) z rfl (by omega) h1
   have:=h.cls z t (by omega) this g _ i
   simpa using this
theorem yI.fin (d:im l){a b:Nat}{M:List Bool}(h:yI l a b M)(f:b<l.length):M[b]?=some (iD l a b):=by
 cases e:iD l a b with
 |true=>exact h.done d _ b rfl (aR _) e
 |false=>
  have c:b<M.length:=by rw[h.len];exact f
  rw[bU c]
  cases e2:M[b]with
  |false=>rfl
  |true=>
   have:=h.snd b (by rw[bU c,e2])
   rw[e]at this;cases this
theorem yI.skip {a i:Nat}{M:List Bool}(h:yI l a (i+1) M)(hm:M[i+1]?≠some true):yI l a i M:=
 ⟨h.len,h.snd,h.top,λy t hy b=>by
  by_cases e:y=i+1
  ·subst e;exact absurd b hm
  ·exact h.cls y t (by omega) b⟩
structure MC (l:List ek)(a i:Nat)(t:ek)(k:Nat)(M:List Bool):Prop where
 ok:yI l a i M
 at_:M[i]?=some true
 upto:∀p∈t.2.take k,M[p.toNat]?=some true
theorem MC.step (c:im l){a i k:Nat}{t:ek}{M:List Bool}{p:Int}(h:MC l a i t k M)(d:l[i]?=some t)(hp:t.2[k]?=some p):MC l a i t (k+1) (M.set p.toNat true):=by
 have f:=c.par i t d p (ae hp)
 have g:=ah d
 have mono:∀x,M[x]?=some true→(M.set p.toNat true)[x]?=some true:=λx hx=>by
  by_cases e:p.toNat=x
  ·subst e;rw[fV (ah hx)]
  ·rw[ic e];exact hx
 refine⟨⟨by rw[cn];exact h.ok.len,λx hx=> ?_,mono _ h.ok.top,λy u hy hm hu q b=> ?_⟩,mono _ h.at_,λq b=> ?_⟩
 ·by_cases e:p.toNat=x
  ·subst e
   refine vp c (h.ok.snd i h.at_) ?_;rw[qU c d]
   simp only[Bool.or_eq_true,List.any_eq_true]
   exact .inr ⟨p,ae hp,sub_self c (by omega)⟩
  ·rw[ic e]at hx;exact h.ok.snd x hx
 ·rw[ic (by omega)]at hm
  exact mono _ (h.ok.cls y u hy hm hu q b)
 ·rw[aa hp]at b
  rcases cD.1 b with b|b
  ·exact mono _ (h.upto q b)
  ·rw[bO.1 b,fV (by rw[h.ok.len];omega)]
theorem MC.done {a i:Nat}{t:ek}{M:List Bool}(h:MC l a (i+1) t t.2.length M)(c:l[i+1]?=some t):yI l a i M:=
 ⟨h.ok.len,h.ok.snd,h.ok.top,λy u hy hm hu q b=>by
  by_cases e:y=i+1
  ·subst e
   rw[c]at hu;cases hu
   exact h.upto q (by rw[kH];exact b)
  ·exact h.ok.cls y u (by omega) hm hu q b⟩
end
theorem G4 {l:List ek}{k:Nat}{t:ek}(ht:l[k]?=some t)(known:List ax):lV known k (l.drop k)=if isName t.1=false then(10,(k:Int))else if t.1∈known then(7,(k:Int))else if decide (k=0)≠decide (t.2.length=0)then(5,(k:Int))
 else if(rP k (-1) t.2).1≠0 then rP k (-1) t.2 else lV (known++ [t.1]) (k+1) (l.drop (k+1)):=by rw[bN ht,lV]
theorem II {l:List ek}{k:Nat}(h:l.length≤k)(known:List ax):lV known k (l.drop k)=(0,0):=by rw[j4 h,lV]
theorem LM {i z p:Int}{ps:List Int}{q:Nat}(hp:ps[q]?=some p):rP i z (ps.drop q)=if p<0∨i≤p then(3,i)else if p≤z then(13,i)else rP i p (ps.drop (q+1)):=by rw[bN hp,rP]
theorem Og {i z:Int}{ps:List Int}{q:Nat}(h:ps.length≤q):rP i z (ps.drop q)=(0,0):=by rw[j4 h,rP]
def KJ (m:List (ax×Value))(known:List ax):Prop:=∀s,(qN m s).isSome=decide (s∈known)
theorem KJ.nil:KJ [] []:=λs=>by simp[qN]
theorem KJ.snoc {m:List (ax×Value)}{known:List ax}(h:KJ m known)(s:ax)(v:Value):KJ (l9 m s v) (known++ [s]):=λa=>by
 rw[Ey]
 by_cases e:a=s
 ·subst e;simp
 ·rw[aA e,h a,decide_eq_decide];simp[e]
theorem gT {α β:Type}(f:α→β){l:List α}{k:Nat}{x:α}(h:l[k]?=some x):(l.take (k+1)).map f=(l.take k).map f++ [f x]:=by rw[aa h,cP];rfl
theorem Gc (u:Value)(ts:List re):eC prog 79 #[u] [sl n5 u ts,aF ry ts] (fv (B4 (ts.map dG))):=by
 refine eC.nK (args:=[u]) 82 func79 rfl ntmps79 rfl (λc=> ?_);refine go ?_;refine St.wf u (λE J=> ?_);refine go ?_;refine St.al (λB=> ?_);refine g9 ?_;refine St.gf _ rfl rfl (λb=>Ev.move (.mk rfl)) rfl ?_;refine St.gf _ rfl rfl (λb=>Ev.fk (ai.gv rfl b) vy) rfl ?_;refine St.gf _ rfl rfl (λb=>Ev.gtr (ai.gv rfl b) (.mk rfl)) rfl ?_;refine g3 ?_;refine St.cq (λj=> ?_) (λj=> ?_)
 ·have n:B4 (ts.map dG)=(2,-1):=by unfold B4;rw[aC (by rw[aO];omega)]
  refine g2 ?_;refine St.ee (Ev.call (cR 2 (-1)) yb (.aX rfl rfl)) ?_;refine g5 ?_;refine St.rV [_] [] ?_;exact congrArg fv n.symm
 ·have n:B4 (ts.map dG)=lV [] 0 (ts.map dG):=by unfold B4;rw[aA (by rw[aO];omega)]
  refine g4 ?_;refine St.makeMap mkStr rfl (λf=> ?_);refine g12 ?_;refine St.tn (ι:=Nat) (κ:=List (ax×Value)) (λk m T=>(23,iv k)::T) (λk m=>[aW f (eU mkStr m),aW B (.cells [iv 0,iv 0].toArray 35 (0,0)),aB (sl n5 u ts),aB (aF ry ts)]) (λk m=>k≤ts.length∧B4 (ts.map dG)=lV ((ts.take k).map re.name) k ((ts.map dG).drop k)∧KJ m ((ts.take k).map re.name)) (λk m=>ts.length-k) 0 [] (aD.cons 2 rfl (aD.cons 3 rfl (aD.cons 21 rfl (aD.cons 22 rfl aD.nil)))) ⟨aP _,n,KJ.nil⟩ ?_;rintro k m ⟨hk,o,C⟩;refine g6 ?_;refine St.cq (λF=> ?_) (λF=> ?_)
  ·obtain⟨t,ht⟩:=aE (show k<ts.length by omega)
   have D:=ae ht
   have a:=G4 (l:=ts.map dG) (k:=k) (t:=dG t) (by rw[bP,ht];rfl) ((ts.take k).map re.name)
   rw[←o]at a
   have G:t.name.length≤9223372036854775807:=by have:=E t D;simp only[n5,nD]at this;omega
   refine St.cK ry ts (x:=t) D ?_;refine St.eZ (sl aJ t.pv.1 t.parents) [ry t] (λρ h=>h _ (aQ ..)) ?_;refine St.wf t.pv.1 (λH K=> ?_);refine g8 ?_;refine St.ee (Ev.jq (.mk rfl) ht Jw trivial Bq j5.eq) ?_;refine St.al (λL=> ?_);refine g9 ?_;refine St.ee (Ev.call (qn t.name G) RG (.au rfl)) ?_;refine g3 ?_;refine St.cq (λr=> ?_) (λr=> ?_)
   ·rw[aC (show isName (dG t).1=false from(by simpa using r:isName t.name=false))]at a
    refine g3 ?_;refine St.ee (Ev.call (cR 10 k) yb (.aX rfl rfl)) ?_;refine g10 ?_;refine St.rV [_] [] ?_;exact congrArg fv a.symm
   ·rw[aA (show ¬isName (dG t).1=false from(by simpa using r:¬isName t.name=false))]at a
    refine g8 ?_;refine St.ee (Ev.tq mkStr (k:=t.name) (.mk rfl) (.mk rfl) pZ (by exact xQ) eS) ?_;refine g3 ?_;refine St.slot 40 (.bool (decide (t.name∈(ts.take k).map re.name))) rfl (congrArg Value.bool (C t.name)) ?_;refine g9 ?_;refine St.cq (λs=> ?_) (λs=> ?_)
    ·rw[aC (show(dG t).1∈(ts.take k).map re.name from s)]at a
     refine g3 ?_;refine St.ee (Ev.call (cR 7 k) yb (.aX rfl rfl)) ?_;refine g10 ?_;refine St.rV [_] [] ?_;exact congrArg fv a.symm
    ·rw[aA (show ¬(dG t).1∈(ts.take k).map re.name from s)]at a
     refine g8 ?_;refine St.mapUpdate mkStr (k:=t.name) (.mk rfl) (.mk rfl) (.mk rfl) pZ (by exact xQ) ?_;refine g11 ?_;refine St.ee (Ev.Ij (.mk rfl) (.mk rfl) IL) ?_;refine g2 ?_;refine St.cond _ rfl (λv=> ?_) (λv=> ?_)
     ·skip
      have d:decide (k=0)≠decide (t.parents.length=0):=by simpa using v
      rw[aC (show decide (k=0)≠decide ((dG t).2.length=0)from d)]at a;refine g3 ?_;refine St.ee (Ev.call (cR 5 k) yb (.aX rfl rfl)) ?_;refine g10 ?_;refine St.rV [_] [] ?_;exact congrArg fv a.symm
     ·skip
      have d:¬decide (k=0)≠decide (t.parents.length=0):=by simpa using v
      rw[aA (show ¬decide (k=0)≠decide ((dG t).2.length=0)from d)]at a;refine g16 ?_;refine St.tn (ι:=Nat) (κ:=Int) (λq z T=>(60,iv q)::(8,iv z)::T) (λq z=>[aW f (eU mkStr (l9 m t.name (iv k))),aW B (.cells [iv 0,iv 0].toArray 35 (0,0)),aB (sl aJ t.pv.1 t.parents),aB (sl n5 u ts),aB (aF ry ts)]) (λq z=>q≤t.parents.length∧rP k (-1) (dG t).2=rP k z (t.parents.drop q)) (λq z=>t.parents.length-q) 0 (-1) (aD.cons 2 rfl (aD.cons 3 rfl (aD.cons 4 rfl (aD.cons 21 rfl (aD.cons 22 rfl (aD.cons 23 rfl (aD.cons 58 rfl (aD.cons 59 rfl aD.nil)))))))) ⟨aP _,rfl⟩ ?_;rintro q z ⟨M,g⟩;refine g6 ?_;refine St.cq (λy=> ?_) (λy=> ?_)
      ·obtain⟨p,hp⟩:=aE (show q<t.parents.length by omega)
       have e:=LM (i:=k) (z:=z) hp
       refine g17 ?_;refine St.gf _ rfl rfl (λb=>Ev.move (.mk rfl)) rfl ?_;refine St.gf _ rfl rfl (λb=>Ev.move (.mk rfl)) rfl ?_;refine St.gf _ rfl rfl (λb=>Ev.geq (ai.gv rfl b) (ai.gv rfl b)) rfl ?_;refine g3 ?_;refine St.cq (λI=> ?_) (λI=> ?_)
       ·rw[aC (by omega)]at e
        rw[g,e,aC (by show(3:Int)≠0;decide)]at a;refine g3 ?_;refine St.ee (Ev.call (cR 3 k) yb (.aX rfl rfl)) ?_;refine g14 ?_;refine St.rV [_] [] ?_;exact congrArg fv a.symm
       ·rw[aA (by omega)]at e
        refine g10 ?_;refine St.cq (λA=> ?_) (λA=> ?_)
        ·rw[aC (by omega)]at e
         rw[g,e,aC (by show(13:Int)≠0;decide)]at a;refine g3 ?_;refine St.ee (Ev.call (cR 13 k) yb (.aX rfl rfl)) ?_;refine g14 ?_;refine St.rV [_] [] ?_;exact congrArg fv a.symm
        ·rw[aA (by omega)]at e
         refine g13 ?_;refine St.uk (q+1) p ⟨by omega,by rw[g,e]⟩
      ·rw[Og (by omega)]at g
       rw[aA (by rw[g];decide)]at a;refine g11 ?_;refine St.uk (k+1) (l9 m t.name (iv k)) ⟨by omega,by rw[a,gT re.name ht];rfl,by rw[gT re.name ht];exact C.snoc _ _⟩
  ·rw[II (by rw[aO];omega)]at o
   refine g7 ?_;refine St.ee (Ev.build (bF.nil) (λw=>jX w)) ?_;refine g4 ?_;refine St.rV [_] [] ?_;exact congrArg fv o.symm
def K3 (T:List ek)(i:Nat):Nat:=(B5 T).getD i 0
def Y5 (T:List ek)(k:Nat)(ps:List Int):Nat:=ps.foldl (λu p=>u|||K3 T p.toNat) (2^k)
theorem Q6 (T:List ek)(k:Nat)(ps:List Int)(p:Int):Y5 T k (ps++ [p])=Y5 T k ps|||K3 T p.toNat:=by unfold Y5;rw[wo];rfl
theorem Q1 {T:List ek}(a:im T){k:Nat}{t:ek}(h:T[k]?=some t):K3 T k=Y5 T k t.2:=by
 have e:∀(ps:List Int) (u:Nat),(∀p∈ps,0≤p∧p<k)→ps.foldl (λu p=>u|||(B5 (T.take k)).getD p.toNat 0) u=ps.foldl (λu p=>u|||K3 T p.toNat) u:=by
  intro ps
  induction ps with
  |nil=>intro u _;rfl
  |cons p ps b=>
   intro u hp
   have d:=hp p (aQ ..)
   rw[s6,s6,A7 T k p.toNat (by omega) (Nat.le_of_lt (ah h))]
   exact b _ λq c=>hp q (cO _ c)
 show(B5 T).getD k 0=_
 rw[Q9 h];exact e t.2 _ (a.par k t h)
theorem Y4 {T:List ek}(b:im T):∀k:Nat,K3 T k<2^(k+1):=by
 intro k
 induction k using Nat.strongRecOn with
 |ind k c=>
  rcases eO k T.length with h|h
  ·rw[Q1 b (bU h)]
   have hp:=b.par k _ (bU h)
   generalize (T[k]).2=ps at hp
   have e:∀(ps:List Int) (u:Nat),(∀p∈ps,0≤p∧p<k)→u<2^(k+1)→ps.foldl (λu p=>u|||K3 T p.toNat) u<2^(k+1):=by
    intro ps
    induction ps with
    |nil=>intro u _ h;exact h
    |cons p ps a=>
     intro u hp hu
     have f:=hp p (aQ ..)
     refine a _ (λq d=>hp q (cO _ d)) (Nat.or_lt_two_pow hu ?_);exact fR (c p.toNat (by omega)) (si (by omega) (by omega))
   exact e ps _ hp (AB (by omega) (by omega))
  ·show(B5 T).getD k 0<_
   rw[ar,ib (by rw[uV];exact h)];exact Nat.pow_pos (by omega)
theorem wB {T:List ek}(a:im T){k:Nat}(hk:k<60):K3 T k<18446744073709551616:=
 fR (Y4 a k) (show 2^(k+1)≤2^64 from si (by decide) (by omega))
theorem Q5 {T:List ek}(a:im T){k:Nat}(hk:k<60):∀{ps:List Int},(∀p∈ps,0≤p∧p<k)→Y5 T k ps<18446744073709551616:=by
 have e:∀(ps:List Int) (u:Nat),(∀p∈ps,0≤p∧p<k)→u<18446744073709551616→ps.foldl (λu p=>u|||K3 T p.toNat) u<18446744073709551616:=by
  intro ps
  induction ps with
  |nil=>intro u _ h;exact h
  |cons p ps b=>
   intro u hp hu
   have d:=hp p (aQ ..)
   exact b _ (λq c=>hp q (cO _ c)) (Nat.or_lt_two_pow (n:=64) hu (wB a (by omega)))
 intro ps hp;exact e ps _ hp (show 2^k<2^64 from AB (by decide) (by omega))
def l6 (T:List ek)(k j:Nat):Nat:=(List.range k).foldl (λa i=>if iD T i j then a|||2^i else a) 0
theorem qt (T:List ek)(k j:Nat):l6 T (k+1) j=if iD T k j then l6 T k j|||2^k else l6 T k j:=by
 unfold l6;rw[ub,wo];rfl
theorem Ix (T:List ek)(j:Nat):∀k:Nat,l6 T k j<2^k
 |0=>by show(0:Nat)<2^0;omega
 |k+1=>by
  have a:=fR (Ix T j k) (si (n:=2) (by omega) (Nat.le_succ k))
  rw[qt]
  split
  ·exact Nat.or_lt_two_pow a (AB (by omega) (by omega))
  ·exact a
theorem nL (T:List ek)(j:Nat){k:Nat}(hk:k≤60):l6 T k j<18446744073709551616:=
 fR (Ix T j k) (show 2^k≤2^64 from si (by decide) (by omega))
theorem qI (T:List ek)(j i:Nat):∀k:Nat,(l6 T k j).testBit i=(decide (i<k)&&iD T i j)
 |0=>by show(0:Nat).testBit i=_;simp
 |k+1=>by
  rw[qt]
  have a:=qI T j i k
  by_cases e:i=k
  ·subst e
   cases h:iD T i j with
   |true=>simp[a,Nat.testBit_two_pow]
   |false=>simp[a]
  ·have e2:decide (i<k+1)=decide (i<k):=by rw[decide_eq_decide];omega
   rw[e2]
   split
   ·rw[Nat.testBit_or,a,Nat.testBit_two_pow,fL (p:=k=i) (λh=>e h.symm),Bool.or_false]
   ·exact a
def dg (T:List ek):List Nat:=(List.range T.length).map (K3 T)
def de (T:List ek):List Nat:=(List.range T.length).map (l6 T T.length)
theorem zE {f:Nat→Nat}{n:Nat}{U:List Nat}(b:U.length=n)(h:∀i,i<n→U[i]?=some (f i)):U=(List.range n).map f:=by
 refine pa λi=> ?_
 rw[bP]
 rcases eO i n with a|a
 ·rw[h i a,nc a];rfl
 ·rw[ib (by omega),ib (by simpa using a)];rfl
theorem Q7 {T:List ek}{i:Nat}(h:i<T.length):(dg T)[i]?=some (K3 T i):=by unfold dg;rw[bP,nc h];rfl
theorem oH {T:List ek}{i:Nat}(h:i<T.length):(de T)[i]?=some (l6 T T.length i):=by unfold de;rw[bP,nc h];rfl
theorem Q8 (T:List ek):(dg T).length=T.length:=by simp[dg]
theorem ET (T:List ek):(de T).length=T.length:=by simp[de]
def both (T:List ek)(a b:Nat):Nat:=l6 T T.length a&&&l6 T T.length b
theorem oC (T:List ek)(a b i:Nat):(both T a b).testBit i=(decide (i<T.length)&&(iD T i a&&iD T i b)):=by
 unfold both;rw[Nat.testBit_and,qI,qI]
 cases decide (i<T.length)<;>simp
theorem l8 {T:List ek}{a b i:Nat}:i∈comm T a b↔(both T a b).testBit i=true:=by
 unfold comm;rw[qh,dt,oC];simp only[Bool.and_eq_true,decide_eq_true_eq]
theorem A8 {T:List ek}{a b:Nat}(h:both T a b=0):kD T a b=false:=by
 unfold kD
 split
 ·rfl
 ·rename_i m r e
  have:m∈comm T a b:=by rw[e];exact aQ ..
  rw[l8,h,Nat.zero_testBit]at this;cases this
theorem GD {T:List ek}(k:im T){a b m:Nat}(h:(both T a b).testBit m=true)(q:∀i,i<m→(both T a b).testBit i=false):kD T a b=decide (l6 T T.length m≠both T a b):=by
 have hm:=l8.2 h
 unfold kD
 split
 ·rename_i e;rw[e]at hm;cases hm
 ·rename_i d r e
  have hp:(comm T a b).Pairwise (· < ·):=by unfold comm;exact List.Pairwise.filter _ List.pairwise_lt_range
  rw[e]at hp
  have s:d∈comm T a b:=by rw[e];exact aQ ..
  have e2:d=m:=by
   rw[e]at hm
   rcases cJ.1 hm with l|l
   ·exact l.symm
   ·have t:=(jU.1 hp).1 m l
    have p:=q d t
    rw[l8.1 s]at p;cases p
  subst e2
  have n:=h
  rw[oC,qi,qi,fy]at n;rw[B7,nb,fy]
  constructor
  ·rintro ⟨i,u,f⟩ o
   have c:(both T a b).testBit i=true:=l8.1 (by rw[e];exact cO _ u)
   rw[←o,qI,qi]at c
   rw[c.2]at f;cases f
  ·intro f
   apply Decidable.byContradiction
   intro o;refine f (Nat.eq_of_testBit_eq λi=> ?_);rw[qI,oC];rw[B7,qi,qi,fy]
   constructor
   ·rintro ⟨c,g⟩
    exact⟨c,by rw[vp k g n.2.1,vp k g n.2.2];rfl⟩
   ·rintro ⟨c,g⟩
    refine⟨c,?_⟩
    have j:i∈comm T a b:=l8.2 (by rw[oC,g,eB c];rfl)
    rw[e]at j
    rcases cJ.1 j with rfl|j
    ·exact sub_self k c
    ·cases v:iD T i d with
     |true=>rfl
     |false=>exact absurd ⟨i,j,by rw[v];rfl⟩ o
end Go.Proofs.YtblifkgpebebmaaGreatDoor
namespace Go.J
open Go
section
variable {P:Program}{n:Nat}{F:Fr}{A:World→Prop}{ty t u:TypeId}{x y:Operand}{a b:Nat}
theorem KZ (h:a<18446744073709551616)(c:b<18446744073709551616):bits .and .u64 (a:Int) (b:Int)=((a&&&b:Nat):Int):=by
 have e:(BitVec.ofInt IntKind.u64.bits (a:Int)&&&BitVec.ofInt IntKind.u64.bits (b:Int)).toNat=a&&&b:=by
  show(BitVec.ofInt 64 (a:Int)&&&BitVec.ofInt 64 (b:Int)).toNat=_
  rw[BitVec.toNat_and,Lw,Lw,Lx,Lx,mw h,mw c]
 simp only[bits,e]
 rw[ob,mw (wF Nat.and_le_left h)]
theorem MX (h:a<18446744073709551616)(c:b<18446744073709551616):bits .or .u64 (a:Int) (b:Int)=((a|||b:Nat):Int):=by
 have e:(BitVec.ofInt IntKind.u64.bits (a:Int)|||BitVec.ofInt IntKind.u64.bits (b:Int)).toNat=a|||b:=by
  show(BitVec.ofInt 64 (a:Int)|||BitVec.ofInt 64 (b:Int)).toNat=_
  rw[BitVec.toNat_or,Lw,Lw,Lx,Lx,mw h,mw c]
 simp only[bits,e]
 rw[ob,mw (Nat.or_lt_two_pow (n:=64) h c)]
theorem Ev.Yu (hx:ai F x (uv a))(hy:ai F y (uv b))(h:a<18446744073709551616∧b<18446744073709551616):Ev P n F A (.binOp .and t x y u) ty (uv (a&&&b)):= .of_run λa' w ha _=>by
 simp only[execOp,hx.eval ha,hy.eval ha];simp only[go_sem,KZ h.1 h.2];simp
theorem Ev.orG (hx:ai F x (uv a))(hy:ai F y (uv b))(h:a<18446744073709551616∧b<18446744073709551616):Ev P n F A (.binOp .or t x y u) ty (uv (a|||b)):= .of_run λa' w ha _=>by
 simp only[execOp,hx.eval ha,hy.eval ha];simp only[go_sem,MX h.1 h.2];simp
theorem Ev.Z7 {k:Nat}{i:Int}{kd:IntKind}(hx:ai F x (uv 1))(hy:ai F y (.int kd i))(h:i=k∧k<64):Ev P n F A (.binOp .shl t x y u) ty (uv (2^k)):=by
 have:=Ev.alX (P:=P) (n:=n) (A:=A) (ty:=ty) (t:=t) (u:=u) k (2^k) rfl hx hy (by omega)
 have e:1*2^k%18446744073709551616=2^k:=by
  rw[Nat.one_mul];exact mw (show 2^k<2^64 from AB (by decide) h.2)
 rw[e]at this;exact this
theorem Ii (a j:Nat):decide ((((a/2^j%2:Nat):Int))=1)=a.testBit j:=by
 rw[Nat.testBit_eq_decide_div_mod_eq,decide_eq_decide];omega
end
def bH:Rp Nat:=⟨1,by decide,λa=>[uv a],λa=>a<18446744073709551616,λ_=>rfl,λx u h=>by rw[bO.1 h];rfl⟩
theorem r9 (U:List Nat):rows bH U=U.map λa=>uv a:=by
 show U.flatMap (λa=>[uv a])=_
 induction U with
 |nil=>rfl
 |cons a U b=>rw[jS,b];rfl
theorem oQ {U:List Nat}{k a:Nat}(h:U[k]?=some a):(rows bH U)[k*1+0]?=some (uv a):=by
 rw[r9,gW,j3,bP,h];rfl
theorem uI {U:List Nat}{k a:Nat}:(rows bH U).set (k*1+0) (uv a)=rows bH (U.set k a):=by
 rw[r9,r9,gW,j3,jk]
theorem Fc (n:Nat):List.replicate n (uv 0)=rows bH (List.replicate n 0):=by rw[r9,sB]
end Go.J
namespace Go.Proofs.YtblifkgpebebmaaGreatDoor
open Go Go.J Tryz
theorem Rg {T:List ek}{k q n:Nat}{E:List Nat}(a:∀j,j<n→E[j]?=some (if j<q then l6 T (k+1) j else l6 T k j))(c:E.length=n)(d:q<n)(h:iD T k q=true):
 ∀j,j<n→(E.set q (l6 T k q|||2^k))[j]?=some (if j<q+1 then l6 T (k+1) j else l6 T k j):=λj b=>by
 by_cases e:q=j
 ·subst e;rw[fV (by omega),aC (by omega),qt,aC h]
 ·rw[ic e,a j b]
  by_cases e2:j<q
  ·rw[aC e2,aC (by omega)]
  ·rw[aA e2,aA (by omega)]
theorem Rf {T:List ek}{k q n:Nat}{E:List Nat}(a:∀j,j<n→E[j]?=some (if j<q then l6 T (k+1) j else l6 T k j))(h:iD T k q=false):
 ∀j,j<n→E[j]?=some (if j<q+1 then l6 T (k+1) j else l6 T k j):=λj b=>by
 rw[a j b]
 by_cases e:q=j
 ·subst e;rw[aA (by omega),aC (by omega),qt,aA (by rw[h];decide)]
 ·by_cases e2:j<q
  ·rw[aC e2,aC (by omega)]
  ·rw[aA e2,aA (by omega)]
theorem pz (u:Value)(ts:List re)(e:im (ts.map dG)):dz prog 45 #[u] ([sl n5 u ts,aF ry ts].map aB) (λv H'=>∃P Q:aV,v= .agg #[P.1,Q.1]∧H'=[aB (sl bH P.1 (dg (ts.map dG))),aB (sl bH Q.1 (de (ts.map dG)))]):=by
 refine dz.body (args:=[u]) 75 func45 rfl ntmps45 rfl (λc=> ?_);refine St.cast (H':=[aB (sl n5 u ts),aB (aF ry ts)]) rfl ?_;refine go ?_
 have W:=e.len
 rw[aO]at W;refine go ?_;refine St.al (λH=> ?_);refine g2 ?_;refine St.join (ι:=Nat×Nat×Nat) (λy T=>(3,.pointer (some ⟨y.2.2,0,none⟩))::T) (λy=>[aW y.2.2 (.cells [(.slice (some ⟨y.1,0,none⟩) ts.length ts.length),(.slice (some ⟨y.2.1,0,none⟩) ts.length ts.length)].toArray 100 (0,0)),row (.slice (some ⟨y.1,0,none⟩) ts.length ts.length) 157 1 ts.length (rows bH (List.replicate ts.length 0)),row (.slice (some ⟨y.2.1,0,none⟩) ts.length ts.length) 157 1 ts.length (rows bH (List.replicate ts.length 0)),aW H (.cells [(.slice none 0 0),(.slice none 0 0)].toArray 100 (0,0)),aB (sl n5 u ts),aB (aF ry ts)]) (λy=>True) (aD.cons 0 rfl (aD.cons 2 rfl aD.nil)) ?_ ?_
 ·refine St.pC [] mixed (λJ K=> ?_)
  repeat' first
   |with_reducible refine SW.me ?_
    first
     |refine SW.gd 0 ?_
     |refine SW.gd 1 ?_
     |refine SW.gd 3 ?_
     |refine SW.gd 4 ?_
     |refine SW.dd 6 rfl (λ_=>Ev.build (ps:=[(0,(.tmp 11)),(1,(.tmp 14))]) (bF.aX rfl rfl) (λw=>Gh rfl rfl w)) ?_
     |refine SW.Pt (i:=2) (j:=5) (k:=7) (by decide+kernel) rfl rfl rfl ?_ ?_ ?_
     |refine SW.t2 5 7 ?_ ?_
     |refine SW.t1 7 ?_
     |refine SW.t1 8 ?_
     |refine SW.t1 5 ?_
     |refine SW.t2 2 7 ?_ ?_
     |refine SW.t1 2 ?_
     |refine SW.t2 2 5 ?_ ?_
   |with_reducible refine SW.tg 2 ?_
    refine St.sS (m:=ts.length) (.mk rfl) (.mk rfl) wA lC VL UD rfl rfl (by omega) rfl rfl (λR=> ?_);refine St.aM (.slice (some ⟨R,0,none⟩) ts.length ts.length) rfl (Fc _) ?_;refine g2 ?_;refine SW.go ?_
   |with_reducible refine SW.tg 5 ?_
    refine St.sS (m:=ts.length) (.mk rfl) (.mk rfl) wA lC VL UD rfl rfl (by omega) rfl rfl (λS=> ?_);refine St.aM (.slice (some ⟨S,0,none⟩) ts.length ts.length) rfl (Fc _) ?_;refine g2 ?_;refine SW.go ?_
   |with_reducible refine SW.tg 7 ?_
    refine St.al (λX=> ?_);refine g2 ?_;refine SW.go ?_
   |with_reducible refine SW.tg 8 ?_
    refine g3 ?_;refine SW.go ?_
  all_goals refine SW.dn ?_
  all_goals
   refine go ?_;refine St.mE (R,S,X) trivial
 ·intro y akD
  refine g9 ?_;refine St.tn (ι:=Nat) (κ:=List Nat×List Nat) (λk z T=>(18,iv k)::T) (λk z=>[aW y.2.2 (.cells [(.slice (some ⟨y.1,0,none⟩) ts.length ts.length),(.slice (some ⟨y.2.1,0,none⟩) ts.length ts.length)].toArray 100 (0,0)),row (.slice (some ⟨y.1,0,none⟩) ts.length ts.length) 157 1 ts.length (rows bH z.1),row (.slice (some ⟨y.2.1,0,none⟩) ts.length ts.length) 157 1 ts.length (rows bH z.2),aW H (.cells [(.slice none 0 0),(.slice none 0 0)].toArray 100 (0,0)),aB (sl n5 u ts),aB (aF ry ts)]) (λk z=>k≤ts.length∧(z.1.length=ts.length∧∀i,i<k→z.1[i]?=some (K3 (ts.map dG) i))∧(z.2.length=ts.length∧∀j,j<ts.length→z.2[j]?=some (l6 (ts.map dG) k j))) (λk z=>ts.length-k) 0 (List.replicate ts.length 0,List.replicate ts.length 0) (aD.cons 0 rfl (aD.cons 2 rfl (aD.cons 3 rfl (aD.cons 16 rfl (aD.cons 17 rfl aD.nil))))) ⟨aP _,⟨kF,λi f=>absurd f (by omega)⟩,kF,λj r=>by show(List.replicate ts.length 0)[j]?=_;rw[s8,aC r];rfl⟩ ?_;rintro k ⟨U,D⟩ ⟨hk,⟨g,L⟩,l,M⟩
  dsimp only at g L l M⊢
  refine g6 ?_;refine St.cq (λY=> ?_) (λY=> ?_)
  ·obtain⟨t,ht⟩:=aE (show k<ts.length by omega)
   have Z:=ae ht
   have A:(ts.map dG)[k]?=some (dG t):=by rw[bP,ht];rfl
   have o:=e.par k _ A
   refine St.cK ry ts (x:=t) Z ?_;refine St.eZ (sl aJ t.pv.1 t.parents) [ry t] (λρ h=>h _ (aQ ..)) ?_;refine St.wf t.pv.1 (λhpw hpl=> ?_);refine g8 ?_;refine St.ee (Ev.jq (.mk rfl) ht Jw trivial Bq j5.eq) ?_;refine St.al (λb5=> ?_);refine g5 ?_;refine St.dc [row (.slice (some ⟨y.1,0,none⟩) ts.length ts.length) 157 1 ts.length (rows bH U)] mixed (λJ K=> ?_);refine SW.gd 0 ?_;refine SW.gd 1 ?_;refine SW.gd 2 ?_;refine SW.gd 3 ?_;refine SW.dd 4 rfl (λ_=>Ev.Z7 (k:=k) (.mk rfl) (.mk rfl) (by omega)) ?_;refine SW.dd 5 rfl (λ_=>Ev.nB (k:=k) rfl (.mk rfl) (.mk rfl) wA lC (by omega) (by omega)) ?_;refine SW.t1 6 ?_;refine St.cI (.mk rfl) (.mk rfl) lC rfl (by omega) (by decide) ?_;refine St.aM (.slice (some ⟨y.1,0,none⟩) ts.length ts.length) rfl uI ?_;refine g2 ?_;refine SW.go ?_;refine SW.dn ?_;refine g11 ?_;refine St.tn (ι:=Nat) (κ:=List Nat) (λq V T=>(32,iv q)::T) (λq V=>[row (.slice (some ⟨y.1,0,none⟩) ts.length ts.length) 157 1 ts.length (rows bH V),aW y.2.2 (.cells [(.slice (some ⟨y.1,0,none⟩) ts.length ts.length),(.slice (some ⟨y.2.1,0,none⟩) ts.length ts.length)].toArray 100 (0,0)),row (.slice (some ⟨y.2.1,0,none⟩) ts.length ts.length) 157 1 ts.length (rows bH D),aW H (.cells [(.slice none 0 0),(.slice none 0 0)].toArray 100 (0,0)),aB (sl aJ t.pv.1 t.parents),aB (sl n5 u ts),aB (aF ry ts)]) (λq V=>q≤t.parents.length∧V.length=ts.length∧(∀i,i<k→V[i]?=some (K3 (ts.map dG) i))∧V[k]?=some (Y5 (ts.map dG) k (t.parents.take q))) (λq V=>t.parents.length-q) 0 (U.set k (2^k)) (aD.cons 0 rfl (aD.cons 2 rfl (aD.cons 3 rfl (aD.cons 4 rfl (aD.cons 16 rfl (aD.cons 17 rfl (aD.cons 18 rfl (aD.cons 30 rfl (aD.cons 31 rfl aD.nil))))))))) ⟨aP _,by rw[cn];exact g,λi f=>by rw[ic (by omega)];exact L i f,by rw[fV (by omega)];rfl⟩ ?_;rintro q V ⟨hq,B,I,d⟩;refine g6 ?_;refine St.cq (λh33=> ?_) (λh33=> ?_)
   ·obtain⟨p,hp⟩:=aE (show q<t.parents.length by omega)
    have hpp:=o p (ae hp)
    refine g11 ?_;refine St.dc [row (.slice (some ⟨y.1,0,none⟩) ts.length ts.length) 157 1 ts.length (rows bH V)] mixed (λJ K=> ?_);refine SW.gd 0 ?_;refine SW.gd 1 ?_;refine SW.gd 2 ?_;refine SW.dd 3 rfl (λ_=>Ev.nB (k:=k) rfl (.mk rfl) (.mk rfl) wA lC (by omega) (by omega)) ?_;refine SW.gd 5 ?_;refine SW.gd 6 ?_;refine SW.gd 7 ?_;refine SW.dd 8 rfl (λ_=>Ev.nB (k:=p.toNat) rfl (.mk rfl) (.mk rfl) wA lC (by omega) (by omega)) ?_;refine SW.t2 4 9 ?_ ?_
    focus
     refine St.ee (Ev.cu (.mk rfl) lj trivial (by omega) (oQ d)) ?_;refine g2 ?_;refine SW.go ?_;refine SW.t1 9 ?_;refine St.ee (Ev.cu (.mk rfl) lj trivial (by omega) (oQ (I p.toNat (by omega)))) ?_;refine g2 ?_;refine SW.go ?_;refine SW.dd 10 rfl (λ_=>Ev.orG (.mk rfl) (.mk rfl) ⟨Q5 e (by omega) (λp hp=>o p (CG hp)),wB e (by omega)⟩) ?_;refine SW.dd 11 rfl (λ_=>Ev.nB (k:=k) rfl (.mk rfl) (.mk rfl) wA lC (by omega) (by omega)) ?_;refine SW.t1 12 ?_;refine St.cI (.mk rfl) (.mk rfl) lC rfl (by omega) (by decide) ?_;refine St.aM (.slice (some ⟨y.1,0,none⟩) ts.length ts.length) rfl uI ?_;refine g2 ?_;refine SW.go ?_;refine SW.dn ?_
    rotate_left
    focus
     refine St.ee (Ev.cu (.mk rfl) lj trivial (by omega) (oQ (I p.toNat (by omega)))) ?_;refine g2 ?_;refine SW.go ?_;refine SW.t1 4 ?_;refine St.ee (Ev.cu (.mk rfl) lj trivial (by omega) (oQ d)) ?_;refine g2 ?_;refine SW.go ?_;refine SW.dd 10 rfl (λ_=>Ev.orG (.mk rfl) (.mk rfl) ⟨Q5 e (by omega) (λp hp=>o p (CG hp)),wB e (by omega)⟩) ?_;refine SW.dd 11 rfl (λ_=>Ev.nB (k:=k) rfl (.mk rfl) (.mk rfl) wA lC (by omega) (by omega)) ?_;refine SW.t1 12 ?_;refine St.cI (.mk rfl) (.mk rfl) lC rfl (by omega) (by decide) ?_;refine St.aM (.slice (some ⟨y.1,0,none⟩) ts.length ts.length) rfl uI ?_;refine g2 ?_;refine SW.go ?_;refine SW.dn ?_
    all_goals
     refine g7 ?_;refine St.uk (q+1) (V.set k (Y5 (ts.map dG) k (t.parents.take q)|||K3 (ts.map dG) p.toNat)) ⟨by omega,by rw[cn];exact B,λi f=>by rw[ic (by omega)];exact I i f,by rw[fV (by omega),aa hp,Q6]⟩
   ·rw[fF (by omega)]at d
    replace d:V[k]?=some (K3 (ts.map dG) k):=by rw[Q1 e A];exact d
    refine g13 ?_;refine St.tn (ι:=Nat) (κ:=List Nat) (λq E T=>(51,iv q)::T) (λq E=>[row (.slice (some ⟨y.2.1,0,none⟩) ts.length ts.length) 157 1 ts.length (rows bH E),row (.slice (some ⟨y.1,0,none⟩) ts.length ts.length) 157 1 ts.length (rows bH V),aW y.2.2 (.cells [(.slice (some ⟨y.1,0,none⟩) ts.length ts.length),(.slice (some ⟨y.2.1,0,none⟩) ts.length ts.length)].toArray 100 (0,0)),aW H (.cells [(.slice none 0 0),(.slice none 0 0)].toArray 100 (0,0)),aB (sl n5 u ts),aB (aF ry ts)]) (λq E=>q≤ts.length∧E.length=ts.length∧∀j,j<ts.length→E[j]?=some (if j<q then l6 (ts.map dG) (k+1) j else l6 (ts.map dG) k j)) (λq E=>ts.length-q) 0 D (aD.cons 0 rfl (aD.cons 2 rfl (aD.cons 3 rfl (aD.cons 4 rfl (aD.cons 16 rfl (aD.cons 17 rfl (aD.cons 18 rfl (aD.cons 50 rfl aD.nil)))))))) ⟨aP _,l,λj r=>by rw[aA (by omega)];exact M j r⟩ ?_;rintro q E ⟨hq,n,s⟩;refine g6 ?_;refine St.cq (λh52=> ?_) (λh52=> ?_)
    ·have C:=s q (by omega)
     rw[aA (by omega)]at C;refine g16 ?_;refine St.ee (Ev.cu (.mk rfl) lj trivial (by omega) (oQ d)) ?_;refine go ?_;refine St.ee (Ev.Xg (q) _ rfl (.mk rfl) (.mk rfl) (by omega)) ?_;refine St.ee (Ev.Yv (b:=1) 1 2 (by decide) (.mk rfl) (.mk rfl) (⟨(wF (Nat.div_le_self _ _) (wB e (by omega))),by decide,by decide⟩)) ?_;refine go ?_;refine St.slot 62 (.bool (iD (ts.map dG) k q)) rfl (congrArg Value.bool (Ii _ _)) ?_;refine g2 ?_;refine St.cond _ rfl (λN=> ?_) (λN=> ?_)
     ·skip
      refine St.dc [row (.slice (some ⟨y.2.1,0,none⟩) ts.length ts.length) 157 1 ts.length (rows bH E)] mixed (λJ K=> ?_);refine SW.gd 0 ?_;refine SW.gd 1 ?_;refine SW.gd 2 ?_;refine SW.dd 3 rfl (λ_=>Ev.nB (k:=q) rfl (.mk rfl) (.mk rfl) wA lC (by omega) (by omega)) ?_;refine SW.gd 5 ?_;refine SW.dd 6 rfl (λ_=>Ev.Z7 (k:=k) (.mk rfl) (.mk rfl) (by omega)) ?_;refine SW.t1 4 ?_;refine St.ee (Ev.cu (.mk rfl) lj trivial (by omega) (oQ C)) ?_;refine g2 ?_;refine SW.go ?_;refine SW.dd 7 rfl (λ_=>Ev.orG (.mk rfl) (.mk rfl) ⟨nL _ _ (by omega),(show 2^k<2^64 from AB (by decide) (by omega))⟩) ?_;refine SW.dd 8 rfl (λ_=>Ev.nB (k:=q) rfl (.mk rfl) (.mk rfl) wA lC (by omega) (by omega)) ?_;refine SW.t1 9 ?_;refine St.cI (.mk rfl) (.mk rfl) lC rfl (by omega) (by decide) ?_;refine St.aM (.slice (some ⟨y.2.1,0,none⟩) ts.length ts.length) rfl uI ?_;refine g2 ?_;refine SW.go ?_;refine SW.dn ?_;refine g7 ?_;refine St.uk (q+1) (E.set q (l6 (ts.map dG) k q|||2^k)) ⟨by omega,by rw[cn];exact n,Rg s n (by omega) N⟩
     ·skip
      refine g8 ?_;refine St.uk (q+1) E ⟨by omega,n,Rf s N⟩
    ·obtain rfl:q=ts.length:=by omega
     replace s:∀j,j<ts.length→E[j]?=some (l6 (ts.map dG) (k+1) j):=λj r=>by rw[s j r,aC r]
     refine g11 ?_;refine St.uk (k+1) (V,E) ⟨by omega,⟨B,λi f=>by rcases eO i k with h|h;exact I i h;rw[show i=k by omega];exact d⟩,n,s⟩
  ·obtain rfl:k=ts.length:=by omega
   refine g12 ?_
   have F:U=dg (ts.map dG):=by unfold dg;rw[aO];exact zE g L
   have G:D=de (ts.map dG):=by unfold de;rw[aO];exact zE l M
   refine St.bS (.slice (some ⟨y.1,0,none⟩) ts.length ts.length) bH U rfl g.symm (λa O=>by obtain⟨i,f,rfl⟩:=cz.1 (F▸O);exact wB e (by have:=dt.1 f;rw[aO]at this;omega)) ?_;refine St.bS (.slice (some ⟨y.2.1,0,none⟩) ts.length ts.length) bH D rfl l.symm (λa O=>by obtain⟨i,f,rfl⟩:=cz.1 (G▸O);exact nL _ _ (by rw[aO];omega)) ?_;rw[F,G];refine St.rV [_] [aB (sl bH (.slice (some ⟨y.1,0,none⟩) ts.length ts.length) (dg (ts.map dG))),aB (sl bH (.slice (some ⟨y.2.1,0,none⟩) ts.length ts.length) (de (ts.map dG)))] ?_;exact⟨⟨(.slice (some ⟨y.1,0,none⟩) ts.length ts.length),rfl⟩,⟨(.slice (some ⟨y.2.1,0,none⟩) ts.length ts.length),rfl⟩,rfl,rfl⟩
end Go.Proofs.YtblifkgpebebmaaGreatDoor
namespace Go.Proofs
open Go.Shelf
def Tryz.HR:Go.Shelf.Ren:=⟨λ|29=>110|n=>n,λ|0=>0|3=>3|4=>4|5=>5|22=>157|25=>218|54=>257|n=>n,λ|1=>3|n=>n⟩
theorem Tryz.XB:Go.Proofs.Lays7.n29 Tryz.prog Tryz.HR:={
 mixed:=by kernel_rfl
 f29:=Tryz.func110.trans (congrArg some (by kernel_rfl))
 t0:=Yf
 a0:=Tryz.isAgg0
 z0:=Tryz.sizeOf0
 v0:=Tryz.zeroValue0
 i0:=by kernel_rfl
 t3:=gV
 a3:=Tryz.isAgg3
 z3:=Tryz.sizeOf3
 v3:=Tryz.zeroValue3
 i3:=by kernel_rfl
 t4:=IL
 a4:=Tryz.isAgg4
 z4:=Tryz.sizeOf4
 v4:=Tryz.zeroValue4
 i4:=by kernel_rfl
 t5:=GP
 a5:=Tryz.isAgg5
 z5:=Tryz.sizeOf5
 v5:=Tryz.zeroValue5
 i5:=by kernel_rfl
 t22:=lj
 a22:=Tryz.isAgg157
 z22:=Tryz.sizeOf157
 v22:=Tryz.zeroValue157
 i22:=by kernel_rfl
 t25:=Bx
 a25:=Tryz.isAgg218
 z25:=Tryz.sizeOf218
 v25:=Tryz.zeroValue218
 i25:=by kernel_rfl
 t54:=Tryz.underlying257
 a54:=Tryz.isAgg257
 z54:=Tryz.sizeOf257
 g1:=by kernel_rfl}
end Go.Proofs
namespace Go.Proofs.YtblifkgpebebmaaGreatDoor
open Go Go.J Tryz
abbrev tz:du:=du.of (TabAt 3 Lib.deBruijn64tab)
theorem eC.of_same {P:Program}{f:FuncId}{args:Array Value}{X:World→Prop}{v:Value}(h:∀w,X w→Calls P f args w λe w'=>e= .returned v∧w'=w):eC P f args [du.of X] v:=by
 intro w ρ a
 have hx:X w:=dB.1 (a.dM (aB (du.of X)) (aQ ..)) w a.fits
 refine(h w hx).mono ?_;rintro e w' ⟨rfl,rfl⟩;exact⟨v,[],rfl,rfl,Mm.mk (ρ:=ρ) ⟨rfl,⟨rfl,λ_=>aR _⟩,rfl,aR _,λ_ _ _=>rfl,a.fits,Ro.le_refl _,λ_ _ _=>rfl,λ_ h=>by simp at h,λ_ h=>by simp at h,.nil⟩⟩
theorem Jv (x:Nat)(hx:x<18446744073709551616):eC prog 110 #[uv x] [tz] (iv (Lib.ctz 64 x)):=
 eC.of_same λw hw=>Any7.bits_TrailingZeros64 Tryz.XB x hx w (λ_=>hw)
theorem ER {x:Nat}(a:x≠0)(h:x<18446744073709551616):x.testBit (Lib.ctz 64 x)=true∧∀i,i<Lib.ctz 64 x→x.testBit i=false:=by
 obtain⟨m,hm,_⟩:=Lib.ctzFrom_spec 64 x (by omega) h
 have e:Lib.ctz 64 x=Lib.ctzFrom 64 x:=by unfold Lib.ctz;rw[aA a]
 rw[e]
 generalize Lib.ctzFrom 64 x=k at hm
 subst hm;refine⟨?_,λi b=> ?_⟩
 ·rw[Nat.testBit_two_pow_mul,ff,eB (aR k),IY,Nat.testBit_zero]
  exact eB (by omega)
 ·rw[Nat.testBit_two_pow_mul,fL (by omega),Bool.false_and]
abbrev kB (a b:aV):Value:= .agg #[a.1,b.1]
theorem ME (a d:aV)(T:List ek)(e:im T)(i j:Nat)(f:i<T.length)(g:j<T.length):eC prog 84 #[kB a d,iv i,iv j] [sl bH a.1 (dg T),sl bH d.1 (de T)] (.bool (iD T i j)):=by
 refine eC.nK (args:=[kB a d,iv i,iv j]) 16 func84 rfl ntmps84 rfl (λc=> ?_);refine go ?_
 have h:=e.len
 have k:=Q8 T
 refine go ?_;refine St.dJ (.mk rfl) rfl (λl=> ?_);refine g9 ?_;refine St.ee (Ev.ld1 (.mk rfl) (Q7 f) lj trivial rfl) ?_;refine go ?_;refine St.ee (Ev.Xg (j) _ rfl (.mk rfl) (.mk rfl) (by omega)) ?_;refine St.ee (Ev.Yv (b:=1) 1 2 (by decide) (.mk rfl) (.mk rfl) (⟨(wF (Nat.div_le_self _ _) (wB e (by omega))),by decide,by decide⟩)) ?_;refine go ?_;refine St.slot 15 (.bool (iD T i j)) rfl (congrArg Value.bool (Ii _ _)) ?_;refine g4 ?_;refine St.rV [_] [] ?_;rfl
theorem KK (d e:aV)(T:List ek)(j:im T)(a b:Nat)(n:a<T.length)(o:b<T.length):dz prog 80 #[kB d e,iv a,iv b] ([sl bH d.1 (dg T),sl bH e.1 (de T),tz].map aB) (λv H'=>∃(m:Int) (ok:Bool),v= .tuple #[iv m,.bool ok,.bool (kD T a b)]∧H'=[]):=by
 refine dz.body (args:=[kB d e,iv a,iv b]) 33 func80 rfl ntmps80 rfl (λc=> ?_);refine St.cast (H':=[aB (sl bH d.1 (dg T)),aB (sl bH e.1 (de T)),aB (tz)]) rfl ?_;refine go ?_
 have g:=j.len
 have t:=ET T
 refine go ?_;refine St.dJ (.mk rfl) rfl (λu=> ?_);refine g6 ?_;refine St.rq mixed (by kernel_rfl) (Mm.drawn _ _) ?_;refine g4 ?_;refine Sq.ee (Ev.ld1 (.mk rfl) (oH n) lj trivial rfl) ?_;refine g4 ?_;refine Sq.ee (Ev.ld1 (.mk rfl) (oH o) lj trivial rfl) ?_;refine Sq.ee (Ev.Yu (.mk rfl) (.mk rfl) ⟨nL _ _ g,nL _ _ g⟩) ?_;refine g5 ?_;refine St.slot 9 (uv (both T a b)) rfl rfl ?_
 have l:both T a b<18446744073709551616:=wF Nat.and_le_left (nL _ _ g)
 refine g5 ?_;refine St.cq (λp=> ?_) (λp=> ?_)
 ·have h:both T a b=0:=by omega
  refine g9 ?_;refine St.rV [_,_,_] [] ?_;exact⟨0,false,by rw[A8 h];rfl,rfl⟩
 ·have h:both T a b≠0:=by omega
  obtain⟨i,q⟩:=ER h l
  have r:Lib.ctz 64 (both T a b)<T.length:=by rw[oC,qi,fy]at i;exact i.1
  have f:=GD j i q
  refine g5 ?_;refine St.ee (Ev.call (Jv (both T a b) l) UH (.au rfl)) ?_;refine g9 ?_;refine St.ee (Ev.cM (k:=(Lib.ctz 64 (both T a b))) (.mk rfl) (.mk rfl) wA lC (by omega) (by omega)) ?_;refine St.ee (Ev.ld1 (.mk rfl) (oH r) lj trivial rfl) ?_;refine g4 ?_;refine St.cq (λs=> ?_) (λs=> ?_)
  ·rw[eB (by omega)]at f
   refine g9 ?_;refine St.rV [_,_,_] [] ?_;exact⟨0,false,by rw[f];rfl,rfl⟩
  ·rw[fL (by omega)]at f
   refine g11 ?_;refine St.rV [_,_,_] [] ?_;exact⟨(Lib.ctz 64 (both T a b):Nat),true,by rw[f];rfl,rfl⟩
end Go.Proofs.YtblifkgpebebmaaGreatDoor
