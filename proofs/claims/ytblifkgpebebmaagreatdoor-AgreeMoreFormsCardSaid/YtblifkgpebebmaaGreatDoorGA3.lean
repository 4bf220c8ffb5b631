/-
  Laws of walks through programs, and facts on grammars, trees and queries.
  Conditions: none.
-/
import Derived.Test.YtblifkgpebebmaaGreatDoorGA2
import Derived.Shelf.Spec.TrailingZeros
set_option maxHeartbeats 2000000
set_option maxRecDepth 20000
set_option linter.unusedVariables false
set_option linter.unusedSimpArgs false
namespace Go.Proofs.YtblifkgpebebmaaGreatDoor
open Go Go.J Tryz
theorem uH (b:bB)(v:aV)(l:List fa):dc (.mk b v l)= .mk b (l.map dc):=by rw[dc,vc]
theorem qY (k:Int)(s:bB)(i:Int)(t:fa)(v:aV)(l:List dg):dH (.mk k s i t v l)= .mk k s i (dc t) (l.map dH):=by rw[dH,sY]
theorem Fm (r x:Int)(v:aV)(l:List dE):cx (.mk r x v l)= .mk r x (l.map cx):=by rw[cx,zp]
abbrev S0:ij:= .mk [] []
abbrev o3:fa:= .mk [] bT []
theorem DU {α:Type}{p:α→Prop}{x y:α}(hx:p x)(hy:p y):∀z∈[x,y],p z:=λz hz=>by
 simp only[List.mem_cons,List.not_mem_nil,or_false]at hz
 rcases hz with rfl|rfl
 ·exact hx
 ·exact hy
theorem Ob {α:Type}{p:α→Prop}{x:α}(hx:p x):∀z∈[x],p z:=λz hz=>by rw[bO.1 hz];exact hx
theorem adW:aa 1:=by unfold aa;decide
theorem adX:aa 2:=by unfold aa;decide
theorem adY:aa 3:=by unfold aa;decide
theorem adZ:aa 4:=by unfold aa;decide
theorem Ns:aa 0:=by unfold aa;decide
theorem mA (s:bB)(a:mr s):dx prog 54 #[sv s] ([].map aB) (λv H'=>H'=[aB (dZ (.mk s []) v)]):=by
 refine dx.body (args:=[sv s]) 5 func54 rfl ntmps54 rfl (λc=> ?_);refine St.cast (H':=[]) rfl ?_;refine g2 ?_;refine St.al (λb=> ?_);refine g5 ?_;refine St.ee (Ev.build (bH.ar rfl) (λw=>MU rfl w)) ?_;refine g4 ?_;refine St.fk kL ?_;refine St.dN eo ?_;refine St.tn s (.slice none 0 0) rfl [] ?_;refine St.V9 (.mk s bT []) (s:= .mk s []) (aU (.mk s bT [])) rfl (uH _ _ _) a ?_;refine St.rV [_] [aB (dZ (.mk s []) (aU (.mk s bT [])))] ?_;rfl
theorem fH (a b:Value)(s1 s2:ij):dx prog 55 #[a,b] ([dZ s1 a,dZ s2 b].map aB) (λv H'=>H'=[aB (dZ (.mk [] [s1,s2]) v)]):=by
 refine dx.body (args:=[a,b]) 9 func55 rfl ntmps55 rfl (λc=> ?_);refine St.cast (H':=[aB (dZ s1 a),aB (dZ s2 b)]) rfl ?_;refine go ?_;refine St.dZ s1 a (λx hx=> ?_);obtain⟨rfl,rfl,f⟩:=hx;refine St.dZ s2 b (λy hy=> ?_);obtain⟨rfl,rfl,e⟩:=hy;refine go ?_;refine St.dK (.mk rfl) rfl (λg=> ?_);refine St.dK (.mk rfl) rfl (λh=> ?_);refine St.al (λi=> ?_);refine g6 ?_;refine St.fp rfl (.aY rfl rfl) j3 iZ K8 rfl rfl (by simp[Value.cells]) rfl rfl (λd=> ?_);refine St.bR (.slice (some ⟨d,0,none⟩) 2 2) kL [x,y] rfl rfl (DU f e) ?_;refine St.dN eo ?_;refine St.mO eo (xs:=[]) (x:=y) ?_;refine St.mO eo (xs:=[y]) (x:=x) ?_;refine St.tn [] (.slice (some ⟨d,0,none⟩) 2 2) rfl [x,y] ?_;refine St.ee (Ev.build (bH.ar rfl) (λw=>E4 rfl w)) ?_;refine g4 ?_;refine St.V9 (.mk [] ⟨(.slice (some ⟨d,0,none⟩) 2 2),rfl⟩ [x,y]) (s:= .mk [] [dc x,dc y]) (aU (.mk [] ⟨(.slice (some ⟨d,0,none⟩) 2 2),rfl⟩ [x,y])) rfl (uH _ _ _) (aO _) ?_;refine St.rV [_] [aB (dZ (.mk [] [dc x,dc y]) (aU (.mk [] ⟨(.slice (some ⟨d,0,none⟩) 2 2),rfl⟩ [x,y])))] ?_;rfl
theorem eJ (name:bB)(a:mr name)(u:Value)(s:ij):dx prog 61 #[sv name,u] ([dZ s u].map aB) (λv H'=>H'=[aB (isTerm (.mk 1 name 0 s []) v)]):=by
 refine dx.body (args:=[sv name,u]) 8 func61 rfl ntmps61 rfl (λc=> ?_);refine St.cast (H':=[aB (dZ s u)]) rfl ?_;refine go ?_;refine St.dZ s u (λx hx=> ?_);obtain⟨rfl,rfl,b⟩:=hx;refine go ?_;refine St.dK (.mk rfl) rfl (λd=> ?_);refine St.al (λe=> ?_);refine g6 ?_;refine St.ee (Ev.build (bH.eh rfl rfl rfl) (λw=>CV rfl rfl w)) ?_;refine g4 ?_;refine St.fk dI ?_;refine St.dN cm ?_;refine St.D8 1 name 0 x (.slice none 0 0) rfl [] ?_;refine St.toTerm (.mk 1 name 0 x bT []) (s:= .mk 1 name 0 (dc x) []) (cM (.mk 1 name 0 x bT [])) rfl (qY _ _ _ _ _ _) ⟨adW,a,Ns,b⟩ ?_;refine St.rV [_] [aB (isTerm (.mk 1 name 0 (dc x) []) (cM (.mk 1 name 0 x bT [])))] ?_;rfl
theorem cg (i:Int)(a:aa i):dx prog 64 #[iv i] ([].map aB) (λv H'=>H'=[aB (isTerm (.mk 2 [] i S0 []) v)]):=by
 refine dx.body (args:=[iv i]) 5 func64 rfl ntmps64 rfl (λc=> ?_);refine St.cast (H':=[]) rfl ?_;refine g2 ?_;refine St.al (λb=> ?_);refine g5 ?_;refine St.ee (Ev.build (bH.aY rfl rfl) (λw=>GY rfl rfl w)) ?_;refine g4 ?_;refine St.fk kL ?_;refine St.dN eo ?_;refine St.tn [] (.slice none 0 0) rfl [] ?_;refine St.fk dI ?_;refine St.dN cm ?_;refine St.D8 2 [] i o3 (.slice none 0 0) rfl [] ?_;refine St.toTerm (.mk 2 [] i o3 bT []) (s:= .mk 2 [] i S0 []) (cM (.mk 2 [] i o3 bT [])) rfl (by rw[qY,uH];rfl) ⟨adX,aO _,a,aO _⟩ ?_;refine St.rV [_] [aB (isTerm (.mk 2 [] i S0 []) (cM (.mk 2 [] i o3 bT [])))] ?_;rfl
theorem e8 (a b:Value)(s:ij)(t:jK):dx prog 62 #[a,b] ([dZ s a,isTerm t b].map aB) (λv H'=>H'=[aB (isTerm (.mk 3 [] 0 s [t]) v)]):=by
 refine dx.body (args:=[a,b]) 9 func62 rfl ntmps62 rfl (λc=> ?_);refine St.cast (H':=[aB (dZ s a),aB (isTerm t b)]) rfl ?_;refine go ?_;refine St.dZ s a (λx hx=> ?_);obtain⟨rfl,rfl,f⟩:=hx;refine St.isTerm t b (λy hy=> ?_);obtain⟨rfl,rfl,e⟩:=hy;refine go ?_;refine St.dK (.mk rfl) rfl (λg=> ?_);refine St.dK (.mk rfl) rfl (λh=> ?_);refine St.al (λi=> ?_);refine g6 ?_;refine St.fp rfl (.ar rfl) iE fc QW rfl rfl (by simp[Value.cells]) rfl rfl (λd=> ?_);refine St.bR (.slice (some ⟨d,0,none⟩) 1 1) dI [y] rfl rfl (Ob e) ?_;refine St.dN cm ?_;refine St.mO cm (xs:=[]) (x:=y) ?_;refine St.D8 3 [] 0 x (.slice (some ⟨d,0,none⟩) 1 1) rfl [y] ?_;refine St.ee (Ev.build (bH.eh rfl rfl rfl) (λw=>CW rfl rfl w)) ?_;refine g4 ?_;refine St.toTerm (.mk 3 [] 0 x ⟨(.slice (some ⟨d,0,none⟩) 1 1),rfl⟩ [y]) (s:= .mk 3 [] 0 (dc x) [dH y]) (cM (.mk 3 [] 0 x ⟨(.slice (some ⟨d,0,none⟩) 1 1),rfl⟩ [y])) rfl (qY _ _ _ _ _ _) ⟨adY,aO _,Ns,f⟩ ?_;refine St.rV [_] [aB (isTerm (.mk 3 [] 0 (dc x) [dH y]) (cM (.mk 3 [] 0 x ⟨(.slice (some ⟨d,0,none⟩) 1 1),rfl⟩ [y])))] ?_;rfl
theorem ec (a b:Value)(t1 t2:jK):dx prog 63 #[a,b] ([isTerm t1 a,isTerm t2 b].map aB) (λv H'=>H'=[aB (isTerm (.mk 4 [] 0 S0 [t1,t2]) v)]):=by
 refine dx.body (args:=[a,b]) 9 func63 rfl ntmps63 rfl (λc=> ?_);refine St.cast (H':=[aB (isTerm t1 a),aB (isTerm t2 b)]) rfl ?_;refine go ?_;refine St.isTerm t1 a (λx hx=> ?_);obtain⟨rfl,rfl,f⟩:=hx;refine St.isTerm t2 b (λy hy=> ?_);obtain⟨rfl,rfl,e⟩:=hy;refine go ?_;refine St.dK (.mk rfl) rfl (λg=> ?_);refine St.dK (.mk rfl) rfl (λh=> ?_);refine St.al (λi=> ?_);refine g6 ?_;refine St.fp rfl (.aY rfl rfl) iE fc QW rfl rfl (by simp[Value.cells]) rfl rfl (λd=> ?_);refine St.bR (.slice (some ⟨d,0,none⟩) 2 2) dI [x,y] rfl rfl (DU f e) ?_;refine St.fk kL ?_;refine St.dN eo ?_;refine St.tn [] (.slice none 0 0) rfl [] ?_;refine St.dN cm ?_;refine St.mO cm (xs:=[]) (x:=y) ?_;refine St.mO cm (xs:=[y]) (x:=x) ?_;refine St.D8 4 [] 0 o3 (.slice (some ⟨d,0,none⟩) 2 2) rfl [x,y] ?_;refine St.ee (Ev.build (bH.aY rfl rfl) (λw=>GZ rfl rfl w)) ?_;refine g4 ?_;refine St.toTerm (.mk 4 [] 0 o3 ⟨(.slice (some ⟨d,0,none⟩) 2 2),rfl⟩ [x,y]) (s:= .mk 4 [] 0 S0 [dH x,dH y]) (cM (.mk 4 [] 0 o3 ⟨(.slice (some ⟨d,0,none⟩) 2 2),rfl⟩ [x,y])) rfl (by rw[qY,uH];rfl) ⟨adZ,aO _,Ns,aO _⟩ ?_;refine St.rV [_] [aB (isTerm (.mk 4 [] 0 S0 [dH x,dH y]) (cM (.mk 4 [] 0 o3 ⟨(.slice (some ⟨d,0,none⟩) 2 2),rfl⟩ [x,y])))] ?_;rfl
mutual
def szS:ij→Nat
 | .mk _ l=>Tc l+1
def Tc:List ij→Nat
 | []=>0
 |x::l=>szS x+Tc l
end
mutual
def szT:jK→Nat
 | .mk _ _ _ _ l=>Td l+1
def Td:List jK→Nat
 | []=>0
 |x::l=>szT x+Td l
end
theorem TN (x:ij)(d n:Nat):ly x d n=if 200<n+1∨40<d then(n+1,1)else if jR x.base x.args.length=false then(n+1,5)else lV x.args (d+1) (n+1):=by cases x;rw[ly];rfl
def zo (x:jK)(b:Nat):Int:=kD x.kind x.name x.index x.type x.args.length b
theorem Xn (x:jK)(d b n:Nat):mF x d b n=if 200<n+1∨40<d then(n+1,1,(n:Int))else if zo x b≠0 then(n+1,zo x b,(n:Int))else o5 x.args (d+1) (if x.kind=3 then b+1 else b) (n+1):=by cases x;rw[mF];rfl
theorem Pq:∀(x:jK) (d b n:Nat),(mF x d b n).2.1=0→(mF x d b n).2=(0,0):=by
 intro x;refine jK.rec (motive_1:=λx=>∀d b n,(mF x d b n).2.1=0→(mF x d b n).2=(0,0)) (motive_2:=λl=>∀d b n,(o5 l d b n).2.1=0→(o5 l d b n).2=(0,0)) ?_ ?_ ?_ x
 ·intro k s i t l c d b n h
  rw[mF]at h⊢
  split
  ·rename_i h1;rw[aC h1]at h;exact absurd h (by simp)
  ·rename_i h1
   rw[aA h1]at h
   split
   ·rename_i a;rw[aC a]at h;exact absurd h a
   ·rename_i a;rw[aA a]at h;exact c _ _ _ h
 ·intro d b n _;rfl
 ·intro x l f e d b n h
  rw[o5]at h⊢
  split
  ·rename_i h1;rw[aC h1]at h;exact absurd h h1
  ·rename_i h1;rw[aA h1]at h;exact e _ _ _ h
theorem Ps:∀(x:jK) (d b n:Nat),(mF x d b n).2.1=0→(mF x d b n).1≤200∧(mF x d b n).1=n+szT x:=by
 intro x;refine jK.rec (motive_1:=λx=>∀d b n,(mF x d b n).2.1=0→(mF x d b n).1≤200∧(mF x d b n).1=n+szT x) (motive_2:=λl=>∀d b n,(o5 l d b n).2.1=0→(n≤200→(o5 l d b n).1≤200)∧(o5 l d b n).1=n+Td l) ?_ ?_ ?_ x
 ·intro k s i t l c d b n h
  rw[mF]at h⊢
  by_cases h1:200<n+1∨40<d
  ·rw[aC h1]at h;exact absurd h (by simp)
  rw[aA h1]at h⊢
  by_cases a:kD k s i t l.length b≠0
  ·rw[aC a]at h;exact absurd h a
  rw[aA a]at h⊢;obtain⟨e,f⟩:=c _ _ _ h;exact⟨e (by omega),by rw[f,szT];omega⟩
 ·intro d b n _;exact⟨λh=>h,rfl⟩
 ·intro x l g j d b n h
  rw[o5]at h⊢
  by_cases h1:(mF x d b n).2.1≠0
  ·rw[aC h1]at h;exact absurd h h1
  rw[aA h1]at h⊢;obtain⟨m,a2⟩:=g d b n (iG.1 h1);obtain⟨o,p⟩:=j _ _ _ h;exact⟨λ_=>o m,by rw[p,a2,Td];omega⟩
theorem Xo:∀(x:jK) (d b n:Nat),n≤200→(mF x d b n).1≤201:=by
 intro x;refine jK.rec (motive_1:=λx=>∀d b n,n≤200→(mF x d b n).1≤201) (motive_2:=λl=>∀d b n,n≤200→(o5 l d b n).1≤201) ?_ ?_ ?_ x
 ·intro k s i t l a d b n f
  rw[mF]
  split
  ·show n+1≤201;omega
  ·split
   ·show n+1≤201;omega
   ·exact a _ _ _ (by omega)
 ·intro d b n h;show n≤201;omega
 ·intro x l c e d b n h
  rw[o5]
  split
  ·exact c d b n h
  ·rename_i h1
   exact e _ _ _ (Ps x d b n (iG.1 h1)).1
inductive Qy:jK→Nat→Nat→Prop
 |mk {x:jK} {d b:Nat} (hd:d≤40) (h:zo x b=0) (k:∀y∈x.args,Qy y (d+1) (if x.kind=3 then b+1 else b)):Qy x d b
theorem Pr:∀(x:jK) (d b n:Nat),(mF x d b n).2.1=0→Qy x d b:=by
 intro x;refine jK.rec (motive_1:=λx=>∀d b n,(mF x d b n).2.1=0→Qy x d b) (motive_2:=λl=>∀d b n,(o5 l d b n).2.1=0→∀y∈l,Qy y d b) ?_ ?_ ?_ x
 ·intro k s i t l c d b n h
  rw[mF]at h
  by_cases h1:200<n+1∨40<d
  ·rw[aC h1]at h;exact absurd h (by simp)
  rw[aA h1]at h
  by_cases a:kD k s i t l.length b≠0
  ·rw[aC a]at h;exact absurd h a
  rw[aA a]at h;exact .mk (by omega) (iG.1 a) (c _ _ _ h)
 ·intro d b n _ y hy;cases hy
 ·intro x l e f d b n h y hy
  rw[o5]at h
  by_cases h1:(mF x d b n).2.1≠0
  ·rw[aC h1]at h;exact absurd h h1
  rw[aA h1]at h
  rcases cH.1 hy with rfl|hy
  ·exact e _ _ _ (iG.1 h1)
  ·exact f _ _ _ h y hy
theorem Qy.inv {x:jK}{d b:Nat}(h:Qy x d b):d≤40∧zo x b=0∧∀y∈x.args,Qy y (d+1) (if x.kind=3 then b+1 else b):=by
 cases h with
 |mk a b c=>exact⟨a,b,c⟩
theorem Lh {k:Int}{nm:bB}{ix:Int}{a:ij}{m b:Nat}(h:kD k nm ix a m b=0):
 (k=1∧vd a=0∧m=0)∨(k=2∧0≤ix∧ix<b∧m=0)∨(k=3∧m=1∧vd a=0)∨(k=4∧m=2):=by
 unfold kD at h
 by_cases h1:k=1
 ·rw[aC h1]at h
  by_cases c:ix≠0∨m≠0
  ·rw[aC c]at h;cases h
  rw[aA c]at h
  by_cases c2:isName nm=false
  ·rw[aC c2]at h;cases h
  rw[aA c2]at h
  by_cases c3:vd a≠0
  ·rw[aC c3]at h;cases h
  exact .inl ⟨h1,iG.1 c3,by omega⟩
 rw[aA h1]at h
 by_cases d:k=2
 ·rw[aC d]at h
  by_cases c:nm≠ []∨pS a=false∨m≠0
  ·rw[aC c]at h;cases h
  rw[aA c]at h
  by_cases c2:ix<0∨(b:Int)≤ix
  ·rw[aC c2]at h;cases h
  exact .inr (.inl ⟨d,by omega,by omega,iG.1 λhm=>c (.inr (.inr hm))⟩)
 rw[aA d]at h
 by_cases e:k=3
 ·rw[aC e]at h
  by_cases c:nm≠ []∨ix≠0∨m≠1
  ·rw[aC c]at h;cases h
  rw[aA c]at h
  by_cases c3:vd a≠0
  ·rw[aC c3]at h;cases h
  exact .inr (.inr (.inl ⟨e,iG.1 λhm=>c (.inr (.inr hm)),iG.1 c3⟩))
 rw[aA e]at h
 by_cases f:k=4
 ·rw[aC f]at h
  by_cases c:nm≠ []∨ix≠0∨pS a=false∨m≠2
  ·rw[aC c]at h;cases h
  exact .inr (.inr (.inr ⟨f,iG.1 λhm=>c (.inr (.inr (.inr hm)))⟩))
 rw[aA f]at h;cases h
theorem Tg (x:jK)(c:List ij):xI x c=if x.kind=1 then some x.type else if x.kind=2 then c[c.length-1-x.index.toNat]? else if x.kind=3 then(nS x.args (c++ [x.type])).map λb=> .mk [] [x.type,b]else GV (nS x.args c) (DV x.args c):=by
 cases x;rw[xI];rfl
theorem uN (x:jK)(l:List jK)(c:List ij):nS (x::l) c=xI x c:=by rw[nS]
theorem Fu (x y:jK)(l:List jK)(c:List ij):DV (x::y::l) c=xI y c:=by rw[DV,nS]
theorem KK (a b:Option ij)(h:∀s l x,a=some s→s.args=l→b=some x→¬∃p q,l=[p,q]∧lU p x=true):GV a b=none:=by
 unfold GV
 split
 ·rename_i _ p q x
  split
  ·rename_i c;exact absurd ⟨p,q,rfl,c⟩ (h _ _ _ rfl rfl rfl)
  ·rfl
 ·rfl
theorem KM {s p q x:ij}(a:s.args=[p,q])(h:lU p x=true):GV (some s) (some x)=some q:=by
 cases s with
 |mk b l=>
  cases (show l=[p,q]from a)
  show(if lU p x then some q else none)=some q
  rw[aC h]
theorem Fk (x:jK)(d b n:Nat):o5 [x] d b n=mF x d b n:=by
 rw[o5,o5]
 split
 ·rfl
 ·rename_i h
  have:=Pq x d b n (iG.1 h)
  rw[←this]
theorem Pp (x y:jK)(d b n:Nat):o5 [x,y] d b n=if(mF x d b n).2.1≠0 then mF x d b n else mF y d b (mF x d b n).1:=by rw[o5,Fk]
inductive GP:ij→Prop
 |leaf {b:bB} (h:b=sE∨b=sT):GP (.mk b [])
 |fn {x y:ij} (hx:GP x) (hy:GP y):GP (.mk [] [x,y])
theorem zW {b:bB}{l:List ij}(h:jR b l.length=true):((b=sE∨b=sT)∧l=[])∨(b=[]∧∃x y,l=[x,y]):=by
 unfold jR at h
 simp only[Bool.or_eq_true,Bool.and_eq_true,decide_eq_true_eq]at h
 rcases h with⟨h1,a⟩|⟨h1,a⟩
 ·exact .inl ⟨h1,lD a⟩
 ·refine .inr ⟨h1,?_⟩
  match l,a with
  | [x,y],_=>exact⟨x,y,rfl⟩
theorem JT:∀(x:ij) (d n:Nat),(ly x d n).2=0→GP x∧(ly x d n).1=n+szS x∧(ly x d n).1≤200:=by
 intro x;refine ij.rec (motive_1:=λx=>∀d n,(ly x d n).2=0→GP x∧(ly x d n).1=n+szS x∧(ly x d n).1≤200) (motive_2:=λl=>∀d n,(lV l d n).2=0→(∀x∈l,GP x)∧(lV l d n).1=n+Tc l∧(n≤200→(lV l d n).1≤200)) ?_ ?_ ?_ x
 ·intro b l e d n h
  rw[ly]at h⊢
  by_cases h1:200<n+1∨40<d
  ·rw[aC h1]at h;exact absurd h (by simp)
  rw[aA h1]at h⊢
  by_cases a:jR b l.length=false
  ·rw[aC a]at h;exact absurd h (by simp)
  rw[aA a]at h⊢;obtain⟨c,f,k3⟩:=e _ _ h;refine⟨?_,by rw[f,szS];omega,k3 (by omega)⟩
  rcases zW (by simpa using a)with⟨g,rfl⟩|⟨rfl,x,y,rfl⟩
  ·exact .leaf g
  ·exact .fn (c x (by simp)) (c y (by simp))
 ·intro d n _;exact⟨λx hx=>(by cases hx),rfl,λh=>h⟩
 ·intro x l i j d n h
  rw[lV]at h⊢
  by_cases h1:(ly x d n).2≠0
  ·rw[aC h1]at h;exact absurd h h1
  rw[aA h1]at h⊢;obtain⟨k,a2,a3⟩:=i d n (iG.1 h1);obtain⟨m,o,p⟩:=j _ _ h;refine⟨λy hy=> ?_,by rw[o,a2,Tc];omega,λ_=>p a3⟩
  rcases cH.1 hy with rfl|hy
  ·exact k
  ·exact m y hy
end Go.Proofs.YtblifkgpebebmaaGreatDoor
namespace Go.Proofs.YtblifkgpebebmaaGreatDoor
open Go Go.J Tryz
theorem TP:∀(x:ij) (d n:Nat),n≤200→(ly x d n).1≤201:=by
 intro x;refine ij.rec (motive_1:=λx=>∀d n,n≤200→(ly x d n).1≤201) (motive_2:=λl=>∀d n,n≤200→(lV l d n).1≤201) ?_ ?_ ?_ x
 ·intro b l a d n f
  rw[ly]
  split
  ·show n+1≤201;omega
  ·split
   ·show n+1≤201;omega
   ·exact a _ _ (by omega)
 ·intro d n h;show n≤201;omega
 ·intro x l c e d n h
  rw[lV]
  split
  ·exact c d n h
  ·rename_i h1
   exact e _ _ (JT x d n (iG.1 h1)).2.2
theorem Ho {l:List ij}{k:Nat}{y:ij}(h:l[k]?=some y)(d n:Nat):lV (l.drop k) d n=if(ly y d n).2≠0 then ly y d n else lV (l.drop (k+1)) d (ly y d n).1:=by rw[bP h,lV]
theorem LV {l:List ij}{k:Nat}(h:l.length≤k)(d n:Nat):lV (l.drop k) d n=(n,0):=by rw[j6 h,lV]
theorem FX {b:bB}{m:Nat}(h:jR b m=true):m≤2:=by
 unfold jR at h
 simp only[Bool.or_eq_true,Bool.and_eq_true,decide_eq_true_eq]at h
 rcases h with⟨_,h⟩|⟨_,h⟩<;>omega
theorem FW (b:bB)(m:Nat):(((b==([101]:bB))||(b==([116]:bB)))&&decide ((m:Int)=0)||((b==([]:bB))&&decide ((m:Int)=2)))=jR b m:=by
 unfold jR;rw[Dd]
 simp only[Bool.or_eq_true,Bool.and_eq_true,beq_iff_eq,decide_eq_true_eq]
 constructor
 ·rintro (⟨h,k⟩|⟨h,k⟩)
  ·exact .inl ⟨h,by omega⟩
  ·exact .inr ⟨h,by omega⟩
 ·rintro (⟨h,k⟩|⟨h,k⟩)
  ·exact .inl ⟨h,by omega⟩
  ·exact .inr ⟨h,by omega⟩
theorem qo (s:bB)(i:s.length≤9223372036854775807):eD prog 46 #[sv s] [] (.bool (isName s)):=by
 refine eD.qB (args:=[sv s]) 55 func46 rfl ntmps46 rfl (λc=> ?_);refine g12 ?_;refine St.gf _ rfl rfl (λa=>Ev.move (.mk rfl)) rfl ?_;refine St.gf _ rfl rfl (λa=>Ev.O9 (ai.gv rfl a) wW) rfl ?_;refine St.gf _ rfl rfl (λa=>Ev.gtr (ai.gv rfl a) (.mk rfl)) rfl ?_;refine g2 ?_;refine St.gf _ rfl rfl (λa=>Ev.move (.mk rfl)) rfl ?_;refine St.gf _ rfl rfl (λa=>Ev.Cz (k:=0) (ai.gv rfl a) (.mk rfl) wW rfl (by first|omega|(simp only[ew]at a;omega))) rfl ?_;refine St.gf _ rfl rfl (λa=>Ev.lss (ai.gv rfl a) (.mk rfl)) rfl ?_;refine g2 ?_;refine St.gf _ rfl rfl (λa=>Ev.move (.mk rfl)) rfl ?_;refine St.gf _ rfl rfl (λa=>Ev.Cz (k:=0) (ai.gv rfl a) (.mk rfl) wW rfl (by first|omega|(simp only[ew]at a;omega))) rfl ?_;refine St.gf _ rfl rfl (λa=>Ev.gtr (ai.gv rfl a) (.mk rfl)) rfl ?_;refine g3 ?_;refine St.cq (λf=> ?_) (λf=> ?_)
 ·refine g7 ?_
  refine St.rV [_] [] ?_;exact be (ET (by omega)).symm
 ·refine g11 ?_
  refine St.lS (ι:=Nat) (λk T=>(25,iv k)::T) (λk=>k≤s.length∧(s.take k).all oJ=true) (λk=>s.length-k) 0 (aD.cons 0 rfl (aD.cons 24 rfl aD.nil)) ⟨aO _,rfl⟩ ?_;intro k g;obtain⟨hk,e⟩:=g;refine g6 ?_;refine St.cq (λh=> ?_) (λh=> ?_)
  ·refine g14 ?_
   refine St.ee (Ev.Cz (.mk rfl) (.mk rfl) wW rfl (by omega)) ?_;refine g8 ?_;refine St.gt _ rfl rfl (λa=>Ev.move (.mk rfl)) rfl ?_;refine St.gt _ rfl rfl (λa=>Ev.leq (ai.gv rfl a) (.mk rfl)) rfl ?_;refine g2 ?_;refine St.gf _ rfl rfl (λa=>Ev.move (.mk rfl)) rfl ?_;refine St.gf _ rfl rfl (λa=>Ev.geq (ai.gv rfl a) (.mk rfl)) rfl ?_;refine St.gf _ rfl rfl (λa=>Ev.move (ai.gv rfl a)) rfl ?_;refine St.YD _ rfl rfl (λa=>Ev.move (.mk rfl)) rfl ?_;refine St.YD _ rfl rfl (λa=>Ev.leq (ai.gv rfl a) (.mk rfl)) rfl ?_;refine St.gf _ rfl rfl (λa=>Ev.and (ai.gv rfl a) (λhp=>ai.gv rfl (U3 a hp))) rfl ?_;refine g2 ?_;refine St.gf _ rfl rfl (λa=>Ev.move (.mk rfl)) rfl ?_;refine St.gf _ rfl rfl (λa=>Ev.eql (ai.gv rfl a) (.mk rfl)) rfl ?_;refine g2 ?_;refine St.gf _ rfl rfl (λa=>Ev.move (.mk rfl)) rfl ?_;refine St.gf _ rfl rfl (λa=>Ev.eql (ai.gv rfl a) (.mk rfl)) rfl ?_;refine g4 ?_;refine St.cq (λb=> ?_) (λb=> ?_)
   ·refine g11 ?_
    refine St.rV [_] [] ?_;exact be (EU (k:=k) (by omega) (by simp only[oJ,low,digit,Bool.and_eq_false_iff,Bool.or_eq_false_iff,decide_eq_false_iff_not];omega)).symm
   ·refine g8 ?_
    refine St.aS (k+1) ⟨by omega,AP (d:=0) e (by simp only[oJ,low,digit,Bool.and_eq_true,Bool.or_eq_true,decide_eq_true_eq];exact b)⟩
  ·refine g11 ?_
   refine St.rV [_] [] ?_;exact be (EV (by omega) (by omega) (by simp only[low,Bool.and_eq_true,decide_eq_true_eq];omega) (Dy e (by omega))).symm
theorem ef (a b:Int):eD prog 44 #[iv a,iv b] [] (fv (a,b)):=by
 refine eD.qB (args:=[iv a,iv b]) 8 func44 rfl ntmps44 rfl (λc=> ?_);refine g2 ?_;refine St.al (λd=> ?_);refine g6 ?_;refine St.ee (Ev.build (bH.aY rfl rfl) (λw=>gj rfl rfl w)) ?_;refine g4 ?_;refine St.rV [_] [] ?_;rfl
theorem cQ (a b:Int):eD prog 78 #[iv a,iv b] [] (fv (a,b)):=by
 refine eD.qB (args:=[iv a,iv b]) 8 func78 rfl ntmps78 rfl (λc=> ?_);refine g2 ?_;refine St.al (λd=> ?_);refine g6 ?_;refine St.ee (Ev.build (bH.aY rfl rfl) (λw=>gj rfl rfl w)) ?_;refine g4 ?_;refine St.rV [_] [] ?_;rfl
theorem gD (a b:Int):eD prog 85 #[iv a,iv b] [] (fv (a,b)):=by
 refine eD.qB (args:=[iv a,iv b]) 8 func85 rfl ntmps85 rfl (λc=> ?_);refine g2 ?_;refine St.al (λd=> ?_);refine g6 ?_;refine St.ee (Ev.build (bH.aY rfl rfl) (λw=>gj rfl rfl w)) ?_;refine g4 ?_;refine St.rV [_] [] ?_;rfl
theorem BQ (x:fa):eD prog 115 #[aU x] [eo x] (.bool (pS (dc x))):=by
 refine eD.nD (args:=[aU x]) 12 func115 rfl ntmps115 rfl (λc=> ?_);refine g2 ?_;refine St.dK (.mk rfl) rfl (λb=> ?_);refine g4 ?_;refine St.u9 x ?_;refine g5 ?_;refine St.gt _ rfl rfl (λa=>Ev.dV (.mk rfl) lj) rfl ?_;refine St.gt _ rfl rfl (λa=>Ev.kP (ai.gv rfl a) j3 trivial (by rfl)) rfl ?_;refine St.gt _ rfl rfl (λa=>Ev.fj (ai.gv rfl a) j3) rfl ?_;refine St.gt _ rfl rfl (λa=>Ev.eql (ai.gv rfl a) (.mk rfl)) rfl ?_;refine g5 ?_;refine St.rV [_] [] ?_;exact be (by rw[pS,rA,kh,aN,Dd];simp only[Bool.and_eq_true,beq_iff_eq,decide_eq_true_eq];exact⟨λh=>⟨h.1,by have:=h.2;omega⟩,λh=>⟨h.1,by have:=h.2;omega⟩⟩)
theorem DK (b bw f:Nat):∀(x:fa) (d n:Nat),d≤100→n≤200→dx prog 139 ([aU x,iv (d:Nat)]++ [Value.pointer (some ⟨b,0,none⟩),Value.pointer (some ⟨bw,0,none⟩)]).toArray [aB (eo x),aW b (.cells [iv (n:Nat)].toArray 3 (0,0)),aW bw (.cells [(.func (.func 139) #[] [Value.pointer (some ⟨b,0,none⟩),Value.pointer (some ⟨bw,0,none⟩)].toArray)].toArray f (0,0))] (λv H'=>v=iv (ly (dc x) d n).2∧H'=[aW b (.cells [iv ((ly (dc x) d n).1:Nat)].toArray 3 (0,0)),aW bw (.cells [(.func (.func 139) #[] [Value.pointer (some ⟨b,0,none⟩),Value.pointer (some ⟨bw,0,none⟩)].toArray)].toArray f (0,0))]):=by
 intro x
 induction x using fa.ind
 rename_i x p
 intro d n hd u;refine dx.body (args:=[aU x,iv (d:Nat)]++ [Value.pointer (some ⟨b,0,none⟩),Value.pointer (some ⟨bw,0,none⟩)]) 62 func139 rfl ntmps139 rfl (λc=> ?_);refine go ?_
 have e:=TN (dc x) d n
 rw[rA,kh,aN]at e;refine St.u9 x ?_;refine go ?_;refine St.dK (.mk rfl) rfl (λw=> ?_);refine g7 ?_;refine St.cJ (.mk rfl) (.mk rfl) dL rfl (by rfl) ?_;refine St.mK b (L':=[iv ((n+1:Nat):Int)]) rfl ?_;refine g8 ?_;refine St.gf _ rfl rfl (λa=>Ev.move (.mk rfl)) rfl ?_;refine St.gf _ rfl rfl (λa=>Ev.gtr (ai.gv rfl a) (.mk rfl)) rfl ?_;refine g3 ?_;refine St.cq (λi=> ?_) (λi=> ?_)
 ·rw[aC (by omega)]at e
  refine g7 ?_;refine St.rV [_] [aW b (.cells [iv ((n+1):Nat)].toArray 3 (0,0)),aW bw (.cells [(.func (.func 139) #[] [Value.pointer (some ⟨b,0,none⟩),Value.pointer (some ⟨bw,0,none⟩)].toArray)].toArray f (0,0))] ?_
  rw[e];exact⟨rfl,rfl⟩
 ·rw[aA (by omega)]at e
  refine g8 ?_;refine St.gf _ rfl rfl (λa=>Ev.dV (.mk rfl) xQ) rfl ?_;refine St.gf _ rfl rfl (λa=>Ev.kP (ai.gv rfl a) wW trivial (by rfl)) rfl ?_;refine St.gf _ rfl rfl (λa=>Ev.Pa (ai.gv rfl a) (.mk rfl)) rfl ?_;refine g9 ?_;refine St.gt _ rfl rfl (λa=>Ev.dV (.mk rfl) lj) rfl ?_;refine St.gt _ rfl rfl (λa=>Ev.kP (ai.gv rfl a) j3 trivial (by rfl)) rfl ?_;refine St.gt _ rfl rfl (λa=>Ev.fj (ai.gv rfl a) j3) rfl ?_;refine St.gt _ rfl rfl (λa=>Ev.eql (ai.gv rfl a) (.mk rfl)) rfl ?_;refine g2 ?_;refine St.gf _ rfl rfl (λa=>Ev.dV (.mk rfl) xQ) rfl ?_;refine St.gf _ rfl rfl (λa=>Ev.kP (ai.gv rfl a) wW trivial (by rfl)) rfl ?_;refine St.gf _ rfl rfl (λa=>Ev.Pa (ai.gv rfl a) (.mk rfl)) rfl ?_;refine St.gf _ rfl rfl (λa=>Ev.move (ai.gv rfl a)) rfl ?_;refine St.YD _ rfl rfl (λa=>Ev.dV (.mk rfl) lj) rfl ?_;refine St.YD _ rfl rfl (λa=>Ev.kP (ai.gv rfl a) j3 trivial (by rfl)) rfl ?_;refine St.YD _ rfl rfl (λa=>Ev.fj (ai.gv rfl a) j3) rfl ?_;refine St.YD _ rfl rfl (λa=>Ev.eql (ai.gv rfl a) (.mk rfl)) rfl ?_;refine St.gf _ rfl rfl (λa=>Ev.and (ai.gv rfl a) (λhp=>ai.gv rfl (U3 a hp))) rfl ?_;refine g4 ?_;refine St.cond _ rfl (λg=> ?_) (λg=> ?_)
  ·rw[FW]at g
   rw[aC (by simpa using g)]at e;refine g7 ?_;refine St.rV [_] [aW b (.cells [iv ((n+1):Nat)].toArray 3 (0,0)),aW bw (.cells [(.func (.func 139) #[] [Value.pointer (some ⟨b,0,none⟩),Value.pointer (some ⟨bw,0,none⟩)].toArray)].toArray f (0,0))] ?_
   rw[e];exact⟨rfl,rfl⟩
  ·rw[FW]at g
   have q:=FX (show jR x.base x.args.length=true by simpa using g)
   rw[aA (by simpa using g)]at e;refine g12 ?_;refine St.te (ι:=Nat) (κ:=Nat) (λk z T=>(49,iv k)::T) (λk z=>[aW b (.cells [iv (z:Nat)].toArray 3 (0,0)),aW bw (.cells [(.func (.func 139) #[] [Value.pointer (some ⟨b,0,none⟩),Value.pointer (some ⟨bw,0,none⟩)].toArray)].toArray f (0,0)),aB (sl kL x.av.1 x.args),aB (aF eo x.args)]) (λk z=>k≤x.args.length∧z≤200∧lV (x.args.map dc) (d+1) (n+1)=lV ((x.args.map dc).drop k) (d+1) z) (λk z=>x.args.length-k) 0 (n+1) (aD.cons 1 rfl (aD.cons 3 rfl (aD.cons 47 rfl (aD.cons 48 rfl aD.nil)))) ⟨aO _,by omega,rfl⟩ ?_;rintro k z ⟨hk,hz,h⟩;refine g6 ?_;refine St.cq (λr=> ?_) (λr=> ?_)
   ·obtain⟨y,hy⟩:=aE (show k<x.args.length by omega)
    have m:=ae hy
    have o:=Ho (l:=x.args.map dc) (k:=k) (y:=dc y) (by rw[bQ,hy];rfl) (d+1) z
    refine St.cI eo x.args (x:=y) m ?_
    have hle:=TP (dc y) (d+1) z hz
    refine g7 ?_;refine St.ee (Ev.jr (.mk rfl) hy lW trivial iZ j7.eq) ?_;refine St.al (λA=> ?_);refine g9 ?_;refine St.slot 56 (iv ((d+1:Nat):Int)) rfl rfl ?_;refine St.ep (p y m (d+1) z (by omega) hz) UL (.mk rfl) (.aY rfl rfl) rfl ?_;rintro s _ ⟨rfl,rfl⟩;refine St.dQ ?_;refine g9 ?_;refine St.cq (λt=> ?_) (λt=> ?_)
    ·refine g12 ?_
     refine St.rV [_] [aW b (.cells [iv ((ly (dc y) (d+1) z).1:Nat)].toArray 3 (0,0)),aW bw (.cells [(.func (.func 139) #[] [Value.pointer (some ⟨b,0,none⟩),Value.pointer (some ⟨bw,0,none⟩)].toArray)].toArray f (0,0))] ?_
     rw[e,h,o,aC (by omega)];exact⟨rfl,rfl⟩
    ·refine g8 ?_
     have j:=(JT (dc y) (d+1) z (by omega)).2.2
     refine St.ue (k+1) (ly (dc y) (d+1) z).1 ⟨by omega,j,by rw[h,o,aA (by omega)]⟩
   ·rw[LV (by rw[aN];omega)]at h
    refine g11 ?_;refine St.rV [_] [aW b (.cells [iv (z:Nat)].toArray 3 (0,0)),aW bw (.cells [(.func (.func 139) #[] [Value.pointer (some ⟨b,0,none⟩),Value.pointer (some ⟨bw,0,none⟩)].toArray)].toArray f (0,0))] ?_
    rw[e,h];exact⟨rfl,rfl⟩
theorem wO (x:fa):eD prog 114 #[aU x] [eo x] (fv (vd (dc x),0)):=by
 refine eD.nD (args:=[aU x]) 10 func114 rfl ntmps114 rfl (λc=> ?_);refine g2 ?_;refine St.dK (.mk rfl) rfl (λd=> ?_);refine St.al (λe=> ?_);refine g4 ?_;refine St.al (λa=> ?_);refine St.cJ (.mk rfl) (.mk rfl) dL rfl (by rfl) ?_;refine St.mK a (L':=[iv ((0:Nat):Int)]) rfl ?_;refine g4 ?_;refine St.al (λb=> ?_);refine g4 ?_;refine St.ee (Ev.func (.aY rfl rfl)) ?_;refine St.cJ (.mk rfl) (.mk rfl) ae8 rfl (by rfl) ?_;refine g6 ?_;refine St.ep (DK a b 260 x 1 0 (by omega) (by omega)) UL (.mk rfl) (.aY rfl rfl) rfl ?_;rintro f _ ⟨rfl,rfl⟩;refine St.dQ ?_;refine St.ee (Ev.build (bH.ar rfl) (λw=>RC rfl w)) ?_;refine g4 ?_;refine St.rV [_] [] ?_;rfl
theorem PO (x y:ij):lU x y=(decide (x.base=y.base)&&decide (x.args.length=y.args.length)&&nz x.args y.args):=by cases x;cases y;rw[lU];rfl
theorem FU {l m:List ij}{k:Nat}{x y:ij}(hx:l[k]?=some x)(hy:m[k]?=some y):nz (l.drop k) (m.drop k)=(lU x y&&nz (l.drop (k+1)) (m.drop (k+1))):=by rw[bP hx,bP hy,nz]
theorem Hm {l m:List ij}{k:Nat}(h:l.length≤k):nz (l.drop k) (m.drop k)=true:=by rw[j6 h,nz];intro _ _ _ _ h;cases h
theorem LU:∀(x y:fa),eD prog 140 #[aU x,aU y] [eo x,eo y] (.bool (lU (dc x) (dc y))):=by
 intro x
 induction x using fa.ind
 rename_i x i
 intro y;refine eD.nE (args:=[aU x,aU y]) 39 func140 rfl ntmps140 rfl (λc=> ?_);refine go ?_
 have b:=PO (dc x) (dc y)
 rw[rA,rA,kh,kh,aN,aN]at b;refine St.u9 x ?_;refine St.u9 y ?_;refine St.wf x.av.1 (λq r=> ?_);refine go ?_;refine St.dK (.mk rfl) rfl (λs=> ?_);refine St.dK (.mk rfl) rfl (λt=> ?_);refine g12 ?_;refine St.gf _ rfl rfl (λa=>Ev.dV (.mk rfl) lj) rfl ?_;refine St.gf _ rfl rfl (λa=>Ev.kP (ai.gv rfl a) j3 trivial (by rfl)) rfl ?_;refine St.gf _ rfl rfl (λa=>Ev.fj (ai.gv rfl a) j3) rfl ?_;refine St.gf _ rfl rfl (λa=>Ev.dV (.mk rfl) lj) rfl ?_;refine St.gf _ rfl rfl (λa=>Ev.kP (ai.gv rfl a) j3 trivial (by rfl)) rfl ?_;refine St.gf _ rfl rfl (λa=>Ev.fj (ai.gv rfl a) j3) rfl ?_;refine St.gf _ rfl rfl (λa=>Ev.neq (ai.gv rfl a) (ai.gv rfl a)) rfl ?_;refine g3 ?_;refine St.cq (λd=> ?_) (λd=> ?_)
 ·refine g7 ?_
  refine St.rV [_] [] ?_;exact be (by rw[b];rcases d with h|h<;>simp[h]<;>omega)
 ·obtain⟨j,n⟩:x.base=y.base∧x.args.length=y.args.length:=⟨by simpa using d.1,by have:=d.2;omega⟩
  rw[j,n,dt rfl,dt rfl,Bool.true_and,Bool.true_and]at b;refine g12 ?_;refine St.lS (ι:=Nat) (λk T=>(23,iv k)::T) (λk=>k≤x.args.length∧nz (x.args.map dc) (y.args.map dc)=nz ((x.args.map dc).drop k) ((y.args.map dc).drop k)) (λk=>x.args.length-k) 0 (aD.cons 2 rfl (aD.cons 3 rfl (aD.cons 22 rfl aD.nil))) ⟨aO _,rfl⟩ ?_;intro k o;obtain⟨hk,e⟩:=o;refine g6 ?_;refine St.cq (λp=> ?_) (λp=> ?_)
  ·obtain⟨u,hu⟩:=aE (show k<x.args.length by omega)
   obtain⟨w,hw⟩:=aE (show k<y.args.length by omega);refine St.cI eo x.args (x:=u) (ae hu) ?_;refine St.cI eo y.args (x:=w) (ae hw) ?_
   have g:=FU (l:=x.args.map dc) (m:=y.args.map dc) (k:=k) (x:=dc u) (y:=dc w) (by rw[bQ,hu];rfl) (by rw[bQ,hw];rfl)
   refine g11 ?_;refine St.rq mixed (by kernel_rfl) (Mm.drawn _ _) ?_;refine g4 ?_;refine Sq.ee (Ev.jr (.mk rfl) hu lW trivial iZ j7.eq) ?_;refine g4 ?_;refine Sq.ee (Ev.jr (.mk rfl) hw lW trivial iZ j7.eq) ?_;refine Sq.ee (Ev.call (i u (ae hu) w) UM (.aY rfl rfl)) ?_;refine g3 ?_;refine St.cond _ rfl (λf=> ?_) (λf=> ?_)
   ·skip
    refine g11 ?_;refine St.rV [_] [] ?_;exact be (by rw[b,e,g,show lU (dc u) (dc w)=false by simpa using f];rfl)
   ·skip
    refine g8 ?_;refine St.aS (k+1) ⟨by omega,by rw[e,g,show lU (dc u) (dc w)=true by simpa using f,Bool.true_and]⟩
  ·rw[Hm (by rw[aN];omega)]at e
   refine g11 ?_;refine St.rV [_] [] ?_;exact be (by rw[b,e])
theorem Jl (x:dg)(b:Nat):zo (dH x) b=kD x.kind x.name x.index (dc x.type) x.args.length b:=by
 cases x with
 |mk k s i t v l=>rw[qY];show kD k s i (dc t) (l.map dH).length b=_;rw[aN];rfl
theorem sa (x:dg):(dH x).kind=x.kind:=by cases x;rfl
theorem tm1 (nm:bB)(ix:Int)(a:ij)(m b:Nat):kD 1 nm ix a m b=if ix≠0∨m≠0 then 5 else if isName nm=false then 10 else if vd a≠0 then 12 else 0:=by unfold kD;rw[aC rfl]
theorem tm2 (nm:bB)(ix:Int)(a:ij)(m b:Nat):kD 2 nm ix a m b=if nm≠ []∨pS a=false∨m≠0 then 5 else if ix<0∨(b:Int)≤ix then 15 else 0:=by unfold kD;rw[aA (by decide),aC rfl]
theorem tm3 (nm:bB)(ix:Int)(a:ij)(m b:Nat):kD 3 nm ix a m b=if nm≠ []∨ix≠0∨m≠1 then 5 else if vd a≠0 then 12 else 0:=by unfold kD;rw[aA (by decide),aA (by decide),aC rfl]
theorem tm4 (nm:bB)(ix:Int)(a:ij)(m b:Nat):kD 4 nm ix a m b=if nm≠ []∨ix≠0∨pS a=false∨m≠2 then 5 else 0:=by unfold kD;rw[aA (by decide),aA (by decide),aA (by decide),aC rfl]
theorem tm5 {k:Int}(h1:k≠1)(a:k≠2)(c:k≠3)(d:k≠4)(nm:bB)(ix:Int)(e:ij)(m b:Nat):kD k nm ix e m b=4:=by unfold kD;rw[aA h1,aA a,aA c,aA d]
theorem Ew {α:Type}{l:List α}(h:l.length=1):∃y,l=[y]:=by
 match l,h with
 | [y],_=>exact⟨y,rfl⟩
theorem zr {α:Type}{l:List α}(h:l.length=2):∃y z,l=[y,z]:=by
 match l,h with
 | [y,z],_=>exact⟨y,z,rfl⟩
theorem jL (b:Nat)(cd at_:Int):eD prog 113 ([iv cd]++ [Value.pointer (some ⟨b,0,none⟩)]).toArray [ri b (iv at_)] (fv (cd,at_)):=by
 refine eD.nD (args:=[iv cd]++ [Value.pointer (some ⟨b,0,none⟩)]) 7 func113 rfl ntmps113 rfl (λc=> ?_);refine g2 ?_;refine St.al (λa=> ?_);refine g6 ?_;refine St.ee (Ev.build (bH.aY rfl rfl) (λw=>gj rfl rfl w)) ?_;refine g4 ?_;refine St.rV [_] [] ?_;rfl
theorem Ap (e bw g:Nat):∀(x:dg) (d b n:Nat),dI.wf x→d≤100→b≤d→n≤200→dx prog 112 ([cM x,iv (d:Nat),iv (b:Nat)]++ [Value.pointer (some ⟨e,0,none⟩),Value.pointer (some ⟨bw,0,none⟩)]).toArray [aB (cm x),aW e (.cells [iv (n:Nat)].toArray 3 (0,0)),aW bw (.cells [(.func (.func 112) #[] [Value.pointer (some ⟨e,0,none⟩),Value.pointer (some ⟨bw,0,none⟩)].toArray)].toArray g (0,0))] (λv H'=>v=fv (mF (dH x) d b n).2∧H'=[aW e (.cells [iv ((mF (dH x) d b n).1:Nat)].toArray 3 (0,0)),aW bw (.cells [(.func (.func 112) #[] [Value.pointer (some ⟨e,0,none⟩),Value.pointer (some ⟨bw,0,none⟩)].toArray)].toArray g (0,0))]):=by
 intro x
 induction x using dg.ind
 rename_i x C
 intro d b n N hd O V
 have P:x.name.length≤9223372036854775807:=by have:=N.2.1;omega
 refine dx.body (args:=[cM x,iv (d:Nat),iv (b:Nat)]++ [Value.pointer (some ⟨e,0,none⟩),Value.pointer (some ⟨bw,0,none⟩)]) 166 func112 rfl ntmps112 rfl (λc=> ?_);refine go ?_
 have f:=Xn (dH x) d b n
 rw[Jl,sZ,sa]at f;refine St.Ex x ?_;refine St.wf x.av.1 (λD W=> ?_);refine go ?_;refine St.dK (.mk rfl) rfl (λX=> ?_);refine St.al (λJ=> ?_);refine g5 ?_;refine St.al (λj=> ?_);refine St.cJ (.mk rfl) (.mk rfl) dL rfl (by rfl) ?_;refine g6 ?_;refine St.cJ (.mk rfl) (.mk rfl) dL rfl (by rfl) ?_;refine St.mK e (L':=[iv ((n+1:Nat):Int)]) rfl ?_;refine g4 ?_;refine St.ee (Ev.func (.ar rfl)) ?_;refine g9 ?_;refine St.gf _ rfl rfl (λa=>Ev.move (.mk rfl)) rfl ?_;refine St.gf _ rfl rfl (λa=>Ev.gtr (ai.gv rfl a) (.mk rfl)) rfl ?_;refine g3 ?_;refine St.cq (λQ=> ?_) (λQ=> ?_)
 ·rw[aC (by omega)]at f
  refine g3 ?_;refine St.ee (Ev.na (jL j 1 n) rh (.mk rfl) (.ar rfl) (dm.aW dm.nil)) ?_;refine g5 ?_;refine St.rV [_] [aW e (.cells [iv ((n+1):Nat)].toArray 3 (0,0)),aW bw (.cells [(.func (.func 112) #[] [Value.pointer (some ⟨e,0,none⟩),Value.pointer (some ⟨bw,0,none⟩)].toArray)].toArray g (0,0))] ?_;rw[f];exact⟨rfl,rfl⟩
 ·rw[aA (by omega)]at f
  refine g16 ?_;refine St.cond _ rfl (λp=> ?_) (λp=> ?_)
  focus
   skip
   try simp only[ew]at p
   rw[p,tm1]at f;refine g7 ?_;refine St.gf _ rfl rfl (λa=>Ev.dV (.mk rfl) qv) rfl ?_;refine St.gf _ rfl rfl (λa=>Ev.kP (ai.gv rfl a) iE trivial (by rfl)) rfl ?_;refine St.gf _ rfl rfl (λa=>Ev.fj (ai.gv rfl a) iE) rfl ?_;refine St.gf _ rfl rfl (λa=>Ev.neq (ai.gv rfl a) (.mk rfl)) rfl ?_;refine g3 ?_;refine St.cond _ rfl (λE=> ?_) (λE=> ?_)
   focus
    skip
    try simp only[ew]at E
    rw[aC (show x.index≠0∨x.args.length≠0 by omega)]at f;refine g3 ?_;refine St.ee (Ev.na (jL j 5 n) rh (.mk rfl) (.ar rfl) (dm.aW dm.nil)) ?_;refine g7 ?_;refine St.rV [_] [aW e (.cells [iv ((n+1):Nat)].toArray 3 (0,0)),aW bw (.cells [(.func (.func 112) #[] [Value.pointer (some ⟨e,0,none⟩),Value.pointer (some ⟨bw,0,none⟩)].toArray)].toArray g (0,0))] ?_;rw[f,aC (by decide)];exact⟨rfl,rfl⟩
   focus
    skip
    try simp only[ew]at E
    obtain⟨Y,q⟩:x.index=0∧x.args.length=0:=by omega
    rw[aA (show ¬(x.index≠0∨x.args.length≠0) by omega)]at f;refine g7 ?_;refine St.ee (Ev.call (qo x.name P) RI (.ar rfl)) ?_;refine g3 ?_;refine St.cond _ rfl (λr=> ?_) (λr=> ?_)
    focus
     skip
     try simp only[ew]at r
     rw[aC (show isName x.name=false by simpa using r)]at f;refine g3 ?_;refine St.ee (Ev.na (jL j 10 n) rh (.mk rfl) (.ar rfl) (dm.aW dm.nil)) ?_;refine g7 ?_;refine St.rV [_] [aW e (.cells [iv ((n+1):Nat)].toArray 3 (0,0)),aW bw (.cells [(.func (.func 112) #[] [Value.pointer (some ⟨e,0,none⟩),Value.pointer (some ⟨bw,0,none⟩)].toArray)].toArray g (0,0))] ?_;rw[f,aC (by decide)];exact⟨rfl,rfl⟩
    focus
     skip
     try simp only[ew]at r
     rw[aA (show ¬isName x.name=false by simpa using r)]at f;refine g5 ?_;refine St.ee (Ev.iV 2 (.mk rfl) lW trivial iZ rfl rfl) ?_;refine St.ee (Ev.call (wO x.type) UB (.ar rfl)) ?_;refine St.ee (Ev.Cj (.mk rfl) Li rfl (by first|rw[gG]|(dsimp only;rw[gG])|kernel_rfl) rfl) ?_;refine g3 ?_;refine St.cond _ rfl (λs=> ?_) (λs=> ?_)
     focus
      skip
      try simp only[ew]at s
      rw[aC (show vd (dc x.type)≠0 by simpa using s)]at f;refine g3 ?_;refine St.ee (Ev.na (jL j 12 n) rh (.mk rfl) (.ar rfl) (dm.aW dm.nil)) ?_;refine g6 ?_;refine St.rV [_] [aW e (.cells [iv ((n+1):Nat)].toArray 3 (0,0)),aW bw (.cells [(.func (.func 112) #[] [Value.pointer (some ⟨e,0,none⟩),Value.pointer (some ⟨bw,0,none⟩)].toArray)].toArray g (0,0))] ?_;rw[f,aC (by decide)];exact⟨rfl,rfl⟩
     focus
      skip
      try simp only[ew]at s
      rw[aA (show ¬vd (dc x.type)≠0 by simpa using s),aA (by decide),lD q,lE,o5]at f;refine go ?_
  rotate_left
  focus
   skip
   try simp only[ew]at p
   refine g6 ?_;refine St.cond _ rfl (λt=> ?_) (λt=> ?_)
   focus
    skip
    try simp only[ew]at t
    rw[t,tm2]at f;refine g7 ?_;refine St.gf _ rfl rfl (λa=>Ev.dV (.mk rfl) xR) rfl ?_;refine St.gf _ rfl rfl (λa=>Ev.iV 2 (ai.gv rfl a) lW trivial iZ rfl rfl) rfl ?_;refine St.gf _ rfl rfl (λa=>Ev.call (BQ x.type) UC (.cons (ai.gv rfl a) .nil)) rfl ?_;refine St.gf _ rfl rfl (λa=>Ev.not (ai.gv rfl a)) rfl ?_;refine g2 ?_;refine St.gf _ rfl rfl (λa=>Ev.dV (.mk rfl) qv) rfl ?_;refine St.gf _ rfl rfl (λa=>Ev.kP (ai.gv rfl a) iE trivial (by rfl)) rfl ?_;refine St.gf _ rfl rfl (λa=>Ev.fj (ai.gv rfl a) iE) rfl ?_;refine St.gf _ rfl rfl (λa=>Ev.neq (ai.gv rfl a) (.mk rfl)) rfl ?_;refine g3 ?_;refine St.cond _ rfl (λu=> ?_) (λu=> ?_)
    focus
     skip
     simp only[Bool.or_eq_true,Bool.or_eq_false_iff,Bool.not_eq_true',Bool.not_eq_false',decide_eq_true_eq,decide_eq_false_iff_not,beq_iff_eq,beq_eq_false_iff_ne]at u
     rw[aC (show x.name≠ []∨pS (dc x.type)=false∨x.args.length≠0 by rcases u with(h|h)|h;exact .inl h;exact .inr (.inl h);exact .inr (.inr (by omega)))]at f;refine g3 ?_;refine St.ee (Ev.na (jL j 5 n) rh (.mk rfl) (.ar rfl) (dm.aW dm.nil)) ?_;refine g7 ?_;refine St.rV [_] [aW e (.cells [iv ((n+1):Nat)].toArray 3 (0,0)),aW bw (.cells [(.func (.func 112) #[] [Value.pointer (some ⟨e,0,none⟩),Value.pointer (some ⟨bw,0,none⟩)].toArray)].toArray g (0,0))] ?_;rw[f,aC (by decide)];exact⟨rfl,rfl⟩
    focus
     skip
     simp only[Bool.or_eq_true,Bool.or_eq_false_iff,Bool.not_eq_true',Bool.not_eq_false',decide_eq_true_eq,decide_eq_false_iff_not,beq_iff_eq,beq_eq_false_iff_ne]at u
     obtain⟨⟨A,F⟩,G⟩:=u
     have q:x.args.length=0:=by omega
     rw[aA (show ¬(x.name≠ []∨pS (dc x.type)=false∨x.args.length≠0) by rintro (h|h|h);exact h (by simpa using A);rw[F]at h;cases h;omega)]at f;refine g8 ?_;refine St.gf _ rfl rfl (λa=>Ev.dV (.mk rfl) tN) rfl ?_;refine St.gf _ rfl rfl (λa=>Ev.kP (ai.gv rfl a) gG trivial (by rfl)) rfl ?_;refine St.gf _ rfl rfl (λa=>Ev.move (.mk rfl)) rfl ?_;refine St.gf _ rfl rfl (λa=>Ev.geq (ai.gv rfl a) (ai.gv rfl a)) rfl ?_;refine g3 ?_;refine St.cond _ rfl (λl=> ?_) (λl=> ?_)
     focus
      skip
      try simp only[ew]at l
      rw[aC (show x.index<0∨(b:Int)≤x.index by omega)]at f;refine g3 ?_;refine St.ee (Ev.na (jL j 15 n) rh (.mk rfl) (.ar rfl) (dm.aW dm.nil)) ?_;refine g6 ?_;refine St.rV [_] [aW e (.cells [iv ((n+1):Nat)].toArray 3 (0,0)),aW bw (.cells [(.func (.func 112) #[] [Value.pointer (some ⟨e,0,none⟩),Value.pointer (some ⟨bw,0,none⟩)].toArray)].toArray g (0,0))] ?_;rw[f,aC (by decide)];exact⟨rfl,rfl⟩
     focus
      skip
      try simp only[ew]at l
      rw[aA (show ¬(x.index<0∨(b:Int)≤x.index) by omega),aA (by decide),lD q,lE,o5]at f;refine go ?_
   rotate_left
   focus
    skip
    try simp only[ew]at t
    refine g6 ?_;refine St.cq (λm=> ?_) (λm=> ?_)
    ·rw[m,tm3]at f
     refine g7 ?_;refine St.gf _ rfl rfl (λa=>Ev.dV (.mk rfl) tN) rfl ?_;refine St.gf _ rfl rfl (λa=>Ev.kP (ai.gv rfl a) gG trivial (by rfl)) rfl ?_;refine St.gf _ rfl rfl (λa=>Ev.neq (ai.gv rfl a) (.mk rfl)) rfl ?_;refine g2 ?_;refine St.gf _ rfl rfl (λa=>Ev.dV (.mk rfl) qv) rfl ?_;refine St.gf _ rfl rfl (λa=>Ev.kP (ai.gv rfl a) iE trivial (by rfl)) rfl ?_;refine St.gf _ rfl rfl (λa=>Ev.fj (ai.gv rfl a) iE) rfl ?_;refine St.gf _ rfl rfl (λa=>Ev.neq (ai.gv rfl a) (.mk rfl)) rfl ?_;refine g3 ?_;refine St.cond _ rfl (λi=> ?_) (λi=> ?_)
     ·simp only[Bool.or_eq_true,Bool.or_eq_false_iff,Bool.not_eq_true',Bool.not_eq_false',decide_eq_true_eq,decide_eq_false_iff_not,beq_iff_eq,beq_eq_false_iff_ne]at i
      rw[aC (show x.name≠ []∨x.index≠0∨x.args.length≠1 by rcases i with(h|h)|h;exact .inl h;exact .inr (.inl h);exact .inr (.inr (by omega)))]at f;refine g3 ?_;refine St.ee (Ev.na (jL j 5 n) rh (.mk rfl) (.ar rfl) (dm.aW dm.nil)) ?_;refine g7 ?_;refine St.rV [_] [aW e (.cells [iv ((n+1):Nat)].toArray 3 (0,0)),aW bw (.cells [(.func (.func 112) #[] [Value.pointer (some ⟨e,0,none⟩),Value.pointer (some ⟨bw,0,none⟩)].toArray)].toArray g (0,0))] ?_;rw[f,aC (by decide)];exact⟨rfl,rfl⟩
     ·simp only[Bool.or_eq_true,Bool.or_eq_false_iff,Bool.not_eq_true',Bool.not_eq_false',decide_eq_true_eq,decide_eq_false_iff_not,beq_iff_eq,beq_eq_false_iff_ne]at i
      obtain⟨⟨A,F⟩,G⟩:=i
      have q:x.args.length=1:=by omega
      rw[aA (show ¬(x.name≠ []∨x.index≠0∨x.args.length≠1) by rintro (h|h|h);exact h (by simpa using A);omega;omega)]at f;refine g6 ?_;refine St.ee (Ev.iV 2 (.mk rfl) lW trivial iZ rfl rfl) ?_;refine St.ee (Ev.call (wO x.type) UB (.ar rfl)) ?_;refine St.ee (Ev.Cj (.mk rfl) Li rfl (by first|rw[gG]|(dsimp only;rw[gG])|kernel_rfl) rfl) ?_;refine g3 ?_;refine St.cq (λH=> ?_) (λH=> ?_)
      ·rw[aC (show vd (dc x.type)≠0 by simpa using H)]at f
       refine g3 ?_;refine St.ee (Ev.na (jL j 12 n) rh (.mk rfl) (.ar rfl) (dm.aW dm.nil)) ?_;refine g7 ?_;refine St.rV [_] [aW e (.cells [iv ((n+1):Nat)].toArray 3 (0,0)),aW bw (.cells [(.func (.func 112) #[] [Value.pointer (some ⟨e,0,none⟩),Value.pointer (some ⟨bw,0,none⟩)].toArray)].toArray g (0,0))] ?_;rw[f,aC (by decide)];exact⟨rfl,rfl⟩
      ·obtain⟨y,hy⟩:=Ew q
       rw[aA (show ¬vd (dc x.type)≠0 by simpa using H),aA (by decide),aC rfl,hy,fL,lE,Fk]at f;refine St.cI cm x.args (x:=y) (by rw[hy];simp) ?_;refine g3 ?_;refine St.da [aW e (.cells [iv ((n+1):Nat)].toArray 3 (0,0)),aW bw (.cells [(.func (.func 112) #[] [Value.pointer (some ⟨e,0,none⟩),Value.pointer (some ⟨bw,0,none⟩)].toArray)].toArray g (0,0)),aB (cm y),aW J (.cells [iv 0,iv 0].toArray 35 (0,0))] mixed (λK L=> ?_);refine SW.gd 1 ?_;refine SW.gd 2 ?_;refine SW.dd 3 rfl (λ_=>Ev.cL (k:=0) (.mk rfl) (.mk rfl) iE fc rfl (by omega)) ?_;refine SW.dd 4 rfl (λ_=>Ev.jr (.mk rfl) (show x.args[0]?=some y by rw[hy];rfl) lX trivial fc j7.eq) ?_;refine SW.gd 5 ?_;refine SW.gd 6 ?_;refine SW.slot 115 (iv ((d+1:Nat):Int)) rfl rfl ?_;refine SW.gd 7 ?_;refine SW.gd 8 ?_;refine SW.slot 117 (iv ((b+1:Nat):Int)) rfl rfl ?_;refine SW.t1 0 ?_;refine g3 ?_;refine SW.go ?_;refine SW.t1 9 ?_;refine St.ep (C y (by rw[hy];simp) (d+1) (b+1) (n+1) (D y (by rw[hy];simp)) (by omega) (by omega) (by omega)) Ia (.mk rfl) (.eh rfl rfl rfl) rfl ?_;rintro R _ ⟨rfl,rfl⟩;refine St.dQ ?_;refine g2 ?_;refine SW.go ?_;refine SW.t1 10 ?_;refine g3 ?_;refine SW.go ?_;refine SW.dn ?_;refine g4 ?_;refine St.rV [_] [aW e (.cells [iv ((mF (dH y) (d+1) (b+1) (n+1)).1:Nat)].toArray 3 (0,0)),aW bw (.cells [(.func (.func 112) #[] [Value.pointer (some ⟨e,0,none⟩),Value.pointer (some ⟨bw,0,none⟩)].toArray)].toArray g (0,0))] ?_
       rw[f];exact⟨rfl,rfl⟩
    ·refine g6 ?_
     refine St.cq (λI=> ?_) (λI=> ?_)
     ·rw[I,tm4]at f
      refine g7 ?_;refine St.gf _ rfl rfl (λa=>Ev.dV (.mk rfl) tN) rfl ?_;refine St.gf _ rfl rfl (λa=>Ev.kP (ai.gv rfl a) gG trivial (by rfl)) rfl ?_;refine St.gf _ rfl rfl (λa=>Ev.neq (ai.gv rfl a) (.mk rfl)) rfl ?_;refine g2 ?_;refine St.gf _ rfl rfl (λa=>Ev.dV (.mk rfl) xR) rfl ?_;refine St.gf _ rfl rfl (λa=>Ev.iV 2 (ai.gv rfl a) lW trivial iZ rfl rfl) rfl ?_;refine St.gf _ rfl rfl (λa=>Ev.call (BQ x.type) UC (.cons (ai.gv rfl a) .nil)) rfl ?_;refine St.gf _ rfl rfl (λa=>Ev.not (ai.gv rfl a)) rfl ?_;refine g2 ?_;refine St.gf _ rfl rfl (λa=>Ev.dV (.mk rfl) qv) rfl ?_;refine St.gf _ rfl rfl (λa=>Ev.kP (ai.gv rfl a) iE trivial (by rfl)) rfl ?_;refine St.gf _ rfl rfl (λa=>Ev.fj (ai.gv rfl a) iE) rfl ?_;refine St.gf _ rfl rfl (λa=>Ev.neq (ai.gv rfl a) (.mk rfl)) rfl ?_;refine g3 ?_;refine St.cond _ rfl (λB=> ?_) (λB=> ?_)
      ·simp only[Bool.or_eq_true,Bool.or_eq_false_iff,Bool.not_eq_true',Bool.not_eq_false',decide_eq_true_eq,decide_eq_false_iff_not,beq_iff_eq,beq_eq_false_iff_ne]at B
       rw[aC (show x.name≠ []∨x.index≠0∨pS (dc x.type)=false∨x.args.length≠2 by rcases B with((h|h)|h)|h;exact .inl h;exact .inr (.inl h);exact .inr (.inr (.inl h));exact .inr (.inr (.inr (by omega))))]at f;refine g3 ?_;refine St.ee (Ev.na (jL j 5 n) rh (.mk rfl) (.ar rfl) (dm.aW dm.nil)) ?_;refine g7 ?_;refine St.rV [_] [aW e (.cells [iv ((n+1):Nat)].toArray 3 (0,0)),aW bw (.cells [(.func (.func 112) #[] [Value.pointer (some ⟨e,0,none⟩),Value.pointer (some ⟨bw,0,none⟩)].toArray)].toArray g (0,0))] ?_;rw[f,aC (by decide)];exact⟨rfl,rfl⟩
      ·simp only[Bool.or_eq_true,Bool.or_eq_false_iff,Bool.not_eq_true',Bool.not_eq_false',decide_eq_true_eq,decide_eq_false_iff_not,beq_iff_eq,beq_eq_false_iff_ne]at B
       obtain⟨⟨⟨A,F⟩,G⟩,S⟩:=B;obtain⟨y,z,hy⟩:=zr (show x.args.length=2 by omega);rw[aA (show ¬(x.name≠ []∨x.index≠0∨pS (dc x.type)=false∨x.args.length≠2) by rintro (h|h|h|h);exact h (by simpa using A);omega;rw[G]at h;cases h;omega),aA (by decide),aA (by decide),hy,fL,fL,lE,Pp]at f;refine St.cI cm x.args (x:=y) (by rw[hy];simp) ?_;refine St.cI cm x.args (x:=z) (by rw[hy];simp) ?_
       have hle:=Xo (dH y) (d+1) b (n+1) (by omega)
       have T:x.args.length=2:=by rw[hy];rfl
       refine g4 ?_;refine St.da [aW e (.cells [iv ((n+1):Nat)].toArray 3 (0,0)),aW bw (.cells [(.func (.func 112) #[] [Value.pointer (some ⟨e,0,none⟩),Value.pointer (some ⟨bw,0,none⟩)].toArray)].toArray g (0,0)),aB (cm y)] mixed (λK L=> ?_)
       repeat' first
        |with_reducible refine SW.me ?_
         first
          |refine SW.gd 1 ?_
          |refine SW.gd 2 ?_
          |refine SW.dd 3 rfl (λ_=>Ev.cL (k:=0) (.mk rfl) (.mk rfl) iE fc rfl (by omega)) ?_
          |refine SW.dd 4 rfl (λ_=>Ev.jr (.mk rfl) (show x.args[0]?=some y by rw[hy];rfl) lX trivial fc j7.eq) ?_
          |refine SW.gd 5 ?_
          |refine SW.gd 6 ?_
           refine SW.slot 149 (iv ((d+1:Nat):Int)) rfl rfl ?_
          |refine SW.gd 7 ?_
          |refine SW.t2 0 9 ?_ ?_
          |refine SW.t2 8 9 ?_ ?_
          |refine SW.t1 9 ?_
          |refine SW.t1 10 ?_
          |refine SW.t1 8 ?_
          |refine SW.t1 0 ?_
        |with_reducible refine SW.tg 0 ?_
         refine g3 ?_;refine SW.go ?_
        |with_reducible refine SW.tg 8 ?_
         refine St.ep (C y (by rw[hy];simp) (d+1) b (n+1) (D y (by rw[hy];simp)) (by omega) (by omega) (by omega)) Ia (.mk rfl) (.eh rfl rfl rfl) rfl ?_;rintro U _ ⟨rfl,rfl⟩;refine St.dQ ?_;refine g2 ?_;refine SW.go ?_
        |with_reducible refine SW.tg 9 ?_
         refine St.al (λZ=> ?_);refine g2 ?_;refine SW.go ?_
        |with_reducible refine SW.tg 10 ?_
         refine g3 ?_;refine SW.go ?_
       all_goals refine SW.dn ?_
       all_goals
        refine g8 ?_;refine St.cq (λo=> ?_) (λo=> ?_)
        ·rw[aC (show(mF (dH y) (d+1) b (n+1)).2.1≠0 by simpa using o)]at f
         refine g10 ?_;refine St.rV [_] [aW e (.cells [iv ((mF (dH y) (d+1) b (n+1)).1:Nat)].toArray 3 (0,0)),aW bw (.cells [(.func (.func 112) #[] [Value.pointer (some ⟨e,0,none⟩),Value.pointer (some ⟨bw,0,none⟩)].toArray)].toArray g (0,0))] ?_
         rw[f];exact⟨rfl,rfl⟩
        ·have M:(mF (dH y) (d+1) b (n+1)).2.1=0:=by simpa using o
         have hok:=(Ps (dH y) (d+1) b (n+1) M).1
         rw[aA (by rw[M];decide)]at f;refine g3 ?_;refine St.da [aW e (.cells [iv ((mF (dH y) (d+1) b (n+1)).1:Nat)].toArray 3 (0,0)),aW bw (.cells [(.func (.func 112) #[] [Value.pointer (some ⟨e,0,none⟩),Value.pointer (some ⟨bw,0,none⟩)].toArray)].toArray g (0,0)),aB (cm z),aW J (.cells [iv 0,iv 0].toArray 35 (0,0))] mixed (λK L=> ?_);refine SW.gd 1 ?_;refine SW.gd 2 ?_;refine SW.dd 3 rfl (λ_=>Ev.cL (k:=1) (.mk rfl) (.mk rfl) iE fc rfl (by omega)) ?_;refine SW.dd 4 rfl (λ_=>Ev.jr (.mk rfl) (show x.args[1]?=some z by rw[hy];rfl) lX trivial fc j7.eq) ?_;refine SW.gd 5 ?_;refine SW.gd 6 ?_;refine SW.slot 162 (iv ((d+1:Nat):Int)) rfl rfl ?_;refine SW.gd 7 ?_;refine SW.t1 0 ?_;refine g3 ?_;refine SW.go ?_;refine SW.t1 8 ?_;refine St.ep (C z (by rw[hy];simp) (d+1) b (mF (dH y) (d+1) b (n+1)).1 (D z (by rw[hy];simp)) (by omega) (by omega) (by omega)) Ia (.mk rfl) (.eh rfl rfl rfl) rfl ?_;rintro v164 _ ⟨rfl,rfl⟩;refine St.dQ ?_;refine g2 ?_;refine SW.go ?_;refine SW.t1 9 ?_;refine g3 ?_;refine SW.go ?_;refine SW.dn ?_;refine g4 ?_;refine St.rV [_] [aW e (.cells [iv ((mF (dH z) (d+1) b (mF (dH y) (d+1) b (n+1)).1).1:Nat)].toArray 3 (0,0)),aW bw (.cells [(.func (.func 112) #[] [Value.pointer (some ⟨e,0,none⟩),Value.pointer (some ⟨bw,0,none⟩)].toArray)].toArray g (0,0))] ?_
         rw[f];exact⟨rfl,rfl⟩
     ·rw[tm5 p t m I]at f
      refine g3 ?_;refine St.ee (Ev.na (jL j 4 n) rh (.mk rfl) (.ar rfl) (dm.aW dm.nil)) ?_;refine g6 ?_;refine St.rV [_] [aW e (.cells [iv ((n+1):Nat)].toArray 3 (0,0)),aW bw (.cells [(.func (.func 112) #[] [Value.pointer (some ⟨e,0,none⟩),Value.pointer (some ⟨bw,0,none⟩)].toArray)].toArray g (0,0))] ?_;rw[f,aC (by decide)];exact⟨rfl,rfl⟩
  all_goals
   refine g4 ?_;refine St.ee (Ev.build (bH.nil) (λw=>jv w)) ?_;refine g4 ?_;refine St.rV [_] [aW e (.cells [iv ((n+1):Nat)].toArray 3 (0,0)),aW bw (.cells [(.func (.func 112) #[] [Value.pointer (some ⟨e,0,none⟩),Value.pointer (some ⟨bw,0,none⟩)].toArray)].toArray g (0,0))] ?_;rw[f];exact⟨rfl,rfl⟩
theorem I4 (x:dg):(dH x).type=dc x.type:=by cases x;rfl
theorem Fh (x:dg):(dH x).index=x.index:=by cases x;rfl
theorem rF {a b:Option ij}{s1 s2:ij}{c d:Bool}(h1:c=true→a=some s1)(e:c=false→a=none)(g:d=true→b=some s2)(f:d=false→b=none)
 (h:c=true→d=true→∀p q,s1.args=[p,q]→lU p s2=true→False):GV a b=none:=by
 cases c with
 |false=>rw[e rfl];rfl
 |true=>
  cases d with
  |false=>
   rw[f rfl];unfold GV
   split
   ·contradiction
   ·rfl
  |true=>
   rw[h1 rfl,g rfl]
   refine KK _ _ λs l x i e2 j=> ?_
   cases i;cases j
   rintro ⟨p,q,rfl,k⟩;exact h rfl rfl p q e2 k
theorem Kl {l:List fa}{p q:fa}(h:l=[p,q]):l[0]?=some (l.headD o3):=by rw[h];rfl
section
variable {n:Nat}{F:Fr}{c:Ctx}{H:List ak}{T:Act→World→Prop}
theorem St.SA (l:List fa)[hd:lQ (aF eo l) H](k:St n F (Mm c (aB (eo (l.headD o3))::H)) T):St n F (Mm c H) T:=
 St.eY (eo (l.headD o3)) [aF eo l] (λρ h=>by
  cases l with
  |nil=>exact .mk (x:=o3) (sV kL ρ) (λy hy=>by cases hy)
  |cons p l=>exact h _ (aP ..) p (aP ..)) k
end
theorem I8:∀(x:dg) (ctx:List fa) (v:Value) (d:Nat),Qy (dH x) d ctx.length→dI.wf x→ctx.length≤d→dx prog 116 #[cM x,v] ([cm x,sl kL v ctx,aF eo ctx].map aB) (λr H'=>∃(s:fa) (b:Bool),r= .tuple #[aU s,.bool b]∧kL.wf s∧(b=true→xI (dH x) (ctx.map dc)=some (dc s))∧(b=false→xI (dH x) (ctx.map dc)=none)∧H'=[aB (eo s)]):=by
 intro x
 induction x using dg.ind
 rename_i x T
 intro ctx v d a hw NV;refine dx.body (args:=[cM x,v]) 101 func116 rfl ntmps116 rfl (λc=> ?_);refine St.cast (H':=[aB (cm x),aB (sl kL v ctx),aB (aF eo ctx)]) rfl ?_;refine go ?_;obtain⟨anA,Y,hk⟩:=a.inv;rw[Jl]at Y
 have hinv:=Lh Y
 rw[sZ,sa]at hk
 have i:=Tg (dH x) (ctx.map dc)
 rw[sa,sZ,I4,Fh,aN]at i;refine St.Ex x ?_;refine St.wf x.av.1 (λU Um=> ?_);refine St.wf v (λH hcx=> ?_);refine go ?_;refine St.dK (.mk rfl) rfl (λI=> ?_);refine St.al (λb4=> ?_);refine g17 ?_;refine St.cond _ rfl (λJ=> ?_) (λJ=> ?_)
 focus
  skip
  try simp only[ew]at J
  rw[aC J]at i;refine g3 ?_;refine St.ee (Ev.iV 2 (.mk rfl) lW trivial iZ rfl rfl) ?_;refine St.slot 18 (aU x.type) rfl rfl ?_;refine g7 ?_;refine St.rV [_,_] [aB (eo x.type)] ?_;exact⟨x.type,true,rfl,hw.2.2.2,(λ_=>i),((λj=>by cases j)),rfl⟩
 focus
  skip
  try simp only[ew]at J
  rw[aA J]at i;refine g6 ?_;refine St.cond _ rfl (λK=> ?_) (λK=> ?_)
  focus
   skip
   try simp only[ew]at K
   rw[aC K]at i;obtain⟨s,E⟩:=aE (show ctx.length-1-x.index.toNat<ctx.length by omega);refine St.cI eo ctx (x:=s) (ae E) ?_;refine g9 ?_;refine St.ee (Ev.cL (k:=(ctx.length-1-x.index.toNat)) (.mk rfl) (.mk rfl) j3 iZ (by omega) (by omega)) ?_;refine St.ee (Ev.jr (.mk rfl) E lW trivial iZ j7.eq) ?_;refine g7 ?_;refine St.rV [_,_] [aB (eo s)] ?_;exact⟨s,true,rfl,H s (ae E),(λ_=>by rw[i,bQ,E];rfl),((λj=>by cases j)),rfl⟩
  focus
   skip
   try simp only[ew]at K
   rw[aA K]at i;refine g6 ?_;refine St.cond _ rfl (λB=> ?_) (λB=> ?_)
   focus
    skip
    try simp only[ew]at B
    rw[aC B]at i;obtain⟨y,hy⟩:=Ew (show x.args.length=1 by omega)
    have h1l:x.args.length=1:=by omega
    have o:y∈x.args:=by rw[hy];simp
    have n:=hk (dH y) (eN o)
    rw[aC B]at n;refine St.cI cm x.args (x:=y) o ?_;rw[hy,fL,lE,uN]at i;refine go ?_;refine St.qS [] mixed (λf g=> ?_);refine SW.gd 0 ?_;refine SW.gd 1 ?_;refine SW.gd 2 ?_;refine SW.gd 3 ?_;refine SW.gd 4 ?_;refine SW.dd 5 rfl (λ_=>Ev.clip (.mk rfl) (.mk rfl) (.mk rfl) j3 iZ rfl rfl) ?_;refine SW.gd 6 ?_;refine SW.dd 7 rfl (λ_=>Ev.iV 2 (.mk rfl) lW trivial iZ rfl rfl) ?_;refine SW.slot 39 (aU x.type) rfl rfl ?_;refine SW.t1 8 ?_;refine St.fp rfl (.ar rfl) j3 iZ K8 rfl rfl (by simp[Value.cells]) rfl rfl (λb40=> ?_);refine g2 ?_;refine SW.go ?_;refine SW.t1 9 ?_;refine St.yH (.mk rfl) (.mk rfl) j3 iZ K8 Z3 (DU (p:=λu:Value=>u.oneCell'=true) rfl x.type.av.2) (by omega) (by omega) rfl rfl rfl rfl (λv41 anR=> ?_);refine St.bR v41 kL (ctx++ [x.type]) (by simp[rows];rfl) (by simp) (λu hu=>(List.mem_append.1 hu).elim (H u) (λh=>by rw[List.mem_singleton.1 h];exact hw.2.2.2)) ?_;refine St.tJ eo (xs:=ctx) (x:=x.type) ?_;refine g2 ?_;refine SW.go ?_;refine SW.gd 10 ?_;refine SW.dn ?_;refine g5 ?_;refine St.ee (Ev.cL (k:=0) (.mk rfl) (.mk rfl) iE fc rfl (by omega)) ?_;refine St.ee (Ev.jr (.mk rfl) (show x.args[0]?=some y by rw[hy];rfl) lX trivial fc j7.eq) ?_;refine go ?_;refine St.ag (T y o (ctx++ [x.type]) v41 (d+1) (by rw[←cR];exact n) (U y o) (by rw[←cR];omega)) Ib (.aY rfl rfl) rfl ?_;rintro v48 _ ⟨s,F,rfl,L,C,G,rfl⟩;refine St.ao ?_;refine g3 ?_;refine St.al (λb7=> ?_);refine g7 ?_;refine St.ee (Ev.iV 2 (.mk rfl) lW trivial iZ rfl rfl) ?_;refine St.slot 52 (aU x.type) rfl rfl ?_;refine go ?_;refine St.fp rfl (.aY rfl rfl) j3 iZ K8 rfl rfl (by simp[Value.cells]) rfl rfl (λt=> ?_);refine St.bR (.slice (some ⟨t,0,none⟩) 2 2) kL [x.type,s] rfl rfl (DU hw.2.2.2 L) ?_;refine St.dN eo ?_;refine St.mO eo (xs:=[]) (x:=s) ?_;refine St.mO eo (xs:=[s]) (x:=x.type) ?_;refine St.tn [] (.slice (some ⟨t,0,none⟩) 2 2) rfl [x.type,s] ?_;refine St.ee (Ev.build (bH.ar rfl) (λw=>E4 rfl w)) ?_;refine g8 ?_;refine St.rV [_,_] [aB (eo (.mk [] ⟨(.slice (some ⟨t,0,none⟩) 2 2),rfl⟩ [x.type,s]))] ?_;exact⟨(.mk [] ⟨(.slice (some ⟨t,0,none⟩) 2 2),rfl⟩ [x.type,s]),F,rfl,aO _,(λj=>by rw[i,show xI (dH y) (ctx.map dc++ [dc x.type])=some (dc s) by rw[←C j,cO];rfl,uH];rfl),(λj=>by rw[i,show xI (dH y) (ctx.map dc++ [dc x.type])=none by rw[←G j,cO];rfl];rfl),rfl⟩
   focus
    skip
    try simp only[ew]at B
    rw[aA B]at i;obtain⟨y,z,hy⟩:=zr (show x.args.length=2 by omega)
    have h2l:x.args.length=2:=by omega
    have o:y∈x.args:=by rw[hy];simp
    have A:z∈x.args:=by rw[hy];simp
    have n:=hk (dH y) (eN o)
    have M:=hk (dH z) (eN A)
    rw[aA B]at n M;refine St.cI cm x.args (x:=y) o ?_;refine St.cI cm x.args (x:=z) A ?_;rw[hy,fL,fL,lE,uN,Fu]at i;refine go ?_
 all_goals
  refine g6 ?_;refine St.ee (Ev.cL (k:=0) (.mk rfl) (.mk rfl) iE fc rfl (by omega)) ?_;refine St.ee (Ev.jr (.mk rfl) (show x.args[0]?=some y by rw[hy];rfl) lX trivial fc j7.eq) ?_;refine go ?_;refine St.ag (T y o ctx v (d+1) n (U y o) (by omega)) Ib (.aY rfl rfl) rfl ?_;rintro v63 _ ⟨s1,F,rfl,L,C,G,rfl⟩;refine St.ao ?_;refine g3 ?_;refine St.al (λb9=> ?_);refine g8 ?_;refine St.ee (Ev.cL (k:=1) (.mk rfl) (.mk rfl) iE fc rfl (by omega)) ?_;refine St.ee (Ev.jr (.mk rfl) (show x.args[1]?=some z by rw[hy];rfl) lX trivial fc j7.eq) ?_;refine go ?_;refine St.ag (T z A ctx v (d+1) M (U z A) (by omega)) Ib (.aY rfl rfl) rfl ?_;rintro v72 _ ⟨s2,I,rfl,anO,N,Q,rfl⟩;refine St.ao ?_;refine g3 ?_;refine St.al (λYA=> ?_);refine g6 ?_;refine St.u9 s1 ?_;refine St.wf s1.av.1 (λV hpl=> ?_);refine St.SA s1.args ?_;refine St.da [] mixed (λf g=> ?_);refine SW.gd 0 ?_;refine SW.gd 1 ?_;refine SW.gd 2 ?_;refine SW.split 77 _ rfl (λO=> ?_) (λO=> ?_)
  ·refine SW.gf 3 undef f g rfl rfl rfl (λR a=>by cases a) (by kernel_rfl) rfl ?_
   refine SW.slot 78 undef rfl (cK rfl _) ?_;refine SW.gf 4 undef f g rfl rfl rfl (λR a=>by cases a) (by kernel_rfl) rfl ?_;refine SW.slot 79 undef rfl (cK rfl _) ?_;refine SW.dd 5 rfl (λ_=>Ev.gZ (.mk rfl) rfl (.mk rfl)) ?_;refine SW.gd 6 ?_;refine SW.slot 81 (.bool true) rfl (congrArg Value.bool rfl) ?_;refine SW.gf 7 undef f g rfl rfl rfl (λR a=>by cases a) (by kernel_rfl) rfl ?_;refine SW.slot 82 undef rfl (cK rfl _) ?_;refine SW.gf 8 undef f g rfl rfl rfl (λR a=>by cases a) (by kernel_rfl) rfl ?_;refine SW.slot 83 undef rfl (cK rfl _) ?_;refine SW.gf 9 undef f g rfl rfl rfl (λR a=>by cases a) (by kernel_rfl) rfl ?_;refine SW.slot 84 undef rfl (cK rfl _) ?_;refine SW.gf 10 undef f g rfl rfl rfl (λR a=>by cases a) (by kernel_rfl) rfl ?_;refine SW.slot 85 undef rfl (cK rfl _) ?_;refine SW.dd 11 rfl (λ_=>Ev.gZ (.mk rfl) rfl (.mk rfl)) ?_;refine SW.gd 12 ?_;refine SW.slot 87 (.bool true) rfl (congrArg Value.bool rfl) ?_;refine SW.gf 13 undef f g rfl rfl rfl (λR a=>by cases a) (by kernel_rfl) rfl ?_;refine SW.slot 88 undef rfl (cK rfl _) ?_;refine SW.gf 14 undef f g rfl rfl rfl (λR a=>by cases a) (by kernel_rfl) rfl ?_;refine SW.slot 89 undef rfl (cK rfl _) ?_;refine SW.gf 15 undef f g rfl rfl rfl (λR a=>by cases a) (by kernel_rfl) rfl ?_;refine SW.slot 90 undef rfl (cK rfl _) ?_;refine SW.gf 16 undef f g rfl rfl rfl (λR a=>by cases a) (by kernel_rfl) rfl ?_;refine SW.slot 91 undef rfl (cK rfl _) ?_;refine SW.gf 17 undef f g rfl rfl rfl (λR a=>by cases a) (by kernel_rfl) rfl ?_;refine SW.slot 92 undef rfl (cK rfl _) ?_;refine SW.gf 18 undef f g rfl rfl rfl (λR a=>by cases a) (by kernel_rfl) rfl ?_;refine SW.slot 93 undef rfl (cK rfl _) ?_;refine SW.gf 19 undef f g rfl rfl rfl (λR a=>by cases a) (by kernel_rfl) rfl ?_;refine SW.slot 94 undef rfl (cK rfl _) ?_;refine SW.dd 20 rfl (λ_=>Ev.gZ (.mk rfl) rfl (.mk rfl)) ?_;refine SW.dn ?_;refine go ?_;refine St.cond _ rfl (λm=> ?_) (λm=> ?_)
   ·skip
    have D:F=true→I=true→∀p q,(dc s1).args=[p,q]→lU p (dc s2)=true→False:=λe1 _ _ _ _ _=>by rw[e1]at O;cases O
    refine g2 ?_;refine St.ee (Ev.build (bH.nil) (λw=>xM w)) ?_;refine g6 ?_;refine St.fk kL ?_;refine St.dN eo ?_;refine St.tn [] (.slice none 0 0) rfl [] ?_;refine St.rV [_,_] [aB (eo o3)] ?_;exact⟨o3,false,rfl,aO _,((λj=>by cases j)),(λ_=>by rw[i];exact rF C G N Q D),rfl⟩
   ·skip
    cases m
  ·refine SW.gf 3 _ f g rfl rfl rfl (λR _=>Ev.move (.mk rfl)) (by kernel_rfl) rfl ?_
   refine SW.slot 78 _ rfl (dA rfl _) ?_;refine SW.gf 4 _ f g rfl rfl rfl (λR _=>Ev.not (.mk rfl)) (by kernel_rfl) rfl ?_;refine SW.slot 79 _ rfl (dA rfl _) ?_;refine SW.dd 5 rfl (λ_=>Ev.kR (.mk rfl) rfl (.mk rfl)) ?_;refine SW.gd 6 ?_;refine SW.split 81 _ rfl (λP=> ?_) (λP=> ?_)
   ·refine SW.gf 7 undef f g rfl rfl rfl (λR a=>by cases a) (by kernel_rfl) rfl ?_
    refine SW.slot 82 undef rfl (cK rfl _) ?_;refine SW.gf 8 undef f g rfl rfl rfl (λR a=>by cases a) (by kernel_rfl) rfl ?_;refine SW.slot 83 undef rfl (cK rfl _) ?_;refine SW.gf 9 undef f g rfl rfl rfl (λR a=>by cases a) (by kernel_rfl) rfl ?_;refine SW.slot 84 undef rfl (cK rfl _) ?_;refine SW.gf 10 undef f g rfl rfl rfl (λR a=>by cases a) (by kernel_rfl) rfl ?_;refine SW.slot 85 undef rfl (cK rfl _) ?_;refine SW.dd 11 rfl (λ_=>Ev.gZ (.mk rfl) rfl (.mk rfl)) ?_;refine SW.gd 12 ?_;refine SW.slot 87 (.bool true) rfl (congrArg Value.bool rfl) ?_;refine SW.gf 13 undef f g rfl rfl rfl (λR a=>by cases a) (by kernel_rfl) rfl ?_;refine SW.slot 88 undef rfl (cK rfl _) ?_;refine SW.gf 14 undef f g rfl rfl rfl (λR a=>by cases a) (by kernel_rfl) rfl ?_;refine SW.slot 89 undef rfl (cK rfl _) ?_;refine SW.gf 15 undef f g rfl rfl rfl (λR a=>by cases a) (by kernel_rfl) rfl ?_;refine SW.slot 90 undef rfl (cK rfl _) ?_;refine SW.gf 16 undef f g rfl rfl rfl (λR a=>by cases a) (by kernel_rfl) rfl ?_;refine SW.slot 91 undef rfl (cK rfl _) ?_;refine SW.gf 17 undef f g rfl rfl rfl (λR a=>by cases a) (by kernel_rfl) rfl ?_;refine SW.slot 92 undef rfl (cK rfl _) ?_;refine SW.gf 18 undef f g rfl rfl rfl (λR a=>by cases a) (by kernel_rfl) rfl ?_;refine SW.slot 93 undef rfl (cK rfl _) ?_;refine SW.gf 19 undef f g rfl rfl rfl (λR a=>by cases a) (by kernel_rfl) rfl ?_;refine SW.slot 94 undef rfl (cK rfl _) ?_;refine SW.dd 20 rfl (λ_=>Ev.gZ (.mk rfl) rfl (.mk rfl)) ?_;refine SW.dn ?_;refine go ?_;refine St.cond _ rfl (λm=> ?_) (λm=> ?_)
    ·skip
     have D:F=true→I=true→∀p q,(dc s1).args=[p,q]→lU p (dc s2)=true→False:=λ_ e2 _ _ _ _=>by rw[e2]at P;cases P
     refine g2 ?_;refine St.ee (Ev.build (bH.nil) (λw=>xM w)) ?_;refine g6 ?_;refine St.fk kL ?_;refine St.dN eo ?_;refine St.tn [] (.slice none 0 0) rfl [] ?_;refine St.rV [_,_] [aB (eo o3)] ?_;exact⟨o3,false,rfl,aO _,((λj=>by cases j)),(λ_=>by rw[i];exact rF C G N Q D),rfl⟩
    ·skip
     cases m
   ·refine SW.gf 7 _ f g rfl rfl rfl (λR _=>Ev.dV (.mk rfl) lj) (by kernel_rfl) rfl ?_
    refine SW.slot 82 _ rfl (dA rfl _) ?_;refine SW.gf 8 _ f g rfl rfl rfl (λR _=>Ev.kP (.mk rfl) j3 trivial (by rfl)) (by kernel_rfl) rfl ?_;refine SW.slot 83 _ rfl (dA rfl _) ?_;refine SW.gf 9 _ f g rfl rfl rfl (λR _=>Ev.fj (.mk rfl) j3) (by kernel_rfl) rfl ?_;refine SW.slot 84 _ rfl (dA rfl _) ?_;refine SW.gf 10 _ f g rfl rfl rfl (λR _=>Ev.ne0) (by kernel_rfl) rfl ?_;refine SW.slot 85 _ rfl (dA rfl _) ?_;refine SW.dd 11 rfl (λ_=>Ev.kR (.mk rfl) rfl (.mk rfl)) ?_;refine SW.gd 12 ?_;refine SW.split 87 _ rfl (λS=> ?_) (λS=> ?_)
    ·refine SW.gf 13 undef f g rfl rfl rfl (λR a=>by cases a) (by kernel_rfl) rfl ?_
     refine SW.slot 88 undef rfl (cK rfl _) ?_;refine SW.gf 14 undef f g rfl rfl rfl (λR a=>by cases a) (by kernel_rfl) rfl ?_;refine SW.slot 89 undef rfl (cK rfl _) ?_;refine SW.gf 15 undef f g rfl rfl rfl (λR a=>by cases a) (by kernel_rfl) rfl ?_;refine SW.slot 90 undef rfl (cK rfl _) ?_;refine SW.gf 16 undef f g rfl rfl rfl (λR a=>by cases a) (by kernel_rfl) rfl ?_;refine SW.slot 91 undef rfl (cK rfl _) ?_;refine SW.gf 17 undef f g rfl rfl rfl (λR a=>by cases a) (by kernel_rfl) rfl ?_;refine SW.slot 92 undef rfl (cK rfl _) ?_;refine SW.gf 18 undef f g rfl rfl rfl (λR a=>by cases a) (by kernel_rfl) rfl ?_;refine SW.slot 93 undef rfl (cK rfl _) ?_;refine SW.gf 19 undef f g rfl rfl rfl (λR a=>by cases a) (by kernel_rfl) rfl ?_;refine SW.slot 94 undef rfl (cK rfl _) ?_;refine SW.dd 20 rfl (λ_=>Ev.gZ (.mk rfl) rfl (.mk rfl)) ?_;refine SW.dn ?_;refine go ?_;refine St.cond _ rfl (λm=> ?_) (λm=> ?_)
     ·skip
      simp only[ew]at S
      have D:F=true→I=true→∀p q,(dc s1).args=[p,q]→lU p (dc s2)=true→False:=λ_ _ p q e _=>by rw[kh]at e;have Z:=congrArg List.length e;rw[aN]at Z;exact S (by rw[Z];rfl)
      refine g2 ?_;refine St.ee (Ev.build (bH.nil) (λw=>xM w)) ?_;refine g6 ?_;refine St.fk kL ?_;refine St.dN eo ?_;refine St.tn [] (.slice none 0 0) rfl [] ?_;refine St.rV [_,_] [aB (eo o3)] ?_;exact⟨o3,false,rfl,aO _,((λj=>by cases j)),(λ_=>by rw[i];exact rF C G N Q D),rfl⟩
     ·skip
      cases m
    ·have W:=S
     simp only[ew]at W
     have X:s1.args.length=2:=by omega
     obtain⟨p,q,l⟩:=zr X;refine SW.gf 13 _ f g rfl rfl rfl (λR _=>Ev.dV (.mk rfl) lj) (by kernel_rfl) rfl ?_;refine SW.slot 88 _ rfl (dA rfl _) ?_;refine SW.gf 14 _ f g rfl rfl rfl (λR _=>Ev.kP (.mk rfl) j3 trivial (by rfl)) (by kernel_rfl) rfl ?_;refine SW.slot 89 _ rfl (dA rfl _) ?_;refine SW.gf 15 _ f g rfl rfl rfl (λR _=>Ev.cL (k:=0) (.mk rfl) (.mk rfl) j3 iZ rfl (by omega)) (by kernel_rfl) rfl ?_;refine SW.slot 90 _ rfl (dA rfl _) ?_;refine SW.gf 16 _ f g rfl rfl rfl (λR _=>Ev.jr (.mk rfl) (Kl l) lW trivial iZ j7.eq) (by kernel_rfl) rfl ?_;refine SW.slot 91 _ rfl (dA rfl _) ?_;refine SW.gf 17 _ f g rfl rfl rfl (λR _=>Ev.Wt (.mk rfl) lW trivial (by exact iZ)) (by kernel_rfl) rfl ?_;refine SW.slot 92 _ rfl (dA rfl _) ?_;refine SW.gf 18 _ f g rfl rfl rfl (λR _=>Ev.call (LU (s1.args.headD o3) s2) UM (.aY rfl rfl)) (by kernel_rfl) rfl ?_;refine SW.slot 93 _ rfl (dA rfl _) ?_;refine SW.gf 19 _ f g rfl rfl rfl (λR _=>Ev.not (.mk rfl)) (by kernel_rfl) rfl ?_;refine SW.slot 94 _ rfl (dA rfl _) ?_;refine SW.dd 20 rfl (λ_=>Ev.kR (.mk rfl) rfl (.mk rfl)) ?_;refine SW.dn ?_;refine go ?_;refine St.cond _ rfl (λm=> ?_) (λm=> ?_)
     ·skip
      simp only[ew]at m
      have D:F=true→I=true→∀p q,(dc s1).args=[p,q]→lU p (dc s2)=true→False:=λ_ _ p1 q1 e E=>by rw[kh,l]at e;cases e;rw[l]at m;exact absurd (m.symm.trans E) (by decide)
      refine g2 ?_;refine St.ee (Ev.build (bH.nil) (λw=>xM w)) ?_;refine g6 ?_;refine St.fk kL ?_;refine St.dN eo ?_;refine St.tn [] (.slice none 0 0) rfl [] ?_;refine St.rV [_,_] [aB (eo o3)] ?_;exact⟨o3,false,rfl,aO _,((λj=>by cases j)),(λ_=>by rw[i];exact rF C G N Q D),rfl⟩
     ·skip
      simp only[ew]at m O P
      rw[l]at m;refine St.cI eo s1.args (x:=q) (by rw[l];simp) ?_;refine g6 ?_;refine St.ee (Ev.cL (k:=1) (.mk rfl) (.mk rfl) j3 iZ rfl (by omega)) ?_;refine St.ee (Ev.jr (.mk rfl) (show s1.args[1]?=some q by rw[l];rfl) lW trivial iZ j7.eq) ?_;refine g5 ?_;refine St.rV [_,_] [aB (eo q)] ?_;exact⟨q,true,rfl,V q (by rw[l];simp),(λ_=>by rw[i,C O,N P];exact KM (by rw[kh,l];rfl) m),((λj=>by cases j)),rfl⟩
theorem Lf {t:jK}(h:(mF t 1 0 0).2.1≠0):qZ t=(mF t 1 0 0).2:=by unfold qZ;rw[aC h]
theorem I5 {t:jK}(h:¬(mF t 1 0 0).2.1≠0)(a:xI t []=none):qZ t=(12,-1):=by unfold qZ;rw[aA h,a];rfl
theorem Pk {t:jK}{s:ij}(h:¬(mF t 1 0 0).2.1≠0)(a:xI t []=some s):qZ t=(0,0):=by unfold qZ;rw[aA h,a,aA (by simp)]
theorem uL (x:dg)(hw:dI.wf x):eD prog 82 #[cM x] [cm x] (fv (qZ (dH x))):=by
 refine eD.nD (args:=[cM x]) 25 func82 rfl ntmps82 rfl (λc=> ?_);refine g2 ?_;refine St.dK (.mk rfl) rfl (λk=> ?_);refine St.al (λl=> ?_);refine g4 ?_;refine St.al (λg=> ?_);refine St.cJ (.mk rfl) (.mk rfl) dL rfl (by rfl) ?_;refine St.mK g (L':=[iv ((0:Nat):Int)]) rfl ?_;refine g4 ?_;refine St.al (λh=> ?_);refine g4 ?_;refine St.ee (Ev.func (.aY rfl rfl)) ?_;refine St.cJ (.mk rfl) (.mk rfl) ae6 rfl (by rfl) ?_;refine g4 ?_;refine St.dup (cm x) ?_;refine g3 ?_;refine St.ep (Ap g h 225 x 1 0 0 hw (by omega) (by omega) (by omega)) Ia (.mk rfl) (.eh rfl rfl rfl) rfl ?_;rintro v11 _ ⟨rfl,rfl⟩;refine St.dQ ?_;refine St.al (λm=> ?_);refine g10 ?_;refine St.cond _ rfl (λd=> ?_) (λd=> ?_)
 ·skip
  have a:(mF (dH x) 1 0 0).2.1≠0:=by simpa using d
  refine g8 ?_;refine St.rV [_] [] ?_;exact congrArg fv (Lf a).symm
 ·skip
  have a:¬(mF (dH x) 1 0 0).2.1≠0:=by simpa using d
  refine St.fk kL ?_;refine St.dN eo ?_;refine g6 ?_;refine St.ag (I8 x [] (.slice none 0 0) 1 (Pr _ _ _ _ (iG.1 a)) hw (aO _)) Ib (.aY rfl rfl) rfl ?_;rintro i _ ⟨s,b,rfl,n,j,e,rfl⟩;refine St.ao ?_;refine g3 ?_;refine St.al (λo=> ?_);refine g10 ?_;refine St.cq (λf=> ?_) (λf=> ?_)
  ·refine g2 ?_
   refine St.ee (Ev.build (bH.aY rfl rfl) (λw=>gj rfl rfl w)) ?_;refine g5 ?_;refine St.rV [_] [] ?_;exact congrArg fv (I5 a (e (by simpa using f))).symm
  ·refine g4 ?_
   refine St.ee (Ev.build (bH.nil) (λw=>jv w)) ?_;refine g4 ?_;refine St.rV [_] [] ?_;exact congrArg fv (Pk a (j (by simpa using f))).symm
theorem vu:∀(l:List ej) (U:List Nat),(nU U l).length=U.length+l.length
 | [],U=>rfl
 |t::l,U=>by rw[nU,vu l];simp;omega
theorem uR (l:List ej):(Ar l).length=l.length:=by unfold Ar;rw[vu];simp
theorem pL:∀(l m:List ej) (U:List Nat),nU U (l++m)=nU (nU U l) m
 | [],_,_=>rfl
 |t::l,m,U=>by rw[wZ,nU,nU,pL l m]
theorem Br:∀(l:List ej) (U:List Nat) (i:Nat),i<U.length→(nU U l)[i]?=U[i]?
 | [],_,_,_=>rfl
 |t::l,U,i,h=>by rw[nU,Br l _ i (by simp;omega),ob h]
theorem QD (l:List ej)(t:ej):Ar (l++ [t])=Ar l++ [Q6 (Ar l) l.length t.2]:=by
 unfold Ar;rw[pL,nU,nU,vu];simp
theorem zz (l:List ej)(k i:Nat)(h:i<k)(hk:k≤l.length):(Ar (l.take k)).getD i 0=(Ar l).getD i 0:=by
 have e:Ar l=nU (Ar (l.take k)) (l.drop k):=by unfold Ar;rw[←pL,ql]
 rw[e,aw,aw,Br _ _ _ (by rw[uR,eR];omega)]
theorem QC {l:List ej}{k:Nat}{t:ej}(h:l[k]?=some t):(Ar l).getD k 0=Q6 (Ar (l.take k)) k t.2:=by
 have hk:=ah h
 rw[←zz l (k+1) k (pN _) hk,aX h,QD]
 have e:(l.take k).length=k:=by rw[eR];omega
 rw[aw,lZ (by rw[uR,e];exact aR _),uR,e,ff];rfl
theorem Iv (g:Int→Nat)(j:Nat):∀(ps:List Int) (u:Nat),(ps.foldl (λu p=>u|||g p) u).testBit j=(u.testBit j||ps.any λp=>(g p).testBit j)
 | [],u=>by simp
 |p::ps,u=>by rw[we,Iv g j ps,Nat.testBit_or,List.any_cons,Bool.or_assoc]
theorem Q7 (U:List Nat)(i:Nat)(ps:List Int)(j:Nat):(Q6 U i ps).testBit j=(decide (i=j)||ps.any λp=>(U.getD p.toNat 0).testBit j):=by
 unfold Q6;rw[Iv,Nat.testBit_two_pow]
structure im (l:List ej):Prop where
 len:l.length≤60
 par:∀(i:Nat) (t:ej),l[i]?=some t→∀p∈t.2,0≤p∧p<i
theorem JI {i:Int}:∀{ps:List Int} {last:Int},(rO i last ps).1=0→rO i last ps=(0,0)∧∀p∈ps,0≤p∧p<i
 | [],_,_=>⟨rfl,λp h=>by cases h⟩
 |p::ps,last,h=>by
  rw[rO]at h⊢
  by_cases h1:p<0∨i≤p
  ·rw[aC h1]at h;exact absurd h (by simp)
  ·rw[aA h1]at h⊢
   by_cases b:p≤last
   ·rw[aC b]at h;exact absurd h (by simp)
   ·rw[aA b]at h⊢
    obtain⟨e,k⟩:=JI h;refine⟨e,λq a=> ?_⟩
    rcases cH.1 a with rfl|a
    ·omega
    ·exact k q a
theorem Bl:∀{l:List ej} {known:List bB} {i:Nat},(lP known i l).1=0→lP known i l=(0,0)∧∀(k:Nat) (t:ej),l[k]?=some t→∀p∈t.2,0≤p∧p<(i+k:Nat)
 | [],_,_,_=>⟨rfl,λk t h=>by simp at h⟩
 |t::l,known,i,h=>by
  rw[lP]at h⊢
  by_cases h1:isName t.1=false
  ·rw[aC h1]at h;exact absurd h (by simp)
  rw[aA h1]at h⊢
  by_cases c:t.1∈known
  ·rw[aC c]at h;exact absurd h (by simp)
  rw[aA c]at h⊢
  by_cases d:decide (i=0)≠decide (t.2.length=0)
  ·rw[aC d]at h;exact absurd h (by simp)
  rw[aA d]at h⊢
  by_cases a:(rO i (-1) t.2).1≠0
  ·rw[aC a]at h;exact absurd h a
  rw[aA a]at h⊢;obtain⟨e,k⟩:=Bl h;refine⟨e,λj u b=> ?_⟩
  cases j with
  |zero=>
   simp only[List.getElem?_cons_zero,Option.some.injEq]at b
   subst b;intro p hp
   have:=(JI (iG.1 a)).2 p hp
   omega
  |succ j=>
   rw[s6]at b;intro p hp
   have:=k j u b p hp
   omega
theorem I6 {l:List ej}(h:(Aq l).1=0):Aq l=(0,0)∧0<l.length∧im l:=by
 unfold Aq at h⊢
 by_cases h1:l.length=0∨60<l.length
 ·rw[aC h1]at h;exact absurd h (by simp)
 ·rw[aA h1]at h⊢
  obtain⟨e,k⟩:=Bl h;refine⟨e,by omega,by omega,λi t a p hp=> ?_⟩
  have:=k i t a p hp
  omega
section
variable {l:List ej}
theorem TZ {i:Nat}(a:l.length≤i)(j:Nat):iD l i j=false:=by
 unfold iD;rw[aw,ic (by rw[uR];exact a)];exact Nat.zero_testBit _
theorem sub_lt {i j:Nat}(h:iD l i j=true):i<l.length:=by
 rcases eM i l.length with k|k
 ·exact k
 ·rw[TZ k]at h;cases h
theorem qV (b:im l){i:Nat}{t:ej}(a:l[i]?=some t)(j:Nat):iD l i j=(decide (i=j)||t.2.any λp=>iD l p.toNat j):=by
 show((Ar l).getD i 0).testBit j=_
 rw[QC a,Q7]
 congr 1
 rw[Dd,pZ,pZ]
 have e:∀p∈t.2,(Ar (l.take i)).getD p.toNat 0=(Ar l).getD p.toNat 0:=λp hp=>by
  have:=b.par i t a p hp
  exact zz l i _ (by omega) (Nat.le_of_lt (ah a))
 constructor
 ·rintro ⟨p,hp,h⟩;rw[e p hp]at h;exact⟨p,hp,h⟩
 ·rintro ⟨p,hp,h⟩;exact⟨p,hp,by rw[e p hp];exact h⟩
theorem sub_self (a:im l){i:Nat}(b:i<l.length):iD l i i=true:=by
 rw[qV a (bU b)];simp
theorem vg (b:im l){i j:Nat}(h:iD l i j=true):i=j∨∃t p,l[i]?=some t∧p∈t.2∧0≤p∧p<i∧iD l p.toNat j=true:=by
 have a:=sub_lt h
 rw[qV b (bU a)]at h
 simp only[Bool.or_eq_true,decide_eq_true_eq,List.any_eq_true]at h
 rcases h with h|⟨p,hp,h⟩
 ·exact .inl h
 ·have:=b.par i _ (bU a) p hp
  exact .inr ⟨_,p,bU a,hp,this.1,this.2,h⟩
theorem sub_le (a:im l):∀{i j:Nat},iD l i j=true→j≤i:=by
 intro i
 induction i using Nat.strongRecOn with
 |ind i b=>
  intro j h
  rcases vg a h with rfl|⟨t,p,_,_,d,h1,c⟩
  ·exact aR _
  ·have:=b p.toNat (by omega) c
   omega
theorem vh (a:im l):∀{i j k:Nat},iD l i j=true→iD l j k=true→iD l i k=true:=by
 intro i
 induction i using Nat.strongRecOn with
 |ind i c=>
  intro j k h1 b
  rcases vg a h1 with rfl|⟨t,p,ht,hp,e,f,d⟩
  ·exact b
  ·have:=c p.toNat (by omega) d b
   rw[qV a ht]
   simp only[Bool.or_eq_true,List.any_eq_true]
   exact .inr ⟨p,hp,this⟩
theorem Pb (a:im l):∀{i j:Nat},iD l i j=true→i≠j→∃z t,iD l i z=true∧l[z]?=some t∧(j:Int)∈t.2∧j<z:=by
 intro i
 induction i using Nat.strongRecOn with
 |ind i b=>
  intro j h c
  rcases vg a h with e|⟨t,p,ht,hp,o,q,d⟩
  ·exact absurd e c
  ·by_cases e:p.toNat=j
   ·have f:p=(j:Int):=by omega
    subst f;exact⟨i,t,sub_self a (ah ht),ht,hp,by omega⟩
   ·obtain⟨z,u,g,k,m,n⟩:=b p.toNat (by omega) d e
    refine⟨z,u,?_,k,m,n⟩;rw[qV a ht]
    simp only[Bool.or_eq_true,List.any_eq_true]
    exact .inr ⟨p,hp,g⟩
structure y7 (l:List ej)(a i:Nat)(M:List Bool):Prop where
 len:M.length=l.length
 snd:∀x,M[x]?=some true→iD l a x=true
 top:M[a]?=some true
 cls:∀(y:Nat) (t:ej),i<y→M[y]?=some true→l[y]?=some t→∀p∈t.2,M[p.toNat]?=some true
theorem y7.start (c:im l){a:Nat}(b:a<l.length):y7 l a a ((List.replicate l.length false).set a true):=by
 refine⟨by simp,λx hx=> ?_,by rw[List.getElem?_set_self (by simp;exact b)],λy t hy hm _=> ?_⟩
 ·by_cases e:a=x
  ·subst e;exact sub_self c b
  ·rw[ig e,s7]at hx
   split at hx<;>simp at hx
 ·rw[ig (by omega),s7]at hm
  split at hm<;>simp at hm
theorem y7.done (c:im l){a b:Nat}{M:List Bool}(h:y7 l a b M):∀(n y:Nat),a-y=n→b≤y→iD l a y=true→M[y]?=some true:=by
 intro n
 induction n using Nat.strongRecOn with
 |ind n d=>
  intro y j hy f
  by_cases e:a=y
  ·subst e;exact h.top
  ·obtain⟨z,t,h1,g,i,k⟩:=Pb c f e
   have hz:=sub_le c h1
   have:=d (a-z) (by omega) z rfl (by omega) h1
   have:=h.cls z t (by omega) this g _ i
   simpa using this
theorem y7.fin (d:im l){a b:Nat}{M:List Bool}(h:y7 l a b M)(f:b<l.length):M[b]?=some (iD l a b):=by
 cases e:iD l a b with
 |true=>exact h.done d _ b rfl (aR _) e
 |false=>
  have c:b<M.length:=by rw[h.len];exact f
  rw[bU c]
  cases e2:M[b]with
  |false=>rfl
  |true=>
   have:=h.snd b (by rw[bU c,e2])
   rw[e]at this;cases this
theorem y7.skip {a i:Nat}{M:List Bool}(h:y7 l a (i+1) M)(hm:M[i+1]?≠some true):y7 l a i M:=
 ⟨h.len,h.snd,h.top,λy t hy b=>by
  by_cases e:y=i+1
  ·subst e;exact absurd b hm
  ·exact h.cls y t (by omega) b⟩
structure M6 (l:List ej)(a i:Nat)(t:ej)(k:Nat)(M:List Bool):Prop where
 ok:y7 l a i M
 at_:M[i]?=some true
 upto:∀p∈t.2.take k,M[p.toNat]?=some true
theorem M6.step (c:im l){a i k:Nat}{t:ej}{M:List Bool}{p:Int}(h:M6 l a i t k M)(d:l[i]?=some t)(hp:t.2[k]?=some p):M6 l a i t (k+1) (M.set p.toNat true):=by
 have f:=c.par i t d p (ae hp)
 have g:=ah d
 have mono:∀x,M[x]?=some true→(M.set p.toNat true)[x]?=some true:=λx hx=>by
  by_cases e:p.toNat=x
  ·subst e;rw[fU (ah hx)]
  ·rw[ig e];exact hx
 refine⟨⟨by rw[cn];exact h.ok.len,λx hx=> ?_,mono _ h.ok.top,λy u hy hm hu q b=> ?_⟩,mono _ h.at_,λq b=> ?_⟩
 ·by_cases e:p.toNat=x
  ·subst e
   refine vh c (h.ok.snd i h.at_) ?_;rw[qV c d]
   simp only[Bool.or_eq_true,List.any_eq_true]
   exact .inr ⟨p,ae hp,sub_self c (by omega)⟩
  ·rw[ig e]at hx;exact h.ok.snd x hx
 ·rw[ig (by omega)]at hm
  exact mono _ (h.ok.cls y u hy hm hu q b)
 ·rw[aX hp]at b
  rcases cD.1 b with b|b
  ·exact mono _ (h.upto q b)
  ·rw[bO.1 b,fU (by rw[h.ok.len];omega)]
theorem M6.done {a i:Nat}{t:ej}{M:List Bool}(h:M6 l a (i+1) t t.2.length M)(c:l[i+1]?=some t):y7 l a i M:=
 ⟨h.ok.len,h.ok.snd,h.ok.top,λy u hy hm hu q b=>by
  by_cases e:y=i+1
  ·subst e
   rw[c]at hu;cases hu
   exact h.upto q (by rw[jl];exact b)
  ·exact h.ok.cls y u (by omega) hm hu q b⟩
end
theorem Fq {l:List ej}{k:Nat}{t:ej}(ht:l[k]?=some t)(known:List bB):lP known k (l.drop k)=if isName t.1=false then(10,(k:Int))else if t.1∈known then(7,(k:Int))else if decide (k=0)≠decide (t.2.length=0)then(5,(k:Int))
 else if(rO k (-1) t.2).1≠0 then rO k (-1) t.2 else lP (known++ [t.1]) (k+1) (l.drop (k+1)):=by rw[bP ht,lP]
theorem I7 {l:List ej}{k:Nat}(h:l.length≤k)(known:List bB):lP known k (l.drop k)=(0,0):=by rw[j6 h,lP]
theorem LH {i z p:Int}{ps:List Int}{q:Nat}(hp:ps[q]?=some p):rO i z (ps.drop q)=if p<0∨i≤p then(3,i)else if p≤z then(13,i)else rO i p (ps.drop (q+1)):=by rw[bP hp,rO]
theorem Oi {i z:Int}{ps:List Int}{q:Nat}(h:ps.length≤q):rO i z (ps.drop q)=(0,0):=by rw[j6 h,rO]
def KD (m:List (bB×Value))(known:List bB):Prop:=∀s,(qN m s).isSome=decide (s∈known)
theorem KD.nil:KD [] []:=λs=>by simp[qN]
theorem KD.snoc {m:List (bB×Value)}{known:List bB}(h:KD m known)(s:bB)(v:Value):KD (l6 m s v) (known++ [s]):=λa=>by
 rw[Ek]
 by_cases e:a=s
 ·subst e;simp
 ·rw[aA e,h a,decide_eq_decide];simp[e]
theorem gV {α β:Type}(f:α→β){l:List α}{k:Nat}{x:α}(h:l[k]?=some x):(l.take (k+1)).map f=(l.take k).map f++ [f x]:=by rw[aX h,cO];rfl
theorem GS (u:Value)(ts:List rZ):eD prog 79 #[u] [sl ml u ts,aF ry ts] (fv (Aq (ts.map dG))):=by
 refine eD.nE (args:=[u]) 82 func79 rfl ntmps79 rfl (λc=> ?_);refine go ?_;refine St.wf u (λE J=> ?_);refine go ?_;refine St.al (λB=> ?_);refine g9 ?_;refine St.gf _ rfl rfl (λb=>Ev.move (.mk rfl)) rfl ?_;refine St.gf _ rfl rfl (λb=>Ev.fj (ai.gv rfl b) vq) rfl ?_;refine St.gf _ rfl rfl (λb=>Ev.gtr (ai.gv rfl b) (.mk rfl)) rfl ?_;refine g3 ?_;refine St.cq (λj=> ?_) (λj=> ?_)
 ·have n:Aq (ts.map dG)=(2,-1):=by unfold Aq;rw[aC (by rw[aN];omega)]
  refine g2 ?_;refine St.ee (Ev.call (cQ 2 (-1)) yR (.aY rfl rfl)) ?_;refine g5 ?_;refine St.rV [_] [] ?_;exact congrArg fv n.symm
 ·have n:Aq (ts.map dG)=lP [] 0 (ts.map dG):=by unfold Aq;rw[aA (by rw[aN];omega)]
  refine g4 ?_;refine St.makeMap mkStr rfl (λf=> ?_);refine g12 ?_;refine St.te (ι:=Nat) (κ:=List (bB×Value)) (λk m T=>(23,iv k)::T) (λk m=>[aW f (eU mkStr m),aW B (.cells [iv 0,iv 0].toArray 35 (0,0)),aB (sl ml u ts),aB (aF ry ts)]) (λk m=>k≤ts.length∧Aq (ts.map dG)=lP ((ts.take k).map rZ.name) k ((ts.map dG).drop k)∧KD m ((ts.take k).map rZ.name)) (λk m=>ts.length-k) 0 [] (aD.cons 2 rfl (aD.cons 3 rfl (aD.cons 21 rfl (aD.cons 22 rfl aD.nil)))) ⟨aO _,n,KD.nil⟩ ?_;rintro k m ⟨hk,o,C⟩;refine g6 ?_;refine St.cq (λF=> ?_) (λF=> ?_)
  ·obtain⟨t,ht⟩:=aE (show k<ts.length by omega)
   have D:=ae ht
   have a:=Fq (l:=ts.map dG) (k:=k) (t:=dG t) (by rw[bQ,ht];rfl) ((ts.take k).map rZ.name)
   rw[←o]at a
   have G:t.name.length≤9223372036854775807:=by have:=E t D;simp only[ml,mr]at this;omega
   refine St.cI ry ts (x:=t) D ?_;refine St.eY (sl aI t.pv.1 t.parents) [ry t] (λρ h=>h _ (aP ..)) ?_;refine St.wf t.pv.1 (λH K=> ?_);refine g8 ?_;refine St.ee (Ev.jr (.mk rfl) ht Jp trivial Bg j7.eq) ?_;refine St.al (λL=> ?_);refine g9 ?_;refine St.ee (Ev.call (qo t.name G) RI (.ar rfl)) ?_;refine g3 ?_;refine St.cq (λr=> ?_) (λr=> ?_)
   ·rw[aC (show isName (dG t).1=false from(by simpa using r:isName t.name=false))]at a
    refine g3 ?_;refine St.ee (Ev.call (cQ 10 k) yR (.aY rfl rfl)) ?_;refine g10 ?_;refine St.rV [_] [] ?_;exact congrArg fv a.symm
   ·rw[aA (show ¬isName (dG t).1=false from(by simpa using r:¬isName t.name=false))]at a
    refine g8 ?_;refine St.ee (Ev.th mkStr (k:=t.name) (.mk rfl) (.mk rfl) pY (by exact wW) eQ) ?_;refine g3 ?_;refine St.slot 40 (.bool (decide (t.name∈(ts.take k).map rZ.name))) rfl (congrArg Value.bool (C t.name)) ?_;refine g9 ?_;refine St.cq (λs=> ?_) (λs=> ?_)
    ·rw[aC (show(dG t).1∈(ts.take k).map rZ.name from s)]at a
     refine g3 ?_;refine St.ee (Ev.call (cQ 7 k) yR (.aY rfl rfl)) ?_;refine g10 ?_;refine St.rV [_] [] ?_;exact congrArg fv a.symm
    ·rw[aA (show ¬(dG t).1∈(ts.take k).map rZ.name from s)]at a
     refine g8 ?_;refine St.mapUpdate mkStr (k:=t.name) (.mk rfl) (.mk rfl) (.mk rfl) pY (by exact wW) ?_;refine g11 ?_;refine St.ee (Ev.IX (.mk rfl) (.mk rfl) IA) ?_;refine g2 ?_;refine St.cond _ rfl (λv=> ?_) (λv=> ?_)
     ·skip
      have d:decide (k=0)≠decide (t.parents.length=0):=by simpa using v
      rw[aC (show decide (k=0)≠decide ((dG t).2.length=0)from d)]at a;refine g3 ?_;refine St.ee (Ev.call (cQ 5 k) yR (.aY rfl rfl)) ?_;refine g10 ?_;refine St.rV [_] [] ?_;exact congrArg fv a.symm
     ·skip
      have d:¬decide (k=0)≠decide (t.parents.length=0):=by simpa using v
      rw[aA (show ¬decide (k=0)≠decide ((dG t).2.length=0)from d)]at a;refine g16 ?_;refine St.te (ι:=Nat) (κ:=Int) (λq z T=>(60,iv q)::(8,iv z)::T) (λq z=>[aW f (eU mkStr (l6 m t.name (iv k))),aW B (.cells [iv 0,iv 0].toArray 35 (0,0)),aB (sl aI t.pv.1 t.parents),aB (sl ml u ts),aB (aF ry ts)]) (λq z=>q≤t.parents.length∧rO k (-1) (dG t).2=rO k z (t.parents.drop q)) (λq z=>t.parents.length-q) 0 (-1) (aD.cons 2 rfl (aD.cons 3 rfl (aD.cons 4 rfl (aD.cons 21 rfl (aD.cons 22 rfl (aD.cons 23 rfl (aD.cons 58 rfl (aD.cons 59 rfl aD.nil)))))))) ⟨aO _,rfl⟩ ?_;rintro q z ⟨M,g⟩;refine g6 ?_;refine St.cq (λy=> ?_) (λy=> ?_)
      ·obtain⟨p,hp⟩:=aE (show q<t.parents.length by omega)
       have e:=LH (i:=k) (z:=z) hp
       refine g17 ?_;refine St.gf _ rfl rfl (λb=>Ev.move (.mk rfl)) rfl ?_;refine St.gf _ rfl rfl (λb=>Ev.move (.mk rfl)) rfl ?_;refine St.gf _ rfl rfl (λb=>Ev.geq (ai.gv rfl b) (ai.gv rfl b)) rfl ?_;refine g3 ?_;refine St.cq (λI=> ?_) (λI=> ?_)
       ·rw[aC (by omega)]at e
        rw[g,e,aC (by show(3:Int)≠0;decide)]at a;refine g3 ?_;refine St.ee (Ev.call (cQ 3 k) yR (.aY rfl rfl)) ?_;refine g14 ?_;refine St.rV [_] [] ?_;exact congrArg fv a.symm
       ·rw[aA (by omega)]at e
        refine g10 ?_;refine St.cq (λA=> ?_) (λA=> ?_)
        ·rw[aC (by omega)]at e
         rw[g,e,aC (by show(13:Int)≠0;decide)]at a;refine g3 ?_;refine St.ee (Ev.call (cQ 13 k) yR (.aY rfl rfl)) ?_;refine g14 ?_;refine St.rV [_] [] ?_;exact congrArg fv a.symm
        ·rw[aA (by omega)]at e
         refine g13 ?_;refine St.ue (q+1) p ⟨by omega,by rw[g,e]⟩
      ·rw[Oi (by omega)]at g
       rw[aA (by rw[g];decide)]at a;refine g11 ?_;refine St.ue (k+1) (l6 m t.name (iv k)) ⟨by omega,by rw[a,gV rZ.name ht];rfl,by rw[gV rZ.name ht];exact C.snoc _ _⟩
  ·rw[I7 (by rw[aN];omega)]at o
   refine g7 ?_;refine St.ee (Ev.build (bH.nil) (λw=>jv w)) ?_;refine g4 ?_;refine St.rV [_] [] ?_;exact congrArg fv o.symm
def Jv (T:List ej)(i:Nat):Nat:=(Ar T).getD i 0
def Xv (T:List ej)(k:Nat)(ps:List Int):Nat:=ps.foldl (λu p=>u|||Jv T p.toNat) (2^k)
theorem Q9 (T:List ej)(k:Nat)(ps:List Int)(p:Int):Xv T k (ps++ [p])=Xv T k ps|||Jv T p.toNat:=by unfold Xv;rw[wc];rfl
theorem Q5 {T:List ej}(a:im T){k:Nat}{t:ej}(h:T[k]?=some t):Jv T k=Xv T k t.2:=by
 have e:∀(ps:List Int) (u:Nat),(∀p∈ps,0≤p∧p<k)→ps.foldl (λu p=>u|||(Ar (T.take k)).getD p.toNat 0) u=ps.foldl (λu p=>u|||Jv T p.toNat) u:=by
  intro ps
  induction ps with
  |nil=>intro u _;rfl
  |cons p ps b=>
   intro u hp
   have d:=hp p (aP ..)
   rw[we,we,zz T k p.toNat (by omega) (Nat.le_of_lt (ah h))]
   exact b _ λq c=>hp q (cN _ c)
 show(Ar T).getD k 0=_
 rw[QC h];exact e t.2 _ (a.par k t h)
theorem Xu {T:List ej}(b:im T):∀k:Nat,Jv T k<2^(k+1):=by
 intro k
 induction k using Nat.strongRecOn with
 |ind k c=>
  rcases eM k T.length with h|h
  ·rw[Q5 b (bU h)]
   have hp:=b.par k _ (bU h)
   generalize (T[k]).2=ps at hp
   have e:∀(ps:List Int) (u:Nat),(∀p∈ps,0≤p∧p<k)→u<2^(k+1)→ps.foldl (λu p=>u|||Jv T p.toNat) u<2^(k+1):=by
    intro ps
    induction ps with
    |nil=>intro u _ h;exact h
    |cons p ps a=>
     intro u hp hu
     have f:=hp p (aP ..)
     refine a _ (λq d=>hp q (cN _ d)) (Nat.or_lt_two_pow hu ?_);exact fQ (c p.toNat (by omega)) (sc (by omega) (by omega))
   exact e ps _ hp (A3 (by omega) (by omega))
  ·show(Ar T).getD k 0<_
   rw[aw,ic (by rw[uR];exact h)];exact Nat.pow_pos (by omega)
theorem vt {T:List ej}(a:im T){k:Nat}(hk:k<60):Jv T k<18446744073709551616:=
 fQ (Xu a k) (show 2^(k+1)≤2^64 from sc (by decide) (by omega))
theorem Q8 {T:List ej}(a:im T){k:Nat}(hk:k<60):∀{ps:List Int},(∀p∈ps,0≤p∧p<k)→Xv T k ps<18446744073709551616:=by
 have e:∀(ps:List Int) (u:Nat),(∀p∈ps,0≤p∧p<k)→u<18446744073709551616→ps.foldl (λu p=>u|||Jv T p.toNat) u<18446744073709551616:=by
  intro ps
  induction ps with
  |nil=>intro u _ h;exact h
  |cons p ps b=>
   intro u hp hu
   have d:=hp p (aP ..)
   exact b _ (λq c=>hp q (cN _ c)) (Nat.or_lt_two_pow (n:=64) hu (vt a (by omega)))
 intro ps hp;exact e ps _ hp (show 2^k<2^64 from A3 (by decide) (by omega))
def kz (T:List ej)(k j:Nat):Nat:=(List.range k).foldl (λa i=>if iD T i j then a|||2^i else a) 0
theorem qu (T:List ej)(k j:Nat):kz T (k+1) j=if iD T k j then kz T k j|||2^k else kz T k j:=by
 unfold kz;rw[uW,wc];rfl
theorem Ik (T:List ej)(j:Nat):∀k:Nat,kz T k j<2^k
 |0=>by show(0:Nat)<2^0;omega
 |k+1=>by
  have a:=fQ (Ik T j k) (sc (n:=2) (by omega) (Nat.le_succ k))
  rw[qu]
  split
  ·exact Nat.or_lt_two_pow a (A3 (by omega) (by omega))
  ·exact a
theorem nG (T:List ej)(j:Nat){k:Nat}(hk:k≤60):kz T k j<18446744073709551616:=
 fQ (Ik T j k) (show 2^k≤2^64 from sc (by decide) (by omega))
theorem qI (T:List ej)(j i:Nat):∀k:Nat,(kz T k j).testBit i=(decide (i<k)&&iD T i j)
 |0=>by show(0:Nat).testBit i=_;simp
 |k+1=>by
  rw[qu]
  have a:=qI T j i k
  by_cases e:i=k
  ·subst e
   cases h:iD T i j with
   |true=>simp[a,Nat.testBit_two_pow]
   |false=>simp[a]
  ·have e2:decide (i<k+1)=decide (i<k):=by rw[decide_eq_decide];omega
   rw[e2]
   split
   ·rw[Nat.testBit_or,a,Nat.testBit_two_pow,fK (p:=k=i) (λh=>e h.symm),Bool.or_false]
   ·exact a
def de (T:List ej):List Nat:=(List.range T.length).map (Jv T)
def db (T:List ej):List Nat:=(List.range T.length).map (kz T T.length)
theorem yy {f:Nat→Nat}{n:Nat}{U:List Nat}(b:U.length=n)(h:∀i,i<n→U[i]?=some (f i)):U=(List.range n).map f:=by
 refine pa λi=> ?_
 rw[bQ]
 rcases eM i n with a|a
 ·rw[h i a,nV a];rfl
 ·rw[ic (by omega),ic (by simpa using a)];rfl
theorem QA {T:List ej}{i:Nat}(h:i<T.length):(de T)[i]?=some (Jv T i):=by unfold de;rw[bQ,nV h];rfl
theorem oD {T:List ej}{i:Nat}(h:i<T.length):(db T)[i]?=some (kz T T.length i):=by unfold db;rw[bQ,nV h];rfl
theorem QB (T:List ej):(de T).length=T.length:=by simp[de]
theorem EH (T:List ej):(db T).length=T.length:=by simp[db]
def both (T:List ej)(a b:Nat):Nat:=kz T T.length a&&&kz T T.length b
theorem o9 (T:List ej)(a b i:Nat):(both T a b).testBit i=(decide (i<T.length)&&(iD T i a&&iD T i b)):=by
 unfold both;rw[Nat.testBit_and,qI,qI]
 cases decide (i<T.length)<;>simp
theorem l5 {T:List ej}{a b i:Nat}:i∈comm T a b↔(both T a b).testBit i=true:=by
 unfold comm;rw[List.mem_filter,dq,o9];simp only[Bool.and_eq_true,decide_eq_true_eq]
theorem A0 {T:List ej}{a b:Nat}(h:both T a b=0):kF T a b=false:=by
 unfold kF
 split
 ·rfl
 ·rename_i m r e
  have:m∈comm T a b:=by rw[e];exact aP ..
  rw[l5,h,Nat.zero_testBit]at this;cases this
theorem G2 {T:List ej}(k:im T){a b m:Nat}(h:(both T a b).testBit m=true)(q:∀i,i<m→(both T a b).testBit i=false):kF T a b=decide (kz T T.length m≠both T a b):=by
 have hm:=l5.2 h
 unfold kF
 split
 ·rename_i e;rw[e]at hm;cases hm
 ·rename_i d r e
  have hp:(comm T a b).Pairwise (· < ·):=by unfold comm;exact List.Pairwise.filter _ List.pairwise_lt_range
  rw[e]at hp
  have s:d∈comm T a b:=by rw[e];exact aP ..
  have e2:d=m:=by
   rw[e]at hm
   rcases cH.1 hm with l|l
   ·exact l.symm
   ·have t:=(jW.1 hp).1 m l
    have p:=q d t
    rw[l5.1 s]at p;cases p
  subst e2
  have n:=h
  rw[o9,qj,qj,fz]at n;rw[Dd,pZ,fz]
  constructor
  ·rintro ⟨i,u,f⟩ o
   have c:(both T a b).testBit i=true:=l5.1 (by rw[e];exact cN _ u)
   rw[←o,qI,qj]at c
   rw[c.2]at f;cases f
  ·intro f
   apply Decidable.byContradiction
   intro o;refine f (Nat.eq_of_testBit_eq λi=> ?_);rw[qI,o9];rw[Dd,qj,qj,fz]
   constructor
   ·rintro ⟨c,g⟩
    exact⟨c,by rw[vh k g n.2.1,vh k g n.2.2];rfl⟩
   ·rintro ⟨c,g⟩
    refine⟨c,?_⟩
    have j:i∈comm T a b:=l5.2 (by rw[o9,g,dt c];rfl)
    rw[e]at j
    rcases cH.1 j with rfl|j
    ·exact sub_self k c
    ·cases v:iD T i d with
     |true=>rfl
     |false=>exact absurd ⟨i,j,by rw[v];rfl⟩ o
end Go.Proofs.YtblifkgpebebmaaGreatDoor
namespace Go.J
open Go
section
variable {P:Program}{n:Nat}{F:Fr}{A:World→Prop}{ty t u:TypeId}{x y:Operand}{a b:Nat}
theorem KS (h:a<18446744073709551616)(c:b<18446744073709551616):bits .and .u64 (a:Int) (b:Int)=((a&&&b:Nat):Int):=by
 have e:(BitVec.ofInt IntKind.u64.bits (a:Int)&&&BitVec.ofInt IntKind.u64.bits (b:Int)).toNat=a&&&b:=by
  show(BitVec.ofInt 64 (a:Int)&&&BitVec.ofInt 64 (b:Int)).toNat=_
  rw[BitVec.toNat_and,Lq,Lq,Lr,Lr,mi h,mi c]
 simp only[bits,e]
 rw[oa,mi (vy Nat.and_le_left h)]
theorem MT (h:a<18446744073709551616)(c:b<18446744073709551616):bits .or .u64 (a:Int) (b:Int)=((a|||b:Nat):Int):=by
 have e:(BitVec.ofInt IntKind.u64.bits (a:Int)|||BitVec.ofInt IntKind.u64.bits (b:Int)).toNat=a|||b:=by
  show(BitVec.ofInt 64 (a:Int)|||BitVec.ofInt 64 (b:Int)).toNat=_
  rw[BitVec.toNat_or,Lq,Lq,Lr,Lr,mi h,mi c]
 simp only[bits,e]
 rw[oa,mi (Nat.or_lt_two_pow (n:=64) h c)]
theorem Ev.Yl (hx:ai F x (uv a))(hy:ai F y (uv b))(h:a<18446744073709551616∧b<18446744073709551616):Ev P n F A (.binOp .and t x y u) ty (uv (a&&&b)):= .of_run λa' w ha _=>by
 simp only[execOp,hx.eval ha,hy.eval ha];simp only[go_sem,KS h.1 h.2];simp
theorem Ev.orG (hx:ai F x (uv a))(hy:ai F y (uv b))(h:a<18446744073709551616∧b<18446744073709551616):Ev P n F A (.binOp .or t x y u) ty (uv (a|||b)):= .of_run λa' w ha _=>by
 simp only[execOp,hx.eval ha,hy.eval ha];simp only[go_sem,MT h.1 h.2];simp
theorem Ev.Yz {k:Nat}{i:Int}{kd:IntKind}(hx:ai F x (uv 1))(hy:ai F y (.int kd i))(h:i=k∧k<64):Ev P n F A (.binOp .shl t x y u) ty (uv (2^k)):=by
 have:=Ev.alL (P:=P) (n:=n) (A:=A) (ty:=ty) (t:=t) (u:=u) k (2^k) rfl hx hy (by omega)
 have e:1*2^k%18446744073709551616=2^k:=by
  rw[Nat.one_mul];exact mi (show 2^k<2^64 from A3 (by decide) h.2)
 rw[e]at this;exact this
theorem IW (a j:Nat):decide ((((a/2^j%2:Nat):Int))=1)=a.testBit j:=by
 rw[Nat.testBit_eq_decide_div_mod_eq,decide_eq_decide];omega
end
def bF:Rp Nat:=⟨1,by decide,λa=>[uv a],λa=>a<18446744073709551616,λ_=>rfl,λx u h=>by rw[bO.1 h];rfl⟩
theorem r9 (U:List Nat):rows bF U=U.map λa=>uv a:=by
 show U.flatMap (λa=>[uv a])=_
 induction U with
 |nil=>rfl
 |cons a U b=>rw[jU,b];rfl
theorem oP {U:List Nat}{k a:Nat}(h:U[k]?=some a):(rows bF U)[k*1+0]?=some (uv a):=by
 rw[r9,gX,j4,bQ,h];rfl
theorem uD {U:List Nat}{k a:Nat}:(rows bF U).set (k*1+0) (uv a)=rows bF (U.set k a):=by
 rw[r9,r9,gX,j4,jk]
theorem FP (n:Nat):List.replicate n (uv 0)=rows bF (List.replicate n 0):=by rw[r9,s9]
end Go.J
namespace Go.Proofs.YtblifkgpebebmaaGreatDoor
open Go Go.J Tryz
theorem Ri {T:List ej}{k q n:Nat}{E:List Nat}(a:∀j,j<n→E[j]?=some (if j<q then kz T (k+1) j else kz T k j))(c:E.length=n)(d:q<n)(h:iD T k q=true):
 ∀j,j<n→(E.set q (kz T k q|||2^k))[j]?=some (if j<q+1 then kz T (k+1) j else kz T k j):=λj b=>by
 by_cases e:q=j
 ·subst e;rw[fU (by omega),aC (by omega),qu,aC h]
 ·rw[ig e,a j b]
  by_cases e2:j<q
  ·rw[aC e2,aC (by omega)]
  ·rw[aA e2,aA (by omega)]
theorem Rh {T:List ej}{k q n:Nat}{E:List Nat}(a:∀j,j<n→E[j]?=some (if j<q then kz T (k+1) j else kz T k j))(h:iD T k q=false):
 ∀j,j<n→E[j]?=some (if j<q+1 then kz T (k+1) j else kz T k j):=λj b=>by
 rw[a j b]
 by_cases e:q=j
 ·subst e;rw[aA (by omega),aC (by omega),qu,aA (by rw[h];decide)]
 ·by_cases e2:j<q
  ·rw[aC e2,aC (by omega)]
  ·rw[aA e2,aA (by omega)]
theorem py (u:Value)(ts:List rZ)(e:im (ts.map dG)):dx prog 45 #[u] ([sl ml u ts,aF ry ts].map aB) (λv H'=>∃P Q:aV,v= .agg #[P.1,Q.1]∧H'=[aB (sl bF P.1 (de (ts.map dG))),aB (sl bF Q.1 (db (ts.map dG)))]):=by
 refine dx.body (args:=[u]) 75 func45 rfl ntmps45 rfl (λc=> ?_);refine St.cast (H':=[aB (sl ml u ts),aB (aF ry ts)]) rfl ?_;refine go ?_
 have W:=e.len
 rw[aN]at W;refine go ?_;refine St.al (λH=> ?_);refine g2 ?_;refine St.join (ι:=Nat×Nat×Nat) (λy T=>(3,.pointer (some ⟨y.2.2,0,none⟩))::T) (λy=>[aW y.2.2 (.cells [(.slice (some ⟨y.1,0,none⟩) ts.length ts.length),(.slice (some ⟨y.2.1,0,none⟩) ts.length ts.length)].toArray 100 (0,0)),row (.slice (some ⟨y.1,0,none⟩) ts.length ts.length) 157 1 ts.length (rows bF (List.replicate ts.length 0)),row (.slice (some ⟨y.2.1,0,none⟩) ts.length ts.length) 157 1 ts.length (rows bF (List.replicate ts.length 0)),aW H (.cells [(.slice none 0 0),(.slice none 0 0)].toArray 100 (0,0)),aB (sl ml u ts),aB (aF ry ts)]) (λy=>True) (aD.cons 0 rfl (aD.cons 2 rfl aD.nil)) ?_ ?_
 ·refine St.qS [] mixed (λJ K=> ?_)
  repeat' first
   |with_reducible refine SW.me ?_
    first
     |refine SW.gd 0 ?_
     |refine SW.gd 1 ?_
     |refine SW.gd 3 ?_
     |refine SW.gd 4 ?_
     |refine SW.dd 6 rfl (λ_=>Ev.build (ps:=[(0,(.tmp 11)),(1,(.tmp 14))]) (bH.aY rfl rfl) (λw=>GX rfl rfl w)) ?_
     |refine SW.Pw (i:=2) (j:=5) (k:=7) (by decide+kernel) rfl rfl rfl ?_ ?_ ?_
     |refine SW.t2 5 7 ?_ ?_
     |refine SW.t1 7 ?_
     |refine SW.t1 8 ?_
     |refine SW.t1 5 ?_
     |refine SW.t2 2 7 ?_ ?_
     |refine SW.t1 2 ?_
     |refine SW.t2 2 5 ?_ ?_
   |with_reducible refine SW.tg 2 ?_
    refine St.sQ (m:=ts.length) (.mk rfl) (.mk rfl) vr l9 VE U7 rfl rfl (by omega) rfl rfl (λR=> ?_);refine St.aM (.slice (some ⟨R,0,none⟩) ts.length ts.length) rfl (FP _) ?_;refine g2 ?_;refine SW.go ?_
   |with_reducible refine SW.tg 5 ?_
    refine St.sQ (m:=ts.length) (.mk rfl) (.mk rfl) vr l9 VE U7 rfl rfl (by omega) rfl rfl (λS=> ?_);refine St.aM (.slice (some ⟨S,0,none⟩) ts.length ts.length) rfl (FP _) ?_;refine g2 ?_;refine SW.go ?_
   |with_reducible refine SW.tg 7 ?_
    refine St.al (λX=> ?_);refine g2 ?_;refine SW.go ?_
   |with_reducible refine SW.tg 8 ?_
    refine g3 ?_;refine SW.go ?_
  all_goals refine SW.dn ?_
  all_goals
   refine go ?_;refine St.mE (R,S,X) trivial
 ·intro y aj1
  refine g9 ?_;refine St.te (ι:=Nat) (κ:=List Nat×List Nat) (λk z T=>(18,iv k)::T) (λk z=>[aW y.2.2 (.cells [(.slice (some ⟨y.1,0,none⟩) ts.length ts.length),(.slice (some ⟨y.2.1,0,none⟩) ts.length ts.length)].toArray 100 (0,0)),row (.slice (some ⟨y.1,0,none⟩) ts.length ts.length) 157 1 ts.length (rows bF z.1),row (.slice (some ⟨y.2.1,0,none⟩) ts.length ts.length) 157 1 ts.length (rows bF z.2),aW H (.cells [(.slice none 0 0),(.slice none 0 0)].toArray 100 (0,0)),aB (sl ml u ts),aB (aF ry ts)]) (λk z=>k≤ts.length∧(z.1.length=ts.length∧∀i,i<k→z.1[i]?=some (Jv (ts.map dG) i))∧(z.2.length=ts.length∧∀j,j<ts.length→z.2[j]?=some (kz (ts.map dG) k j))) (λk z=>ts.length-k) 0 (List.replicate ts.length 0,List.replicate ts.length 0) (aD.cons 0 rfl (aD.cons 2 rfl (aD.cons 3 rfl (aD.cons 16 rfl (aD.cons 17 rfl aD.nil))))) ⟨aO _,⟨kG,λi f=>absurd f (by omega)⟩,kG,λj r=>by show(List.replicate ts.length 0)[j]?=_;rw[s7,aC r];rfl⟩ ?_;rintro k ⟨U,D⟩ ⟨hk,⟨g,L⟩,l,M⟩
  dsimp only at g L l M⊢
  refine g6 ?_;refine St.cq (λY=> ?_) (λY=> ?_)
  ·obtain⟨t,ht⟩:=aE (show k<ts.length by omega)
   have Z:=ae ht
   have A:(ts.map dG)[k]?=some (dG t):=by rw[bQ,ht];rfl
   have o:=e.par k _ A
   refine St.cI ry ts (x:=t) Z ?_;refine St.eY (sl aI t.pv.1 t.parents) [ry t] (λρ h=>h _ (aP ..)) ?_;refine St.wf t.pv.1 (λhpw hpl=> ?_);refine g8 ?_;refine St.ee (Ev.jr (.mk rfl) ht Jp trivial Bg j7.eq) ?_;refine St.al (λb5=> ?_);refine g5 ?_;refine St.da [row (.slice (some ⟨y.1,0,none⟩) ts.length ts.length) 157 1 ts.length (rows bF U)] mixed (λJ K=> ?_);refine SW.gd 0 ?_;refine SW.gd 1 ?_;refine SW.gd 2 ?_;refine SW.gd 3 ?_;refine SW.dd 4 rfl (λ_=>Ev.Yz (k:=k) (.mk rfl) (.mk rfl) (by omega)) ?_;refine SW.dd 5 rfl (λ_=>Ev.mo (k:=k) rfl (.mk rfl) (.mk rfl) vr l9 (by omega) (by omega)) ?_;refine SW.t1 6 ?_;refine St.cG (.mk rfl) (.mk rfl) l9 rfl (by omega) (by decide) ?_;refine St.aM (.slice (some ⟨y.1,0,none⟩) ts.length ts.length) rfl uD ?_;refine g2 ?_;refine SW.go ?_;refine SW.dn ?_;refine g11 ?_;refine St.te (ι:=Nat) (κ:=List Nat) (λq V T=>(32,iv q)::T) (λq V=>[row (.slice (some ⟨y.1,0,none⟩) ts.length ts.length) 157 1 ts.length (rows bF V),aW y.2.2 (.cells [(.slice (some ⟨y.1,0,none⟩) ts.length ts.length),(.slice (some ⟨y.2.1,0,none⟩) ts.length ts.length)].toArray 100 (0,0)),row (.slice (some ⟨y.2.1,0,none⟩) ts.length ts.length) 157 1 ts.length (rows bF D),aW H (.cells [(.slice none 0 0),(.slice none 0 0)].toArray 100 (0,0)),aB (sl aI t.pv.1 t.parents),aB (sl ml u ts),aB (aF ry ts)]) (λq V=>q≤t.parents.length∧V.length=ts.length∧(∀i,i<k→V[i]?=some (Jv (ts.map dG) i))∧V[k]?=some (Xv (ts.map dG) k (t.parents.take q))) (λq V=>t.parents.length-q) 0 (U.set k (2^k)) (aD.cons 0 rfl (aD.cons 2 rfl (aD.cons 3 rfl (aD.cons 4 rfl (aD.cons 16 rfl (aD.cons 17 rfl (aD.cons 18 rfl (aD.cons 30 rfl (aD.cons 31 rfl aD.nil))))))))) ⟨aO _,by rw[cn];exact g,λi f=>by rw[ig (by omega)];exact L i f,by rw[fU (by omega)];rfl⟩ ?_;rintro q V ⟨hq,B,I,d⟩;refine g6 ?_;refine St.cq (λh33=> ?_) (λh33=> ?_)
   ·obtain⟨p,hp⟩:=aE (show q<t.parents.length by omega)
    have hpp:=o p (ae hp)
    refine g11 ?_;refine St.da [row (.slice (some ⟨y.1,0,none⟩) ts.length ts.length) 157 1 ts.length (rows bF V)] mixed (λJ K=> ?_);refine SW.gd 0 ?_;refine SW.gd 1 ?_;refine SW.gd 2 ?_;refine SW.dd 3 rfl (λ_=>Ev.mo (k:=k) rfl (.mk rfl) (.mk rfl) vr l9 (by omega) (by omega)) ?_;refine SW.gd 5 ?_;refine SW.gd 6 ?_;refine SW.gd 7 ?_;refine SW.dd 8 rfl (λ_=>Ev.mo (k:=p.toNat) rfl (.mk rfl) (.mk rfl) vr l9 (by omega) (by omega)) ?_;refine SW.t2 4 9 ?_ ?_
    focus
     refine St.ee (Ev.ct (.mk rfl) lY trivial (by omega) (oP d)) ?_;refine g2 ?_;refine SW.go ?_;refine SW.t1 9 ?_;refine St.ee (Ev.ct (.mk rfl) lY trivial (by omega) (oP (I p.toNat (by omega)))) ?_;refine g2 ?_;refine SW.go ?_;refine SW.dd 10 rfl (λ_=>Ev.orG (.mk rfl) (.mk rfl) ⟨Q8 e (by omega) (λp hp=>o p (C5 hp)),vt e (by omega)⟩) ?_;refine SW.dd 11 rfl (λ_=>Ev.mo (k:=k) rfl (.mk rfl) (.mk rfl) vr l9 (by omega) (by omega)) ?_;refine SW.t1 12 ?_;refine St.cG (.mk rfl) (.mk rfl) l9 rfl (by omega) (by decide) ?_;refine St.aM (.slice (some ⟨y.1,0,none⟩) ts.length ts.length) rfl uD ?_;refine g2 ?_;refine SW.go ?_;refine SW.dn ?_
    rotate_left
    focus
     refine St.ee (Ev.ct (.mk rfl) lY trivial (by omega) (oP (I p.toNat (by omega)))) ?_;refine g2 ?_;refine SW.go ?_;refine SW.t1 4 ?_;refine St.ee (Ev.ct (.mk rfl) lY trivial (by omega) (oP d)) ?_;refine g2 ?_;refine SW.go ?_;refine SW.dd 10 rfl (λ_=>Ev.orG (.mk rfl) (.mk rfl) ⟨Q8 e (by omega) (λp hp=>o p (C5 hp)),vt e (by omega)⟩) ?_;refine SW.dd 11 rfl (λ_=>Ev.mo (k:=k) rfl (.mk rfl) (.mk rfl) vr l9 (by omega) (by omega)) ?_;refine SW.t1 12 ?_;refine St.cG (.mk rfl) (.mk rfl) l9 rfl (by omega) (by decide) ?_;refine St.aM (.slice (some ⟨y.1,0,none⟩) ts.length ts.length) rfl uD ?_;refine g2 ?_;refine SW.go ?_;refine SW.dn ?_
    all_goals
     refine g7 ?_;refine St.ue (q+1) (V.set k (Xv (ts.map dG) k (t.parents.take q)|||Jv (ts.map dG) p.toNat)) ⟨by omega,by rw[cn];exact B,λi f=>by rw[ig (by omega)];exact I i f,by rw[fU (by omega),aX hp,Q9]⟩
   ·rw[fF (by omega)]at d
    replace d:V[k]?=some (Jv (ts.map dG) k):=by rw[Q5 e A];exact d
    refine g13 ?_;refine St.te (ι:=Nat) (κ:=List Nat) (λq E T=>(51,iv q)::T) (λq E=>[row (.slice (some ⟨y.2.1,0,none⟩) ts.length ts.length) 157 1 ts.length (rows bF E),row (.slice (some ⟨y.1,0,none⟩) ts.length ts.length) 157 1 ts.length (rows bF V),aW y.2.2 (.cells [(.slice (some ⟨y.1,0,none⟩) ts.length ts.length),(.slice (some ⟨y.2.1,0,none⟩) ts.length ts.length)].toArray 100 (0,0)),aW H (.cells [(.slice none 0 0),(.slice none 0 0)].toArray 100 (0,0)),aB (sl ml u ts),aB (aF ry ts)]) (λq E=>q≤ts.length∧E.length=ts.length∧∀j,j<ts.length→E[j]?=some (if j<q then kz (ts.map dG) (k+1) j else kz (ts.map dG) k j)) (λq E=>ts.length-q) 0 D (aD.cons 0 rfl (aD.cons 2 rfl (aD.cons 3 rfl (aD.cons 4 rfl (aD.cons 16 rfl (aD.cons 17 rfl (aD.cons 18 rfl (aD.cons 50 rfl aD.nil)))))))) ⟨aO _,l,λj r=>by rw[aA (by omega)];exact M j r⟩ ?_;rintro q E ⟨hq,n,s⟩;refine g6 ?_;refine St.cq (λh52=> ?_) (λh52=> ?_)
    ·have C:=s q (by omega)
     rw[aA (by omega)]at C;refine g16 ?_;refine St.ee (Ev.ct (.mk rfl) lY trivial (by omega) (oP d)) ?_;refine go ?_;refine St.ee (Ev.XX (q) _ rfl (.mk rfl) (.mk rfl) (by omega)) ?_;refine St.ee (Ev.Ym (b:=1) 1 2 (by decide) (.mk rfl) (.mk rfl) (⟨(vy (Nat.div_le_self _ _) (vt e (by omega))),by decide,by decide⟩)) ?_;refine go ?_;refine St.slot 62 (.bool (iD (ts.map dG) k q)) rfl (congrArg Value.bool (IW _ _)) ?_;refine g2 ?_;refine St.cond _ rfl (λN=> ?_) (λN=> ?_)
     ·skip
      refine St.da [row (.slice (some ⟨y.2.1,0,none⟩) ts.length ts.length) 157 1 ts.length (rows bF E)] mixed (λJ K=> ?_);refine SW.gd 0 ?_;refine SW.gd 1 ?_;refine SW.gd 2 ?_;refine SW.dd 3 rfl (λ_=>Ev.mo (k:=q) rfl (.mk rfl) (.mk rfl) vr l9 (by omega) (by omega)) ?_;refine SW.gd 5 ?_;refine SW.dd 6 rfl (λ_=>Ev.Yz (k:=k) (.mk rfl) (.mk rfl) (by omega)) ?_;refine SW.t1 4 ?_;refine St.ee (Ev.ct (.mk rfl) lY trivial (by omega) (oP C)) ?_;refine g2 ?_;refine SW.go ?_;refine SW.dd 7 rfl (λ_=>Ev.orG (.mk rfl) (.mk rfl) ⟨nG _ _ (by omega),(show 2^k<2^64 from A3 (by decide) (by omega))⟩) ?_;refine SW.dd 8 rfl (λ_=>Ev.mo (k:=q) rfl (.mk rfl) (.mk rfl) vr l9 (by omega) (by omega)) ?_;refine SW.t1 9 ?_;refine St.cG (.mk rfl) (.mk rfl) l9 rfl (by omega) (by decide) ?_;refine St.aM (.slice (some ⟨y.2.1,0,none⟩) ts.length ts.length) rfl uD ?_;refine g2 ?_;refine SW.go ?_;refine SW.dn ?_;refine g7 ?_;refine St.ue (q+1) (E.set q (kz (ts.map dG) k q|||2^k)) ⟨by omega,by rw[cn];exact n,Ri s n (by omega) N⟩
     ·skip
      refine g8 ?_;refine St.ue (q+1) E ⟨by omega,n,Rh s N⟩
    ·obtain rfl:q=ts.length:=by omega
     replace s:∀j,j<ts.length→E[j]?=some (kz (ts.map dG) (k+1) j):=λj r=>by rw[s j r,aC r]
     refine g11 ?_;refine St.ue (k+1) (V,E) ⟨by omega,⟨B,λi f=>by rcases eM i k with h|h;exact I i h;rw[show i=k by omega];exact d⟩,n,s⟩
  ·obtain rfl:k=ts.length:=by omega
   refine g12 ?_
   have F:U=de (ts.map dG):=by unfold de;rw[aN];exact yy g L
   have G:D=db (ts.map dG):=by unfold db;rw[aN];exact yy l M
   refine St.bR (.slice (some ⟨y.1,0,none⟩) ts.length ts.length) bF U rfl g.symm (λa O=>by obtain⟨i,f,rfl⟩:=cy.1 (F▸O);exact vt e (by have:=dq.1 f;rw[aN]at this;omega)) ?_;refine St.bR (.slice (some ⟨y.2.1,0,none⟩) ts.length ts.length) bF D rfl l.symm (λa O=>by obtain⟨i,f,rfl⟩:=cy.1 (G▸O);exact nG _ _ (by rw[aN];omega)) ?_;rw[F,G];refine St.rV [_] [aB (sl bF (.slice (some ⟨y.1,0,none⟩) ts.length ts.length) (de (ts.map dG))),aB (sl bF (.slice (some ⟨y.2.1,0,none⟩) ts.length ts.length) (db (ts.map dG)))] ?_;exact⟨⟨(.slice (some ⟨y.1,0,none⟩) ts.length ts.length),rfl⟩,⟨(.slice (some ⟨y.2.1,0,none⟩) ts.length ts.length),rfl⟩,rfl,rfl⟩
end Go.Proofs.YtblifkgpebebmaaGreatDoor
namespace Go.Proofs
open Go.Shelf
def Tryz.HF:Go.Shelf.Ren:=⟨λ|29=>110|n=>n,λ|0=>0|3=>3|4=>4|5=>5|22=>157|25=>218|54=>257|n=>n,λ|1=>3|n=>n⟩
theorem Tryz.Ws:Go.Proofs.Lays7.n29 Tryz.prog Tryz.HF:={
 mixed:=by kernel_rfl
 f29:=Tryz.func110.trans (congrArg some (by kernel_rfl))
 t0:=YW
 a0:=Tryz.isAgg0
 z0:=Tryz.sizeOf0
 v0:=Tryz.zeroValue0
 i0:=by kernel_rfl
 t3:=gG
 a3:=Tryz.isAgg3
 z3:=Tryz.sizeOf3
 v3:=Tryz.zeroValue3
 i3:=by kernel_rfl
 t4:=IA
 a4:=Tryz.isAgg4
 z4:=Tryz.sizeOf4
 v4:=Tryz.zeroValue4
 i4:=by kernel_rfl
 t5:=GG
 a5:=Tryz.isAgg5
 z5:=Tryz.sizeOf5
 v5:=Tryz.zeroValue5
 i5:=by kernel_rfl
 t22:=lY
 a22:=Tryz.isAgg157
 z22:=Tryz.sizeOf157
 v22:=Tryz.zeroValue157
 i22:=by kernel_rfl
 t25:=Bn
 a25:=Tryz.isAgg218
 z25:=Tryz.sizeOf218
 v25:=Tryz.zeroValue218
 i25:=by kernel_rfl
 t54:=Tryz.underlying257
 a54:=Tryz.isAgg257
 z54:=Tryz.sizeOf257
 g1:=by kernel_rfl}
end Go.Proofs
namespace Go.Proofs.YtblifkgpebebmaaGreatDoor
open Go Go.J Tryz
abbrev tz:du:=du.of (TabAt 3 Lib.deBruijn64tab)
theorem eD.of_same {P:Program}{f:FuncId}{args:Array Value}{X:World→Prop}{v:Value}(h:∀w,X w→Calls P f args w λe w'=>e= .returned v∧w'=w):eD P f args [du.of X] v:=by
 intro w ρ a
 have hx:X w:=dB.1 (a.dM (aB (du.of X)) (aP ..)) w a.fits
 refine(h w hx).mono ?_;rintro e w' ⟨rfl,rfl⟩;exact⟨v,[],rfl,rfl,Mm.mk (ρ:=ρ) ⟨rfl,⟨rfl,λ_=>aR _⟩,rfl,aR _,λ_ _ _=>rfl,a.fits,Ro.le_refl _,λ_ _ _=>rfl,λ_ h=>by simp at h,λ_ h=>by simp at h,.nil⟩⟩
theorem Jo (x:Nat)(hx:x<18446744073709551616):eD prog 110 #[uv x] [tz] (iv (Lib.ctz 64 x)):=
 eD.of_same λw hw=>Any7.bits_TrailingZeros64 Tryz.Ws x hx w (λ_=>hw)
theorem EF {x:Nat}(a:x≠0)(h:x<18446744073709551616):x.testBit (Lib.ctz 64 x)=true∧∀i,i<Lib.ctz 64 x→x.testBit i=false:=by
 obtain⟨m,hm,_⟩:=Lib.ctzFrom_spec 64 x (by omega) h
 have e:Lib.ctz 64 x=Lib.ctzFrom 64 x:=by unfold Lib.ctz;rw[aA a]
 rw[e]
 generalize Lib.ctzFrom 64 x=k at hm
 subst hm;refine⟨?_,λi b=> ?_⟩
 ·rw[Nat.testBit_two_pow_mul,ff,dt (aR k),Bool.true_and,Nat.testBit_zero]
  exact dt (by omega)
 ·rw[Nat.testBit_two_pow_mul,fK (by omega),Bool.false_and]
abbrev kC (a b:aV):Value:= .agg #[a.1,b.1]
theorem M8 (a d:aV)(T:List ej)(e:im T)(i j:Nat)(f:i<T.length)(g:j<T.length):eD prog 84 #[kC a d,iv i,iv j] [sl bF a.1 (de T),sl bF d.1 (db T)] (.bool (iD T i j)):=by
 refine eD.nE (args:=[kC a d,iv i,iv j]) 16 func84 rfl ntmps84 rfl (λc=> ?_);refine go ?_
 have h:=e.len
 have k:=QB T
 refine go ?_;refine St.dK (.mk rfl) rfl (λl=> ?_);refine g9 ?_;refine St.ee (Ev.ld1 (.mk rfl) (QA f) lY trivial rfl) ?_;refine go ?_;refine St.ee (Ev.XX (j) _ rfl (.mk rfl) (.mk rfl) (by omega)) ?_;refine St.ee (Ev.Ym (b:=1) 1 2 (by decide) (.mk rfl) (.mk rfl) (⟨(vy (Nat.div_le_self _ _) (vt e (by omega))),by decide,by decide⟩)) ?_;refine go ?_;refine St.slot 15 (.bool (iD T i j)) rfl (congrArg Value.bool (IW _ _)) ?_;refine g4 ?_;refine St.rV [_] [] ?_;rfl
theorem KE (d e:aV)(T:List ej)(j:im T)(a b:Nat)(n:a<T.length)(o:b<T.length):dx prog 80 #[kC d e,iv a,iv b] ([sl bF d.1 (de T),sl bF e.1 (db T),tz].map aB) (λv H'=>∃(m:Int) (ok:Bool),v= .tuple #[iv m,.bool ok,.bool (kF T a b)]∧H'=[]):=by
 refine dx.body (args:=[kC d e,iv a,iv b]) 33 func80 rfl ntmps80 rfl (λc=> ?_);refine St.cast (H':=[aB (sl bF d.1 (de T)),aB (sl bF e.1 (db T)),aB (tz)]) rfl ?_;refine go ?_
 have g:=j.len
 have t:=EH T
 refine go ?_;refine St.dK (.mk rfl) rfl (λu=> ?_);refine g6 ?_;refine St.rq mixed (by kernel_rfl) (Mm.drawn _ _) ?_;refine g4 ?_;refine Sq.ee (Ev.ld1 (.mk rfl) (oD n) lY trivial rfl) ?_;refine g4 ?_;refine Sq.ee (Ev.ld1 (.mk rfl) (oD o) lY trivial rfl) ?_;refine Sq.ee (Ev.Yl (.mk rfl) (.mk rfl) ⟨nG _ _ g,nG _ _ g⟩) ?_;refine g5 ?_;refine St.slot 9 (uv (both T a b)) rfl rfl ?_
 have l:both T a b<18446744073709551616:=vy Nat.and_le_left (nG _ _ g)
 refine g5 ?_;refine St.cq (λp=> ?_) (λp=> ?_)
 ·have h:both T a b=0:=by omega
  refine g9 ?_;refine St.rV [_,_,_] [] ?_;exact⟨0,false,by rw[A0 h];rfl,rfl⟩
 ·have h:both T a b≠0:=by omega
  obtain⟨i,q⟩:=EF h l
  have r:Lib.ctz 64 (both T a b)<T.length:=by rw[o9,qj,fz]at i;exact i.1
  have f:=G2 j i q
  refine g5 ?_;refine St.ee (Ev.call (Jo (both T a b) l) UA (.ar rfl)) ?_;refine g9 ?_;refine St.ee (Ev.cL (k:=(Lib.ctz 64 (both T a b))) (.mk rfl) (.mk rfl) vr l9 (by omega) (by omega)) ?_;refine St.ee (Ev.ld1 (.mk rfl) (oD r) lY trivial rfl) ?_;refine g4 ?_;refine St.cq (λs=> ?_) (λs=> ?_)
  ·rw[dt (by omega)]at f
   refine g9 ?_;refine St.rV [_,_,_] [] ?_;exact⟨0,false,by rw[f];rfl,rfl⟩
  ·rw[fK (by omega)]at f
   refine g11 ?_;refine St.rV [_,_,_] [] ?_;exact⟨(Lib.ctz 64 (both T a b):Nat),true,by rw[f];rfl,rfl⟩
end Go.Proofs.YtblifkgpebebmaaGreatDoor
