/-
  Laws of walks through programs, and facts on grammars, trees and queries.
  Conditions: none.
-/
import Derived.Test.YtiefglecbgdaiaaGreatDoorGF4
import Derived.Shelf.Spec.TrailingZeros
import Derived.Laws.Small
import Derived.Lib.Join
import Derived.Shelf.Spec.SlicesGrow
set_option maxHeartbeats 2000000
set_option maxRecDepth 20000
set_option linter.unusedVariables false
set_option linter.unusedSimpArgs false
namespace Go.Proofs.YtiefglecbgdaiaaGreatDoor
open Go Go.J Tryz
theorem HE {l:List eM}{k:Nat}{t:eM}(ht:l[k]?=some t)(known:List ab):kz known k (l.drop k)=if isName t.1=false then(10,(k:Int))else if t.1∈known then(7,(k:Int))else if decide (k=0)≠decide (t.2.length=0)then(5,(k:Int))
 else if(rX k (-1) t.2).1≠0 then rX k (-1) t.2 else kz (known++ [t.1]) (k+1) (l.drop (k+1)):=by rw[bA ht,kz]
theorem Jz {l:List eM}{k:Nat}(h:l.length≤k)(known:List ab):kz known k (l.drop k)=(0,0):=by rw[fS h,kz]
theorem NJ {i z p:Int}{ps:List Int}{q:Nat}(hp:ps[q]?=some p):rX i z (ps.drop q)=if p<0∨i≤p then(3,i)else if p≤z then(13,i)else rX i p (ps.drop (q+1)):=by rw[bA hp,rX]
theorem Qz {i z:Int}{ps:List Int}{q:Nat}(h:ps.length≤q):rX i z (ps.drop q)=(0,0):=by rw[fS h,rX]
def Hq (m:List (ab×Value))(known:List ab):Prop:=∀s,(nc m s).isSome=decide (s∈known)
theorem Hq.nil:Hq [] []:=λs=>by simp[nc]
theorem Hq.snoc {m:List (ab×Value)}{known:List ab}(h:Hq m known)(s:ab)(v:Value):Hq (jP m s v) (known++ [s]):=λa=>by
 rw[zN]
 by_cases e:a=s
 ·subst e;simp
 ·rw[aA e,h a,decide_eq_decide];simp[e]
theorem ec {α β:Type}(f:α→β){l:List α}{k:Nat}{x:α}(h:l[k]?=some x):(l.take (k+1)).map f=(l.take k).map f++ [f x]:=by rw[aO h,cL];rfl
theorem Hz (u:Value)(a:List yK):cX prog 106 #[u] [sl pj u a,aL wj a] (fv (B6 (a.map cn))):=by
 refine cX.lj (args:=[u]) 82 func106 rfl ntmps106 rfl (λc=> ?_);refine go ?_;refine St.wf u (λE F=> ?_);refine go ?_;refine St.al (λA=> ?_);refine g9 ?_;refine St.gf _ rfl rfl (λd=>Ev.move (.mk rfl)) rfl ?_;refine St.gf _ rfl rfl (λd=>Ev.eu (aX.gv rfl d) A7) rfl ?_;refine St.gf _ rfl rfl (λd=>Ev.gtr (aX.gv rfl d) (.mk rfl)) rfl ?_;refine g3 ?_;refine St.cq (λG=> ?_) (λG=> ?_)
 ·have j:B6 (a.map cn)=(2,-1):=by unfold B6;rw[aB (by rw[aR];omega)]
  refine g2 ?_;refine St.ee (Ev.call (cO 2 (-1)) qR (.ah rfl rfl)) ?_;refine g5 ?_;refine St.rV [_] [] ?_;exact congrArg fv j.symm
 ·have j:B6 (a.map cn)=kz [] 0 (a.map cn):=by unfold B6;rw[aA (by rw[aR];omega)]
  refine g4 ?_;refine St.makeMap mkStr rfl (λB=> ?_);refine g12 ?_;refine St.pb (ι:=Nat) (κ:=List (ab×Value)) (λk m T=>(23,iv k)::T) (λk m=>[aU B (df mkStr m),tI A [iv 0,iv 0] 39,aD (sl pj u a),aD (aL wj a)]) (λk m=>k≤a.length∧B6 (a.map cn)=kz ((a.take k).map yK.name) k ((a.map cn).drop k)∧Hq m ((a.take k).map yK.name)) (λk m=>a.length-k) 0 [] (aC.k4 2 3 21 22) ⟨aP _,j,Hq.nil⟩ ?_;rintro k m ⟨hk,n,C⟩;refine g6 ?_;refine St.cq (λH=> ?_) (λH=> ?_)
  ·obtain⟨t,ht⟩:=aF (show k<a.length by omega)
   have D:=aa ht
   have b:=HE (l:=a.map cn) (k:=k) (t:=cn t) (by rw[aw,ht];rfl) ((a.take k).map yK.name)
   rw[←n]at b
   have I:t.name.length≤9223372036854775807:=by have:=E t D;simp only[pj,vt]at this;omega
   refine St.cN wj a (x:=t) D ?_;refine St.gW (sl aI t.pv.1 t.parents) [wj t] (λρ h=>h _ (aV ..)) ?_;refine St.wf t.pv.1 (λJ L=> ?_);refine g8 ?_;refine St.ee (Ev.j2 (.mk rfl) ht underlying163 trivial Ll gX.eq) ?_;refine St.al (λM=> ?_);refine g9 ?_;refine St.ee (Ev.call (lM t.name I) MW (.ay rfl)) ?_;refine g3 ?_;refine St.cq (λo=> ?_) (λo=> ?_)
   ·rw[aB (show isName (cn t).1=false from(by simpa using o:isName t.name=false))]at b
    refine g3 ?_;refine St.ee (Ev.call (cO 10 k) qR (.ah rfl rfl)) ?_;refine g10 ?_;refine St.rV [_] [] ?_;exact congrArg fv b.symm
   ·rw[aA (show ¬isName (cn t).1=false from(by simpa using o:¬isName t.name=false))]at b
    refine g8 ?_;refine St.ee (Ev.r8 mkStr (k:=t.name) (.mk rfl) (.mk rfl) nL (by exact oc) jF) ?_;refine g3 ?_;refine St.slot 40 (.bool (decide (t.name∈(a.take k).map yK.name))) rfl (congrArg Value.bool (C t.name)) ?_;refine g9 ?_;refine St.cq (λr=> ?_) (λr=> ?_)
    ·rw[aB (show(cn t).1∈(a.take k).map yK.name from r)]at b
     refine g3 ?_;refine St.ee (Ev.call (cO 7 k) qR (.ah rfl rfl)) ?_;refine g10 ?_;refine St.rV [_] [] ?_;exact congrArg fv b.symm
    ·rw[aA (show ¬(cn t).1∈(a.take k).map yK.name from r)]at b
     refine g8 ?_;refine St.mapUpdate mkStr (k:=t.name) (.mk rfl) (.mk rfl) (.mk rfl) nL (by exact oc) ?_;refine g11 ?_;refine St.ee (Ev.D1 (.mk rfl) (.mk rfl) K3) ?_;refine g2 ?_;refine St.cond _ rfl (λs=> ?_) (λs=> ?_)
     ·skip
      have e:decide (k=0)≠decide (t.parents.length=0):=by simpa using s
      rw[aB (show decide (k=0)≠decide ((cn t).2.length=0)from e)]at b;refine g3 ?_;refine St.ee (Ev.call (cO 5 k) qR (.ah rfl rfl)) ?_;refine g10 ?_;refine St.rV [_] [] ?_;exact congrArg fv b.symm
     ·skip
      have e:¬decide (k=0)≠decide (t.parents.length=0):=by simpa using s
      rw[aA (show ¬decide (k=0)≠decide ((cn t).2.length=0)from e)]at b;refine g16 ?_;refine St.pb (ι:=Nat) (κ:=Int) (λq z T=>(60,iv q)::(8,iv z)::T) (λq z=>[aU B (df mkStr (jP m t.name (iv k))),tI A [iv 0,iv 0] 39,aD (sl aI t.pv.1 t.parents),aD (sl pj u a),aD (aL wj a)]) (λq z=>q≤t.parents.length∧rX k (-1) (cn t).2=rX k z (t.parents.drop q)) (λq z=>t.parents.length-q) 0 (-1) (aC.k8 2 3 4 21 22 23 58 59) ⟨aP _,rfl⟩ ?_;rintro q z ⟨N,g⟩;refine g6 ?_;refine St.cq (λv=> ?_) (λv=> ?_)
      ·obtain⟨p,hp⟩:=aF (show q<t.parents.length by omega)
       have f:=NJ (i:=k) (z:=z) hp
       refine g17 ?_;refine St.gf _ rfl rfl (λd=>Ev.move (.mk rfl)) rfl ?_;refine St.gf _ rfl rfl (λd=>Ev.move (.mk rfl)) rfl ?_;refine St.gf _ rfl rfl (λd=>Ev.geq (aX.gv rfl d) (aX.gv rfl d)) rfl ?_;refine g3 ?_;refine St.cq (λK=> ?_) (λK=> ?_)
       ·rw[aB zE]at f
        rw[g,f,aB (by show(3:Int)≠0;decide)]at b;refine g3 ?_;refine St.ee (Ev.call (cO 3 k) qR (.ah rfl rfl)) ?_;refine g14 ?_;refine St.rV [_] [] ?_;exact congrArg fv b.symm
       ·rw[aA zE]at f
        refine g10 ?_;refine St.cq (λy=> ?_) (λy=> ?_)
        ·rw[aB zE]at f
         rw[g,f,aB (by show(13:Int)≠0;decide)]at b;refine g3 ?_;refine St.ee (Ev.call (cO 13 k) qR (.ah rfl rfl)) ?_;refine g14 ?_;refine St.rV [_] [] ?_;exact congrArg fv b.symm
        ·rw[aA zE]at f
         refine g13 ?_;refine St.py (q+1) p ⟨by omega,by rw[g,f]⟩
      ·rw[Qz zE]at g
       rw[aA (by rw[g];decide)]at b;refine g11 ?_;refine St.py (k+1) (jP m t.name (iv k)) ⟨by omega,by rw[b,ec yK.name ht];rfl,by rw[ec yK.name ht];exact C.snoc _ _⟩
  ·rw[Jz (by rw[aR];omega)]at n
   refine g7 ?_;refine St.ee (Ev.build (bC.nil) (λw=>fC w)) ?_;refine g4 ?_;refine St.rV [_] [] ?_;exact congrArg fv n.symm
end Go.Proofs.YtiefglecbgdaiaaGreatDoor
namespace Go.J
open Go
section
variable {P:Program}{n:Nat}{F:Fr}{A:World→Prop}{ty t u:TypeId}{x y:Operand}{a b:Nat}
theorem MP (h:a<18446744073709551616)(c:b<18446744073709551616):bits .and .u64 (a:Int) (b:Int)=((a&&&b:Nat):Int):=by
 have e:(BitVec.ofInt IntKind.u64.bits (a:Int)&&&BitVec.ofInt IntKind.u64.bits (b:Int)).toNat=a&&&b:=by
  show(BitVec.ofInt 64 (a:Int)&&&BitVec.ofInt 64 (b:Int)).toNat=_
  rw[BitVec.toNat_and,Nu,Nu,Nv,Nv,mT h,mT c]
 simp only[bits,e]
 rw[oe,mT (sy Nat.and_le_left h)]
theorem Ob (h:a<18446744073709551616)(c:b<18446744073709551616):bits .or .u64 (a:Int) (b:Int)=((a|||b:Nat):Int):=by
 have e:(BitVec.ofInt IntKind.u64.bits (a:Int)|||BitVec.ofInt IntKind.u64.bits (b:Int)).toNat=a|||b:=by
  show(BitVec.ofInt 64 (a:Int)|||BitVec.ofInt 64 (b:Int)).toNat=_
  rw[BitVec.toNat_or,Nu,Nu,Nv,Nv,mT h,mT c]
 simp only[bits,e]
 rw[oe,mT (Nat.or_lt_two_pow (n:=64) h c)]
theorem Ev.aa8 (hx:aX F x (uv a))(hy:aX F y (uv b))(h:a<18446744073709551616∧b<18446744073709551616):Ev P n F A (.binOp .and t x y u) ty (uv (a&&&b)):= .of_run λa' w ha _=>by
 simp only[execOp,hx.eval ha,hy.eval ha];simp only[go_sem,MP h.1 h.2];simp
theorem Ev.orG (hx:aX F x (uv a))(hy:aX F y (uv b))(h:a<18446744073709551616∧b<18446744073709551616):Ev P n F A (.binOp .or t x y u) ty (uv (a|||b)):= .of_run λa' w ha _=>by
 simp only[execOp,hx.eval ha,hy.eval ha];simp only[go_sem,Ob h.1 h.2];simp
theorem Ev.abF {k:Nat}{i:Int}{kd:IntKind}(hx:aX F x (uv 1))(hy:aX F y (.int kd i))(h:i=k∧k<64):Ev P n F A (.binOp .shl t x y u) ty (uv (2^k)):=by
 have:=Ev.ajJ (P:=P) (n:=n) (A:=A) (ty:=ty) (t:=t) (u:=u) k (2^k) rfl hx hy zE
 have e:1*2^k%18446744073709551616=2^k:=by
  rw[nz];exact mT (show 2^k<2^64 from AH (by decide) h.2)
 rw[e]at this;exact this
theorem KQ (a j:Nat):decide ((((a/2^j%2:Nat):Int))=1)=a.testBit j:=by
 rw[Nat.testBit_eq_decide_div_mod_eq,decide_eq_decide];omega
end
def ax:Rp Nat:=⟨1,by decide,λa=>[uv a],λa=>a<18446744073709551616,λ_=>rfl,λx u h=>by rw[bN.1 h];rfl⟩
theorem rC (U:List Nat):rows ax U=U.map λa=>uv a:=by
 show U.flatMap (λa=>[uv a])=_
 induction U with
 |nil=>rfl
 |cons a U b=>rw[iE,b];rfl
theorem oP {U:List Nat}{k a:Nat}(h:U[k]?=some a):(rows ax U)[k*1+0]?=some (uv a):=by
 rw[rC,e8,fU,aw,h];rfl
theorem uR {U:List Nat}{k a:Nat}:(rows ax U).set (k*1+0) (uv a)=rows ax (U.set k a):=by
 rw[rC,rC,e8,fU,k9]
theorem Gd (n:Nat):List.replicate n (uv 0)=rows ax (List.replicate n 0):=by rw[rC,uw]
end Go.J
namespace Go.Proofs.YtiefglecbgdaiaaGreatDoor
open Go Go.J Tryz
theorem UR {T:List eM}{k q n:Nat}{E:List Nat}(a:∀j,j<n→E[j]?=some (if j<q then kS T (k+1) j else kS T k j))(c:E.length=n)(d:q<n)(h:gp T k q=true):
 ∀j,j<n→(E.set q (kS T k q|||2^k))[j]?=some (if j<q+1 then kS T (k+1) j else kS T k j):=λj b=>by
 by_cases e:q=j
 ·subst e;rw[fp zE,aB zE,r5,aB h]
 ·rw[gV e,a j b]
  by_cases e2:j<q
  ·rw[aB e2,aB zE]
  ·rw[aA e2,aA zE]
theorem UQ {T:List eM}{k q n:Nat}{E:List Nat}(a:∀j,j<n→E[j]?=some (if j<q then kS T (k+1) j else kS T k j))(h:gp T k q=false):
 ∀j,j<n→E[j]?=some (if j<q+1 then kS T (k+1) j else kS T k j):=λj b=>by
 rw[a j b]
 by_cases e:q=j
 ·subst e;rw[aA zE,aB zE,r5,aA (by rw[h];decide)]
 ·by_cases e2:j<q
  ·rw[aB e2,aB zE]
  ·rw[aA e2,aA zE]
theorem qL (u:Value)(d:List yK)(f:iJ (d.map cn)):dR prog 65 #[u] ([sl pj u d,aL wj d].map aD) (λv H'=>∃R S:aY,v= .agg #[R.1,S.1]∧H'=[aD (sl ax R.1 (dN (d.map cn))),aD (sl ax S.1 (dM (d.map cn)))]):=by
 refine dR.body (args:=[u]) 75 func65 rfl ntmps65 rfl (λc=> ?_);refine St.cast (H':=[aD (sl pj u d),aD (aL wj d)]) rfl ?_;refine go ?_
 have Y:=f.len
 rw[aR]at Y;refine go ?_;refine St.al (λI=> ?_);refine g2 ?_;refine St.join (ι:=Nat×Nat×Nat) (λy T=>(3,.pointer (some ⟨y.2.2,0,none⟩))::T) (λy=>[aU y.2.2 (.cells [(.slice (some ⟨y.1,0,none⟩) d.length d.length),(.slice (some ⟨y.2.1,0,none⟩) d.length d.length)].toArray 154 (0,0)),row (.slice (some ⟨y.1,0,none⟩) d.length d.length) 123 1 d.length (rows ax (List.replicate d.length 0)),row (.slice (some ⟨y.2.1,0,none⟩) d.length d.length) 123 1 d.length (rows ax (List.replicate d.length 0)),tI I [(.slice none 0 0),(.slice none 0 0)] 154,aD (sl pj u d),aD (aL wj d)]) (λy=>True) (aC.k2 0 2) ?_ ?_
 ·refine St.qe [] mixed (λK L=> ?_)
  repeat' first
   |with_reducible refine SW.me ?_
    first
     |refine SW.gd 0 ?_
     |refine SW.gd 1 ?_
     |refine SW.gd 3 ?_
     |refine SW.gd 4 ?_
     |refine SW.dd 6 rfl (λ_=>Ev.build (ps:=[(0,(.tmp 11)),(1,(.tmp 14))]) (bC.ah rfl rfl) (λw=>IA rfl rfl w)) ?_
     |refine SW.agD (i:=2) (j:=5) (k:=7) (by decide+kernel) rfl rfl rfl ?_ ?_ ?_
     |refine SW.t2 5 7 ?_ ?_
     |refine SW.t1 7 ?_
     |refine SW.t1 8 ?_
     |refine SW.t1 5 ?_
     |refine SW.t2 2 7 ?_ ?_
     |refine SW.t1 2 ?_
     |refine SW.t2 2 5 ?_ ?_
   |with_reducible refine SW.tg 2 ?_
    refine St.kr (m:=d.length) (.mk rfl) (.mk rfl) oZ kW Xl WW rfl rfl zE rfl rfl (λW=> ?_);refine St.aN (tO W d.length d.length) rfl (Gd _) ?_;refine g2 ?_;refine SW.go ?_
   |with_reducible refine SW.tg 5 ?_
    refine St.kr (m:=d.length) (.mk rfl) (.mk rfl) oZ kW Xl WW rfl rfl zE rfl rfl (λX=> ?_);refine St.aN (tO X d.length d.length) rfl (Gd _) ?_;refine g2 ?_;refine SW.go ?_
   |with_reducible refine SW.tg 7 ?_
    refine St.al (λZ=> ?_);refine g2 ?_;refine SW.go ?_
   |with_reducible refine SW.tg 8 ?_
    refine g3 ?_;refine SW.go ?_
  all_goals refine SW.dn ?_
  all_goals
   refine go ?_;refine St.mE (W,X,Z) trivial
 ·intro y Mn
  refine g9 ?_;refine St.pb (ι:=Nat) (κ:=List Nat×List Nat) (λk z T=>(18,iv k)::T) (λk z=>[aU y.2.2 (.cells [(.slice (some ⟨y.1,0,none⟩) d.length d.length),(.slice (some ⟨y.2.1,0,none⟩) d.length d.length)].toArray 154 (0,0)),row (.slice (some ⟨y.1,0,none⟩) d.length d.length) 123 1 d.length (rows ax z.1),row (.slice (some ⟨y.2.1,0,none⟩) d.length d.length) 123 1 d.length (rows ax z.2),tI I [(.slice none 0 0),(.slice none 0 0)] 154,aD (sl pj u d),aD (aL wj d)]) (λk z=>k≤d.length∧(z.1.length=d.length∧∀i,i<k→z.1[i]?=some (Lz (d.map cn) i))∧(z.2.length=d.length∧∀j,j<d.length→z.2[j]?=some (kS (d.map cn) k j))) (λk z=>d.length-k) 0 (List.replicate d.length 0,List.replicate d.length 0) (aC.k5 0 2 3 16 17) ⟨aP _,⟨nO,λi g=>absurd g zE⟩,nO,λj s=>by show(List.replicate d.length 0)[j]?=_;rw[sM,aB s];rfl⟩ ?_;rintro k ⟨U,D⟩ ⟨hk,⟨l,M⟩,n,N⟩
  dsimp only at l M n N⊢
  refine g6 ?_;refine St.cq (λh19=> ?_) (λh19=> ?_)
  ·obtain⟨t,ht⟩:=aF (show k<d.length by omega)
   have htm:=aa ht
   have B:(d.map cn)[k]?=some (cn t):=by rw[aw,ht];rfl
   have r:=f.par k _ B
   refine St.cN wj d (x:=t) htm ?_;refine St.gW (sl aI t.pv.1 t.parents) [wj t] (λρ h=>h _ (aV ..)) ?_;refine St.wf t.pv.1 (λhpw hpl=> ?_);refine g8 ?_;refine St.ee (Ev.j2 (.mk rfl) ht underlying163 trivial Ll gX.eq) ?_;refine St.al (λb5=> ?_);refine g5 ?_;refine St.dZ [row (.slice (some ⟨y.1,0,none⟩) d.length d.length) 123 1 d.length (rows ax U)] mixed (λK L=> ?_);refine SW.gd 0 ?_;refine SW.gd 1 ?_;refine SW.gd 2 ?_;refine SW.gd 3 ?_;refine SW.dd 4 rfl (λ_=>Ev.abF (k:=k) (.mk rfl) (.mk rfl) zE) ?_;refine SW.dd 5 rfl (λ_=>Ev.kF (k:=k) rfl (.mk rfl) (.mk rfl) oZ kW zE zE) ?_;refine SW.t1 6 ?_;refine St.bz (.mk rfl) (.mk rfl) kW rfl zE (by decide) ?_;refine St.aN (.slice (some ⟨y.1,0,none⟩) d.length d.length) rfl uR ?_;refine g2 ?_;refine SW.go ?_;refine SW.dn ?_;refine g11 ?_;refine St.pb (ι:=Nat) (κ:=List Nat) (λq V T=>(32,iv q)::T) (λq V=>[row (.slice (some ⟨y.1,0,none⟩) d.length d.length) 123 1 d.length (rows ax V),aU y.2.2 (.cells [(.slice (some ⟨y.1,0,none⟩) d.length d.length),(.slice (some ⟨y.2.1,0,none⟩) d.length d.length)].toArray 154 (0,0)),row (.slice (some ⟨y.2.1,0,none⟩) d.length d.length) 123 1 d.length (rows ax D),tI I [(.slice none 0 0),(.slice none 0 0)] 154,aD (sl aI t.pv.1 t.parents),aD (sl pj u d),aD (aL wj d)]) (λq V=>q≤t.parents.length∧V.length=d.length∧(∀i,i<k→V[i]?=some (Lz (d.map cn) i))∧V[k]?=some (upQ (d.map cn) k (t.parents.take q))) (λq V=>t.parents.length-q) 0 (U.set k (2^k)) (aC.k9 0 2 3 4 16 17 18 30 31) ⟨aP _,by rw[eC];exact l,λi g=>by rw[gV zE];exact M i g,by rw[fp zE];rfl⟩ ?_;rintro q V ⟨hq,C,J,e⟩;refine g6 ?_;refine St.cq (λh33=> ?_) (λh33=> ?_)
   ·obtain⟨p,hp⟩:=aF (show q<t.parents.length by omega)
    have hpp:=r p (aa hp)
    refine g11 ?_;refine St.dZ [row (.slice (some ⟨y.1,0,none⟩) d.length d.length) 123 1 d.length (rows ax V)] mixed (λK L=> ?_);refine SW.gd 0 ?_;refine SW.gd 1 ?_;refine SW.gd 2 ?_;refine SW.dd 3 rfl (λ_=>Ev.kF (k:=k) rfl (.mk rfl) (.mk rfl) oZ kW zE zE) ?_;refine SW.gd 5 ?_;refine SW.gd 6 ?_;refine SW.gd 7 ?_;refine SW.dd 8 rfl (λ_=>Ev.kF (k:=p.toNat) rfl (.mk rfl) (.mk rfl) oZ kW zE zE) ?_;refine SW.t2 4 9 ?_ ?_
    focus
     refine St.ee (Ev.cx (.mk rfl) jw trivial zE (oP e)) ?_;refine g2 ?_;refine SW.go ?_;refine SW.t1 9 ?_;refine St.ee (Ev.cx (.mk rfl) jw trivial zE (oP (J p.toNat zE))) ?_;refine g2 ?_;refine SW.go ?_;refine SW.dd 10 rfl (λ_=>Ev.orG (.mk rfl) (.mk rfl) ⟨Sb f zE (λp hp=>r p (xA hp)),wC f zE⟩) ?_;refine SW.dd 11 rfl (λ_=>Ev.kF (k:=k) rfl (.mk rfl) (.mk rfl) oZ kW zE zE) ?_;refine SW.t1 12 ?_;refine St.bz (.mk rfl) (.mk rfl) kW rfl zE (by decide) ?_;refine St.aN (.slice (some ⟨y.1,0,none⟩) d.length d.length) rfl uR ?_;refine g2 ?_;refine SW.go ?_;refine SW.dn ?_
    rotate_left
    focus
     refine St.ee (Ev.cx (.mk rfl) jw trivial zE (oP (J p.toNat zE))) ?_;refine g2 ?_;refine SW.go ?_;refine SW.t1 4 ?_;refine St.ee (Ev.cx (.mk rfl) jw trivial zE (oP e)) ?_;refine g2 ?_;refine SW.go ?_;refine SW.dd 10 rfl (λ_=>Ev.orG (.mk rfl) (.mk rfl) ⟨Sb f zE (λp hp=>r p (xA hp)),wC f zE⟩) ?_;refine SW.dd 11 rfl (λ_=>Ev.kF (k:=k) rfl (.mk rfl) (.mk rfl) oZ kW zE zE) ?_;refine SW.t1 12 ?_;refine St.bz (.mk rfl) (.mk rfl) kW rfl zE (by decide) ?_;refine St.aN (.slice (some ⟨y.1,0,none⟩) d.length d.length) rfl uR ?_;refine g2 ?_;refine SW.go ?_;refine SW.dn ?_
    all_goals
     refine g7 ?_;refine St.py (q+1) (V.set k (upQ (d.map cn) k (t.parents.take q)|||Lz (d.map cn) p.toNat)) ⟨by omega,by rw[eC];exact C,λi g=>by rw[gV zE];exact J i g,by rw[fp zE,aO hp,Sc]⟩
   ·rw[dV zE]at e
    replace e:V[k]?=some (Lz (d.map cn) k):=by rw[SY f B];exact e
    refine g13 ?_;refine St.pb (ι:=Nat) (κ:=List Nat) (λq E T=>(51,iv q)::T) (λq E=>[row (.slice (some ⟨y.2.1,0,none⟩) d.length d.length) 123 1 d.length (rows ax E),row (.slice (some ⟨y.1,0,none⟩) d.length d.length) 123 1 d.length (rows ax V),aU y.2.2 (.cells [(.slice (some ⟨y.1,0,none⟩) d.length d.length),(.slice (some ⟨y.2.1,0,none⟩) d.length d.length)].toArray 154 (0,0)),tI I [(.slice none 0 0),(.slice none 0 0)] 154,aD (sl pj u d),aD (aL wj d)]) (λq E=>q≤d.length∧E.length=d.length∧∀j,j<d.length→E[j]?=some (if j<q then kS (d.map cn) (k+1) j else kS (d.map cn) k j)) (λq E=>d.length-q) 0 D (aC.k8 0 2 3 4 16 17 18 50) ⟨aP _,n,λj s=>by rw[aA zE];exact N j s⟩ ?_;rintro q E ⟨hq,o,A⟩;refine g6 ?_;refine St.cq (λO=> ?_) (λO=> ?_)
    ·have F:=A q zE
     rw[aA zE]at F;refine g16 ?_;refine St.ee (Ev.cx (.mk rfl) jw trivial zE (oP e)) ?_;refine go ?_;refine St.ee (Ev.Rf (q) _ rfl (.mk rfl) (.mk rfl) zE) ?_;refine St.ee (Ev.aa9 (b:=1) 1 2 (by decide) (.mk rfl) (.mk rfl) (⟨(sy (Nat.div_le_self _ _) (wC f zE)),by decide,by decide⟩)) ?_;refine go ?_;refine St.slot 62 (.bool (gp (d.map cn) k q)) rfl (congrArg Value.bool (KQ _ _)) ?_;refine g2 ?_;refine St.cond _ rfl (λP=> ?_) (λP=> ?_)
     ·skip
      refine St.dZ [row (.slice (some ⟨y.2.1,0,none⟩) d.length d.length) 123 1 d.length (rows ax E)] mixed (λK L=> ?_);refine SW.gd 0 ?_;refine SW.gd 1 ?_;refine SW.gd 2 ?_;refine SW.dd 3 rfl (λ_=>Ev.kF (k:=q) rfl (.mk rfl) (.mk rfl) oZ kW zE zE) ?_;refine SW.gd 5 ?_;refine SW.dd 6 rfl (λ_=>Ev.abF (k:=k) (.mk rfl) (.mk rfl) zE) ?_;refine SW.t1 4 ?_;refine St.ee (Ev.cx (.mk rfl) jw trivial zE (oP F)) ?_;refine g2 ?_;refine SW.go ?_;refine SW.dd 7 rfl (λ_=>Ev.orG (.mk rfl) (.mk rfl) ⟨mw _ _ zE,(show 2^k<2^64 from AH (by decide) zE)⟩) ?_;refine SW.dd 8 rfl (λ_=>Ev.kF (k:=q) rfl (.mk rfl) (.mk rfl) oZ kW zE zE) ?_;refine SW.t1 9 ?_;refine St.bz (.mk rfl) (.mk rfl) kW rfl zE (by decide) ?_;refine St.aN (.slice (some ⟨y.2.1,0,none⟩) d.length d.length) rfl uR ?_;refine g2 ?_;refine SW.go ?_;refine SW.dn ?_;refine g7 ?_;refine St.py (q+1) (E.set q (kS (d.map cn) k q|||2^k)) ⟨by omega,by rw[eC];exact o,UR A o zE P⟩
     ·skip
      refine g8 ?_;refine St.py (q+1) E ⟨by omega,o,UQ A P⟩
    ·obtain rfl:q=d.length:=by omega
     replace A:∀j,j<d.length→E[j]?=some (kS (d.map cn) (k+1) j):=λj s=>by rw[A j s,aB s]
     refine g11 ?_;refine St.py (k+1) (V,E) ⟨by omega,⟨C,λi g=>by rcases cJ i k with h|h;exact J i h;rw[show i=k by omega];exact e⟩,o,A⟩
  ·obtain rfl:k=d.length:=by omega
   refine g12 ?_
   have G:U=dN (d.map cn):=by unfold dN;rw[aR];exact zH l M
   have H:D=dM (d.map cn):=by unfold dM;rw[aR];exact zH n N
   refine St.bI (.slice (some ⟨y.1,0,none⟩) d.length d.length) ax U rfl l.symm (λa Q=>by obtain⟨i,g,rfl⟩:=cA.1 (G▸Q);exact wC f (by have:=cU.1 g;rw[aR]at this;omega)) ?_;refine St.bI (.slice (some ⟨y.2.1,0,none⟩) d.length d.length) ax D rfl n.symm (λa Q=>by obtain⟨i,g,rfl⟩:=cA.1 (H▸Q);exact mw _ _ (by rw[aR];omega)) ?_;rw[G,H];refine St.rV [_] [aD (sl ax (.slice (some ⟨y.1,0,none⟩) d.length d.length) (dN (d.map cn))),aD (sl ax (.slice (some ⟨y.2.1,0,none⟩) d.length d.length) (dM (d.map cn)))] ?_;exact⟨⟨(.slice (some ⟨y.1,0,none⟩) d.length d.length),rfl⟩,⟨(.slice (some ⟨y.2.1,0,none⟩) d.length d.length),rfl⟩,rfl,rfl⟩
end Go.Proofs.YtiefglecbgdaiaaGreatDoor
namespace Go.Proofs
open Go.Shelf
def Tryz.J5:Go.Shelf.Ren:=⟨λ|29=>158|n=>n,λ|0=>0|3=>3|4=>4|5=>5|22=>123|25=>192|54=>309|n=>n,λ|1=>4|n=>n⟩
theorem Tryz.ZC:Go.Proofs.Lays7.n29 Tryz.prog Tryz.J5:={
 mixed:=by kernel_rfl
 f29:=Tryz.func158.trans (congrArg some (by kernel_rfl))
 t0:=u_0
 a0:=Tryz.isAgg0
 z0:=Tryz.sizeOf0
 v0:=Tryz.zeroValue0
 i0:=by kernel_rfl
 t3:=eK
 a3:=Tryz.isAgg3
 z3:=Tryz.sizeOf3
 v3:=Tryz.zeroValue3
 i3:=by kernel_rfl
 t4:=K3
 a4:=Tryz.isAgg4
 z4:=Tryz.sizeOf4
 v4:=Tryz.zeroValue4
 i4:=by kernel_rfl
 t5:=HI
 a5:=Tryz.isAgg5
 z5:=Tryz.sizeOf5
 v5:=Tryz.zeroValue5
 i5:=by kernel_rfl
 t22:=jw
 a22:=Tryz.isAgg123
 z22:=Tryz.sizeOf123
 v22:=Tryz.zeroValue123
 i22:=by kernel_rfl
 t25:=qp
 a25:=Tryz.isAgg192
 z25:=Tryz.sizeOf192
 v25:=Tryz.zeroValue192
 i25:=by kernel_rfl
 t54:=Tryz.underlying309
 a54:=Tryz.isAgg309
 z54:=Tryz.sizeOf309
 g1:=by kernel_rfl}
end Go.Proofs
namespace Go.Proofs.YtiefglecbgdaiaaGreatDoor
open Go Go.J Tryz
abbrev tz:dQ:=dQ.of (TabAt 4 Lib.deBruijn64tab)
theorem cX.of_same {P:Program}{f:FuncId}{args:Array Value}{X:World→Prop}{v:Value}(h:∀w,X w→Calls P f args w λe w'=>e= .returned v∧w'=w):cX P f args [dQ.of X] v:=by
 intro w ρ a
 have hx:X w:=dK.1 (a.dC (aD (dQ.of X)) (aV ..)) w a.fits
 refine(h w hx).mono ?_;rintro e w' ⟨rfl,rfl⟩;exact⟨v,[],rfl,rfl,Mm.mk (ρ:=ρ) ⟨rfl,⟨rfl,λ_=>aQ _⟩,rfl,aQ _,λ_ _ _=>rfl,a.fits,Ro.le_refl _,λ_ _ _=>rfl,λ_ h=>by simp at h,λ_ h=>by simp at h,.nil⟩⟩
theorem Lw (x:Nat)(hx:x<18446744073709551616):cX prog 158 #[uv x] [tz] (iv (Lib.ctz 64 x)):=
 cX.of_same λw hw=>Any7.bits_TrailingZeros64 Tryz.ZC x hx w (λ_=>hw)
theorem FD {x:Nat}(a:x≠0)(h:x<18446744073709551616):x.testBit (Lib.ctz 64 x)=true∧∀i,i<Lib.ctz 64 x→x.testBit i=false:=by
 obtain⟨m,hm,_⟩:=Lib.ctzFrom_spec 64 x zE h
 have e:Lib.ctz 64 x=Lib.ctzFrom 64 x:=by unfold Lib.ctz;rw[aA a]
 rw[e]
 generalize Lib.ctzFrom 64 x=k at hm
 subst hm;refine⟨?_,λi b=> ?_⟩
 ·rw[Nat.testBit_two_pow_mul,eX,dI (aQ k),Bool.true_and,Nat.testBit_zero]
  exact dI zE
 ·rw[Nat.testBit_two_pow_mul,e9 zE,Bool.false_and]
abbrev jc (a b:aY):Value:= .agg #[a.1,b.1]
theorem OH (a d:aY)(T:List eM)(e:iJ T)(i j:Nat)(f:i<T.length)(g:j<T.length):cX prog 111 #[jc a d,iv i,iv j] [sl ax a.1 (dN T),sl ax d.1 (dM T)] (.bool (gp T i j)):=by
 refine cX.lj (args:=[jc a d,iv i,iv j]) 16 func111 rfl ntmps111 rfl (λc=> ?_);refine go ?_
 have h:=e.len
 have k:=Se T
 refine go ?_;refine St.cW (.mk rfl) rfl (λl=> ?_);refine g9 ?_;refine St.ee (Ev.ld1 (.mk rfl) (Sd f) jw trivial rfl) ?_;refine go ?_;refine St.ee (Ev.Rf (j) _ rfl (.mk rfl) (.mk rfl) zE) ?_;refine St.ee (Ev.aa9 (b:=1) 1 2 (by decide) (.mk rfl) (.mk rfl) (⟨(sy (Nat.div_le_self _ _) (wC e zE)),by decide,by decide⟩)) ?_;refine go ?_;refine St.slot 15 (.bool (gp T i j)) rfl (congrArg Value.bool (KQ _ _)) ?_;refine g4 ?_;refine St.rV [_] [] ?_;rfl
theorem MH (e f:aY)(T:List eM)(l:iJ T)(a b:Nat)(n:a<T.length)(o:b<T.length):dR prog 107 #[jc e f,iv a,iv b] ([sl ax e.1 (dN T),sl ax f.1 (dM T),tz].map aD) (λv H'=>∃(m:Int) (ok:Bool),v= .tuple #[iv m,.bool ok,.bool (je T a b)]∧H'=[]):=by
 refine dR.body (args:=[jc e f,iv a,iv b]) 33 func107 rfl ntmps107 rfl (λc=> ?_);refine St.cast (H':=[aD (sl ax e.1 (dN T)),aD (sl ax f.1 (dM T)),aD (tz)]) rfl ?_;refine go ?_
 have h:=l.len
 have p:=FJ T
 refine go ?_;refine St.cW (.mk rfl) rfl (λu=> ?_);refine g6 ?_;refine St.rq mixed (by kernel_rfl) (Mm.drawn _ _) ?_;refine g4 ?_;refine Sq.ee (Ev.ld1 (.mk rfl) (oG n) jw trivial rfl) ?_;refine g4 ?_;refine Sq.ee (Ev.ld1 (.mk rfl) (oG o) jw trivial rfl) ?_;refine Sq.ee (Ev.aa8 (.mk rfl) (.mk rfl) ⟨mw _ _ h,mw _ _ h⟩) ?_;refine g5 ?_;refine St.slot 9 (uv (both T a b)) rfl rfl ?_
 have d:both T a b<18446744073709551616:=sy Nat.and_le_left (mw _ _ h)
 refine g5 ?_;refine St.cq (λq=> ?_) (λq=> ?_)
 ·have i:both T a b=0:=by omega
  refine g9 ?_;refine St.rV [_,_,_] [] ?_;exact⟨0,false,by rw[AF i];rfl,rfl⟩
 ·have i:both T a b≠0:=by omega
  obtain⟨j,r⟩:=FD i d
  have s:Lib.ctz 64 (both T a b)<T.length:=by rw[oB,pV,eJ]at j;exact j.1
  have g:=HT l j r
  refine g5 ?_;refine St.ee (Ev.call (Lw (both T a b) d) Wm (.ay rfl)) ?_;refine g9 ?_;refine St.ee (Ev.cM (k:=(Lib.ctz 64 (both T a b))) (.mk rfl) (.mk rfl) oZ kW zE zE) ?_;refine St.ee (Ev.ld1 (.mk rfl) (oG s) jw trivial rfl) ?_;refine g4 ?_;refine St.cq (λt=> ?_) (λt=> ?_)
  ·rw[dI zE]at g
   refine g9 ?_;refine St.rV [_,_,_] [] ?_;exact⟨0,false,by rw[g];rfl,rfl⟩
  ·rw[e9 zE]at g
   refine g11 ?_;refine St.rV [_,_,_] [] ?_;exact⟨(Lib.ctz 64 (both T a b):Nat),true,by rw[g];rfl,rfl⟩
theorem SS {T:List eM}{q k:Nat}(hk:k<T.length)(c:q<k)(h:je T q k=true)(d:∀b,b<k→(List.range b).any (λa=>je T a b)=false):x8 T=some k:=by
 unfold x8;rw[List.find?_range_eq_some];refine⟨uq.2 ⟨q,cU.2 c,h⟩,cU.2 hk,λj e=>by rw[d j e];rfl⟩
theorem SU {T:List eM}(c:∀b,b<T.length→(List.range b).any (λa=>je T a b)=false):x8 T=none:=by
 unfold x8;rw[List.find?_eq_none]
 intro b h;rw[c b (cU.1 h)];decide
theorem Cu {p:Nat→Bool}{n:Nat}(h:∀a,a<n→p a=false):(List.range n).any p=false:=by
 rw[List.any_eq_false];intro a b;rw[h a (cU.1 b)];decide
theorem FX {n:Int}{l:List o7}{k:Nat}{t:o7}(ht:l[k]?=some t)(known:List ab):mA n known k (l.drop k)=if isName t.1=false then(10,(k:Int))else if t.1∈known then(7,(k:Int))else if t.2.1<0∨n≤t.2.1∨t.2.2<0∨n≤t.2.2 then(3,(k:Int))
 else mA n (known++ [t.1]) (k+1) (l.drop (k+1)):=by rw[bA ht,mA]
theorem Ii {n:Int}{l:List o7}{k:Nat}(h:l.length≤k)(known:List ab):mA n known k (l.drop k)=(0,0):=by rw[fS h,mA]
theorem Mk {T:List eM}{Fs:List o7}(h:T.length=0∨60<T.length∨40<Fs.length):ig T Fs=(2,-1):=by
 unfold ig
 by_cases h1:40<Fs.length
 ·rw[aB h1]
 ·have e:B6 T=(2,-1):=by unfold B6;rw[aB zE]
  rw[aA h1,e];rfl
theorem Pq {T:List eM}{Fs:List o7}(h:¬40<Fs.length)(a:(B6 T).1≠0):ig T Fs=B6 T:=by unfold ig;rw[aA h,aB a]
theorem Pr {T:List eM}{Fs:List o7}{b:Nat}(h:¬40<Fs.length)(a:¬(B6 T).1≠0)(c:x8 T=some b):ig T Fs=(16,(b:Int)):=by unfold ig;rw[aA h,aA a,c]
theorem Pp {T:List eM}{Fs:List o7}(h:¬40<Fs.length)(a:¬(B6 T).1≠0)(b:x8 T=none):ig T Fs=mA T.length [] 0 Fs:=by unfold ig;rw[aA h,aA a,b]
theorem Dd (tv xv:aY)(e:List yK)(f:List jG):cX prog 63 #[.agg #[tv.1,xv.1]] [sl pj tv.1 e,aL wj e,sl gD xv.1 f,tz] (fv (ig (e.map cn) (f.map gj))):=by
 refine cX.BN (args:=[.agg #[tv.1,xv.1]]) 122 func63 rfl ntmps63 rfl (λc=> ?_);refine go ?_
 have E:(e.map cn).length=e.length:=aR ..
 have X:(f.map gj).length=f.length:=aR ..
 refine St.wf tv.1 (λY I=> ?_);refine St.wf xv.1 (λo Z=> ?_);refine go ?_;refine St.cW (.mk rfl) rfl (λJ=> ?_);refine St.al (λK=> ?_);refine g10 ?_;refine St.gf _ rfl rfl (λd=>Ev.cB (.mk rfl) vJ) rfl ?_;refine St.gf _ rfl rfl (λd=>Ev.gh (aX.gv rfl d) A7 trivial (by rfl)) rfl ?_;refine St.gf _ rfl rfl (λd=>Ev.eu (aX.gv rfl d) A7) rfl ?_;refine St.gf _ rfl rfl (λd=>Ev.gtr (aX.gv rfl d) (.mk rfl)) rfl ?_;refine g2 ?_;refine St.gf _ rfl rfl (λd=>Ev.cB (.mk rfl) DS) rfl ?_;refine St.gf _ rfl rfl (λd=>Ev.gh (aX.gv rfl d) K1 trivial (by rfl)) rfl ?_;refine St.gf _ rfl rfl (λd=>Ev.eu (aX.gv rfl d) K1) rfl ?_;refine St.gf _ rfl rfl (λd=>Ev.gtr (aX.gv rfl d) (.mk rfl)) rfl ?_;refine g3 ?_;refine St.cq (λL=> ?_) (λL=> ?_)
 ·have p:ig (e.map cn) (f.map gj)=(2,-1):=Mk zE
  refine g2 ?_;refine St.ee (Ev.call (cO 2 (-1)) qR (.ah rfl rfl)) ?_;refine g5 ?_;refine St.rV [_] [] ?_;exact congrArg fv p.symm
 ·have r:¬40<(f.map gj).length:=by omega
  refine g7 ?_;refine St.ee (Ev.call (Hz tv.1 e) abS (.ay rfl)) ?_;refine St.al (λb3=> ?_);refine g10 ?_;refine St.cond _ rfl (λs=> ?_) (λs=> ?_)
  ·skip
   have i:(B6 (e.map cn)).1≠0:=by simpa using s
   refine g8 ?_;refine St.rV [_] [] ?_;exact congrArg fv (Pq r i).symm
  ·skip
   have i:¬(B6 (e.map cn)).1≠0:=by simpa using s
   have u:=(Jy (fK.1 i)).2.2
   have akW:=u.len
   refine g6 ?_;refine St.dt (qL tv.1 e u) YO (.ay rfl) rfl ?_;rintro v41 _ ⟨M,N,rfl,rfl⟩;refine St.mZ ?_;refine St.al (λb4=> ?_);refine g13 ?_;refine St.lS (ι:=Nat) (λk T=>(45,iv k)::T) (λk=>k≤e.length∧∀b,b<k→(List.range b).any (λa=>je (e.map cn) a b)=false) (λk=>e.length-k) 0 (aC.k4 1 2 4 44) ⟨aP _,λb i=>absurd i zE⟩ ?_;intro k v;obtain⟨hk,x⟩:=v;refine g6 ?_;refine St.cq (λO=> ?_) (λO=> ?_)
   ·refine g17 ?_
    refine St.lS (ι:=Nat) (λq T=>(49,iv q)::T) (λq=>q≤k∧∀a,a<q→je (e.map cn) a k=false) (λq=>k-q) 0 (aC.k7 1 2 4 5 44 45 48) ⟨aP _,λa F=>absurd F zE⟩ ?_;intro q v;obtain⟨hq,y⟩:=v;refine g6 ?_;refine St.cq (λP=> ?_) (λP=> ?_)
    ·refine g15 ?_
     refine St.dt (MH M N (e.map cn) u q k zE zE) Ow (.fk rfl rfl rfl) rfl ?_;rintro Q _ ⟨mt,ok,rfl,rfl⟩;refine St.YC ?_;refine g14 ?_;refine St.cond _ rfl (λz=> ?_) (λz=> ?_)
     ·skip
      have p:=Pr (Fs:=f.map gj) r i (SS zE zE z x)
      refine g3 ?_;refine St.ee (Ev.call (cO 16 k) qR (.ah rfl rfl)) ?_;refine g13 ?_;refine St.rV [_] [] ?_;exact congrArg fv p.symm
     ·skip
      refine g8 ?_;refine St.aS (q+1) ⟨by omega,λa F=>by rcases cJ a q with h|h;exact y a h;rw[show a=q by omega];exact z⟩
    ·rw[show q=k by omega]at y
     refine g11 ?_;refine St.aS (k+1) ⟨by omega,λb i=>by rcases cJ b k with h|h;exact x b h;rw[show b=k by omega];exact Cu y⟩
   ·have A:k=e.length:=by omega
    have G:=Pp r i (SU (by rw[E,←A];exact x))
    rw[E]at G;refine g7 ?_;refine St.makeMap mkStr rfl (λB=> ?_);refine g13 ?_;refine St.pb (ι:=Nat) (κ:=List (ab×Value)) (λk m T=>(69,iv k)::T) (λk m=>[aU B (df mkStr m),tI K [iv 0,iv 0] 39,tI J [tv.1,xv.1] 25,aD (sl pj tv.1 e),aD (aL wj e),aD (sl gD xv.1 f)]) (λk m=>k≤f.length∧ig (e.map cn) (f.map gj)=mA e.length ((f.take k).map jG.name) k ((f.map gj).drop k)∧Hq m ((f.take k).map jG.name)) (λk m=>f.length-k) 0 [] (aC.k5 1 2 10 67 68) ⟨aP _,G,Hq.nil⟩ ?_;rintro k m ⟨hk,C,H⟩;refine g6 ?_;refine St.cq (λR=> ?_) (λR=> ?_)
    ·obtain⟨t,ht⟩:=aF (show k<f.length by omega)
     have S:=aa ht
     have g:=FX (n:=e.length) (l:=f.map gj) (k:=k) (t:=gj t) (by rw[aw,ht];rfl) ((f.take k).map jG.name)
     rw[←C]at g
     have U:t.name.length≤9223372036854775807:=by have:=(o t S).1;simp only[vt]at this;omega
     refine g8 ?_;refine St.ee (Ev.j2 (.mk rfl) ht underlying91 trivial S2 gX.eq) ?_;refine St.al (λV=> ?_);refine g9 ?_;refine St.ee (Ev.call (lM t.name U) MW (.ay rfl)) ?_;refine g3 ?_;refine St.cq (λD=> ?_) (λD=> ?_)
     ·rw[aB (show isName (gj t).1=false from(by simpa using D:isName t.name=false))]at g
      refine g3 ?_;refine St.ee (Ev.call (cO 10 k) qR (.ah rfl rfl)) ?_;refine g10 ?_;refine St.rV [_] [] ?_;exact congrArg fv g.symm
     ·rw[aA (show ¬isName (gj t).1=false from(by simpa using D:¬isName t.name=false))]at g
      refine g8 ?_;refine St.ee (Ev.r8 mkStr (k:=t.name) (.mk rfl) (.mk rfl) nL (by exact oc) jF) ?_;refine g3 ?_;refine St.slot 86 (.bool (decide (t.name∈(f.take k).map jG.name))) rfl (congrArg Value.bool (H t.name)) ?_;refine g9 ?_;refine St.cq (λj=> ?_) (λj=> ?_)
      ·rw[aB (show(gj t).1∈(f.take k).map jG.name from j)]at g
       refine g3 ?_;refine St.ee (Ev.call (cO 7 k) qR (.ah rfl rfl)) ?_;refine g10 ?_;refine St.rV [_] [] ?_;exact congrArg fv g.symm
      ·rw[aA (show ¬(gj t).1∈(f.take k).map jG.name from j)]at g
       refine g8 ?_;refine St.mapUpdate mkStr (k:=t.name) (.mk rfl) (.mk rfl) (.mk rfl) nL (by exact oc) ?_;refine g8 ?_;refine St.gf _ rfl rfl (λd=>Ev.cB (.mk rfl) Ig) rfl ?_;refine St.gf _ rfl rfl (λd=>Ev.gh (aX.gv rfl d) eK trivial (by rfl)) rfl ?_;refine St.gf _ rfl rfl (λd=>Ev.cB (.mk rfl) vJ) rfl ?_;refine St.gf _ rfl rfl (λd=>Ev.gh (aX.gv rfl d) A7 trivial (by rfl)) rfl ?_;refine St.gf _ rfl rfl (λd=>Ev.eu (aX.gv rfl d) A7) rfl ?_;refine St.gf _ rfl rfl (λd=>Ev.geq (aX.gv rfl d) (aX.gv rfl d)) rfl ?_;refine g2 ?_;refine St.gf _ rfl rfl (λd=>Ev.cB (.mk rfl) Ih) rfl ?_;refine St.gf _ rfl rfl (λd=>Ev.gh (aX.gv rfl d) eK trivial (by rfl)) rfl ?_;refine St.gf _ rfl rfl (λd=>Ev.lss (aX.gv rfl d) (.mk rfl)) rfl ?_;refine g2 ?_;refine St.gf _ rfl rfl (λd=>Ev.cB (.mk rfl) Ih) rfl ?_;refine St.gf _ rfl rfl (λd=>Ev.gh (aX.gv rfl d) eK trivial (by rfl)) rfl ?_;refine St.gf _ rfl rfl (λd=>Ev.cB (.mk rfl) vJ) rfl ?_;refine St.gf _ rfl rfl (λd=>Ev.gh (aX.gv rfl d) A7 trivial (by rfl)) rfl ?_;refine St.gf _ rfl rfl (λd=>Ev.eu (aX.gv rfl d) A7) rfl ?_;refine St.gf _ rfl rfl (λd=>Ev.geq (aX.gv rfl d) (aX.gv rfl d)) rfl ?_;refine g3 ?_;refine St.cq (λW=> ?_) (λW=> ?_)
       ·rw[aB (show(gj t).2.1<0∨(e.length:Int)≤(gj t).2.1∨(gj t).2.2<0∨(e.length:Int)≤(gj t).2.2 from(by omega:t.EU<0∨(e.length:Int)≤t.EU∨t.value<0∨(e.length:Int)≤t.value))]at g
        refine g3 ?_;refine St.ee (Ev.call (cO 3 k) qR (.ah rfl rfl)) ?_;refine g9 ?_;refine St.rV [_] [] ?_;exact congrArg fv g.symm
       ·rw[aA (show ¬((gj t).2.1<0∨(e.length:Int)≤(gj t).2.1∨(gj t).2.2<0∨(e.length:Int)≤(gj t).2.2)from(by omega:¬(t.EU<0∨(e.length:Int)≤t.EU∨t.value<0∨(e.length:Int)≤t.value)))]at g
        refine g8 ?_;refine St.py (k+1) (jP m t.name (iv k)) ⟨by omega,by rw[g,ec jG.name ht];rfl,by rw[ec jG.name ht];exact H.snoc _ _⟩
    ·rw[Ii (by rw[aR];omega)]at C
     refine g7 ?_;refine St.ee (Ev.build (bC.nil) (λw=>fC w)) ?_;refine g4 ?_;refine St.rV [_] [] ?_;exact congrArg fv C.symm
theorem J9 {nt nf nn:Int}{l:de}{k:Nat}{t:Nw}(ht:l[k]?=some t):eW nt nf nn k (l.drop k)=if t.1<0∨nt≤t.1 then(3,(k:Int))else if(Am nf nn k (-1) t.2).1≠0 then Am nf nn k (-1) t.2 else eW nt nf nn (k+1) (l.drop (k+1)):=by rw[bA ht,eW]
theorem N9 {nt nf nn:Int}{l:de}{k:Nat}(h:l.length≤k):eW nt nf nn k (l.drop k)=(0,0):=by rw[fS h,eW]
theorem QK {nf nn i z:Int}{l:List (Int×Int)}{q:Nat}{x:Int×Int}(hx:l[q]?=some x):Am nf nn i z (l.drop q)=if x.1<0∨nf≤x.1∨x.2<0∨nn≤x.2 then(3,i)else if x.1≤z then(13,i)else Am nf nn i x.1 (l.drop (q+1)):=by rw[bA hx,Am]
theorem VF {nf nn i z:Int}{l:List (Int×Int)}{q:Nat}(h:l.length≤q):Am nf nn i z (l.drop q)=(0,0):=by rw[fS h,Am]
theorem cj (g:ct):(ao g).length=g.nodes.length:=aR ..
theorem kD {g:ct}{k:Nat}{t:dy}(h:g.nodes[k]?=some t):(ao g)[k]?=some (lR t):=by unfold ao;rw[aw,h];rfl
theorem Hs (tv xv:aY)(d:List yK)(b:List jG)(g:ct):cX prog 110 #[.agg #[tv.1,xv.1],au g] [sl pj tv.1 d,sl gD xv.1 b,aJ g] (fv (fE d.length b.length (ao g))):=by
 refine cX.abH (args:=[.agg #[tv.1,xv.1],au g]) 86 func110 rfl ntmps110 rfl (λc=> ?_);refine go ?_
 refine St.gG (aJ g) (λ_:Unit=>jV g) (λρ h=>⟨(),h⟩) λ_=> ?_
 refine St.cast (H':=[aD (sl cD g.nv.1 g.nodes),aD (aL cE g.nodes),aD (sl pj tv.1 d),aD (sl gD xv.1 b),aD (aJ g)]) rfl ?_;refine St.wf tv.1 (λI s=> ?_);refine St.wf xv.1 (λu J=> ?_);refine St.wf g.nv.1 (λK L=> ?_)
 have v:=cj g
 refine go ?_;refine St.cW (.mk rfl) rfl (λy=> ?_);refine St.cW (.mk rfl) rfl (λA=> ?_);refine St.al (λB=> ?_);refine g10 ?_;refine St.gf _ rfl rfl (λa=>Ev.cB (.mk rfl) vK) rfl ?_;refine St.gf _ rfl rfl (λa=>Ev.gh (aX.gv rfl a) qC trivial (by rfl)) rfl ?_;refine St.gf _ rfl rfl (λa=>Ev.eu (aX.gv rfl a) qC) rfl ?_;refine St.gf _ rfl rfl (λa=>Ev.gtr (aX.gv rfl a) (.mk rfl)) rfl ?_;refine g3 ?_;refine St.cq (λC=> ?_) (λC=> ?_)
 ·have m:fE d.length b.length (ao g)=(2,-2):=by unfold fE;rw[aB zE]
  refine g2 ?_;refine St.ee (Ev.call (fc 2 (-2)) BO (.ah rfl rfl)) ?_;refine g5 ?_;refine St.rV [_] [] ?_;exact congrArg fv m.symm
 ·have m:fE d.length b.length (ao g)=eW d.length b.length g.nodes.length 0 (ao g):=by unfold fE;rw[aA zE,v]
  refine g12 ?_;refine St.lS (ι:=Nat) (λk T=>(24,iv k)::T) (λk=>k≤g.nodes.length∧fE d.length b.length (ao g)=eW d.length b.length g.nodes.length k ((ao g).drop k)) (λk=>g.nodes.length-k) 0 (aC.k5 2 3 4 22 23) ⟨aP _,m⟩ ?_;intro k D;obtain⟨hk,n⟩:=D;refine g6 ?_;refine St.cq (λE=> ?_) (λE=> ?_)
  ·obtain⟨t,ht⟩:=aF (show k<g.nodes.length by omega)
   have F:=aa ht
   refine St.cN cE g.nodes (x:=t) F ?_;refine St.gW (sl an t.lv.1 t.aW) [cE t] (λρ h=>h _ (aV ..)) ?_;refine St.wf t.lv.1 (λM N=> ?_)
   have e:=J9 (nt:=d.length) (nf:=b.length) (nn:=g.nodes.length) (kD ht)
   rw[←n]at e;refine g8 ?_;refine St.ee (Ev.j2 (.mk rfl) ht wq trivial jb gX.eq) ?_;refine St.al (λO=> ?_);refine g11 ?_;refine St.gf _ rfl rfl (λa=>Ev.cB (.mk rfl) te) rfl ?_;refine St.gf _ rfl rfl (λa=>Ev.gh (aX.gv rfl a) eK trivial (by rfl)) rfl ?_;refine St.gf _ rfl rfl (λa=>Ev.cB (.mk rfl) vJ) rfl ?_;refine St.gf _ rfl rfl (λa=>Ev.gh (aX.gv rfl a) A7 trivial (by rfl)) rfl ?_;refine St.gf _ rfl rfl (λa=>Ev.eu (aX.gv rfl a) A7) rfl ?_;refine St.gf _ rfl rfl (λa=>Ev.geq (aX.gv rfl a) (aX.gv rfl a)) rfl ?_;refine g3 ?_;refine St.cq (λG=> ?_) (λG=> ?_)
   ·rw[aB (show(lR t).1<0∨(d.length:Int)≤(lR t).1 from(by omega:t.type<0∨(d.length:Int)≤t.type))]at e
    refine g3 ?_;refine St.ee (Ev.call (fc 3 k) BO (.ah rfl rfl)) ?_;refine g10 ?_;refine St.rV [_] [] ?_;exact congrArg fv e.symm
   ·rw[aA (show ¬((lR t).1<0∨(d.length:Int)≤(lR t).1)from(by omega:¬(t.type<0∨(d.length:Int)≤t.type)))]at e
    refine g16 ?_;refine St.pb (ι:=Nat) (κ:=Int) (λq z T=>(45,iv q)::(7,iv z)::T) (λq z=>[aD (sl an t.lv.1 t.aW),tI B [iv 0,iv 0] 39,tI y [tv.1,xv.1] 25,tI A [g.nv.1] 30,aD (sl cD g.nv.1 g.nodes),aD (aL cE g.nodes),aD (sl pj tv.1 d),aD (sl gD xv.1 b),aD (aJ g)]) (λq z=>q≤t.aW.length∧Am b.length g.nodes.length k (-1) (lR t).2=Am b.length g.nodes.length k z ((t.aW.map fB).drop q)) (λq z=>t.aW.length-q) 0 (-1) (aC.k9 2 3 4 5 22 23 24 43 44) ⟨aP _,rfl⟩ ?_;rintro q z ⟨P,j⟩;refine g6 ?_;refine St.cq (λH=> ?_) (λH=> ?_)
    ·obtain⟨p,hp⟩:=aF (show q<t.aW.length by omega)
     have f:=QK (nf:=b.length) (nn:=g.nodes.length) (i:=k) (z:=z) (l:=t.aW.map fB) (q:=q) (x:=fB p) (by rw[aw,hp];rfl)
     refine g7 ?_;refine St.ee (Ev.j2 (.mk rfl) hp kY trivial da gX.eq) ?_;refine St.al (λQ=> ?_);refine g10 ?_;refine St.gf _ rfl rfl (λa=>Ev.cB (.mk rfl) DP) rfl ?_;refine St.gf _ rfl rfl (λa=>Ev.gh (aX.gv rfl a) eK trivial (by rfl)) rfl ?_;refine St.gf _ rfl rfl (λa=>Ev.cB (.mk rfl) DS) rfl ?_;refine St.gf _ rfl rfl (λa=>Ev.gh (aX.gv rfl a) K1 trivial (by rfl)) rfl ?_;refine St.gf _ rfl rfl (λa=>Ev.eu (aX.gv rfl a) K1) rfl ?_;refine St.gf _ rfl rfl (λa=>Ev.geq (aX.gv rfl a) (aX.gv rfl a)) rfl ?_;refine g2 ?_;refine St.gf _ rfl rfl (λa=>Ev.cB (.mk rfl) ti) rfl ?_;refine St.gf _ rfl rfl (λa=>Ev.gh (aX.gv rfl a) eK trivial (by rfl)) rfl ?_;refine St.gf _ rfl rfl (λa=>Ev.lss (aX.gv rfl a) (.mk rfl)) rfl ?_;refine g2 ?_;refine St.gf _ rfl rfl (λa=>Ev.cB (.mk rfl) ti) rfl ?_;refine St.gf _ rfl rfl (λa=>Ev.gh (aX.gv rfl a) eK trivial (by rfl)) rfl ?_;refine St.gf _ rfl rfl (λa=>Ev.cB (.mk rfl) vK) rfl ?_;refine St.gf _ rfl rfl (λa=>Ev.gh (aX.gv rfl a) qC trivial (by rfl)) rfl ?_;refine St.gf _ rfl rfl (λa=>Ev.eu (aX.gv rfl a) qC) rfl ?_;refine St.gf _ rfl rfl (λa=>Ev.geq (aX.gv rfl a) (aX.gv rfl a)) rfl ?_;refine g3 ?_;refine St.cq (λo=> ?_) (λo=> ?_)
     ·rw[aB (show(fB p).1<0∨(b.length:Int)≤(fB p).1∨(fB p).2<0∨(g.nodes.length:Int)≤(fB p).2 from(by omega:p.cu<0∨(b.length:Int)≤p.cu∨p.tqo<0∨(g.nodes.length:Int)≤p.tqo))]at f
      rw[j,f,aB (by show(3:Int)≠0;decide)]at e;refine g3 ?_;refine St.ee (Ev.call (fc 3 k) BO (.ah rfl rfl)) ?_;refine g14 ?_;refine St.rV [_] [] ?_;exact congrArg fv e.symm
     ·rw[aA (show ¬((fB p).1<0∨(b.length:Int)≤(fB p).1∨(fB p).2<0∨(g.nodes.length:Int)≤(fB p).2)from(by omega:¬(p.cu<0∨(b.length:Int)≤p.cu∨p.tqo<0∨(g.nodes.length:Int)≤p.tqo)))]at f
      refine g11 ?_;refine St.cq (λr=> ?_) (λr=> ?_)
      ·rw[aB (show(fB p).1≤z from(by omega:p.cu≤z))]at f
       rw[j,f,aB (by show(13:Int)≠0;decide)]at e;refine g3 ?_;refine St.ee (Ev.call (fc 13 k) BO (.ah rfl rfl)) ?_;refine g14 ?_;refine St.rV [_] [] ?_;exact congrArg fv e.symm
      ·rw[aA (show ¬(fB p).1≤z from(by omega:¬p.cu≤z))]at f
       refine g14 ?_;refine St.py (q+1) p.cu ⟨by omega,by rw[j,f];rfl⟩
    ·rw[VF (by rw[aR];omega)]at j
     rw[aA (by rw[j];decide)]at e;refine g11 ?_;refine St.aS (k+1) ⟨by omega,by rw[e]⟩
  ·rw[N9 zE]at n
   refine g7 ?_;refine St.ee (Ev.build (bC.nil) (λw=>fC w)) ?_;refine g4 ?_;refine St.rV [_] [] ?_;exact congrArg fv n.symm
theorem Be {M:List Bool}{k:Nat}{b:Bool}(h:M[k]?=some b):pD (M.drop k)=if b=false then 0 else if pD (M.drop (k+1))<0 then-1 else pD (M.drop (k+1))+1:=by rw[bA h,pD]
theorem Q0 {M:List Bool}{k:Nat}(h:M.length≤k):pD (M.drop k)= -1:=by rw[fS h,pD]
def mF (M:List Bool)(k:Nat):Prop:=pD M=if pD (M.drop k)<0 then-1 else pD (M.drop k)+k
theorem mF.nil (M:List Bool):mF M 0:=by
 unfold mF;rw[List.drop_zero]
 have:∀M:List Bool,pD M= -1∨0≤pD M:=by
  intro M
  induction M with
  |nil=>left;rfl
  |cons b M a=>
   rw[pD]
   split
   ·right;decide
   ·split
    ·left;rfl
    ·right;omega
 rcases this M with h|h
 ·rw[h];rfl
 ·rw[aA zE];omega
theorem mF.step {M:List Bool}{k:Nat}(h:mF M k)(b:M[k]?=some true):mF M (k+1):=by
 unfold mF at h⊢
 have a:=Be b
 rw[aA (show ¬(true=false) by decide)]at a
 by_cases e:pD (M.drop (k+1))<0
 ·rw[aB e]at a⊢
  rw[h,a];rfl
 ·rw[aA e]at a⊢
  rw[h,a,aA zE];omega
theorem mF.hit {M:List Bool}{k:Nat}(h:mF M k)(b:M[k]?=some false):pD M=k:=by
 unfold mF at h
 have a:=Be b
 rw[aB rfl]at a
 rw[h,a,aA (by decide)];omega
theorem mF.fin {M:List Bool}{k:Nat}(h:mF M k)(a:M.length≤k):pD M= -1:=by
 unfold mF at h
 rw[h,Q0 a];rfl
def e7:Rp Bool:=⟨1,by decide,λa=>[.bool a],λ_=>True,λ_=>rfl,λx u h=>by rw[bN.1 h];rfl⟩
theorem pO (U:List Bool):rows e7 U=U.map λa=>Value.bool a:=by
 show U.flatMap (λa=>[Value.bool a])=_
 induction U with
 |nil=>rfl
 |cons a U b=>rw[iE,b];rfl
theorem RD {U:List Bool}{k:Nat}{a:Bool}(h:U[k]?=some a):(rows e7 U)[k*1+0]?=some (.bool a):=by
 rw[pO,e8,fU,aw,h];rfl
theorem Ga {U:List Bool}{k:Nat}{a:Bool}:(rows e7 U).set (k*1+0) (.bool a)=rows e7 (U.set k a):=by
 rw[pO,pO,e8,fU,k9]
theorem RE (n:Nat):List.replicate n (Value.bool false)=rows e7 (List.replicate n false):=by rw[pO,uw]
theorem Hn (u:Value)(M:List Bool):cX prog 164 #[u,.bool false] [sl e7 u M] (iv (pD M)):=by
 refine cX.l6 (args:=[u,.bool false]) 19 func164 rfl ntmps164 rfl (λc=> ?_);refine go ?_;refine St.wf u (λh l=> ?_);refine g13 ?_;refine St.lS (ι:=Nat) (λk T=>(8,iv k)::T) (λk=>k≤M.length∧mF M k) (λk=>M.length-k) 0 (aC.k3 0 1 7) ⟨aP _,mF.nil M⟩ ?_;intro k i;obtain⟨hk,a⟩:=i;refine g6 ?_;refine St.cq (λj=> ?_) (λj=> ?_)
 ·obtain⟨b,g⟩:=aF (show k<M.length by omega)
  refine g17 ?_;refine St.ee (Ev.Tt (.mk rfl) (.mk rfl) K3) ?_;refine g2 ?_;refine St.cond _ rfl (λd=> ?_) (λd=> ?_)
  ·skip
   have e:M[k]?=some false:=by rw[g];cases b;rfl;cases d
   refine g12 ?_;refine St.rV [_] [] ?_;exact congrArg iv (a.hit e).symm
  ·skip
   have f:M[k]?=some true:=by rw[g];cases b;cases d;rfl
   refine g8 ?_;refine St.aS (k+1) ⟨by omega,a.step f⟩
 ·refine g11 ?_
  refine St.rV [_] [] ?_;exact congrArg iv (a.fin zE).symm
abbrev cQ (l:List Nat):List Int:=l.map λi:Nat=>(i:Int)
theorem ez (U:List Int):rows aI U=U.map λa=>iv a:=by
 show U.flatMap (λa=>[iv a])=_
 induction U with
 |nil=>rfl
 |cons a U b=>rw[iE,b];rfl
theorem NO {l:List Nat}{i:Nat}:(rows aI (cQ (l++ [i])))[l.length*1+0]?=some (iv (i:Nat)):=by
 rw[ez,e8,fU,cQ,iX,aw,jM (aQ _),eX];rfl
theorem RN {l:List Nat}{i:Nat}:(rows aI (cQ (l++ [i]))).take (l.length*1)=rows aI (cQ l):=by
 rw[ez,ez,e8,cQ,cQ,cL,cL];exact List.take_left' (by simp)
theorem vd {l:List Nat}{p:Int}(h:0≤p):rows aI (cQ l)++ [iv p]=rows aI (cQ (l++ [p.toNat])):=by
 rw[ez,ez,cQ,cQ,cL,cL,eV,jz,eV,jz,um h]
theorem Vr {α:Type}{l:List α}(h:0<l.length):∃m x,l=m++ [x]:=by
 rcases List.eq_nil_or_concat l with rfl|⟨m,x,rfl⟩
 ·simp at h
 ·exact⟨m,x,by rw[List.concat_eq_append]⟩
theorem yL (g:ct)(e:tL (ao g))(X:g.nodes.length≤60):cX prog 113 #[au g] [aJ g] (iv (unr (ao g))):=by
 refine cX.l6 (args:=[au g]) 58 func113 rfl ntmps113 rfl (λc=> ?_);refine go ?_
 refine St.gG (aJ g) (λ_:Unit=>jV g) (λρ h=>⟨(),h⟩) λ_=> ?_
 refine St.cast (H':=[aD (sl cD g.nv.1 g.nodes),aD (aL cE g.nodes),aD (aJ g)]) rfl ?_
 have H:=cj g
 have Y:0<g.nodes.length:=by have:=e.1;omega
 refine go ?_;refine St.cW (.mk rfl) rfl (λC=> ?_);refine g8 ?_;refine St.kr (m:=g.nodes.length) (.mk rfl) (.mk rfl) jL CG TM by4 rfl rfl zE rfl rfl (λa=> ?_);refine St.aN (tO a g.nodes.length g.nodes.length) rfl (RE _) ?_;refine g6 ?_;refine St.ee (Ev.cw (k:=0) (.mk rfl) (.mk rfl) jL CG zE zE) ?_;refine St.bz (.mk rfl) (.mk rfl) CG rfl zE (by decide) ?_;refine St.aN (tO a g.nodes.length g.nodes.length) rfl Ga ?_;refine g5 ?_;refine St.hS rfl (.ay rfl) cP eL jF rfl rfl (by simp[Value.cells]) rfl rfl (λD=> ?_);refine St.aN (tO D 1 1) (show _=([0]:List Nat).length from rfl) (show _=rows aI (cQ [0])from rfl) ?_;refine g4 ?_;refine St.pb (ι:=Unit) (κ:=Value×List Nat×List Bool) (λu z T=>(4,z.1)::T) (λu z=>[row (tO a g.nodes.length g.nodes.length) 4 1 g.nodes.length (rows e7 z.2.2),row z.1 3 1 (z.2.1).length (rows aI (cQ (z.2.1))),tI C [g.nv.1] 30,aD (sl cD g.nv.1 g.nodes),aD (aL cE g.nodes)]) (λu z=>TP (ao g) z.2.2 z.2.1∧g.nodes.length-pz z.2.2+z.2.1.length≤g.nodes.length+1) (λu z=>g.nodes.length-pz z.2.2+z.2.1.length) () ((tO D 1 1),[0],(List.replicate g.nodes.length false).set 0 true) (aC.k3 1 2 3) ⟨by have:=TP.start e.1;rw[H]at this;exact this,by show _-_+1≤_;omega⟩ ?_;rintro u ⟨l,st,M⟩ ⟨hd,n⟩
 dsimp only at hd n⊢
 have I:=hd.len
 refine g8 ?_;refine St.cq (λo=> ?_) (λo=> ?_)
 ·obtain⟨s0,i,rfl⟩:=Vr (show 0<st.length by omega)
  have ET:(s0++ [i]).length=s0.length+1:=by rw[bJ];rfl
  have J:=ag (hd.Zs i (by simp))
  obtain⟨t,ht⟩:=aF (show i<g.nodes.length by omega)
  have K:=aa ht
  have E:(ao g).getD i gu=lR t:=by rw[aZ,kD ht];rfl
  have L:=hd.pop
  refine St.cN cE g.nodes (x:=t) K ?_;refine St.gW (sl an t.lv.1 t.aW) [cE t] (λρ h=>h _ (aV ..)) ?_;refine St.wf t.lv.1 (λZ TE=> ?_);refine g9 ?_;refine St.ee (Ev.cw (k:=s0.length) (.mk rfl) (.mk rfl) cP eL zE zE) ?_;refine St.ee (Ev.cx (.mk rfl) eK trivial zE NO) ?_;refine g9 ?_;refine St.ee (Ev.mN (h:=s0.length) (.mk rfl) (.mk rfl) cP eL zE zE) ?_;refine St.zd l s0.length zE ?_;refine St.aN (mX l 1 0 s0.length) rfl RN ?_;refine g16 ?_;refine St.pb (ι:=Nat) (κ:=Value×List Nat×List Bool) (λq z T=>(36,iv q)::(4,z.1)::T) (λq z=>[row (tO a g.nodes.length g.nodes.length) 4 1 g.nodes.length (rows e7 z.2.2),row z.1 3 1 (z.2.1).length (rows aI (cQ (z.2.1))),tI C [g.nv.1] 30,aD (sl an t.lv.1 t.aW),aD (sl cD g.nv.1 g.nodes),aD (aL cE g.nodes)]) (λq z=>q≤t.aW.length∧rm (ao g) i q z.2.2 z.2.1∧g.nodes.length-pz z.2.2+z.2.1.length=g.nodes.length-pz M+s0.length) (λq z=>t.aW.length-q) 0 (mX l 1 0 s0.length,s0,M) (aC.k5 1 2 3 34 35) ⟨aP _,L,rfl⟩ ?_;rintro q ⟨F,f,W⟩ ⟨hq,d,G⟩
  dsimp only at d G⊢
  have N:=d.len
  have O:=DE W
  refine g6 ?_;refine St.cq (λP=> ?_) (λP=> ?_)
  ·obtain⟨p,hp⟩:=aF (show q<t.aW.length by omega)
   have r:((ao g).getD i gu).2[q]?=some (fB p):=by rw[E];show(t.aW.map fB)[q]?=_;rw[aw,hp];rfl
   obtain⟨_,s,j⟩:=e.at_ (aa r)
   replace s:0≤p.tqo:=s
   replace j:p.tqo.toNat<(ao g).length:=j
   obtain⟨b,v⟩:=aF (show p.tqo.toNat<W.length by omega);refine g7 ?_;refine St.ee (Ev.j2 (.mk rfl) hp kY trivial da gX.eq) ?_;refine St.al (λb7=> ?_);refine g8 ?_;refine St.ee (Ev.cw (k:=p.tqo.toNat) (.mk rfl) (.mk rfl) jL CG zE zE) ?_;refine St.ee (Ev.cx (.mk rfl) K3 trivial zE (RD v)) ?_;refine g3 ?_;refine St.cond _ rfl (λw=> ?_) (λw=> ?_)
   ·skip
    have y:W[p.tqo.toNat]?=some false:=by rw[v];cases b;rfl;cases w
    have A:=UH y
    have Q:=DE (W.set p.tqo.toNat true)
    rw[eC]at Q
    have R:=d.new e r
    refine g5 ?_;refine St.ee (Ev.cw (k:=p.tqo.toNat) (.mk rfl) (.mk rfl) jL CG zE zE) ?_;refine St.bz (.mk rfl) (.mk rfl) CG rfl zE (by decide) ?_;refine St.aN (tO a g.nodes.length g.nodes.length) rfl Ga ?_;refine g6 ?_;refine St.hS rfl (.ay rfl) cP eL jF rfl rfl (by simp[Value.cells]) rfl rfl (λS=> ?_);refine St.aq (.mk rfl) (.mk rfl) cP eL jF vD (by simp[Value.oneCell',Value.cells]) zE zE rfl rfl rfl rfl (λv54 U=> ?_);refine St.aN v54 (show _=(f++ [p.tqo.toNat]).length from cH) (show _=rows aI (cQ (f++ [p.tqo.toNat]))from vd s) ?_;refine g9 ?_;refine St.py (q+1) (v54,f++ [p.tqo.toNat],W.set p.tqo.toNat true) ⟨by omega,R,by rw[A,bJ];simp only[List.length_cons,List.length_nil];omega⟩
   ·skip
    have B:W[p.tqo.toNat]?=some true:=by rw[v];cases b;cases w;rfl
    have hold:=d.AO r B
    refine g8 ?_;refine St.py (q+1) (F,f,W) ⟨by omega,hold,G⟩
  ·obtain rfl:q=t.aW.length:=by omega
   refine g6 ?_;rw[show t.aW.length=((ao g).getD i gu).2.length by rw[E];exact(aR _).symm]at d;refine St.lC () (F,f,W) ⟨d.done,by dsimp only;omega⟩ (by dsimp only;rw[bJ];simp only[List.length_cons,List.length_nil];omega) (by repeat(first|exact Sub.nil|refine Sub.cons (by first|rfl|exact congrArg (λz=>some (iv z)) (by first|omega|(dsimp only;omega))|exact congrArg (λz=>some (Value.bool z)) (by first|assumption|exact ke (by assumption))) ?_)) (λ_ hw=>hw.sub)
 ·obtain rfl:st=[]:=gg zE
  have V:=hd.fin e
  refine St.bI (tO a g.nodes.length g.nodes.length) e7 M rfl zE (λ_ _=>trivial) ?_;refine g8 ?_;refine St.ee (Ev.call (Hn (tO a g.nodes.length g.nodes.length) M) acD (.ah rfl rfl)) ?_;refine g4 ?_;refine St.rV [_] [] ?_;exact congrArg iv (by rw[V];rfl)
theorem QM {nf nn i:Int}:∀{l:List (Int×Int)} {z:Int},(Am nf nn i z l).1=0→∀x∈l,0≤x.1∧x.1<nf∧0≤x.2∧x.2<nn
 | [],_,_=>λx hx=>by cases hx
 |y::l,z,h=>by
  rw[Am]at h
  by_cases h1:y.1<0∨nf≤y.1∨y.2<0∨nn≤y.2
  ·rw[aB h1]at h;exact absurd h (by simp)
  rw[aA h1]at h
  by_cases a:y.1≤z
  ·rw[aB a]at h;exact absurd h (by simp)
  rw[aA a]at h;intro x hx
  rcases bT.1 hx with rfl|hx
  ·omega
  ·exact QM h x hx
theorem uC {nt nf nn:Int}:∀{l:de} {i:Nat},(eW nt nf nn i l).1=0→∀n∈l,(0≤n.1∧n.1<nt)∧∀x∈n.2,0≤x.1∧x.1<nf∧0≤x.2∧x.2<nn
 | [],_,_=>λx hx=>by cases hx
 |y::l,i,h=>by
  rw[eW]at h
  by_cases h1:y.1<0∨nt≤y.1
  ·rw[aB h1]at h;exact absurd h (by simp)
  rw[aA h1]at h
  by_cases a:(Am nf nn i (-1) y.2).1≠0
  ·rw[aB a]at h;exact absurd h a
  rw[aA a]at h;intro x hx
  rcases bT.1 hx with rfl|hx
  ·exact⟨by omega,QM (fK.1 a)⟩
  ·exact uC h x hx
theorem zJ {nt nf:Int}{g:de}(h:(fE nt nf g).1=0):0<g.length∧g.length≤60∧∀n∈g,(0≤n.1∧n.1<nt)∧∀x∈n.2,0≤x.1∧x.1<nf∧0≤x.2∧x.2<g.length:=by
 unfold fE at h
 by_cases h1:g.length=0∨60<g.length
 ·rw[aB h1]at h;exact absurd h (by simp)
 rw[aA h1]at h;exact⟨by omega,by omega,uC h⟩
theorem QQ {nt nf:Int}{g:de}(h:(fE nt nf g).1=0):tL g:=by
 obtain⟨h1,_,a⟩:=zJ h;exact⟨h1,λn b x hx=>by have:=(a n b).2 x hx;omega⟩
theorem BG (a b:aY)(T:List eM)(e:iJ T)(i j:Int)(c:0≤i∧i.toNat<T.length)(d:0≤j∧j.toNat<T.length):cX prog 111 #[jc a b,iv i,iv j] [sl ax a.1 (dN T),sl ax b.1 (dM T)] (.bool (gp T i.toNat j.toNat)):=by
 have:=OH a b T e i.toNat j.toNat c.2 d.2
 rw[um c.1,um d.1]at this;exact this
theorem PX {T:List eM}{Fs:List o7}{G:de}{k:Nat}(hk:k<G.length)(h:tS T Fs G k=true)(a:∀i,i<k→tS T Fs G i=false):lu T Fs G=some k:=by
 unfold lu;rw[List.find?_range_eq_some]
 exact⟨h,cU.2 hk,λj b=>by rw[a j b];rfl⟩
theorem PY {T:List eM}{Fs:List o7}{G:de}(a:∀i,i<G.length→tS T Fs G i=false):lu T Fs G=none:=by
 unfold lu;rw[List.find?_eq_none]
 intro b h;rw[a b (cU.1 h)];decide
theorem CU {T:List eM}{Fs:List o7}{G:de}(h:(fE T.length Fs.length G).1≠0):dB T Fs G=fE T.length Fs.length G:=by unfold dB;rw[aB h]
theorem Np {T:List eM}{Fs:List o7}{G:de}{i:Nat}(h:¬(fE T.length Fs.length G).1≠0)(a:lu T Fs G=some i):dB T Fs G=(12,(i:Int)):=by unfold dB;rw[aA h,a]
theorem Nr {T:List eM}{Fs:List o7}{G:de}(h:¬(fE T.length Fs.length G).1≠0)(a:lu T Fs G=none):dB T Fs G=if 0≤unr G then(5,unr G)else(0,0):=by unfold dB;rw[aA h,a]
theorem qN (tv xv r s:aY)(a:List yK)(d:List jG)(g:ct)(J:iJ (a.map cn))(O:∀f∈d,0≤f.EU∧f.EU<a.length∧0≤f.value∧f.value<a.length):cX prog 69 #[.agg #[tv.1,xv.1],jc r s,au g] [sl pj tv.1 a,sl gD xv.1 d,sl ax r.1 (dN (a.map cn)),sl ax s.1 (dM (a.map cn)),aJ g] (fv (dB (a.map cn) (d.map gj) (ao g))):=by
 refine cX.WU (args:=[.agg #[tv.1,xv.1],jc r s,au g]) 74 func69 rfl ntmps69 rfl (λc=> ?_);refine go ?_
 refine St.gG (aJ g) (λ_:Unit=>jV g) (λρ h=>⟨(),h⟩) λ_=> ?_
 refine St.cast (H':=[aD (sl cD g.nv.1 g.nodes),aD (aL cE g.nodes),aD (sl pj tv.1 a),aD (sl gD xv.1 d),aD (sl ax r.1 (dN (a.map cn))),aD (sl ax s.1 (dM (a.map cn))),aD (aJ g)]) rfl ?_
 have P:=cj g
 have D:(a.map cn).length=a.length:=aR ..
 have E:(d.map gj).length=d.length:=aR ..
 refine St.wf g.nv.1 (λZ hnl=> ?_);refine go ?_;refine St.cW (.mk rfl) rfl (λb3=> ?_);refine St.cW (.mk rfl) rfl (λb4=> ?_);refine St.cW (.mk rfl) rfl (λb5=> ?_);refine St.al (λb6=> ?_);refine g7 ?_;refine St.ee (Ev.call (Hs tv xv a d g) abU (.ah rfl rfl)) ?_;refine St.al (λb7=> ?_);refine g10 ?_;refine St.cond _ rfl (λF=> ?_) (λF=> ?_)
 ·skip
  have v:(fE (a.map cn).length (d.map gj).length (ao g)).1≠0:=by rw[D,E];simpa using F
  have e:=CU v
  rw[D,E]at e;refine g8 ?_;refine St.rV [_] [] ?_;exact congrArg fv e.symm
 ·skip
  have v:¬(fE (a.map cn).length (d.map gj).length (ao g)).1≠0:=by rw[D,E];simpa using F
  have Q:=QQ (fK.1 v)
  obtain⟨hg0,R,K⟩:=zJ (fK.1 v);refine g12 ?_;refine St.lS (ι:=Nat) (λk T=>(24,iv k)::T) (λk=>k≤g.nodes.length∧∀i,i<k→tS (a.map cn) (d.map gj) (ao g) i=false) (λk=>g.nodes.length-k) 0 (aC.k6 3 4 5 6 22 23) ⟨aP _,λi G=>absurd G zE⟩ ?_;intro k H;obtain⟨hk,l⟩:=H;refine g6 ?_;refine St.cq (λS=> ?_) (λS=> ?_)
  ·obtain⟨t,ht⟩:=aF (show k<g.nodes.length by omega)
   have U:=aa ht
   refine St.cN cE g.nodes (x:=t) U ?_;refine St.gW (sl an t.lv.1 t.aW) [cE t] (λρ h=>h _ (aV ..)) ?_;refine St.wf t.lv.1 (λXB TE=> ?_)
   have L:(ao g).getD k gu=lR t:=by rw[aZ,kD ht];rfl
   obtain⟨M,I⟩:=K (lR t) (aa (kD ht))
   replace M:0≤t.type∧t.type<((a.map cn).length:Int):=M
   refine g8 ?_;refine St.ee (Ev.j2 (.mk rfl) ht wq trivial jb gX.eq) ?_;refine St.al (λb9=> ?_);refine g13 ?_;refine St.lS (ι:=Nat) (λq T=>(32,iv q)::T) (λq=>q≤t.aW.length∧∀j,j<q→∀x,(lR t).2[j]?=some x→KP (a.map cn) (d.map gj) (ao g) t.type x=false) (λq=>t.aW.length-q) 0 (aC.k11 3 4 5 6 8 9 22 23 24 30 31) ⟨aP _,λj y=>absurd y zE⟩ ?_;intro q H;obtain⟨hq,N⟩:=H;refine g6 ?_;refine St.cq (λV=> ?_) (λV=> ?_)
   ·obtain⟨p,hp⟩:=aF (show q<t.aW.length by omega)
    have m:(lR t).2[q]?=some (fB p):=by show(t.aW.map fB)[q]?=_;rw[aw,hp];rfl
    have z:=I (fB p) (aa m)
    replace z:0≤p.cu∧p.cu<((d.map gj).length:Int)∧0≤p.tqo∧p.tqo<((ao g).length:Int):=z
    obtain⟨fe,n⟩:=aF (show p.cu.toNat<d.length by omega);obtain⟨u,hu⟩:=aF (show p.tqo.toNat<g.nodes.length by omega)
    have W:=O fe (aa n)
    have A:=(K (lR u) (aa (kD hu))).1
    replace A:0≤u.type∧u.type<((a.map cn).length:Int):=A
    have B:(!gp (a.map cn) t.type.toNat fe.EU.toNat|| !gp (a.map cn) u.type.toNat fe.value.toNat)=KP (a.map cn) (d.map gj) (ao g) t.type (fB p):=by
     unfold KP
     rw[show(fB p).1=p.cu from rfl,show(fB p).2=p.tqo from rfl,aZ,aw,n,aZ,kD hu];rfl
    refine g7 ?_;refine St.ee (Ev.j2 (.mk rfl) hp kY trivial da gX.eq) ?_;refine St.al (λb11=> ?_);refine g9 ?_;refine St.ee (Ev.cM (k:=p.cu.toNat) (.mk rfl) (.mk rfl) K1 S2 zE zE) ?_;refine St.ee (Ev.j2 (.mk rfl) n underlying91 trivial S2 gX.eq) ?_;refine St.al (λX=> ?_);refine g4 ?_;refine St.rq mixed (by kernel_rfl) (Mm.drawn _ _) ?_;refine g5 ?_;refine Sq.ee (Ev.call (BG r s (a.map cn) J t.type fe.EU ⟨by omega,by omega⟩ ⟨by omega,by omega⟩) Wd (.fk rfl rfl rfl)) ?_;refine g2 ?_;refine Sq.gf _ rfl rfl (λb=>Ev.ZD (.mk rfl) wm trivial (by exact wg)) rfl ?_;refine Sq.gf _ rfl rfl (λb=>Ev.cB (.mk rfl) vK) rfl ?_;refine Sq.gf _ rfl rfl (λb=>Ev.gh (aX.gv rfl b) qC trivial (by rfl)) rfl ?_;refine Sq.gf _ rfl rfl (λb=>Ev.cB (.mk rfl) ti) rfl ?_;refine Sq.gf _ rfl rfl (λb=>Ev.gh (aX.gv rfl b) eK trivial (by rfl)) rfl ?_;refine Sq.gf _ rfl rfl (λb=>Ev.cM (k:=p.tqo.toNat) (aX.gv rfl b) (aX.gv rfl b) qC jb (by first|omega|(simp only[bj]at b;omega)) (by first|omega|(simp only[bj]at b;omega))) rfl ?_;refine Sq.gf _ rfl rfl (λb=>Ev.FV (aX.gv rfl b) (by first|omega|(simp only[bj]at b;omega)) te) rfl ?_;refine Sq.gf _ rfl rfl (λb=>Ev.ld1 (aX.gv rfl b) hu eK trivial rfl) rfl ?_;refine Sq.gf _ rfl rfl (λb=>Ev.cB (.mk rfl) Ih) rfl ?_;refine Sq.gf _ rfl rfl (λb=>Ev.gh (aX.gv rfl b) eK trivial (by rfl)) rfl ?_;refine Sq.gf _ rfl rfl (λb=>Ev.call (BG r s (a.map cn) J u.type fe.value ⟨by omega,by omega⟩ ⟨by omega,by omega⟩) Wd (.cons (aX.gv rfl b) (.cons (aX.gv rfl b) (.cons (aX.gv rfl b) .nil)))) rfl ?_;refine Sq.gf _ rfl rfl (λb=>Ev.not (aX.gv rfl b)) rfl ?_;refine g3 ?_;refine St.cond _ rfl (λC=> ?_) (λC=> ?_)
    ·skip
     rw[B]at C
     have o:tS (a.map cn) (d.map gj) (ao g) k=true:=by unfold tS;rw[L,uq];exact⟨fB p,aa m,C⟩
     have e:=Np v (PX zE o l)
     refine g3 ?_;refine St.ee (Ev.call (fc 12 k) BO (.ah rfl rfl)) ?_;refine g13 ?_;refine St.rV [_] [] ?_;exact congrArg fv e.symm
    ·skip
     rw[B]at C;refine g8 ?_;refine St.aS (q+1) ⟨by omega,λj y x hx=>by rcases cJ j q with h|h;exact N j h x hx;rw[show j=q by omega,m]at hx;cases hx;exact C⟩
   ·refine g11 ?_
    have o:tS (a.map cn) (d.map gj) (ao g) k=false:=by
     unfold tS;rw[L,List.any_eq_false]
     intro x hx;obtain⟨j,y⟩:=Ca hx
     rw[show(lR t).1=t.type from rfl,N j (by have:=ag y;rw[show(lR t).2.length=t.aW.length from aR _]at this;omega) x y];decide
    refine St.aS (k+1) ⟨by omega,λi G=>by rcases cJ i k with h|h;exact l i h;rw[show i=k by omega];exact o⟩
  ·have e:=Nr v (PY (by rw[P];intro i G;exact l i zE))
   refine g9 ?_;refine St.ee (Ev.call (yL g Q zE) abV (.ay rfl)) ?_;refine g9 ?_;refine St.cq (λY=> ?_) (λY=> ?_)
   ·rw[aB zE]at e
    refine g3 ?_;refine St.ee (Ev.call (fc 5 (unr (ao g))) BO (.ah rfl rfl)) ?_;refine g5 ?_;refine St.rV [_] [] ?_;exact congrArg fv e.symm
   ·rw[aA zE]at e
    refine g4 ?_;refine St.ee (Ev.build (bC.nil) (λw=>fC w)) ?_;refine g4 ?_;refine St.rV [_] [] ?_;exact congrArg fv e.symm
def oE (a b:Int):Int:=if a<b then-1 else if b<a then 1 else 0
def Asc (l:List dq):Prop:=∀(i j:Nat) (x y:dq),i<j→l[i]?=some x→l[j]?=some y→x.cu<y.cu
def afX (l:List dq)(k:Int)(v:Value):Prop:=∃(i:Nat) (b:Bool),v= .tuple #[iv i,.bool b]∧(b=true→∃x,l[i]?=some x∧x.cu=k)∧(b=false→∀x∈l,x.cu≠k)
theorem z6 (x:Int):cX prog 187 #[iv x] [] (.bool false):=by
 refine cX.l5 (args:=[iv x]) 6 func187 rfl ntmps187 rfl (λc=> ?_);refine g14 ?_;refine St.rV [_] [] ?_;exact be (by simp)
theorem eA (x y:Int):cX prog 122 #[iv x,iv y] [] (iv (oE x y)):=by
 refine cX.l5 (args:=[iv x,iv y]) 20 func122 rfl ntmps122 rfl (λc=> ?_);refine g8 ?_;refine St.ee (Ev.call (z6 x) Wu (.ay rfl)) ?_;refine g6 ?_;refine St.ee (Ev.call (z6 y) Wu (.ay rfl)) ?_;refine g9 ?_;refine St.BS _ rfl rfl ?_;refine g8 ?_;refine St.BS _ rfl rfl ?_;refine g10 ?_;refine St.cq (λa=> ?_) (λa=> ?_)
 ·refine g7 ?_
  refine St.rV [_] [] ?_;exact ie (by unfold oE;rw[aB a])
 ·refine g10 ?_
  refine St.cq (λb=> ?_) (λb=> ?_)
  ·refine g7 ?_
   refine St.rV [_] [] ?_;exact ie (by unfold oE;rw[aA zE,aB zE])
  ·refine g8 ?_
   refine St.rV [_] [] ?_;exact ie (by unfold oE;rw[aA zE,aA zE])
theorem tN (x:dq)(k:Int):cX prog 127 ([Value.agg #[iv x.cu,iv x.tqo],iv k]++ []).toArray [] (iv (oE x.cu k)):=by
 refine cX.l5 (args:=[Value.agg #[iv x.cu,iv x.tqo],iv k]++ []) 9 func127 rfl ntmps127 rfl (λc=> ?_);refine g2 ?_;refine St.cW (.mk rfl) rfl (λa=> ?_);refine g8 ?_;refine St.ee (Ev.call (eA x.cu k) mr (.ah rfl rfl)) ?_;refine g4 ?_;refine St.rV [_] [] ?_;rfl
theorem O4 (u:Value)(l:List dq)(k:Int)(r:Asc l)(F:l.length≤1000000):dR prog 126 #[u,iv k,.func (.func 127) #[] #[]] ([sl an u l].map aD) (λv H'=>afX l k v∧H'=[]):=by
 refine dR.body (args:=[u,iv k,.func (.func 127) #[] #[]]) 49 func126 rfl ntmps126 rfl (λc=> ?_);refine St.cast (H':=[aD (sl an u l)]) rfl ?_;refine g22 ?_;refine St.lS (ι:=Nat×Nat) (λx T=>(9,iv x.1)::(10,iv x.2)::T) (λx=>x.1≤x.2∧x.2≤l.length∧(∀j y,j<x.1→l[j]?=some y→y.cu<k)∧(∀j y,x.2≤j→l[j]?=some y→k≤y.cu)) (λx=>x.2-x.1) (0,l.length) (aC.k6 0 1 2 6 7 8) ⟨aP _,aQ _,λj y w=>absurd w (Nat.not_lt_zero j),λj y w h=>by have:=ag h;omega⟩ ?_;rintro ⟨i,j⟩ ⟨B,A,p,s⟩
 dsimp only at B A p s⊢
 refine g8 ?_;refine St.cq (λt=> ?_) (λt=> ?_)
 ·have C:i≤(i+j)/2:=by omega
  have G:(i+j)/2<j:=by omega
  obtain⟨y,hy⟩:=aF (show(i+j)/2<l.length by omega);refine g8 ?_;refine St.ee (Ev.IM ((i+j)) (.mk rfl) (by rw[eK];rfl) qp zE) ?_;refine St.ee (Ev.Rf 1 2 (by decide) (.mk rfl) (.mk rfl) (by decide)) ?_;refine St.ee (Ev.IP (.mk rfl) (by rw[qp];rfl) eK zE) ?_;refine g8 ?_;refine St.ee (Ev.cM (k:=((i+j)/2)) (.mk rfl) (.mk rfl) eT da zE zE) ?_;refine St.ee (Ev.j2 (.mk rfl) hy kY trivial da gX.eq) ?_;refine go ?_;refine St.ee (Ev.fg (tN y k) Wf (.mk rfl) (.ah rfl rfl)) ?_;refine g3 ?_;refine St.cq (λn=> ?_) (λn=> ?_)
  ·have a:y.cu<k:=by unfold oE at n;split at n<;>first|assumption|(split at n<;>omega)
   refine g7 ?_;refine St.aS ((i+j)/2+1,j) ⟨by show(i+j)/2+1≤j;omega,A,λq z b hz=>by rcases cJ q ((i+j)/2)with g|g;exact Int.lt_trans (r _ _ _ _ g hz hy) a;rw[show q=(i+j)/2 from Nat.le_antisymm (Nat.le_of_lt_succ b) g,hy]at hz;cases hz;exact a,s⟩
  ·have a:k≤y.cu:=by unfold oE at n;split at n<;>omega
   refine g6 ?_;refine St.aS (i,(i+j)/2) ⟨C,by show(i+j)/2≤l.length;omega,p,λq z b hz=>by rcases cJ ((i+j)/2) q with g|g;exact Int.le_trans a (Int.le_of_lt (r _ _ _ _ g hy hz));rw[show q=(i+j)/2 from Nat.le_antisymm g b,hy]at hz;cases hz;exact a⟩
 ·have D:i=j:=by omega
  subst D;refine g11 ?_;refine St.split 38 _ rfl (λd=> ?_) (λd=> ?_)
  ·have o:i<l.length:=by simpa using d
   obtain⟨y,hy⟩:=aF o;refine go ?_;refine St.cZ rfl rfl ?_;refine go ?_;refine St.cZ rfl rfl ?_;refine go ?_;refine St.cZ rfl rfl ?_;refine go ?_;refine St.cZ rfl rfl ?_;refine go ?_;refine St.cZ rfl rfl ?_;refine St.ee (Ev.j2 (.mk rfl) hy kY trivial da gX.eq) ?_;refine St.cZ rfl rfl ?_;refine go ?_;refine St.cZ rfl rfl ?_;refine St.ee (Ev.fg (tN y k) Wf (.mk rfl) (.ah rfl rfl)) ?_;refine St.cZ rfl rfl ?_;refine go ?_;refine St.split 47 _ rfl (λf=> ?_) (λf=> ?_)
   ·refine St.ee (Ev.jt (.mk rfl) rfl (.mk rfl)) ?_
    refine g5 ?_;refine St.rV [_,_] [] ?_
    have m:oE y.cu k=0:=by simpa using f
    have a:y.cu=k:=by unfold oE at m;split at m;cases m;split at m;cases m;omega
    exact⟨⟨i,true,rfl,λ_=>⟨y,hy,a⟩,λh=>(by cases h)⟩,rfl⟩
   ·refine St.ee (Ev.jt (.mk rfl) rfl (.mk rfl)) ?_
    refine g5 ?_;refine St.rV [_,_] [] ?_
    have m:oE y.cu k≠0:=by simpa using f
    have a:y.cu≠k:=λe=>m (by unfold oE;rw[aA zE,aA zE])
    have E:=s i y (aQ _) hy
    exact⟨⟨i,false,rfl,λh=>(by cases h),λ_ z hz=>by obtain⟨q,b⟩:=Ca hz;rcases Nat.lt_trichotomy q i with g|g|g;have:=p q z g b;omega;rw[g,hy]at b;cases b;exact a;have:=r _ _ _ _ g hy b;omega⟩,rfl⟩
  ·have o:l.length≤i:=by simpa using d
   refine go ?_;refine St.cS rfl rfl rfl ?_;refine St.cS rfl rfl rfl ?_;refine St.cS rfl rfl rfl ?_;refine St.cS rfl rfl rfl ?_;refine St.cS rfl rfl rfl ?_;refine St.cS rfl rfl rfl ?_;refine St.cS rfl rfl rfl ?_;refine St.cS rfl rfl rfl ?_;refine St.ee (Ev.mI (.mk rfl) rfl (.mk rfl)) ?_;refine g5 ?_;refine St.rV [_,_] [] ?_;exact⟨⟨i,false,rfl,λh=>(by cases h),λ_ z hz=>by obtain⟨q,b⟩:=Ca hz;have h1:=ag b;have H:=p q z zE b;omega⟩,rfl⟩
def H6 (G:de)(i:Nat)(k:Int):Int:=match(G.getD i gu).2.find? λx=>x.1==k with
 |some x=>x.2
 |none=> -1
theorem S9 (G:de)(k:Int):H6 G 0 k=rZ G k:=rfl
theorem W3 {l:List dq}(b:Asc l){j:Nat}{x:dq}{k:Int}(hx:l[j]?=some x)(hk:x.cu=k):(l.map fB).find? (λy=>y.1==k)=some (fB x):=by
 cases h:(l.map fB).find? (λy=>y.1==k)with
 |none=>
  rw[List.find?_eq_none]at h;exact absurd (show((fB x).1==k)=true by rw[qu];exact hk) (h (fB x) (di (aa hx)))
 |some y=>
  have h1:=List.find?_some h
  obtain⟨z,hz,rfl⟩:=cA.1 (List.mem_of_find?_eq_some h)
  have c:z.cu=k:=by simpa[fB]using h1
  obtain⟨q,a⟩:=Ca hz
  rcases Nat.lt_trichotomy q j with g|g|g
  ·have:=b _ _ _ _ g a hx;omega
  ·rw[g,hx]at a;cases a;rfl
  ·have:=b _ _ _ _ g hx a;omega
theorem SA {l:List dq}{k:Int}(h:∀x∈l,x.cu≠k):(l.map fB).find? (λy=>y.1==k)=none:=by
 rw[List.find?_eq_none];intro y hy;obtain⟨z,hz,rfl⟩:=cA.1 hy
 rw[qu];exact h z hz
theorem LD {nf nn i:Int}:∀{l:List dq} {z:Int},(Am nf nn i z (l.map fB)).1=0→(∀x∈l,z<x.cu)∧Asc l
 | [],_,_=>⟨λx hx=>(by cases hx),λi j x y _ g=>(by simp at g)⟩
 |y::l,z,h=>by
  rw[eV,Am]at h
  by_cases h1:(fB y).1<0∨nf≤(fB y).1∨(fB y).2<0∨nn≤(fB y).2
  ·rw[aB h1]at h;exact absurd h (by simp)
  rw[aA h1]at h
  by_cases c:(fB y).1≤z
  ·rw[aB c]at h;exact absurd h (by simp)
  rw[aA c]at h;obtain⟨d,k⟩:=LD h
  replace d:∀x∈l,y.cu<x.cu:=d
  replace c:¬y.cu≤z:=c
  refine⟨λx hx=> ?_,λi j a b n e f=> ?_⟩
  ·rcases bT.1 hx with rfl|hx
   ·omega
   ·have:=d x hx;omega
  ·obtain⟨j,rfl⟩:∃m,j=m+1:=⟨j-1,by omega⟩
   rw[CZ]at f
   cases i with
   |zero=>rw[List.getElem?_cons_zero]at e;cases e;exact d b (aa f)
   |succ i=>rw[CZ]at e;exact k i j a b zE e f
theorem s8 {nt nf nn:Int}:∀{l:List dy} {i:Nat},(eW nt nf nn i (l.map lR)).1=0→∀n∈l,Asc n.aW
 | [],_,_=>λx hx=>by cases hx
 |y::l,i,h=>by
  rw[eV,eW]at h
  by_cases h1:(lR y).1<0∨nt≤(lR y).1
  ·rw[aB h1]at h;exact absurd h (by simp)
  rw[aA h1]at h
  by_cases a:(Am nf nn i (-1) (lR y).2).1≠0
  ·rw[aB a]at h;exact absurd h a
  rw[aA a]at h;intro x hx
  rcases bT.1 hx with rfl|hx
  ·exact(LD (fK.1 a)).2
  ·exact s8 h x hx
theorem Bg {nt nf:Int}{g:ct}(h:(fE nt nf (ao g)).1=0):∀n∈g.nodes,Asc n.aW:=by
 unfold fE at h
 by_cases h1:(ao g).length=0∨60<(ao g).length
 ·rw[aB h1]at h;exact absurd h (by simp)
 rw[aA h1]at h;exact s8 h
theorem mo (g:ct)(i:Nat)(k:Int)(q:i<g.nodes.length)(r:∀n∈g.nodes,Asc n.aW∧n.aW.length≤1000000):cX prog 82 #[au g,iv i,iv k] [aJ g] (iv (H6 (ao g) i k)):=by
 refine cX.l6 (args:=[au g,iv i,iv k]) 32 func82 rfl ntmps82 rfl (λc=> ?_);refine go ?_
 refine St.gG (aJ g) (λ_:Unit=>jV g) (λρ h=>⟨(),h⟩) λ_=> ?_
 refine St.cast (H':=[aD (sl cD g.nv.1 g.nodes),aD (aL cE g.nodes),aD (aJ g)]) rfl ?_;obtain⟨t,ht⟩:=aF q
 have p:=aa ht
 refine St.cN cE g.nodes (x:=t) p ?_;refine St.gW (sl an t.lv.1 t.aW) [cE t] (λρ h=>h _ (aV ..)) ?_
 have s:(ao g).getD i gu=lR t:=by rw[aZ,kD ht];rfl
 have d:H6 (ao g) i k=match(t.aW.map fB).find? (λx=>x.1==k)with|some x=>x.2|none=> -1:=by unfold H6;rw[s];rfl
 obtain⟨a,u⟩:=r t p;refine go ?_;refine St.cW (.mk rfl) rfl (λy=> ?_);refine g12 ?_;refine St.dt (O4 t.lv.1 t.aW k a u) ab1 (.fk rfl rfl rfl) rfl ?_;rintro v17 _ ⟨⟨j,b,rfl,e,f⟩,rfl⟩;refine St.YC ?_;refine g14 ?_;refine St.cond _ rfl (λl=> ?_) (λl=> ?_)
 ·skip
  have m:b=false:=by simpa using l
  rw[SA (f m)]at d;refine g7 ?_;refine St.rV [_] [] ?_;exact ie d.symm
 ·skip
  have v:b=true:=by simpa using l
  obtain⟨x,hx,o⟩:=e v
  have w:=ag hx
  rw[W3 a hx o]at d;refine g18 ?_;refine St.rV [_] [] ?_;exact ie d.symm
theorem Ec (g:ct)(kids:Int)(f:0<g.nodes.length)(i:∀n∈g.nodes,Asc n.aW∧n.aW.length≤1000000):cX prog 108 #[au g,iv kids] [aJ g] (.bool (nD (ao g) kids)):=by
 refine cX.l6 (args:=[au g,iv kids]) 18 func108 rfl ntmps108 rfl (λc=> ?_);refine g2 ?_;refine St.cW (.mk rfl) rfl (λo=> ?_);refine g10 ?_;refine St.lS (ι:=Nat) (λk T=>(6,iv k)::T) (λk=>k≤4∧∀j,j<k→(decide (0≤rZ (ao g) (j:Nat))==decide (((j:Nat):Int)≤kids))=true) (λk=>4-k) 0 (aC.k2 1 2) ⟨aP _,λj b=>absurd b zE⟩ ?_;intro k l;obtain⟨hk,e⟩:=l;refine g6 ?_;refine St.cq (λm=> ?_) (λm=> ?_)
 ·refine g14 ?_
  refine St.ee (Ev.call (mo g 0 k f i) Tw (.fk rfl rfl rfl)) ?_;refine g4 ?_;refine St.ee (Ev.D1 (.mk rfl) (.mk rfl) K3) ?_;refine g2 ?_;refine St.cond _ rfl (λa=> ?_) (λa=> ?_)
  ·skip
   have d:(decide (0≤rZ (ao g) (k:Nat))==decide (((k:Nat):Int)≤kids))=false:=by rw[tC];simp[S9]at a;exact a
   refine g11 ?_;refine St.rV [_] [] ?_;exact be (by unfold nD;symm;rw[List.all_eq_false];exact⟨k,cU.2 zE,by rw[d];decide⟩)
  ·skip
   have d:(decide (0≤rZ (ao g) (k:Nat))==decide (((k:Nat):Int)≤kids))=true:=by rw[qu];simp[S9]at a;exact a
   refine g8 ?_;refine St.aS (k+1) ⟨by omega,λj b=>by rcases cJ j k with h|h;exact e j h;rw[show j=k by omega];exact d⟩
 ·refine g11 ?_
  refine St.rV [_] [] ?_;exact be (by unfold nD;symm;rw[j8];intro j b;exact e j (by have:=cU.1 b;omega))
end Go.Proofs.YtiefglecbgdaiaaGreatDoor
namespace Go.J
open Go
def u8R:Rp UInt8:=⟨1,by decide,λx=>[.int .u8 (x.toNat:Int)],λ_=>True,λ_=>rfl,λ_ u h=>by simp at h;subst h;rfl⟩
section
variable {P:Program}{n:Nat}{F:Fr}{c:Ctx}{H:List ai}{ty:TypeId}{x:Operand}{Q:Exit→Act→World→Prop}{ops:Array Oper}{rest:List Oper}{d:Nat}{pos:String}{after:Array Edge}{src dst e:TypeId}
theorem uT (s:ab):rows u8R s=s.map λb=>Value.int .u8 (b.toNat:Int):=by
 induction s with
 |nil=>rfl
 |cons x xs a=>simp only[rows,List.flatMap_cons,List.map_cons]at a⊢;rw[a];rfl
end
section
variable {P:Program}{n:Nat}{F:Fr}{A:World→Prop}{x y:Operand}{ty:TypeId}
theorem Ev.ZS {a b:Int}{d:Array TypeId}(hx:aX F x (iv a))(hy:aX F y (iv b)):
 Ev P n F A (.call {callee:= .builtin .min,args:= #[x,y],argTypes:=d}) ty (iv (if b<a then b else a)):= .of_run λa w c _=>by
 simp[execOp,resolve,invoke,builtin,hx.eval c,hy.eval c,run_min_int2,iv]
end
theorem cX.WV {P:Program}{f:FuncId}{fn:Func}{cd:Code}{args:List Value}{u:Value}{d1 d2 d3 d4 d5 d6 d7:dQ}(n:Nat)
 (a:P.funcs[f]?=some fn) (b:fn.body=some cd) (d:fn.ntmps=n) (g:Nat.ble args.length n=true)
 (h:∀c:Ctx,St n (rM 0 args) (Mm c [aD d1,aD d2,aD d3,aD d4,aD d5,aD d6,aD d7]) (cd.wp P (bodyPost P fn λe w'=>∃v H',e= .returned v∧v=u∧Mm c H' w'))):cX P f args.toArray [d1,d2,d3,d4,d5,d6,d7] u:=dR.body n a b d g h
theorem Mt (l:List Nat)(k:Nat):ints (l++ [k])=ints l++ [(k:Int)]:=by
 show(l++ [k]).map _=l.map _++_
 rw[cL];rfl
end Go.J
namespace Go.J
open Go Go.Proofs Go.Proofs.YtiefglecbgdaiaaGreatDoor
section
variable {P:Program}{n:Nat}{F:Fr}{A:World→Prop}{c:Ctx}{H R:List ai}{ty:TypeId}{x y:Operand}{v:Value}{Q:Exit→Act→World→Prop}{ops:Array Oper}{rest:List Oper}{d size:Nat}
 {pos:String} {after:Array Edge} {t e:TypeId} {m k:Nat} {cs:List Value}
theorem Ev.pA {off o i b o' cap:Nat}{s:TypeId}(c:v= .slice (some ⟨b,o',none⟩) m cap)(hx:aX F x (gx v size k off))(d:bE P s i=some o):Ev P n F A (.fieldAddr s x i) ty (gx v size k (off+o)):= .of_run λa w e _=>by
 subst c;rw[dY]at hx
 simp[execOp,hx.eval e,nF d,dY,Addr.add_lit,Nat.add_assoc]
theorem Ev.ai8 {a b:Int}{d:Array TypeId}(hx:aX F x (iv a))(hy:aX F y (iv b)):
 Ev P n F A (.call {callee:= .builtin .max,args:= #[x,y],argTypes:=d}) ty (iv (if b>a then b else a)):= .of_run λa w c _=>by
 simp[execOp,resolve,invoke,builtin,hx.eval c,hy.eval c,run_max_int2,iv]
theorem St.I5 {v2:Value}{m2:Nat}{news:List Value}{q:Value}{wQ:Nat}[t1:jH v H e size m cs R][C:tJ v2 R e size m2 news]
 (hx:aX F x v) (hy:aX F y v2) (ht:P.underlying t=some (.slice e)) (r:(P.info? e).map (·.size)=some size) (hz:(P.info? e).bind (·.zero)=some q) (D:(P.info? e).map (·.bytes)=some wQ)
 (E:∀u∈news,u.oneCell'=true) (hlen:m+m2≤9223372036854775807) (G:(m+m2)*wQ≤140737488355328) (I:q.cells.size=size) (J:Nat.ble 1 size=true) (g:1≤m2) (hd:Nat.ble (d+1) n=true)
 (h:∀v',(v'= .slice none 0 0↔v= .slice none 0 0∧m2=0)→St n ((d,v')::F) (Mm c (row v' e size (m+m2) (cs++news)::R)) (wpList P ops Q rest)):
 St n F (Mm c H) (wpList P ops Q ({dst:=some d,op:= .call {callee:= .builtin .append,args:= #[x,y],argTypes:= #[t,t]},type:=ty,pos:=pos,after:=after,guard:=none}::rest)):=by
 refine St.PS (K:=λv' H'=>(v'= .slice none 0 0↔v= .slice none 0 0∧m2=0)∧H'=row v' e size (m+m2) (cs++news)::R) ?_ hd ?_
 ·intro a w ρ s hm
  have k:=hm.perm t1.perm
  have L:=dP.1 (k.dC _ (aV ..))
  have z:=k.drop.row C
  obtain⟨i,A,hsz⟩:=dX.1 r;obtain⟨M,N,O⟩:=og r hz D A
  rcases z.2 with⟨_,rfl⟩|⟨g2,S,T,rfl,_,l,X8,hc2,U,V⟩
  ·omega
  ·obtain⟨v',w',W,o,f,X,p,Y⟩:=ni (P:=P) (w:=w) t ty e ht A N M O I (eI J) v m cs L ⟨g2,0,none⟩ m2 S news z.1
    (λj u b=>by
     rw[Addr.add_lit,iW,cG l];rw[←V,om]at b
     split at b
     ·simpa using b
     ·simp at b) E (by unfold maxLen;omega) G
   refine⟨.value v',w',ρ,_,?_,⟨_,.inl rfl,X,rfl⟩,?_⟩
   ·simp[execOp,resolve,invoke,builtin,hx.eval s,hy.eval s,W]
   ·refine k.alter f.os ⟨f.tape,Y⟩ f.output f.size (λj b g=> ?_) (dP.2 o) (λZ B=> ?_)
    ·rw[dF]at g;exact f.block j b (λe=>g e.symm)
    ·rw[dF]at B⊢;exact p Z B
 ·rintro _ _ ⟨h1,rfl⟩
  exact h _ h1
end
section
variable {n:Nat}{F:Fr}{c:Ctx}{R:List ai}{T:Act→World→Prop}
theorem St.abC {a b d e f g h i:ai}(k:St n F (Mm c (a::b::d::e::f::g::h::i::R)) T):St n F (Mm c ([a,b,d,e,f,g,h,i]++R)) T:=k
end
theorem zh {L:List Nq}{cs:List Value}{j:Nat}{u:Value}:(rows j4 L++cs).set (L.length*6+j) u=rows j4 L++cs.set j u:=by
 have a:(rows j4 L).length=L.length*6:=fM _ _
 rw[List.set_append,aA (by rw[a];omega),a,Nat.add_sub_cancel_left]
theorem Vf {L K:List Nq}{x:Nq}:rows j4 (L++x::K)=rows j4 L++(j4.cells x++rows j4 K):=by
 simp[rows]
end Go.J
namespace Go.J
open Go.RowKit
open Go
end Go.J
namespace Go.J
open Go
section
variable {P:Program}{n:Nat}{F:Fr}{c:Ctx}{H R:List ai}{ty:TypeId}{x:Operand}{v:Value}
theorem Ev.Zv (l:ab){m:Nat}{cs:List Value}{src dst e:TypeId}[f:tJ v H e 1 m cs](hx:aX F x v)(hm:m=l.length)(d:cs=l.map λb=>Value.int .u8 (b.toNat:Int))(h:l≠ [])
 (i:P.underlying src=some (.slice e)) (he:P.underlying e=some (.int .u8)) (hd:P.underlying dst=some .string):Ev P n F (Mm c H) (.convert src dst x) ty (sv l):= .of_run λa w k hw=>by
 obtain⟨ρ,o⟩:=hw.out;subst hm d
 have p:=o.row f
 rcases p.2 with⟨_,q⟩|⟨g,cap,cur,rfl,_,r,_,_,d,s⟩
 ·exact absurd (gg q) h
 ·have:=run_convert_bytes_back (P:=P) w src dst e ⟨g,0,none⟩ cap l i he hd (λj t=>by
   have h1:(cur.toList.take (l.length*1))[j]?=some (.int .u8 (l[j].toNat:Int)):=by
    rw[s,aw,aj t];rfl
   rw[om]at h1;rw[Addr.add_lit,iW,cG r]
   split at h1
   ·simpa using h1
   ·cases h1)
  simp[execOp,hx.eval k,this]
end
end Go.J
namespace Go.J
open Go Go.RowKit
section
variable {P:Program}{n:Nat}{F:Fr}{A:World→Prop}{c:Ctx}{H:List ai}{ty t e:TypeId}{x y:Operand}{v:Value}{T:Act→World→Prop}
theorem Ev.xo {b o' cap m size k off j N:Nat}{i:Int}{kd:IntKind}(d:v= .slice (some ⟨b,o',none⟩) m cap)(hx:aX F x (gx v size k off))(hy:aX F y (.int kd i))(ht:P.underlying t=some (.array N e))(f:(P.info? e).map (·.size)=some 1)
 (g:i=j) (h:j<N):Ev P n F A (.indexAddr t x y) ty (gx v size k (off+j)):= .of_run λa w c hw=>by
 obtain⟨inf,l,o⟩:=dX.1 f;subst g d;rw[dY]at hx
 simp[execOp,hx.eval c,hy.eval c,Instr.indexAt,Instr.sureAddr,asIntOf,run_underlying ht,sizeOf,typeInfo,l,o,h,dY,Addr.add_lit,Nat.add_assoc]
theorem St.Xa {α:Type}{Rr:Rp α}{xs:List α}(v:Value)[hd:sP v H α Rr xs](h:v.oneCell'=true→St n F (Mm c H) T):St n F (Mm c H) T:=by
 intro a w b hw;obtain⟨ρ,hm⟩:=hw.out;obtain⟨ad,cap,rfl,_⟩:=hm.sl hd;exact h rfl a w b hw
end
def O3:Rp (Int×Int):=⟨2,by decide,λx=>[iv x.1,iv x.2],λ_=>True,λ_=>rfl,λx u h=>by
 simp only[List.mem_cons,List.not_mem_nil,or_false]at h
 rcases h with rfl|rfl<;>rfl⟩
end Go.J
namespace Go.J
open Go
section
variable {P:Program}{n:Nat}{F:Fr}{c:Ctx}{H:List ai}{ty t e:TypeId}{x:Operand}{v:Value}{m k:Nat}{α:Type}
theorem Ev.ZE {R:Rp α}{l:List α}{g:α}{dd:TypeDesc}[f:tJ v H e R.size m (rows R l)](hx:aX F x (gx v R.size k 0))(h:l[k]?=some g)(ht:P.underlying t=some dd)(r:(match dd with| .struct _| .array _ _=>True|_=>False))
 (s:(P.info? t).map (·.size)=some R.size) (hk:k<m):Ev P n F (Mm c H) (.load t x) ty (.agg (R.cells g).toArray):= .of_run λa w y hw=>by
 obtain⟨ρ,hm⟩:=hw.out
 have i:(rows R l)[k*R.size+0]?=(R.cells g)[0]?:=eP R l k 0 g h R.pos
 have z:0<(R.cells g).length:=by rw[R.len];exact R.pos
 rw[aj z]at i;obtain⟨b,A,c1,B,_⟩:=jY (hm.row f) (off:=0) hk i;rw[A]at hx
 have o:=eB (P:=P) (w:=w) (b:=b) (off:=k*R.size+0) (L:=R.cells g) ht r (by rw[s,R.len]) (λj u p=>by
  have d:j<R.size:=by rw[←R.len g];exact(eh.1 p).1
  have C:(rows R l)[k*R.size+j]?=some u:=by rw[eP R l k j g h d,p]
  obtain⟨D,e2,c2,q,_⟩:=jY (hm.row f) (off:=j) hk C
  rw[B]at q;cases q
  simpa using c2)
 simp at hx o
 simp[execOp,hx.eval y,Instr.loadAt,Instr.sureAddr,o]
theorem Bw (R:Rp α):∀(l:List α) (k:Nat),(rows R l).take (k*R.size)=rows R (l.take k)
 | [],k=>by simp[rows]
 |a::l,0=>by simp[rows]
 |a::l,k+1=>by
  have e:(k+1)*R.size=(R.cells a).length+k*R.size:=by rw[R.len,ji];omega
  show(R.cells a++rows R l).take _=R.cells a++rows R (l.take k)
  rw[e,List.take_length_add_append,Bw R l k]
theorem uS (R:Rp α)(l:List α)(a:α):(rows R (l++ [a])).take (l.length*R.size)=rows R l:=by rw[Bw,List.take_left' rfl]
end
end Go.J
namespace Go.Proofs
open Go.Shelf
def Tryz.J4:Go.Shelf.Ren:=⟨λ|4=>243|n=>n,λ|0=>0|3=>3|4=>4|9=>9|20=>20|22=>164|25=>168|n=>n,λ|n=>n⟩
theorem Tryz.QF:Go.Proofs.Lays8.n4 Tryz.prog Tryz.J4:={
 mixed:=by kernel_rfl
 f4:=⟨Tryz.f243.name,by decide,Tryz.func243.trans (congrArg some (by kernel_rfl))⟩
 t0:=u_0
 a0:=Tryz.isAgg0
 z0:=Tryz.sizeOf0
 v0:=Tryz.zeroValue0
 t3:=eK
 a3:=Tryz.isAgg3
 z3:=Tryz.sizeOf3
 v3:=Tryz.zeroValue3
 t4:=K3
 a4:=Tryz.isAgg4
 z4:=Tryz.sizeOf4
 v4:=Tryz.zeroValue4
 t9:=oc
 a9:=Tryz.isAgg9
 z9:=Tryz.sizeOf9
 v9:=Tryz.zeroValue9
 t20:=Tryz.underlying20
 a20:=Tryz.isAgg20
 z20:=Tryz.sizeOf20
 v20:=Tryz.zeroValue20
 t22:=eT
 a22:=Tryz.isAgg164
 z22:=Tryz.sizeOf164
 v22:=Tryz.zeroValue164}
end Go.Proofs
namespace Go.Proofs.YtiefglecbgdaiaaGreatDoor
open Go Go.J Tryz
instance:fX prog 100 0 0:=⟨by kernel_rfl⟩
theorem MV:aG prog 53:=⟨_,func53,rfl,by kernel_rfl⟩
theorem DL:bE prog 100 2=some 2:=by kernel_rfl
instance:type_of%(fX.mk DL):=⟨DL⟩
instance:fX prog 100 1 1:=⟨by kernel_rfl⟩
theorem YP:aG prog 69:=⟨_,func69,rfl,by kernel_rfl⟩
instance:fX prog 100 3 3:=⟨by kernel_rfl⟩
theorem Wc:aG prog 109:=⟨_,func109,rfl,by kernel_rfl⟩
theorem DZ:bE prog 98 2=some 2:=by kernel_rfl
instance:type_of%(fX.mk DZ):=⟨DZ⟩
theorem Da:bE prog 98 3=some 3:=by kernel_rfl
instance:type_of%(fX.mk Da):=⟨Da⟩
instance:fX prog 98 1 1:=⟨by kernel_rfl⟩
theorem abT:aG prog 108:=⟨_,func108,rfl,by kernel_rfl⟩
instance:fX prog 98 4 4:=⟨by kernel_rfl⟩
theorem ahG:aG prog 63:=⟨_,func63,rfl,by kernel_rfl⟩
theorem II:aG prog 64:=⟨_,func64,rfl,by kernel_rfl⟩
instance:fX prog 98 0 0:=⟨by kernel_rfl⟩
theorem ahH:aG prog 67:=⟨_,func67,rfl,by kernel_rfl⟩
theorem ahI:aG prog 68:=⟨_,func68,rfl,by kernel_rfl⟩
theorem DW:bE prog 78 0=some 0:=by kernel_rfl
instance:type_of%(fX.mk DW):=⟨DW⟩
theorem Ie:bE prog 78 1=some 1:=by kernel_rfl
instance:type_of%(fX.mk Ie):=⟨Ie⟩
theorem Ab:aG prog 62:=⟨_,func62,rfl,by kernel_rfl⟩
theorem NZ:(prog.info? 74).map (·.size)=some 3:=by kernel_rfl
instance:type_of%(oy.mk NZ):=⟨NZ⟩
theorem aaS:(prog.info? 74).bind (λi=>i.zero.map Value.cells)=some #[.string ⟨#[]⟩,.int .i64 0,.string ⟨#[]⟩]:=by kernel_rfl
instance:type_of%(pX.mk aaS):=⟨aaS⟩
instance:fX prog 74 0 0:=⟨by kernel_rfl⟩
theorem DV:bE prog 74 1=some 1:=by kernel_rfl
instance:type_of%(fX.mk DV):=⟨DV⟩
theorem yq:bE prog 74 2=some 2:=by kernel_rfl
theorem Lk:(prog.info? 149).map (·.size)=some 3:=by kernel_rfl
instance:type_of%(oy.mk Lk):=⟨Lk⟩
instance:pX prog 149 #[.int .i64 0,.int .i64 0,.int .i64 0]:=⟨by kernel_rfl⟩
theorem xi:bE prog 149 0=some 0:=by kernel_rfl
instance:type_of%(fX.mk xi):=⟨xi⟩
theorem xj:bE prog 149 1=some 1:=by kernel_rfl
instance:type_of%(fX.mk xj):=⟨xj⟩
theorem td:bE prog 149 2=some 2:=by kernel_rfl
instance:type_of%(fX.mk td):=⟨td⟩
theorem MX:aG prog 71:=⟨_,func71,rfl,by kernel_rfl⟩
theorem DU:bE prog 51 0=some 0:=by kernel_rfl
instance:type_of%(fX.mk DU):=⟨DU⟩
theorem yp:bE prog 51 1=some 1:=by kernel_rfl
instance:type_of%(fX.mk yp):=⟨yp⟩
instance:fX prog 51 2 2:=⟨by kernel_rfl⟩
theorem mP:(prog.info? 51).map (·.size)=some 3:=by kernel_rfl
instance:type_of%(oy.mk mP):=⟨mP⟩
theorem WI:(prog.info? 51).bind (λi=>i.zero.map Value.cells)=some #[.int .i64 0,.int .i64 0,.slice none 0 0]:=by kernel_rfl
instance:type_of%(pX.mk WI):=⟨WI⟩
theorem ac0:aG prog 70:=⟨_,func70,rfl,by kernel_rfl⟩
instance:pX prog 161 #[.nilFunc]:=⟨by kernel_rfl⟩
theorem afZ:(prog.info? 161).map (·.size)=some 1:=by kernel_rfl
theorem afE (w:World):cg prog 147 w= .ok #[(0,1),(1,1),(2,1),(3,1),(4,1),(5,1)] w:=by kernel_rfl
theorem agG:(prog.info? 147).bind (λi=>i.zero.map Value.cells)=some #[.bool false,.string ⟨#[]⟩,.int .i64 0,.int .i64 0,.int .i64 0,.int .i64 0]:=by kernel_rfl
theorem oU:(prog.info? 147).map (·.size)=some 6:=by kernel_rfl
instance:type_of%(oy.mk oU):=⟨oU⟩
theorem Xm:(prog.info? 147).bind (·.zero)=some (Value.agg #[.bool false,.string ⟨#[]⟩,.int .i64 0,.int .i64 0,.int .i64 0,.int .i64 0]):=by kernel_rfl
theorem abJ:(prog.info? 147).map (·.bytes)=some 56:=by kernel_rfl
theorem Xd:(prog.info? 142).map (·.size)=some 1:=by kernel_rfl
theorem DM:bE prog 147 0=some 0:=by kernel_rfl
instance:type_of%(fX.mk DM):=⟨DM⟩
theorem xg:bE prog 147 1=some 1:=by kernel_rfl
theorem Wb:aG prog 104:=⟨_,func104,rfl,by kernel_rfl⟩
theorem Kr:bE prog 147 3=some 3:=by kernel_rfl
theorem DN:bE prog 147 5=some 5:=by kernel_rfl
instance:type_of%(fX.mk DN):=⟨DN⟩
instance:pX prog 142 #[.slice none 0 0]:=⟨by kernel_rfl⟩
instance:pX prog 202 #[.nilFunc]:=⟨by kernel_rfl⟩
theorem af1:(prog.info? 202).map (·.size)=some 1:=by kernel_rfl
theorem xh:bE prog 147 2=some 2:=by kernel_rfl
instance:type_of%(fX.mk xh):=⟨xh⟩
instance:fX prog 147 4 4:=⟨by kernel_rfl⟩
theorem abP:(prog.info? 35).map (·.bytes)=some 24:=by kernel_rfl
theorem ajR:(prog.info? 70).map (·.size)=some 1:=by kernel_rfl
theorem ahE:aG prog 60:=⟨_,func60,rfl,by kernel_rfl⟩
theorem ahF:aG prog 61:=⟨_,func61,rfl,by kernel_rfl⟩
theorem acZ:aG prog 59:=⟨_,func59,rfl,by kernel_rfl⟩
theorem acK:aG prog 20:=⟨_,func20,rfl,by kernel_rfl⟩
instance:oy prog 78 2:=⟨by kernel_rfl⟩
theorem ahC:aG prog 57:=⟨_,func57,rfl,by kernel_rfl⟩
theorem ag2:aG prog 23:=⟨_,func23,rfl,by kernel_rfl⟩
theorem ahD:aG prog 58:=⟨_,func58,rfl,by kernel_rfl⟩
instance:pX prog 70 #[.slice none 0 0]:=⟨by kernel_rfl⟩
instance:pX prog 35 #[.slice none 0 0]:=⟨by kernel_rfl⟩
instance:pX prog 144 #[.nilFunc]:=⟨by kernel_rfl⟩
theorem Xe:(prog.info? 144).map (·.size)=some 1:=by kernel_rfl
theorem I9 {a b:Value}(c:a.oneCell'=true)(d:b.oneCell'=true)(w:World):(Instr.build 147 #[(2,a),(4,b)]).run prog w= .ok (.agg #[.bool false,.string ⟨#[]⟩,a,.int .i64 0,b,.int .i64 0]) w:=
 bM agG (afE w) (by simp[Instr.fill,J.bS,J.cells_one c,J.cells_one d])
end Go.Proofs.YtiefglecbgdaiaaGreatDoor
namespace Go.Proofs.YtiefglecbgdaiaaGreatDoor
open Go Go.J Tryz
theorem Wz:aG prog 229:=⟨_,func229,rfl,by kernel_rfl⟩
theorem afN (w:World):cg prog 30 w= .ok #[(0,1)] w:=by kernel_rfl
instance:fX prog 288 1 2:=⟨by kernel_rfl⟩
instance:fX prog 288 2 3:=⟨by kernel_rfl⟩
instance:fX prog 288 3 4:=⟨by kernel_rfl⟩
theorem Sz:(prog.info? 164).bind (·.zero)=some (Value.slice none 0 0):=by kernel_rfl
theorem abK:(prog.info? 164).map (·.bytes)=some 24:=by kernel_rfl
theorem af6:(prog.info? 286).map (·.size)=some 1:=by kernel_rfl
theorem acW:aG prog 243:=⟨_,func243,rfl,by kernel_rfl⟩
theorem agJ:(prog.info? 318).bind (λi=>i.zero.map Value.cells)=some #[.int .i64 0,.int .i64 0]:=by kernel_rfl
theorem CE:(prog.info? 318).map (·.size)=some 2:=by kernel_rfl
theorem T1:(prog.info? 318).bind (·.zero)=some (Value.agg #[.int .i64 0,.int .i64 0]):=by kernel_rfl
theorem Er:aG prog 210:=⟨_,func210,rfl,by kernel_rfl⟩
instance:fX prog 288 0 0:=⟨by kernel_rfl⟩
theorem abO:(prog.info? 318).map (·.bytes)=some 16:=by kernel_rfl
theorem acQ:aG prog 211:=⟨_,func211,rfl,by kernel_rfl⟩
theorem P7:aG prog 203:=⟨_,func203,rfl,by kernel_rfl⟩
theorem afM (w:World):cg prog 288 w= .ok #[(0,2),(2,1),(3,1),(4,1)] w:=by kernel_rfl
theorem agI:(prog.info? 288).bind (λi=>i.zero.map Value.cells)=some #[.slice none 0 0,.slice none 0 0,.slice none 0 0,.slice none 0 0,.slice none 0 0]:=by kernel_rfl
theorem Wt:aG prog 176:=⟨_,func176,rfl,by kernel_rfl⟩
theorem acH:aG prog 177:=⟨_,func177,rfl,by kernel_rfl⟩
theorem acI:aG prog 178:=⟨_,func178,rfl,by kernel_rfl⟩
theorem KU:aG prog 119:=⟨_,func119,rfl,by kernel_rfl⟩
instance:fX prog 226 0 0:=⟨by kernel_rfl⟩
theorem DR:bE prog 226 1=some 1:=by kernel_rfl
instance:type_of%(fX.mk DR):=⟨DR⟩
instance:fX prog 226 2 2:=⟨by kernel_rfl⟩
theorem sz5:(prog.info? 5).map (·.size)=some 1:=by kernel_rfl
theorem zv5:(prog.info? 5).bind (·.zero)=some (Value.int .u8 0):=by kernel_rfl
theorem xk:bE prog 226 3=some 3:=by kernel_rfl
instance:type_of%(fX.mk xk):=⟨xk⟩
theorem by5:(prog.info? 5).map (·.bytes)=some 1:=by kernel_rfl
instance:fX prog 220 1 1:=⟨by kernel_rfl⟩
instance:fX prog 220 0 0:=⟨by kernel_rfl⟩
theorem DQ:bE prog 217 0=some 0:=by kernel_rfl
instance:type_of%(fX.mk DQ):=⟨DQ⟩
theorem Uf:bE prog 217 1=some 1:=by kernel_rfl
theorem Lm:(prog.info? 217).map (·.size)=some 6:=by kernel_rfl
instance:type_of%(oy.mk Lm):=⟨Lm⟩
theorem acR:aG prog 230:=⟨_,func230,rfl,by kernel_rfl⟩
instance:fX prog 217 2 2:=⟨by kernel_rfl⟩
instance:fX prog 217 3 3:=⟨by kernel_rfl⟩
theorem Lo:(prog.info? 277).map (·.size)=some 3:=by kernel_rfl
instance:type_of%(oy.mk Lo):=⟨Lo⟩
theorem qn:(prog.info? 214).map (·.size)=some 1:=by kernel_rfl
theorem ab7:aG prog 150:=⟨_,func150,rfl,by kernel_rfl⟩
theorem Wa:aG prog 103:=⟨_,func103,rfl,by kernel_rfl⟩
instance:fX prog 223 2 7:=⟨by kernel_rfl⟩
theorem acO:aG prog 207:=⟨_,func207,rfl,by kernel_rfl⟩
theorem acN:aG prog 206:=⟨_,func206,rfl,by kernel_rfl⟩
instance:fX prog 223 3 13:=⟨by kernel_rfl⟩
theorem oV:(prog.info? 229).map (·.size)=some 6:=by kernel_rfl
instance:type_of%(oy.mk oV):=⟨oV⟩
theorem tn:bE prog 229 2=some 5:=by kernel_rfl
instance:type_of%(fX.mk tn):=⟨tn⟩
theorem Wi:aG prog 145:=⟨_,func145,rfl,by kernel_rfl⟩
instance:fX prog 234 0 0:=⟨by kernel_rfl⟩
instance:fX prog 234 1 1:=⟨by kernel_rfl⟩
theorem Ln:(prog.info? 226).map (·.size)=some 4:=by kernel_rfl
instance:type_of%(oy.mk Ln):=⟨Ln⟩
theorem acL:aG prog 204:=⟨_,func204,rfl,by kernel_rfl⟩
instance:fX prog 223 5 16:=⟨by kernel_rfl⟩
theorem afL (w:World):cg prog 229 w= .ok #[(0,4),(4,1),(5,1)] w:=by kernel_rfl
theorem Sv:(prog.info? 229).bind (λi=>i.zero.map Value.cells)=some #[.int .i64 0,.int .i64 0,.int .i64 0,.slice none 0 0,.slice none 0 0,.slice none 0 0]:=by kernel_rfl
instance:type_of%(pX.mk Sv):=⟨Sv⟩
theorem HX:(prog.info? 229).bind (·.zero)=some (Value.agg #[.int .i64 0,.int .i64 0,.int .i64 0,.slice none 0 0,.slice none 0 0,.slice none 0 0]):=by kernel_rfl
theorem Ot:(prog.info? 229).map (·.bytes)=some 96:=by kernel_rfl
theorem Lj:(prog.info? 107).map (·.size)=some 1:=by kernel_rfl
instance:fX prog 223 4 14:=⟨by kernel_rfl⟩
theorem CD:(prog.info? 220).map (·.size)=some 2:=by kernel_rfl
instance:type_of%(oy.mk CD):=⟨CD⟩
theorem acM:aG prog 205:=⟨_,func205,rfl,by kernel_rfl⟩
theorem tm:bE prog 229 1=some 4:=by kernel_rfl
instance:type_of%(fX.mk tm):=⟨tm⟩
theorem uZ:(prog.info? 234).map (·.size)=some 3:=by kernel_rfl
instance:type_of%(oy.mk uZ):=⟨uZ⟩
theorem MC:(prog.info? 234).bind (·.zero)=some (Value.agg #[.int .i64 0,.int .i64 0,.slice none 0 0]):=by kernel_rfl
theorem WY:(prog.info? 234).map (·.bytes)=some 40:=by kernel_rfl
theorem Xf:(prog.info? 227).map (·.size)=some 1:=by kernel_rfl
theorem WZ:aG prog 101:=⟨_,func101,rfl,by kernel_rfl⟩
theorem Su:(prog.info? 220).bind (λi=>i.zero.map Value.cells)=some #[.int .i64 0,.slice none 0 0]:=by kernel_rfl
instance:type_of%(pX.mk Su):=⟨Su⟩
theorem afJ (w:World):cg prog 220 w= .ok #[(0,1),(1,1)] w:=by kernel_rfl
theorem Wq:aG prog 169:=⟨_,func169,rfl,by kernel_rfl⟩
theorem P5:aG prog 167:=⟨_,func167,rfl,by kernel_rfl⟩
instance:fX prog 223 0 0:=⟨by kernel_rfl⟩
theorem P6:aG prog 170:=⟨_,func170,rfl,by kernel_rfl⟩
theorem Wr:aG prog 171:=⟨_,func171,rfl,by kernel_rfl⟩
instance:fX prog 223 1 5:=⟨by kernel_rfl⟩
theorem tj:bE prog 229 0=some 0:=by kernel_rfl
instance:type_of%(fX.mk tj):=⟨tj⟩
theorem KY:aG prog 172:=⟨_,func172,rfl,by kernel_rfl⟩
theorem Oz:aG prog 165:=⟨_,func165,rfl,by kernel_rfl⟩
theorem XU (w:World):cg prog 226 w= .ok #[(0,1),(1,1),(2,1),(3,1)] w:=by kernel_rfl
theorem Xj:(prog.info? 226).bind (λi=>i.zero.map Value.cells)=some #[.int .i64 0,.int .i64 0,.int .i64 0,.slice none 0 0]:=by kernel_rfl
theorem XV (w:World):cg prog 234 w= .ok #[(0,1),(1,1),(2,1)] w:=by kernel_rfl
theorem MA:(prog.info? 234).bind (λi=>i.zero.map Value.cells)=some #[.int .i64 0,.int .i64 0,.slice none 0 0]:=by kernel_rfl
instance:type_of%(pX.mk MA):=⟨MA⟩
theorem acE:aG prog 168:=⟨_,func168,rfl,by kernel_rfl⟩
theorem Ss:(prog.info? 217).bind (λi=>i.zero.map Value.cells)=some #[.int .i64 0,.int .i64 0,.slice none 0 0,.slice none 0 0,.slice none 0 0,.slice none 0 0]:=by kernel_rfl
instance:type_of%(pX.mk Ss):=⟨Ss⟩
theorem afI (w:World):cg prog 217 w= .ok #[(0,1),(1,1),(2,1),(3,1),(4,1),(5,1)] w:=by kernel_rfl
theorem WL:(prog.info? 30).bind (·.zero)=some (Value.agg #[.slice none 0 0]):=by kernel_rfl
theorem abN:(prog.info? 30).map (·.bytes)=some 24:=by kernel_rfl
instance:pX prog 277 #[.slice none 0 0,.slice none 0 0,.slice none 0 0]:=⟨by kernel_rfl⟩
theorem Wp:aG prog 166:=⟨_,func166,rfl,by kernel_rfl⟩
theorem Xo:(prog.info? 277).bind (·.zero)=some (Value.agg #[.slice none 0 0,.slice none 0 0,.slice none 0 0]):=by kernel_rfl
theorem abM:(prog.info? 277).map (·.bytes)=some 72:=by kernel_rfl
theorem af2:(prog.info? 213).map (·.size)=some 1:=by kernel_rfl
instance:fX prog 217 4 4:=⟨by kernel_rfl⟩
instance:fX prog 217 5 5:=⟨by kernel_rfl⟩
theorem Xn:(prog.info? 214).bind (·.zero)=some (Value.slice none 0 0):=by kernel_rfl
theorem abL:(prog.info? 214).map (·.bytes)=some 24:=by kernel_rfl
theorem af3:(prog.info? 215).map (·.size)=some 1:=by kernel_rfl
theorem Ep:aG prog 121:=⟨_,func121,rfl,by kernel_rfl⟩
theorem acV:aG prog 242:=⟨_,func242,rfl,by kernel_rfl⟩
theorem acU:aG prog 241:=⟨_,func241,rfl,by kernel_rfl⟩
theorem acT:aG prog 240:=⟨_,func240,rfl,by kernel_rfl⟩
theorem acS:aG prog 239:=⟨_,func239,rfl,by kernel_rfl⟩
theorem acP:aG prog 209:=⟨_,func209,rfl,by kernel_rfl⟩
instance:fX prog 170 0 0:=⟨by kernel_rfl⟩
theorem acG:aG prog 175:=⟨_,func175,rfl,by kernel_rfl⟩
theorem acF:aG prog 174:=⟨_,func174,rfl,by kernel_rfl⟩
theorem Ws:aG prog 173:=⟨_,func173,rfl,by kernel_rfl⟩
instance:fX prog 234 2 2:=⟨by kernel_rfl⟩
theorem abZ:aG prog 117:=⟨_,func117,rfl,by kernel_rfl⟩
theorem ab0:aG prog 118:=⟨_,func118,rfl,by kernel_rfl⟩
theorem M9:(prog.info? 170).bind (λi=>i.zero.map Value.cells)=some #[.slice none 0 0,.int .i64 0,.slice none 0 0]:=by kernel_rfl
instance:type_of%(pX.mk M9):=⟨M9⟩
theorem XT (w:World):cg prog 170 w= .ok #[(0,1),(1,1),(2,1)] w:=by kernel_rfl
theorem S0:(prog.info? 170).map (·.size)=some 3:=by kernel_rfl
instance:type_of%(oy.mk S0):=⟨S0⟩
theorem abW:aG prog 114:=⟨_,func114,rfl,by kernel_rfl⟩
theorem abX:aG prog 115:=⟨_,func115,rfl,by kernel_rfl⟩
theorem abY:aG prog 116:=⟨_,func116,rfl,by kernel_rfl⟩
theorem afK (w:World):cg prog 223 w= .ok #[(0,5),(5,2),(7,6),(13,1),(14,2),(16,1)] w:=by kernel_rfl
theorem agH:(prog.info? 223).bind (λi=>i.zero.map Value.cells)=some #[.slice none 0 0,.slice none 0 0,.slice none 0 0,.slice none 0 0,.slice none 0 0,.slice none 0 0,.slice none 0 0,.int .i64 0,.int .i64 0,.slice none 0 0,.slice none 0 0,.slice none 0 0,.slice none 0 0,.slice none 0 0,.int .i64 0,.slice none 0 0,.map none]:=by kernel_rfl
theorem Ue:bE prog 170 1=some 1:=by kernel_rfl
instance:fX prog 170 2 2:=⟨by kernel_rfl⟩
theorem Tn {a:Value}(b:a.oneCell'=true)(w:World):(Instr.build 30 #[(0,a)]).run prog w= .ok (.agg #[a]) w:=
 bM WH (afN w) (by simp[Instr.fill,J.bS,J.cells_one b])
theorem yU {a b:Value}(c:a.oneCell'=true)(h1:b.oneCell'=true)(w:World):(Instr.build 318 #[(0,a),(1,b)]).run prog w= .ok (.agg #[a,b]) w:=
 Jb underlying318 agJ eL (by simp[Instr.fill,J.bS,J.cells_one c,J.cells_one h1])
theorem Oi {a b:Value}(w:World):(Instr.build 288 #[(0,.agg #[a,b])]).run prog w= .ok (.agg #[a,b,.slice none 0 0,.slice none 0 0,.slice none 0 0]) w:=
 bM agI (afM w) (by simp[Instr.fill,J.bS])
theorem YL (w:World):(Instr.build 30 #[]).run prog w= .ok (.agg #[.slice none 0 0]) w:=
 bM WH (afN w) (by simp[Instr.fill,J.bS])
theorem Oh {a b c d:Value}(w:World):(Instr.build 229 #[(0,.agg #[a,b,c,d])]).run prog w= .ok (.agg #[a,b,c,d,.slice none 0 0,.slice none 0 0]) w:=
 bM Sv (afL w) (by simp[Instr.fill,J.bS])
theorem ID {a b:Value}(c:a.oneCell'=true)(h1:b.oneCell'=true)(w:World):(Instr.build 220 #[(0,a),(1,b)]).run prog w= .ok (.agg #[a,b]) w:=
 bM Su (afJ w) (by simp[Instr.fill,J.bS,J.cells_one c,J.cells_one h1])
theorem tT {a b c:Value}(d:a.oneCell'=true)(h1:b.oneCell'=true)(w:World):(Instr.build 226 #[(0,a),(1,b),(3,.agg #[c])]).run prog w= .ok (.agg #[a,b,.int .i64 0,c]) w:=
 bM Xj (XU w) (by simp[Instr.fill,J.bS,J.cells_one d,J.cells_one h1])
theorem IE {a b:Value}(c:a.oneCell'=true)(h1:b.oneCell'=true)(w:World):(Instr.build 234 #[(0,a),(1,b)]).run prog w= .ok (.agg #[a,b,.slice none 0 0]) w:=
 bM MA (XV w) (by simp[Instr.fill,J.bS,J.cells_one c,J.cells_one h1])
theorem yS {a b c d:Value}(e:a.oneCell'=true)(h1:b.oneCell'=true)(f:c.oneCell'=true)(w:World):(Instr.build 226 #[(0,a),(1,b),(2,c),(3,.agg #[d])]).run prog w= .ok (.agg #[a,b,c,d]) w:=
 bM Xj (XU w) (by simp[Instr.fill,J.bS,J.cells_one e,J.cells_one h1,J.cells_one f])
theorem yT {a b:Value}(c:a.oneCell'=true)(d:b.oneCell'=true)(w:World):(Instr.build 234 #[(0,a),(2,b)]).run prog w= .ok (.agg #[a,.int .i64 0,b]) w:=
 bM MA (XV w) (by simp[Instr.fill,J.bS,J.cells_one c,J.cells_one d])
theorem IC {a b:Value}(c:a.oneCell'=true)(h1:b.oneCell'=true)(w:World):(Instr.build 217 #[(0,a),(1,b)]).run prog w= .ok (.agg #[a,b,.slice none 0 0,.slice none 0 0,.slice none 0 0,.slice none 0 0]) w:=
 bM Ss (afI w) (by simp[Instr.fill,J.bS,J.cells_one c,J.cells_one h1])
theorem vC {l m n o p a b c d e f g h i j k:Value}(q:k.oneCell'=true)(w:World):(Instr.build 223 #[(0,.agg #[l,m,n,o,p]),(1,.agg #[a,b]),(2,.agg #[c,d,e,f,g,h]),(4,.agg #[i,j]),(5,k)]).run prog w= .ok (.agg #[l,m,n,o,p,a,b,c,d,e,f,g,h,.slice none 0 0,i,j,k]) w:=
 bM agH (afK w) (by simp[Instr.fill,J.bS,J.cells_one q])
theorem Cz (w:World):(Instr.build 170 #[]).run prog w= .ok (.agg #[.slice none 0 0,.int .i64 0,.slice none 0 0]) w:=
 bM M9 (XT w) (by simp[Instr.fill,J.bS])
theorem IB {a b:Value}(c:a.oneCell'=true)(h1:b.oneCell'=true)(w:World):(Instr.build 170 #[(0,a),(1,b)]).run prog w= .ok (.agg #[a,b,.slice none 0 0]) w:=
 bM M9 (XT w) (by simp[Instr.fill,J.bS,J.cells_one c,J.cells_one h1])
def qA (n:Nat)(o:List Nat):List Int:=(List.range n).map λi=>if i∈o then(o.idxOf i:Int)else-1
theorem zR (n:Nat)(o:List Nat):(qA n o).length=n:=by simp[qA]
theorem xu {n:Nat}{o:List Nat}{i:Nat}(h:i<n):(qA n o)[i]?=some (if i∈o then(o.idxOf i:Int)else-1):=by
 unfold qA;rw[aw,jy h];rfl
theorem Ql {n:Nat}{o:List Nat}{i:Nat}(h:i<n)(b:i∉o):(qA n o).set i (o.length:Int)=qA n (o++ [i]):=by
 refine jh λj=> ?_
 rcases cJ j n with a|a
 ·rw[xu a]
  by_cases e:j=i
  ·subst e
   rw[fp (by rw[zR];exact a),aB (by simp),List.idxOf_append,aA b];simp
  ·rw[gV (λh=>e h.symm),xu a]
   by_cases c:j∈o
   ·rw[aB c,aB (by simp[c]),List.idxOf_append,aB c]
   ·rw[aA c,aA (by simp[c,e])]
 ·rw[fT (by rw[eC,zR];exact a),fT (by rw[zR];exact a)]
theorem Qk (n:Nat):qA n []=List.replicate n (-1):=by
 unfold qA;refine jh λj=> ?_
 rw[aw,sM]
 rcases cJ j n with a|a
 ·rw[jy a,aB a];simp
 ·rw[fT (by simpa using a),aA zE];rfl
theorem jJ (l:List Int)(k:Nat)(x:Int):(rows aI l).set (k*1+0) (iv x)=rows aI (l.set k x):=by
 rw[e8,fU,ez,ez,k9]
theorem fm {l:List Int}{k:Nat}{x:Int}(h:l[k]?=some x):(rows aI l)[k*1+0]?=some (iv x):=by
 rw[e8,fU,ez,aw,h];rfl
theorem ze (n:Nat):List.replicate n (iv 0)=rows aI (List.replicate n 0):=by rw[ez,uw]
theorem K7 (e l m bv:Nat)(nv:Value)(g:ct)(H:tL (ao g))(Z:g.nodes.length≤120)(N:(ao g).length=g.nodes.length):∀(f:Nat) (o:List Nat) (i:Nat) (s:Value),s.oneCell'=true→Cm (ao g) o→i<g.nodes.length→Nh g.nodes.length o<f→dR prog 229 ([iv i]++ [(tW e),(tW l),(tW m),(tW bv)]).toArray [aD (sl cD g.nv.1 g.nodes),aD (aL cE g.nodes),tI e [nv] 35,row nv 3 1 g.nodes.length (rows aI (qA g.nodes.length (o))),tI l [s] 35,row s 3 1 (o).length (rows aI (cQ (o))),tI m [g.nv.1] 30,tI bv [(.func (.func 229) #[] [(tW e),(tW l),(tW m),(tW bv)].toArray)] 144] (λv H'=>∃q,q.oneCell'=true∧H'=[tI e [nv] 35,row nv 3 1 g.nodes.length (rows aI (qA g.nodes.length (ka (ao g) f o i))),tI l [q] 35,row q 3 1 (ka (ao g) f o i).length (rows aI (cQ (ka (ao g) f o i))),tI m [g.nv.1] 30,tI bv [(.func (.func 229) #[] [(tW e),(tW l),(tW m),(tW bv)].toArray)] 144]):=by
 intro f
 induction f with
 |zero=>intro o i s _ _ _ h;omega
 |succ f O=> ?_
 intro o i s P B C hu;refine dR.body (args:=[iv i]++ [(tW e),(tW l),(tW m),(tW bv)]) 38 func229 rfl ntmps229 rfl (λc=> ?_);refine g6 ?_;refine St.ee (Ev.cx (.mk rfl) eK trivial zE (fm (xu C))) ?_;refine g3 ?_;refine St.cond _ rfl (λy=> ?_) (λy=> ?_)
 ·skip
  have d:i∈o:=by by_cases c:i∈o;exact c;rw[aA c]at y;exact absurd (gU y) (by decide)
  have u:ka (ao g) (f+1) o i=o:=by rw[kL,aB d]
  refine g2 ?_;refine St.rV [] [tI e [nv] 35,row nv 3 1 g.nodes.length (rows aI (qA g.nodes.length (o))),tI l [s] 35,row s 3 1 (o).length (rows aI (cQ (o))),tI m [g.nv.1] 30,tI bv [(.func (.func 229) #[] [(tW e),(tW l),(tW m),(tW bv)].toArray)] 144] ?_;exact⟨s,P,by rw[u]⟩
 ·skip
  have d:i∉o:=λc=>by rw[aB c]at y;exact absurd (l3 y) zE
  have u:ka (ao g) (f+1) o i=mj (ao g) f (o++ [i]) ((ao g).getD i gu).2:=by rw[kL,aA d]
  have hol:=kH B.nd (n:=g.nodes.length) (λj r=>by have:=B.lt j r;omega)
  have hun:=HO C d
  obtain⟨t,ht⟩:=aF (show i<g.nodes.length by omega)
  have Q:=aa ht
  have R:(ao g).getD i gu=lR t:=by rw[aZ,kD ht];rfl
  have A:((ao g).getD i gu).2=t.aW.map fB:=by rw[R];rfl
  refine St.cN cE g.nodes (x:=t) Q ?_;refine St.gW (sl an t.lv.1 t.aW) [cE t] (λρ h=>h _ (aV ..)) ?_;refine St.wf t.lv.1 (λXB TE=> ?_)
  have D:Cm (ao g) (o++ [i]):=⟨by rw[List.nodup_append];exact⟨B.nd,by simp,by intro a S b U;rw[bN.1 U];rintro rfl;exact d S⟩,λj r=>by rcases cI.1 r with r|r;exact B.lt j r;rw[bN.1 r,N];exact C⟩
  refine g9 ?_;refine St.bz (.mk rfl) (.mk rfl) eL rfl zE (by decide) ?_;refine St.aN nv rfl (show _=rows aI (qA g.nodes.length (o++ [i])) by rw[jJ,Ql C d]) ?_;refine g6 ?_;refine St.hS rfl (.ay rfl) cP eL jF rfl rfl (by simp[Value.cells]) rfl rfl (λb20=> ?_);refine St.aq (.mk rfl) (.mk rfl) cP eL jF vD (by simp[Value.oneCell',Value.cells]) zE zE rfl rfl rfl rfl (λv21 V=> ?_);refine St.aN v21 (show _=(o++ [i]).length from cH) (show _=rows aI (cQ (o++ [i]))from vd (Int.natCast_nonneg i)) ?_;refine St.bQ v21 (λI _=> ?_);refine St.bL (.mk rfl) (.mk rfl) jm I (by rfl) ?_;refine g15 ?_;refine St.aN nv rfl (show _=rows aI (qA g.nodes.length (mj (ao g) f (o++ [i]) ((((ao g).getD i gu).2).take (0))))from rfl) ?_;refine St.aN v21 (show _=(mj (ao g) f (o++ [i]) ((((ao g).getD i gu).2).take (0))).length from rfl) (show _=rows aI (cQ (mj (ao g) f (o++ [i]) ((((ao g).getD i gu).2).take (0))))from rfl) ?_;refine St.pb (ι:=Nat) (κ:=Value) (λk z T=>(29,iv k)::T) (λk z=>[tI e [nv] 35,row nv 3 1 g.nodes.length (rows aI (qA g.nodes.length (mj (ao g) f (o++ [i]) ((((ao g).getD i gu).2).take (k))))),tI l [z] 35,row z 3 1 (mj (ao g) f (o++ [i]) ((((ao g).getD i gu).2).take (k))).length (rows aI (cQ (mj (ao g) f (o++ [i]) ((((ao g).getD i gu).2).take (k))))),tI m [g.nv.1] 30,tI bv [(.func (.func 229) #[] [(tW e),(tW l),(tW m),(tW bv)].toArray)] 144,aD (sl an t.lv.1 t.aW),aD (sl cD g.nv.1 g.nodes),aD (aL cE g.nodes)]) (λk z=>k≤t.aW.length∧z.oneCell'=true∧Cm (ao g) (mj (ao g) f (o++ [i]) ((((ao g).getD i gu).2).take (k)))) (λk z=>t.aW.length-k) 0 v21 (aC.k3 4 27 28) ⟨aP _,I,D⟩ ?_;rintro k z ⟨hk,hz,J⟩;refine g6 ?_;refine St.cq (λW=> ?_) (λW=> ?_)
  ·obtain⟨p,hp⟩:=aF (show k<t.aW.length by omega)
   have K:((ao g).getD i gu).2[k]?=some (fB p):=by rw[A];show(t.aW.map fB)[k]?=_;rw[aw,hp];rfl
   obtain⟨_,L,w⟩:=H.at_ (aa K)
   replace L:0≤p.tqo:=L
   replace w:p.tqo.toNat<(ao g).length:=w
   have M:(((ao g).getD i gu).2).take (k+1)=(((ao g).getD i gu).2).take k++ [fB p]:=aO K
   obtain⟨j,r⟩:∃j:Nat,j=p.tqo.toNat:=⟨_,rfl⟩
   have E:p.tqo=(j:Int):=by omega
   have X:Nh g.nodes.length (mj (ao g) f (o++ [i]) ((((ao g).getD i gu).2).take (k)))≤Nh g.nodes.length (o++ [i]):=HM (λx hx=>(qq (ao g) f _ _).subset hx)
   refine g7 ?_;refine St.ee (Ev.j2 (.mk rfl) hp kY trivial da gX.eq) ?_;refine St.al (λb7=> ?_);refine g3 ?_;refine St.dup (sl cD g.nv.1 g.nodes) ?_;refine St.dup (aL cE g.nodes) ?_;refine g4 ?_;refine St.slot 35 (iv (j:Nat)) rfl (congrArg iv E) ?_;refine St.fg (O (mj (ao g) f (o++ [i]) ((((ao g).getD i gu).2).take (k))) j z hz J zE zE) Wz (.mk rfl) (.ay rfl) rfl ?_;rintro v36 _ ⟨q,F,rfl⟩;refine St.YD ?_
   have G:ka (ao g) f (mj (ao g) f (o++ [i]) ((((ao g).getD i gu).2).take (k))) j=mj (ao g) f (o++ [i]) ((((ao g).getD i gu).2).take (k+1)):=by rw[M,CR];show _=ka (ao g) f _ p.tqo.toNat;rw[←r]
   rw[G];refine g8 ?_;refine St.py (k+1) q ⟨by omega,F,by rw[M,CR];exact Sh H _ _ _ J w⟩
  ·obtain rfl:k=t.aW.length:=by omega
   have Y:(((ao g).getD i gu).2).take t.aW.length=((ao g).getD i gu).2:=dV (by rw[A,aR];exact aQ _)
   rw[Y,←u];refine g4 ?_;refine St.fL ?_;refine St.rV [] [tI e [nv] 35,row nv 3 1 g.nodes.length (rows aI (qA g.nodes.length (ka (ao g) (f+1) o i))),tI l [z] 35,row z 3 1 (ka (ao g) (f+1) o i).length (rows aI (cQ (ka (ao g) (f+1) o i))),tI m [g.nv.1] 30,tI bv [(.func (.func 229) #[] [(tW e),(tW l),(tW m),(tW bv)].toArray)] 144] ?_;exact⟨z,hz,rfl⟩
end Go.Proofs.YtiefglecbgdaiaaGreatDoor
namespace Go.J
open Go Go.Proofs.YtiefglecbgdaiaaGreatDoor
section
variable {P:Program}{n:Nat}{F:Fr}{c:Ctx}{H R:List ai}{ty t e:TypeId}{x y:Operand}{v:Value}{Q:Exit→Act→World→Prop}{ops:Array Oper}{rest:List Oper}{d:Nat}{pos:String}{after:Array Edge}{m k:Nat}{α:Type}
theorem Ev.N7 {Rr:Rp α}{xs:List α}{g:α}{dd:TypeDesc}{sz off:Nat}[hd:sP v H α Rr xs](hx:aX F x (gx v Rr.size k off))(hk:xs[k]?=some g)(ht:P.underlying t=some dd)(f:(match dd with| .struct _| .array _ _=>True|_=>False))
 (h:(P.info? t).map (·.size)=some sz) (p:off+sz≤Rr.size) (q:off<Rr.size):Ev P n F (Mm c H) (.load t x) ty (.agg (((Rr.cells g).drop off).take sz).toArray):= .of_run λa w i hw=>by
 obtain⟨ρ,hm⟩:=hw.out;obtain⟨b,o,h1,l⟩:=E7 hm hd hk (off:=off);rw[h1]at hx
 have m:=eB (P:=P) (w:=w) (b:=b) (off:=o) (L:=((Rr.cells g).drop off).take sz) ht f (by rw[h,cy,ur,Rr.len,gB zE]) (λj u d=>by
  have e:j<sz:=by
   have:=(eh.1 d).1
   rw[cy]at this;omega
  rw[om,aB e,x9]at d
  rw[l j zE];exact d)
 simp[execOp,hx.eval i,Instr.loadAt,Instr.sureAddr,m]
theorem St.xq {Rr:Rp α}{g:α}{sz:Nat}(B:Rr.size=sz){f:Value}{wQ:Nat}{i j:Int}{kl q:IntKind}(hx:aX F x (.int kl i))(hy:aX F y (.int q j))(ht:P.underlying t=some (.slice e))(r:(P.info? e).map (·.size)=some Rr.size)(hz:(P.info? e).bind (·.zero)=some f)(l:(P.info? e).map (·.bytes)=some wQ)
 (hm:i=m) (C:j=m) (D:wQ*m≤281474976710656∧m≤9223372036854775807) (h1:f.cells=(Rr.cells g).toArray) (hd:Nat.ble (d+1) n=true)
 (h:∀b,St n ((d,tO b m m)::F) (Mm c (row (tO b m m) e sz m (rows Rr (List.replicate m g))::H)) (wpList P ops Q rest)):
 St n F (Mm c H) (wpList P ops Q ({dst:=some d,op:= .makeSlice t x y,type:=ty,pos:=pos,after:=after,guard:=none}::rest)):=by
 subst hm C B;refine St.PS (K:=λu H'=>∃b,u= tO b m m∧H'=row (tO b m m) e Rr.size m (rows Rr (List.replicate m g))::H) ?_ hd ?_
 ·intro a w ρ s E
  obtain⟨i,v,R⟩:=dX.1 r;obtain⟨G,I,J⟩:=og r hz l v
  have z:=run_make (P:=P) w t e i f ht v I kl q m m zE zE (by rw[J,←Int.natCast_mul];exact Int.ofNat_le.2 D.1) zE
  have hlen:(rows Rr (List.replicate m g)).length=m*Rr.size:=by rw[fM,nO]
  have L:madeCells f.cells (m*i.size)=(rows Rr (List.replicate m g)).toArray:=by
   rw[G,h1]
   apply Array.ext
   ·simp[madeCells,hlen]
   ·intro k M S
    have A:k<m*Rr.size:=by simpa[madeCells]using M
    have hp:=Rr.pos
    have N:k/Rr.size<m:=Nat.div_lt_of_lt_mul (by rw[Nat.mul_comm];exact A)
    have p:k%Rr.size<Rr.size:=Nat.mod_lt _ hp
    have o:=eP Rr (List.replicate m g) (k/Rr.size) (k%Rr.size) g (by rw[sM,aB N]) p
    have O:k/Rr.size*Rr.size+k%Rr.size=k:=by rw[Nat.mul_comm];exact Nat.div_add_mod k Rr.size
    rw[O,aj (by rw[hlen];exact A),aj (by rw[Rr.len];exact p)]at o
    have o:=Option.some.inj o
    simp only[madeCells,List.getElem_toArray]
    rw[o]
    simp[Rr.len,p]
  simp only[Int.toNat_natCast,L]at z
  refine⟨.value (.slice (some ⟨w.heap.size,0,none⟩) m m),w.alloc (.cells (rows Rr (List.replicate m g)).toArray e),ρ,_,?_,⟨_,.inl rfl,_,rfl,rfl⟩,?_⟩
  ·simp[execOp,hx.eval s,hy.eval s,z]
  ·refine E.GG rfl ⟨rfl,aQ _⟩ rfl (by simp) (λk hk=>RowKit.Below.heap_alloc w _ k hk) (dP.2 ⟨hlen,.inr ⟨w.heap.size,m,_,rfl,aP _,heap_alloc_new w _,aQ _,by unfold maxLen;omega,by simp[hlen],by rw[←hlen];simp⟩⟩) ?_
   intro b l;rw[dF]at l;simp[Value.ownBlock]at l;omega
 ·rintro _ _ ⟨b,rfl,rfl⟩
  exact h b
end
end Go.J
