/-
  Laws of walks through programs, and facts on grammars, trees and queries.
  Conditions: none.
-/
import Derived.Test.YtblifkgpebebmaaGreatDoorGT3
import Derived.Shelf.Spec.TrailingZeros
set_option maxHeartbeats 4000000
set_option maxRecDepth 20000
set_option linter.unusedVariables false
set_option linter.unusedSimpArgs false
namespace Go.Proofs.YtblifkgpebebmaaGreatDoor
open Go Go.J Tryz
theorem U4 {T:List dz}{k q n:Nat}{E:List Nat}(hE:∀j,j<n→E[j]?=some (if j<q then kJ T (k+1) j else kJ T k j))(hl:E.length=n)(hq:q<n)(h:fw T k q=true):
 ∀j,j<n→(E.set q (kJ T k q|||2^k))[j]?=some (if j<q+1 then kJ T (k+1) j else kJ T k j):=λj hj=>by
 by_cases e:q=j
 ·subst e;rw[eP (by omega),aB (by omega),qZ,aB h]
 ·rw[gX e,hE j hj]
  by_cases e2:j<q
  ·rw[aB e2,aB (by omega)]
  ·rw[aA e2,aA (by omega)]
theorem U5 {T:List dz}{k q n:Nat}{E:List Nat}(hE:∀j,j<n→E[j]?=some (if j<q then kJ T (k+1) j else kJ T k j))(h:fw T k q=false):
 ∀j,j<n→E[j]?=some (if j<q+1 then kJ T (k+1) j else kJ T k j):=λj hj=>by
 rw[hE j hj]
 by_cases e:q=j
 ·subst e;rw[aA (by omega),aB (by omega),qZ,aA (by rw[h];decide)]
 ·by_cases e2:j<q
  ·rw[aB e2,aB (by omega)]
  ·rw[aA e2,aA (by omega)]
theorem q9 (u:Value)(ts:List xu)(hT:gy (ts.map cS)):dt Tryz.prog 45 #[u] ([sl qS u ts,aI xy ts].map aF) (λv H'=>∃w1 w2:aY,v= .agg #[w1.1,w2.1]∧H'=[aF (sl ay w1.1 (cn (ts.map cS))),aF (sl ay w2.1 (cr (ts.map cS)))]):=by
 refine dt.body (args:=[u]) 75 Tryz.func45 rfl Tryz.ntmps45 rfl (λc=> ?_);refine St.cast (H':=[aF (sl qS u ts),aF (aI xy ts)]) rfl ?_;refine go ?_
 have yb:=hT.len
 rw[aQ]at yb;refine go ?_;refine St.al (λb2=> ?_);refine g2 ?_;refine St.join (ι:=Nat×Nat×Nat) (λy T=>(3,.pointer (some ⟨y.2.2,0,none⟩))::T) (λy=>[aX y.2.2 (.cells [(.slice (some ⟨y.1,0,none⟩) ts.length ts.length),(.slice (some ⟨y.2.1,0,none⟩) ts.length ts.length)].toArray 100 (0,0)),row (.slice (some ⟨y.1,0,none⟩) ts.length ts.length) 157 1 ts.length (rows ay (List.replicate ts.length 0)),row (.slice (some ⟨y.2.1,0,none⟩) ts.length ts.length) 157 1 ts.length (rows ay (List.replicate ts.length 0)),aX b2 (.cells [(.slice none 0 0),(.slice none 0 0)].toArray 100 (0,0)),aF (sl qS u ts),aF (aI xy ts)]) (λy=>True) (aC.cons 0 rfl (aC.cons 2 rfl aC.nil)) ?_ ?_
 ·refine St.sZ [] mixed (λnp ns=> ?_)
  repeat' first
   |with_reducible refine SW.me ?_
    first
     |refine SW.gd 0 ?_
     |refine SW.gd 1 ?_
     |refine SW.gd 3 ?_
     |refine SW.gd 4 ?_
     |refine SW.dd 6 rfl (λ_=>Ev.build (ps:=[(0,(.tmp 11)),(1,(.tmp 14))]) (bF.bH rfl rfl) (λw=>HZ rfl rfl w)) ?_
     |refine SW.NX (i:=2) (j:=5) (k:=7) (by decide+kernel) rfl rfl rfl ?_ ?_ ?_
     |refine SW.t2 5 7 ?_ ?_
     |refine SW.t1 7 ?_
     |refine SW.t1 8 ?_
     |refine SW.t1 5 ?_
     |refine SW.t2 2 7 ?_ ?_
     |refine SW.t1 2 ?_
     |refine SW.t2 2 5 ?_ ?_
   |with_reducible refine SW.tg 2 ?_
    refine St.pg (m:=ts.length) (.mk rfl) (.mk rfl) uY kH WS WT rfl rfl (by omega) rfl rfl (λpT=> ?_);refine St.aO (.slice (some ⟨pT,0,none⟩) ts.length ts.length) rfl (FH _) ?_;refine g2 ?_;refine SW.go ?_
   |with_reducible refine SW.tg 5 ?_
    refine St.pg (m:=ts.length) (.mk rfl) (.mk rfl) uY kH WS WT rfl rfl (by omega) rfl rfl (λGl=> ?_);refine St.aO (.slice (some ⟨Gl,0,none⟩) ts.length ts.length) rfl (FH _) ?_;refine g2 ?_;refine SW.go ?_
   |with_reducible refine SW.tg 7 ?_
    refine St.al (λb3=> ?_);refine g2 ?_;refine SW.go ?_
   |with_reducible refine SW.tg 8 ?_
    refine g3 ?_;refine SW.go ?_
  all_goals refine SW.dn ?_
  all_goals
   refine go ?_;refine St.mE (pT,Gl,b3) trivial
 ·intro y fy
  refine g9 ?_;refine St.vo (ι:=Nat) (κ:=List Nat×List Nat) (λk z T=>(18,iv k)::T) (λk z=>[aX y.2.2 (.cells [(.slice (some ⟨y.1,0,none⟩) ts.length ts.length),(.slice (some ⟨y.2.1,0,none⟩) ts.length ts.length)].toArray 100 (0,0)),row (.slice (some ⟨y.1,0,none⟩) ts.length ts.length) 157 1 ts.length (rows ay z.1),row (.slice (some ⟨y.2.1,0,none⟩) ts.length ts.length) 157 1 ts.length (rows ay z.2),aX b2 (.cells [(.slice none 0 0),(.slice none 0 0)].toArray 100 (0,0)),aF (sl qS u ts),aF (aI xy ts)]) (λk z=>k≤ts.length∧(z.1.length=ts.length∧∀i,i<k→z.1[i]?=some (KF (ts.map cS) i))∧(z.2.length=ts.length∧∀j,j<ts.length→z.2[j]?=some (kJ (ts.map cS) k j))) (λk z=>ts.length-k) 0 (List.replicate ts.length 0,List.replicate ts.length 0) (aC.cons 0 rfl (aC.cons 2 rfl (aC.cons 3 rfl (aC.cons 16 rfl (aC.cons 17 rfl aC.nil))))) ⟨aR _,⟨jI,λi hi=>absurd hi (by omega)⟩,jI,λj hj=>by show(List.replicate ts.length 0)[j]?=_;rw[r9,aB hj];rfl⟩ ?_;rintro k ⟨U,D⟩ ⟨hk,⟨hUl,hU⟩,hDl,hD⟩
  dsimp only at hUl hU hDl hD⊢
  refine g6 ?_;refine St.cq (λpc=> ?_) (λpc=> ?_)
  ·obtain⟨t,ht⟩:=aE (show k<ts.length by omega)
   have rz:=ab ht
   have hTt:(ts.map cS)[k]?=some (cS t):=by rw[bE,ht];rfl
   have Yn:=hT.par k _ hTt
   refine St.cL xy ts (x:=t) rz ?_;refine St.eT (sl aL t.pv.1 t.parents) [xy t] (λρ h=>h _ (aU ..)) ?_;refine St.wf t.pv.1 (λhpw yW=> ?_);refine g8 ?_;refine St.ee (Ev.jj (.mk rfl) ht Tryz.underlying156 trivial Js iY.eq) ?_;refine St.al (λb5=> ?_);refine g5 ?_;refine St.cx [row (.slice (some ⟨y.1,0,none⟩) ts.length ts.length) 157 1 ts.length (rows ay U)] mixed (λnp ns=> ?_);refine SW.gd 0 ?_;refine SW.gd 1 ?_;refine SW.gd 2 ?_;refine SW.gd 3 ?_;refine SW.dd 4 rfl (λ_=>Ev.aeT (k:=k) (.mk rfl) (.mk rfl) (by omega)) ?_;refine SW.dd 5 rfl (λ_=>Ev.mN (k:=k) rfl (.mk rfl) (.mk rfl) uY kH (by omega) (by omega)) ?_;refine SW.t1 6 ?_;refine St.bj (.mk rfl) (.mk rfl) kH rfl (by omega) (by decide) ?_;refine St.aO (.slice (some ⟨y.1,0,none⟩) ts.length ts.length) rfl tK ?_;refine g2 ?_;refine SW.go ?_;refine SW.dn ?_;refine g11 ?_;refine St.vo (ι:=Nat) (κ:=List Nat) (λq V T=>(32,iv q)::T) (λq V=>[row (.slice (some ⟨y.1,0,none⟩) ts.length ts.length) 157 1 ts.length (rows ay V),aX y.2.2 (.cells [(.slice (some ⟨y.1,0,none⟩) ts.length ts.length),(.slice (some ⟨y.2.1,0,none⟩) ts.length ts.length)].toArray 100 (0,0)),row (.slice (some ⟨y.2.1,0,none⟩) ts.length ts.length) 157 1 ts.length (rows ay D),aX b2 (.cells [(.slice none 0 0),(.slice none 0 0)].toArray 100 (0,0)),aF (sl aL t.pv.1 t.parents),aF (sl qS u ts),aF (aI xy ts)]) (λq V=>q≤t.parents.length∧V.length=ts.length∧(∀i,i<k→V[i]?=some (KF (ts.map cS) i))∧V[k]?=some (Yk (ts.map cS) k (t.parents.take q))) (λq V=>t.parents.length-q) 0 (U.set k (2^k)) (aC.cons 0 rfl (aC.cons 2 rfl (aC.cons 3 rfl (aC.cons 4 rfl (aC.cons 16 rfl (aC.cons 17 rfl (aC.cons 18 rfl (aC.cons 30 rfl (aC.cons 31 rfl aC.nil))))))))) ⟨aR _,by rw[cG];exact hUl,λi hi=>by rw[gX (by omega)];exact hU i hi,by rw[eP (by omega)];rfl⟩ ?_;rintro q V ⟨hq,hVl,hV,Yo⟩;refine g6 ?_;refine St.cq (λD1=> ?_) (λD1=> ?_)
   ·obtain⟨p,hp⟩:=aE (show q<t.parents.length by omega)
    have hpp:=Yn p (ab hp)
    refine g11 ?_;refine St.cx [row (.slice (some ⟨y.1,0,none⟩) ts.length ts.length) 157 1 ts.length (rows ay V)] mixed (λnp ns=> ?_);refine SW.gd 0 ?_;refine SW.gd 1 ?_;refine SW.gd 2 ?_;refine SW.dd 3 rfl (λ_=>Ev.mN (k:=k) rfl (.mk rfl) (.mk rfl) uY kH (by omega) (by omega)) ?_;refine SW.gd 5 ?_;refine SW.gd 6 ?_;refine SW.gd 7 ?_;refine SW.dd 8 rfl (λ_=>Ev.mN (k:=p.toNat) rfl (.mk rfl) (.mk rfl) uY kH (by omega) (by omega)) ?_;refine SW.t2 4 9 ?_ ?_
    focus
     refine St.ee (Ev.cB (.mk rfl) l5 trivial (by omega) (o7 Yo)) ?_;refine g2 ?_;refine SW.go ?_;refine SW.t1 9 ?_;refine St.ee (Ev.cB (.mk rfl) l5 trivial (by omega) (o7 (hV p.toNat (by omega)))) ?_;refine g2 ?_;refine SW.go ?_;refine SW.dd 10 rfl (λ_=>Ev.orG (.mk rfl) (.mk rfl) ⟨Pc hT (by omega) (λp hp=>Yn p (xO hp)),ur hT (by omega)⟩) ?_;refine SW.dd 11 rfl (λ_=>Ev.mN (k:=k) rfl (.mk rfl) (.mk rfl) uY kH (by omega) (by omega)) ?_;refine SW.t1 12 ?_;refine St.bj (.mk rfl) (.mk rfl) kH rfl (by omega) (by decide) ?_;refine St.aO (.slice (some ⟨y.1,0,none⟩) ts.length ts.length) rfl tK ?_;refine g2 ?_;refine SW.go ?_;refine SW.dn ?_
    rotate_left
    focus
     refine St.ee (Ev.cB (.mk rfl) l5 trivial (by omega) (o7 (hV p.toNat (by omega)))) ?_;refine g2 ?_;refine SW.go ?_;refine SW.t1 4 ?_;refine St.ee (Ev.cB (.mk rfl) l5 trivial (by omega) (o7 Yo)) ?_;refine g2 ?_;refine SW.go ?_;refine SW.dd 10 rfl (λ_=>Ev.orG (.mk rfl) (.mk rfl) ⟨Pc hT (by omega) (λp hp=>Yn p (xO hp)),ur hT (by omega)⟩) ?_;refine SW.dd 11 rfl (λ_=>Ev.mN (k:=k) rfl (.mk rfl) (.mk rfl) uY kH (by omega) (by omega)) ?_;refine SW.t1 12 ?_;refine St.bj (.mk rfl) (.mk rfl) kH rfl (by omega) (by decide) ?_;refine St.aO (.slice (some ⟨y.1,0,none⟩) ts.length ts.length) rfl tK ?_;refine g2 ?_;refine SW.go ?_;refine SW.dn ?_
    all_goals
     refine g7 ?_;refine St.wo (q+1) (V.set k (Yk (ts.map cS) k (t.parents.take q)|||KF (ts.map cS) p.toNat)) ⟨by omega,by rw[cG];exact hVl,λi hi=>by rw[gX (by omega)];exact hV i hi,by rw[eP (by omega),ai hp,PZ]⟩
   ·rw[fZ (by omega)]at Yo
    replace Yo:V[k]?=some (KF (ts.map cS) k):=by rw[Pa hT hTt];exact Yo
    refine g13 ?_;refine St.vo (ι:=Nat) (κ:=List Nat) (λq E T=>(51,iv q)::T) (λq E=>[row (.slice (some ⟨y.2.1,0,none⟩) ts.length ts.length) 157 1 ts.length (rows ay E),row (.slice (some ⟨y.1,0,none⟩) ts.length ts.length) 157 1 ts.length (rows ay V),aX y.2.2 (.cells [(.slice (some ⟨y.1,0,none⟩) ts.length ts.length),(.slice (some ⟨y.2.1,0,none⟩) ts.length ts.length)].toArray 100 (0,0)),aX b2 (.cells [(.slice none 0 0),(.slice none 0 0)].toArray 100 (0,0)),aF (sl qS u ts),aF (aI xy ts)]) (λq E=>q≤ts.length∧E.length=ts.length∧∀j,j<ts.length→E[j]?=some (if j<q then kJ (ts.map cS) (k+1) j else kJ (ts.map cS) k j)) (λq E=>ts.length-q) 0 D (aC.cons 0 rfl (aC.cons 2 rfl (aC.cons 3 rfl (aC.cons 4 rfl (aC.cons 16 rfl (aC.cons 17 rfl (aC.cons 18 rfl (aC.cons 50 rfl aC.nil)))))))) ⟨aR _,hDl,λj hj=>by rw[aA (by omega)];exact hD j hj⟩ ?_;rintro q E ⟨hq,hEl,hE⟩;refine g6 ?_;refine St.cq (λSH=> ?_) (λSH=> ?_)
    ·have hEq:=hE q (by omega)
     rw[aA (by omega)]at hEq;refine g16 ?_;refine St.ee (Ev.cB (.mk rfl) l5 trivial (by omega) (o7 Yo)) ?_;refine go ?_;refine St.ee (Ev.Y2 (q) _ rfl (.mk rfl) (.mk rfl) (by omega)) ?_;refine St.ee (Ev.abZ (b:=1) 1 2 (by decide) (.mk rfl) (.mk rfl) (⟨(uG (Nat.div_le_self _ _) (ur hT (by omega))),by decide,by decide⟩)) ?_;refine go ?_;refine St.slot 62 (.bool (fw (ts.map cS) k q)) rfl (congrArg Value.bool (KH _ _)) ?_;refine g2 ?_;refine St.cond _ rfl (λPg=> ?_) (λPg=> ?_)
     ·skip
      refine St.cx [row (.slice (some ⟨y.2.1,0,none⟩) ts.length ts.length) 157 1 ts.length (rows ay E)] mixed (λnp ns=> ?_);refine SW.gd 0 ?_;refine SW.gd 1 ?_;refine SW.gd 2 ?_;refine SW.dd 3 rfl (λ_=>Ev.mN (k:=q) rfl (.mk rfl) (.mk rfl) uY kH (by omega) (by omega)) ?_;refine SW.gd 5 ?_;refine SW.dd 6 rfl (λ_=>Ev.aeT (k:=k) (.mk rfl) (.mk rfl) (by omega)) ?_;refine SW.t1 4 ?_;refine St.ee (Ev.cB (.mk rfl) l5 trivial (by omega) (o7 hEq)) ?_;refine g2 ?_;refine SW.go ?_;refine SW.dd 7 rfl (λ_=>Ev.orG (.mk rfl) (.mk rfl) ⟨mw _ _ (by omega),(show 2^k<2^64 from xR (by decide) (by omega))⟩) ?_;refine SW.dd 8 rfl (λ_=>Ev.mN (k:=q) rfl (.mk rfl) (.mk rfl) uY kH (by omega) (by omega)) ?_;refine SW.t1 9 ?_;refine St.bj (.mk rfl) (.mk rfl) kH rfl (by omega) (by decide) ?_;refine St.aO (.slice (some ⟨y.2.1,0,none⟩) ts.length ts.length) rfl tK ?_;refine g2 ?_;refine SW.go ?_;refine SW.dn ?_;refine g7 ?_;refine St.wo (q+1) (E.set q (kJ (ts.map cS) k q|||2^k)) ⟨by omega,by rw[cG];exact hEl,U4 hE hEl (by omega) Pg⟩
     ·skip
      refine g8 ?_;refine St.wo (q+1) E ⟨by omega,hEl,U5 hE Pg⟩
    ·obtain rfl:q=ts.length:=by omega
     replace hE:∀j,j<ts.length→E[j]?=some (kJ (ts.map cS) (k+1) j):=λj hj=>by rw[hE j hj,aB hj]
     refine g11 ?_;refine St.wo (k+1) (V,E) ⟨by omega,⟨hVl,λi hi=>by rcases e7 i k with h|h;exact hV i h;rw[show i=k by omega];exact Yo⟩,hEl,hE⟩
  ·obtain rfl:k=ts.length:=by omega
   refine g12 ?_
   have hU2:U=cn (ts.map cS):=by unfold cn;rw[aQ];exact yZ hUl hU
   have hD2:D=cr (ts.map cS):=by unfold cr;rw[aQ];exact yZ hDl hD
   refine St.bZ (.slice (some ⟨y.1,0,none⟩) ts.length ts.length) ay U rfl hUl.symm (λa ha=>by obtain⟨i,hi,rfl⟩:=ct.1 (hU2▸ha);exact ur hT (by have:=cy.1 hi;rw[aQ]at this;omega)) ?_;refine St.bZ (.slice (some ⟨y.2.1,0,none⟩) ts.length ts.length) ay D rfl hDl.symm (λa ha=>by obtain⟨i,hi,rfl⟩:=ct.1 (hD2▸ha);exact mw _ _ (by rw[aQ];omega)) ?_;rw[hU2,hD2];refine St.rV [_] [aF (sl ay (.slice (some ⟨y.1,0,none⟩) ts.length ts.length) (cn (ts.map cS))),aF (sl ay (.slice (some ⟨y.2.1,0,none⟩) ts.length ts.length) (cr (ts.map cS)))] ?_;exact⟨⟨(.slice (some ⟨y.1,0,none⟩) ts.length ts.length),rfl⟩,⟨(.slice (some ⟨y.2.1,0,none⟩) ts.length ts.length),rfl⟩,rfl,rfl⟩
end Go.Proofs.YtblifkgpebebmaaGreatDoor
namespace Go.Proofs
open Go.Shelf
def Tryz.I6:Go.Shelf.Ren:=⟨λ|29=>110|n=>n,λ|0=>0|3=>3|4=>4|5=>5|22=>157|25=>218|54=>257|n=>n,λ|1=>3|n=>n⟩
theorem Tryz.Yp:Go.Proofs.Lays7.n29 Tryz.prog Tryz.I6:={
 mixed:=by kernel_rfl
 f29:=Tryz.func110.trans (congrArg some (by kernel_rfl))
 t0:=WJ
 a0:=Tryz.isAgg0
 z0:=Tryz.sizeOf0
 v0:=Tryz.zeroValue0
 i0:=by kernel_rfl
 t3:=eN
 a3:=Tryz.isAgg3
 z3:=Tryz.sizeOf3
 v3:=Tryz.zeroValue3
 i3:=by kernel_rfl
 t4:=Eb
 a4:=Tryz.isAgg4
 z4:=Tryz.sizeOf4
 v4:=Tryz.zeroValue4
 i4:=by kernel_rfl
 t5:=Dn
 a5:=Tryz.isAgg5
 z5:=Tryz.sizeOf5
 v5:=Tryz.zeroValue5
 i5:=by kernel_rfl
 t22:=l5
 a22:=Tryz.isAgg157
 z22:=Tryz.sizeOf157
 v22:=Tryz.zeroValue157
 i22:=by kernel_rfl
 t25:=yG
 a25:=Tryz.isAgg218
 z25:=Tryz.sizeOf218
 v25:=Tryz.zeroValue218
 i25:=by kernel_rfl
 t54:=Tryz.underlying257
 a54:=Tryz.isAgg257
 z54:=Tryz.sizeOf257
 g1:=by kernel_rfl}
end Go.Proofs
namespace Go.Proofs.YtblifkgpebebmaaGreatDoor
open Go Go.J Tryz
abbrev tz:df:=df.of (TabAt 3 Lib.deBruijn64tab)
theorem dA.of_same {P:Program}{f:FuncId}{args:Array Value}{X:World→Prop}{v:Value}(h:∀w,X w→Calls P f args w λe w'=>e= .returned v∧w'=w):dA P f args [df.of X] v:=by
 intro w ρ hs
 have hx:X w:=dm.1 (hs.dK (aF (df.of X)) (aU ..)) w hs.fits
 refine(h w hx).mono ?_;rintro e w' ⟨rfl,rfl⟩;exact⟨v,[],rfl,rfl,Mm.mk (ρ:=ρ) ⟨rfl,⟨rfl,λ_=>aW _⟩,rfl,aW _,λ_ _ _=>rfl,hs.fits,Ro.le_refl _,λ_ _ _=>rfl,λ_ h=>by simp at h,λ_ h=>by simp at h,.nil⟩⟩
theorem KI (x:Nat)(hx:x<18446744073709551616):dA Tryz.prog 110 #[uv x] [tz] (iv (Lib.ctz 64 x)):=
 dA.of_same λw hw=>Any7.bits_TrailingZeros64 Tryz.Yp x hx w (λ_=>hw)
theorem FI {x:Nat}(h0:x≠0)(h:x<18446744073709551616):x.testBit (Lib.ctz 64 x)=true∧∀i,i<Lib.ctz 64 x→x.testBit i=false:=by
 obtain⟨m,hm,_⟩:=Lib.ctzFrom_spec 64 x (by omega) h
 have e:Lib.ctz 64 x=Lib.ctzFrom 64 x:=by unfold Lib.ctz;rw[aA h0]
 rw[e]
 generalize Lib.ctzFrom 64 x=k at hm
 subst hm;refine⟨?_,λi hi=> ?_⟩
 ·rw[Nat.testBit_two_pow_mul,fJ,dH (aW k),Bool.true_and,Nat.testBit_zero]
  exact dH (by omega)
 ·rw[Nat.testBit_two_pow_mul,eL (by omega),Bool.false_and]
abbrev jS (w1 w2:aY):Value:= .agg #[w1.1,w2.1]
theorem Ph (w1 w2:aY)(T:List dz)(hT:gy T)(i j:Nat)(hi:i<T.length)(hj:j<T.length):dA Tryz.prog 84 #[jS w1 w2,iv i,iv j] [sl ay w1.1 (cn T),sl ay w2.1 (cr T)] (.bool (fw T i j)):=by
 refine dA.mZ (args:=[jS w1 w2,iv i,iv j]) 16 Tryz.func84 rfl Tryz.ntmps84 rfl (λc=> ?_);refine go ?_
 have yb:=hT.len
 have hul:=Pe T
 refine go ?_;refine St.cz (.mk rfl) rfl (λb3=> ?_);refine g9 ?_;refine St.ee (Ev.ld1 (.mk rfl) (Pd hi) l5 trivial rfl) ?_;refine go ?_;refine St.ee (Ev.Y2 (j) _ rfl (.mk rfl) (.mk rfl) (by omega)) ?_;refine St.ee (Ev.abZ (b:=1) 1 2 (by decide) (.mk rfl) (.mk rfl) (⟨(uG (Nat.div_le_self _ _) (ur hT (by omega))),by decide,by decide⟩)) ?_;refine go ?_;refine St.slot 15 (.bool (fw T i j)) rfl (congrArg Value.bool (KH _ _)) ?_;refine g4 ?_;refine St.rV [_] [] ?_;rfl
theorem M6 (w1 w2:aY)(T:List dz)(hT:gy T)(a b:Nat)(ha:a<T.length)(hb:b<T.length):dt Tryz.prog 80 #[jS w1 w2,iv a,iv b] ([sl ay w1.1 (cn T),sl ay w2.1 (cr T),tz].map aF) (λv H'=>∃(m:Int) (ok:Bool),v= .tuple #[iv m,.bool ok,.bool (jO T a b)]∧H'=[]):=by
 refine dt.body (args:=[jS w1 w2,iv a,iv b]) 33 Tryz.func80 rfl Tryz.ntmps80 rfl (λc=> ?_);refine St.cast (H':=[aF (sl ay w1.1 (cn T)),aF (sl ay w2.1 (cr T)),aF (tz)]) rfl ?_;refine go ?_
 have yb:=hT.len
 have I7:=FF T
 refine go ?_;refine St.cz (.mk rfl) rfl (λb3=> ?_);refine g6 ?_;refine St.rq mixed (by kernel_rfl) (Mm.drawn _ _) ?_;refine g4 ?_;refine Sq.ee (Ev.ld1 (.mk rfl) (o5 ha) l5 trivial rfl) ?_;refine g4 ?_;refine Sq.ee (Ev.ld1 (.mk rfl) (o5 hb) l5 trivial rfl) ?_;refine Sq.ee (Ev.aeS (.mk rfl) (.mk rfl) ⟨mw _ _ yb,mw _ _ yb⟩) ?_;refine g5 ?_;refine St.slot 9 (uv (both T a b)) rfl rfl ?_
 have I8:both T a b<18446744073709551616:=uG Nat.and_le_left (mw _ _ yb)
 refine g5 ?_;refine St.cq (λyU=> ?_) (λyU=> ?_)
 ·have h0:both T a b=0:=by omega
  refine g9 ?_;refine St.rV [_,_,_] [] ?_;exact⟨0,false,by rw[ya h0];rfl,rfl⟩
 ·have h0:both T a b≠0:=by omega
  obtain⟨kV,kS⟩:=FI h0 I8
  have xi:Lib.ctz 64 (both T a b)<T.length:=by rw[o6,wF,fS]at kV;exact kV.1
  have M7:=FG hT kV kS
  refine g5 ?_;refine St.ee (Ev.call (KI (both T a b) I8) WU (.bB rfl)) ?_;refine g9 ?_;refine St.ee (Ev.cZ (k:=(Lib.ctz 64 (both T a b))) (.mk rfl) (.mk rfl) uY kH (by omega) (by omega)) ?_;refine St.ee (Ev.ld1 (.mk rfl) (o5 xi) l5 trivial rfl) ?_;refine g4 ?_;refine St.cq (λuq=> ?_) (λuq=> ?_)
  ·rw[dH (by omega)]at M7
   refine g9 ?_;refine St.rV [_,_,_] [] ?_;exact⟨0,false,by rw[M7];rfl,rfl⟩
  ·rw[eL (by omega)]at M7
   refine g11 ?_;refine St.rV [_,_,_] [] ?_;exact⟨(Lib.ctz 64 (both T a b):Nat),true,by rw[M7];rfl,rfl⟩
theorem Pj {T:List dz}{q k:Nat}(hk:k<T.length)(hq:q<k)(h:jO T q k=true)(hb:∀b,b<k→(List.range b).any (λa=>jO T a b)=false):vk T=some k:=by
 unfold vk;rw[List.find?_range_eq_some];refine⟨xN.2 ⟨q,cy.2 hq,h⟩,cy.2 hk,λj hj=>by rw[hb j hj];rfl⟩
theorem Pk {T:List dz}(hb:∀b,b<T.length→(List.range b).any (λa=>jO T a b)=false):vk T=none:=by
 unfold vk;rw[List.find?_eq_none]
 intro b h;rw[hb b (cy.1 h)];decide
theorem D2 {p:Nat→Bool}{n:Nat}(h:∀a,a<n→p a=false):(List.range n).any p=false:=by
 rw[List.any_eq_false];intro a ha;rw[h a (cy.1 ha)];decide
theorem FJ {n:Int}{l:List oO}{k:Nat}{t:oO}(ht:l[k]?=some t)(known:List bI):lj n known k (l.drop k)=if isName t.1=false then(10,(k:Int))else if t.1∈known then(7,(k:Int))else if t.2.1<0∨n≤t.2.1∨t.2.2<0∨n≤t.2.2 then(3,(k:Int))
 else lj n (known++ [t.1]) (k+1) (l.drop (k+1)):=by rw[an ht,lj]
theorem I9 {n:Int}{l:List oO}{k:Nat}(h:l.length≤k)(known:List bI):lj n known k (l.drop k)=(0,0):=by rw[fX h,lj]
theorem M8 {T:List dz}{Fs:List oO}(h:T.length=0∨60<T.length∨40<Fs.length):ij T Fs=(2,-1):=by
 unfold ij
 by_cases h1:40<Fs.length
 ·rw[aB h1]
 ·have e:AA T=(2,-1):=by unfold AA;rw[aB (by omega)]
  rw[aA h1,e];rfl
theorem Pm {T:List dz}{Fs:List oO}(h:¬40<Fs.length)(h2:(AA T).1≠0):ij T Fs=AA T:=by unfold ij;rw[aA h,aB h2]
theorem Pn {T:List dz}{Fs:List oO}{b:Nat}(h:¬40<Fs.length)(h2:¬(AA T).1≠0)(h3:vk T=some b):ij T Fs=(16,(b:Int)):=by unfold ij;rw[aA h,aA h2,h3]
theorem Po {T:List dz}{Fs:List oO}(h:¬40<Fs.length)(h2:¬(AA T).1≠0)(h3:vk T=none):ij T Fs=lj T.length [] 0 Fs:=by unfold ij;rw[aA h,aA h2,h3]
theorem D3 (tv xv:aY)(ts:List xu)(fs:List j8):dA Tryz.prog 43 #[.agg #[tv.1,xv.1]] [sl qS tv.1 ts,aI xy ts,sl gZ xv.1 fs,tz] (fv (ij (ts.map cS) (fs.map fi))):=by
 refine dA.JQ (args:=[.agg #[tv.1,xv.1]]) 122 Tryz.func43 rfl Tryz.ntmps43 rfl (λc=> ?_);refine go ?_
 have M9:(ts.map cS).length=ts.length:=aQ ..
 have Pp:(fs.map fi).length=fs.length:=aQ ..
 refine St.wf tv.1 (λWt Yh=> ?_);refine St.wf xv.1 (λhfw Ck=> ?_);refine go ?_;refine St.cz (.mk rfl) rfl (λb1=> ?_);refine St.al (λb2=> ?_);refine g10 ?_;refine St.gf _ rfl rfl (λhg=>Ev.dB (.mk rfl) ua) rfl ?_;refine St.gf _ rfl rfl (λhg=>Ev.kU (aZ.gv rfl hg) yD trivial (by rfl)) rfl ?_;refine St.gf _ rfl rfl (λhg=>Ev.fm (aZ.gv rfl hg) yD) rfl ?_;refine St.gf _ rfl rfl (λhg=>Ev.gtr (aZ.gv rfl hg) (.mk rfl)) rfl ?_;refine g2 ?_;refine St.gf _ rfl rfl (λhg=>Ev.dB (.mk rfl) Cn) rfl ?_;refine St.gf _ rfl rfl (λhg=>Ev.kU (aZ.gv rfl hg) HT trivial (by rfl)) rfl ?_;refine St.gf _ rfl rfl (λhg=>Ev.fm (aZ.gv rfl hg) HT) rfl ?_;refine St.gf _ rfl rfl (λhg=>Ev.gtr (aZ.gv rfl hg) (.mk rfl)) rfl ?_;refine g3 ?_;refine St.cq (λw6=> ?_) (λw6=> ?_)
 ·have hf:ij (ts.map cS) (fs.map fi)=(2,-1):=M8 (by omega)
  refine g2 ?_;refine St.ee (Ev.call (bq 2 (-1)) yI (.bH rfl rfl)) ?_;refine g5 ?_;refine St.rV [_] [] ?_;exact congrArg fv hf.symm
 ·have Pq:¬40<(fs.map fi).length:=by omega
  refine g7 ?_;refine St.ee (Ev.call (I4 tv.1 ts) ahY (.bB rfl)) ?_;refine St.al (λb3=> ?_);refine g10 ?_;refine St.cond _ rfl (λKA=> ?_) (λKA=> ?_)
  ·skip
   have hb:(AA (ts.map cS)).1≠0:=by simpa using KA
   refine g8 ?_;refine St.rV [_] [] ?_;exact congrArg fv (Pm Pq hb).symm
  ·skip
   have hb:¬(AA (ts.map cS)).1≠0:=by simpa using KA
   have hT:=(I1 (iR.1 hb)).2.2
   have yb:=hT.len
   refine g6 ?_;refine St.fE (q9 tv.1 ts hT) YM (.bB rfl) rfl ?_;rintro v41 _ ⟨w1,w2,rfl,rfl⟩;refine St.lZ ?_;refine St.al (λb4=> ?_);refine g13 ?_;refine St.lS (ι:=Nat) (λk T=>(45,iv k)::T) (λk=>k≤ts.length∧∀b,b<k→(List.range b).any (λa=>jO (ts.map cS) a b)=false) (λk=>ts.length-k) 0 (aC.cons 1 rfl (aC.cons 2 rfl (aC.cons 4 rfl (aC.cons 44 rfl aC.nil)))) ⟨aR _,λb hb=>absurd hb (by omega)⟩ ?_;intro k fy;obtain⟨hk,Gh⟩:=fy;refine g6 ?_;refine St.cq (λh46=> ?_) (λh46=> ?_)
   ·refine g17 ?_
    refine St.lS (ι:=Nat) (λq T=>(49,iv q)::T) (λq=>q≤k∧∀a,a<q→jO (ts.map cS) a k=false) (λq=>k-q) 0 (aC.cons 1 rfl (aC.cons 2 rfl (aC.cons 4 rfl (aC.cons 5 rfl (aC.cons 44 rfl (aC.cons 45 rfl (aC.cons 48 rfl aC.nil))))))) ⟨aR _,λa ha=>absurd ha (by omega)⟩ ?_;intro q fy;obtain⟨hq,pb⟩:=fy;refine g6 ?_;refine St.cq (λN0=> ?_) (λN0=> ?_)
    ·refine g15 ?_
     refine St.fE (M6 w1 w2 (ts.map cS) hT q k (by omega) (by omega)) YN (.eZ rfl rfl rfl) rfl ?_;rintro v56 _ ⟨mt,ok,rfl,rfl⟩;refine St.abL ?_;refine g14 ?_;refine St.cond _ rfl (λSI=> ?_) (λSI=> ?_)
     ·skip
      have hf:=Pn (Fs:=fs.map fi) Pq hb (Pj (by omega) (by omega) SI Gh)
      refine g3 ?_;refine St.ee (Ev.call (bq 16 k) yI (.bH rfl rfl)) ?_;refine g13 ?_;refine St.rV [_] [] ?_;exact congrArg fv hf.symm
     ·skip
      refine g8 ?_;refine St.aS (q+1) ⟨by omega,λa ha=>by rcases e7 a q with h|h;exact pb a h;rw[show a=q by omega];exact SI⟩
    ·rw[show q=k by omega]at pb
     refine g11 ?_;refine St.aS (k+1) ⟨by omega,λb hb=>by rcases e7 b k with h|h;exact Gh b h;rw[show b=k by omega];exact D2 pb⟩
   ·have hkt:k=ts.length:=by omega
    have MA:=Po Pq hb (Pk (by rw[M9,←hkt];exact Gh))
    rw[M9]at MA;refine g7 ?_;refine St.makeMap mkStr rfl (λb65=> ?_);refine g13 ?_;refine St.vo (ι:=Nat) (κ:=List (bI×Value)) (λk m T=>(69,iv k)::T) (λk m=>[aX b65 (dh mkStr m),aX b2 (.cells [iv 0,iv 0].toArray 35 (0,0)),aX b1 (.cells [tv.1,xv.1].toArray 25 (0,0)),aF (sl qS tv.1 ts),aF (aI xy ts),aF (sl gZ xv.1 fs)]) (λk m=>k≤fs.length∧ij (ts.map cS) (fs.map fi)=lj ts.length ((fs.take k).map j8.name) k ((fs.map fi).drop k)∧M3 m ((fs.take k).map j8.name)) (λk m=>fs.length-k) 0 [] (aC.cons 1 rfl (aC.cons 2 rfl (aC.cons 10 rfl (aC.cons 67 rfl (aC.cons 68 rfl aC.nil))))) ⟨aR _,MA,M3.nil⟩ ?_;rintro k m ⟨hk,hv,wT⟩;refine g6 ?_;refine St.cq (λPL=> ?_) (λPL=> ?_)
    ·obtain⟨t,ht⟩:=aE (show k<fs.length by omega)
     have rz:=ab ht
     have ei:=FJ (n:=ts.length) (l:=fs.map fi) (k:=k) (t:=fi t) (by rw[bE,ht];rfl) ((fs.take k).map j8.name)
     rw[←hv]at ei
     have KC:t.name.length≤9223372036854775807:=by have:=(hfw t rz).1;simp only[xq]at this;omega
     refine g8 ?_;refine St.ee (Ev.jj (.mk rfl) ht Tryz.underlying135 trivial Ed iY.eq) ?_;refine St.al (λIA=> ?_);refine g9 ?_;refine St.ee (Ev.call (qX t.name KC) TV (.bB rfl)) ?_;refine g3 ?_;refine St.cq (λSJ=> ?_) (λSJ=> ?_)
     ·rw[aB (show isName (fi t).1=false from(by simpa using SJ:isName t.name=false))]at ei
      refine g3 ?_;refine St.ee (Ev.call (bq 10 k) yI (.bH rfl rfl)) ?_;refine g10 ?_;refine St.rV [_] [] ?_;exact congrArg fv ei.symm
     ·rw[aA (show ¬isName (fi t).1=false from(by simpa using SJ:¬isName t.name=false))]at ei
      refine g8 ?_;refine St.ee (Ev.sY mkStr (k:=t.name) (.mk rfl) (.mk rfl) pL (by exact sK) jA) ?_;refine g3 ?_;refine St.slot 86 (.bool (decide (t.name∈(fs.take k).map j8.name))) rfl (congrArg Value.bool (wT t.name)) ?_;refine g9 ?_;refine St.cq (λh87=> ?_) (λh87=> ?_)
      ·rw[aB (show(fi t).1∈(fs.take k).map j8.name from h87)]at ei
       refine g3 ?_;refine St.ee (Ev.call (bq 7 k) yI (.bH rfl rfl)) ?_;refine g10 ?_;refine St.rV [_] [] ?_;exact congrArg fv ei.symm
      ·rw[aA (show ¬(fi t).1∈(fs.take k).map j8.name from h87)]at ei
       refine g8 ?_;refine St.mapUpdate mkStr (k:=t.name) (.mk rfl) (.mk rfl) (.mk rfl) pL (by exact sK) ?_;refine g8 ?_;refine St.gf _ rfl rfl (λhg=>Ev.dB (.mk rfl) Co) rfl ?_;refine St.gf _ rfl rfl (λhg=>Ev.kU (aZ.gv rfl hg) eN trivial (by rfl)) rfl ?_;refine St.gf _ rfl rfl (λhg=>Ev.dB (.mk rfl) ua) rfl ?_;refine St.gf _ rfl rfl (λhg=>Ev.kU (aZ.gv rfl hg) yD trivial (by rfl)) rfl ?_;refine St.gf _ rfl rfl (λhg=>Ev.fm (aZ.gv rfl hg) yD) rfl ?_;refine St.gf _ rfl rfl (λhg=>Ev.geq (aZ.gv rfl hg) (aZ.gv rfl hg)) rfl ?_;refine g2 ?_;refine St.gf _ rfl rfl (λhg=>Ev.dB (.mk rfl) Cp) rfl ?_;refine St.gf _ rfl rfl (λhg=>Ev.kU (aZ.gv rfl hg) eN trivial (by rfl)) rfl ?_;refine St.gf _ rfl rfl (λhg=>Ev.lss (aZ.gv rfl hg) (.mk rfl)) rfl ?_;refine g2 ?_;refine St.gf _ rfl rfl (λhg=>Ev.dB (.mk rfl) Cp) rfl ?_;refine St.gf _ rfl rfl (λhg=>Ev.kU (aZ.gv rfl hg) eN trivial (by rfl)) rfl ?_;refine St.gf _ rfl rfl (λhg=>Ev.dB (.mk rfl) ua) rfl ?_;refine St.gf _ rfl rfl (λhg=>Ev.kU (aZ.gv rfl hg) yD trivial (by rfl)) rfl ?_;refine St.gf _ rfl rfl (λhg=>Ev.fm (aZ.gv rfl hg) yD) rfl ?_;refine St.gf _ rfl rfl (λhg=>Ev.geq (aZ.gv rfl hg) (aZ.gv rfl hg)) rfl ?_;refine g3 ?_;refine St.cq (λPr=> ?_) (λPr=> ?_)
       ·rw[aB (show(fi t).2.1<0∨(ts.length:Int)≤(fi t).2.1∨(fi t).2.2<0∨(ts.length:Int)≤(fi t).2.2 from(by omega:t.Dk<0∨(ts.length:Int)≤t.Dk∨t.value<0∨(ts.length:Int)≤t.value))]at ei
        refine g3 ?_;refine St.ee (Ev.call (bq 3 k) yI (.bH rfl rfl)) ?_;refine g9 ?_;refine St.rV [_] [] ?_;exact congrArg fv ei.symm
       ·rw[aA (show ¬((fi t).2.1<0∨(ts.length:Int)≤(fi t).2.1∨(fi t).2.2<0∨(ts.length:Int)≤(fi t).2.2)from(by omega:¬(t.Dk<0∨(ts.length:Int)≤t.Dk∨t.value<0∨(ts.length:Int)≤t.value)))]at ei
        refine g8 ?_;refine St.wo (k+1) (kB m t.name (iv k)) ⟨by omega,by rw[ei,fM j8.name ht];rfl,by rw[fM j8.name ht];exact wT.snoc _ _⟩
    ·rw[I9 (by rw[aQ];omega)]at hv
     refine g7 ?_;refine St.ee (Ev.build (bF.nil) (λw=>fL w)) ?_;refine g4 ?_;refine St.rV [_] [] ?_;exact congrArg fv hv.symm
inductive Reach (g:dF):Nat→Prop where
 |root:Reach g 0
 |step {i:Nat} {x:Int×Int}:Reach g i→x∈(g.getD i gH).2→Reach g x.2.toNat
def oP (M N:List Bool):Prop:=M.length=N.length∧∀x:Nat,M[x]?=some true→N[x]?=some true
theorem oP.refl (M:List Bool):oP M M:=⟨rfl,λ_ h=>h⟩
theorem oP.trans {A B C:List Bool}(h:oP A B)(k:oP B C):oP A C:=⟨h.1.trans k.1,λx hx=>k.2 x (h.2 x hx)⟩
theorem oP.aeU {A B:List Bool}(h:oP A B)(k:oP B A):A=B:=by
 refine nV λi=> ?_
 rcases e7 i A.length with hi|hi
 ·have Xp:i<B.length:=by rw[←h.1];exact hi
  rw[bO hi,bO Xp]
  have h1:=h.2 i
  have h2:=k.2 i
  rw[bO hi,bO Xp]at h1 h2
  cases e1:A[i]<;>cases e2:B[i]<;>simp_all
 ·rw[fY hi,fY (by rw[←h.1];exact hi)]
theorem oP.set (M:List Bool)(i:Nat):oP M (M.set i true):=⟨by rw[cG],λx hx=>by
 by_cases e:i=x
 ·subst e;rw[eP (ae hx)]
 ·rw[gX e];exact hx⟩
theorem oP.mark (i:Nat)(M:List Bool)(x:Int×Int):oP M (ET i M x):=by
 unfold ET;split
 ·exact oP.set _ _
 ·exact oP.refl _
theorem oP.fold {γ:Type}{f:List Bool→γ→List Bool}(h:∀M c,oP M (f M c)):∀(l:List γ) (M:List Bool),oP M (l.foldl f M)
 | [],M=>oP.refl M
 |c::l,M=>(h M c).trans (oP.fold h l (f M c))
theorem yc {γ:Type}{f:List Bool→γ→List Bool}(h:∀M c,oP M (f M c)):∀(l:List γ) (M:List Bool),l.foldl f M=M→∀c∈l,f M c=M
 | [],_,_,c,hc=>by cases hc
 |c::l,M,he,d,hd=>by
  rw[List.foldl_cons]at he
  have h1:f M c=M:=oP.aeU (by have:=oP.fold h l (f M c);rw[he]at this;exact this) (h M c)
  rcases cD.1 hd with rfl|hd
  ·exact h1
  ·rw[h1]at he;exact yc h l M he d hd
theorem oP.node (g:dF)(M:List Bool)(i:Nat):oP M (WC g M i):=oP.fold (λM x=>oP.mark i M x) _ M
theorem oP.pass (g:dF)(M:List Bool):oP M (pass g M):=oP.fold (λM i=>oP.node g M i) _ M
def pU (M:List Bool):Nat:=M.countP λb=>b
theorem Ps:∀{A B:List Bool},oP A B→pU A≤pU B∧(pU B≤pU A→A=B)
 | [],[],_=>⟨aW _,λ_=>rfl⟩
 | [],_::_,h=>absurd h.1 (by simp)
 |_::_,[],h=>absurd h.1 (by simp)
 |a::A,b::B,h=>by
  have ht:oP A B:=⟨by simpa using h.1,λx hx=>by have:=h.2 (x+1) (by simpa using hx);simpa using this⟩
  have h0:=h.2 0
  obtain⟨i1,i2⟩:=Ps ht;unfold pU at*
  cases a<;>cases b<;>simp_all<;>omega
theorem D4 (M:List Bool):pU M≤M.length:=List.countP_le_length
theorem mD (g:dF):∀k,(dp g k).length=g.length
 |0=>by simp[dp]
 |k+1=>by rw[dp,←(oP.pass g _).1,mD g k]
theorem yd {g:dF}(hg:0<g.length):∀k,pass g (dp g k)=dp g k∨k+1≤pU (dp g k)
 |0=>by
  refine .inr ?_
  obtain⟨n,hn⟩:∃n,g.length=n+1:=⟨g.length-1,by omega⟩
  simp[dp,pU,hn,List.replicate_succ]
 |k+1=>by
  rcases yd hg k with h|h
  ·left;rw[dp,h,h]
  ·by_cases e:pass g (dp g (k+1))=dp g (k+1)
   ·exact .inl e
   ·right
    have h1:=Ps (oP.pass g (dp g k))
    rw[dp]
    rcases e7 (pU (dp g k)) (pU (pass g (dp g k)))with h2|h2
    ·omega
    ·have:=h1.2 h2
     exact absurd (by rw[dp,←this,←this]) e
theorem IB {g:dF}(hg:0<g.length):pass g (dp g g.length)=dp g g.length:=by
 rcases yd hg g.length with h|h
 ·exact h
 ·have:=D4 (dp g g.length)
  rw[mD]at this;omega
theorem IC {g:dF}{M:List Bool}(hM:M.length=g.length)(h:pass g M=M){i:Nat}(hi:M[i]?=some true){x:Int×Int}(hx:x∈(g.getD i gH).2)(iX:x.2.toNat<g.length):M[x.2.toNat]?=some true:=by
 have h1:=yc (λM i=>oP.node g M i) _ M h i (cy.2 (by rw[←hM];exact ae hi))
 have h2:=yc (λM x=>oP.mark i M x) _ M h1 x hx
 unfold ET at h2;rw[aB (by rw[ak,hi];rfl)]at h2;rw[←h2,eP (by rw[hM];exact iX)]
def AK (g:dF)(M:List Bool):Prop:=∀x:Nat,M[x]?=some true→Reach g x
theorem AK.set {g:dF}{M:List Bool}(h:AK g M){i:Nat}(hi:Reach g i):AK g (M.set i true):=λx hx=>by
 by_cases e:i=x
 ·subst e;exact hi
 ·rw[gX e]at hx;exact h x hx
theorem AK.fold {γ:Type}{g:dF}{f:List Bool→γ→List Bool}:∀(l:List γ) (M:List Bool),(∀M,∀c∈l,AK g M→AK g (f M c))→AK g M→AK g (l.foldl f M)
 | [],_,_,h=>h
 |c::l,M,hf,h=>AK.fold l _ (λM d hd=>hf M d (cE _ hd)) (hf M c (aU ..) h)
theorem AK.pass {g:dF}{M:List Bool}(h:AK g M):AK g (pass g M):=
 AK.fold _ _ (λM i _ hM=>AK.fold _ _ (λM x hx hM=>by
  unfold ET
  split
  ·rename_i hi
   refine hM.set (Reach.step (hM i ?_) hx);rw[ak]at hi
   cases e:M[i]? with
   |none=>rw[e]at hi;cases hi
   |some b=>rw[e]at hi;simp at hi;rw[hi]
  ·exact hM) hM) h
theorem AK.dp (g:dF):∀k,AK g (dp g k)
 |0=>λx hx=>by
  by_cases e:0=x
  ·subst e;exact Reach.root
  ·rw[Proofs.YtblifkgpebebmaaGreatDoor.dp,gX e,r9]at hx
   split at hx<;>simp at hx
 |k+1=>(AK.dp g k).pass
def tL (g:dF):Prop:=0<g.length∧∀n∈g,∀x∈n.2,0≤x.1∧0≤x.2∧x.2.toNat<g.length
theorem tL.at_ {g:dF}(h:tL g){i:Nat}{x:Int×Int}(hx:x∈(g.getD i gH).2):0≤x.1∧0≤x.2∧x.2.toNat<g.length:=by
 rcases e7 i g.length with hi|hi
 ·refine h.2 _ (gm hi) x ?_
  rw[ak,bO hi]at hx;exact hx
 ·rw[ak,fY hi]at hx;cases hx
theorem mz {g:dF}(h:0<g.length):∀k,(dp g k)[0]?=some true
 |0=>by rw[dp,eP (by simp;exact h)]
 |k+1=>(oP.pass g _).2 0 (mz h k)
theorem tM {g:dF}(h:tL g){x:Nat}:Reach g x↔(dp g g.length)[x]?=some true:=by
 refine⟨λhr=> ?_,AK.dp g _ x⟩
 induction hr with
 |root=>exact mz h.1 _
 |step _ hx ih=>exact IC (mD g _) (IB h.1) ih hx (h.at_ hx).2.2
structure U6 (g:dF)(M:List Bool)(st:List Nat):Prop where
 len:M.length=g.length
 snd:AK g M
 root:M[0]?=some true
 Yq:∀i∈st,M[i]?=some true
 cls:∀i,M[i]?=some true→i∉st→∀x∈(g.getD i gH).2,M[x.2.toNat]?=some true
theorem U6.start {g:dF}(h:0<g.length):U6 g ((List.replicate g.length false).set 0 true) [0]:=by
 refine⟨by simp,AK.dp g 0,mz h 0,λi hi=>by rw[List.mem_singleton.1 hi];exact mz h 0,λi hm hi=> ?_⟩;rw[gX (λe=>hi (bJ.2 e.symm)),r9]at hm
 split at hm<;>simp at hm
theorem U6.fin {g:dF}(hg:tL g){M:List Bool}(h:U6 g M []):M=dp g g.length:=by
 refine oP.aeU ⟨by rw[h.len,mD],λx hx=>(tM hg).1 (h.snd x hx)⟩ ⟨by rw[h.len,mD],λx hx=> ?_⟩
 have:=(tM hg).2 hx
 clear hx
 induction this with
 |root=>exact h.root
 |step _ hx ih=>exact h.cls _ ih (by simp) _ hx
structure rN (g:dF)(i k:Nat)(M:List Bool)(st:List Nat):Prop where
 len:M.length=g.length
 snd:AK g M
 root:M[0]?=some true
 me:M[i]?=some true
 Yq:∀j∈st,M[j]?=some true
 cls:∀j,M[j]?=some true→j≠i→j∉st→∀x∈(g.getD j gH).2,M[x.2.toNat]?=some true
 upto:∀x∈(g.getD i gH).2.take k,M[x.2.toNat]?=some true
theorem U6.pop {g:dF}{M:List Bool}{st:List Nat}{i:Nat}(h:U6 g M (st++ [i])):rN g i 0 M st:=
 ⟨h.len,h.snd,h.root,h.Yq i (by simp),λj hj=>h.Yq j (by simp[hj]),λj hm fP hj=>h.cls j hm (by simp[hj,fP]),λx hx=>by simp at hx⟩
theorem rN.done {g:dF}{M:List Bool}{st:List Nat}{i:Nat}(h:rN g i (g.getD i gH).2.length M st):U6 g M st:=
 ⟨h.len,h.snd,h.root,h.Yq,λj hm hj=>by
  by_cases e:j=i
  ·subst e;intro x hx;exact h.upto x (by rw[jy];exact hx)
  ·exact h.cls j hm e hj⟩
theorem rN.A2 {g:dF}{M:List Bool}{st:List Nat}{i k:Nat}{x:Int×Int}(h:rN g i k M st)(hx:(g.getD i gH).2[k]?=some x)(hm:M[x.2.toNat]?=some true):rN g i (k+1) M st:=
 ⟨h.len,h.snd,h.root,h.me,h.Yq,h.cls,λy hy=>by
  rw[ai hx]at hy
  rcases ba.1 hy with hy|hy
  ·exact h.upto y hy
  ·rw[bJ.1 hy];exact hm⟩
theorem rN.new {g:dF}(hg:tL g){M:List Bool}{st:List Nat}{i k:Nat}{x:Int×Int}(h:rN g i k M st)(hx:(g.getD i gH).2[k]?=some x):rN g i (k+1) (M.set x.2.toNat true) (st++ [x.2.toNat]):=by
 have zx:=ab hx
 have iX:=(hg.at_ zx).2.2
 have mono:=(oP.set M x.2.toNat).2
 have new:(M.set x.2.toNat true)[x.2.toNat]?=some true:=eP (by rw[h.len];exact iX)
 refine⟨by rw[cG];exact h.len,h.snd.set (Reach.step (h.snd i h.me) zx),mono _ h.root,mono _ h.me,λj hj=> ?_,λj hm fP hj y hy=> ?_,λy hy=> ?_⟩
 ·rcases ba.1 hj with hj|hj
  ·exact mono _ (h.Yq j hj)
  ·rw[bJ.1 hj];exact new
 ·have hj2:j∉st∧j≠x.2.toNat:=by simpa using hj
  rw[gX (λe=>hj2.2 e.symm)]at hm;exact mono _ (h.cls j hm fP hj2.1 y hy)
 ·rw[ai hx]at hy
  rcases ba.1 hy with hy|hy
  ·exact mono _ (h.upto y hy)
  ·rw[bJ.1 hy];exact new
theorem U7 {M:List Bool}{i:Nat}(h:M[i]?=some false):pU (M.set i true)=pU M+1:=by
 induction M generalizing i with
 |nil=>cases h
 |cons b M ih=>
  cases i with
  |zero=>simp at h;subst h;simp[pU]
  |succ i=>
   have:=ih (i:=i) (by simpa using h)
   unfold pU at*
   cases b<;>simp_all<;>omega
theorem ID {nt nf nn:Int}{l:dF}{k:Nat}{t:My}(ht:l[k]?=some t):eC nt nf nn k (l.drop k)=if t.1<0∨nt≤t.1 then(3,(k:Int))else if(AD nf nn k (-1) t.2).1≠0 then AD nf nn k (-1) t.2 else eC nt nf nn (k+1) (l.drop (k+1)):=by rw[an ht,eC]
theorem MB {nt nf nn:Int}{l:dF}{k:Nat}(h:l.length≤k):eC nt nf nn k (l.drop k)=(0,0):=by rw[fX h,eC]
theorem Pt {nf nn i z:Int}{l:List (Int×Int)}{q:Nat}{x:Int×Int}(hx:l[q]?=some x):AD nf nn i z (l.drop q)=if x.1<0∨nf≤x.1∨x.2<0∨nn≤x.2 then(3,i)else if x.1≤z then(13,i)else AD nf nn i x.1 (l.drop (q+1)):=by rw[an hx,AD]
theorem U8 {nf nn i z:Int}{l:List (Int×Int)}{q:Nat}(h:l.length≤q):AD nf nn i z (l.drop q)=(0,0):=by rw[fX h,AD]
theorem cP (g:cU):(ar g).length=g.nodes.length:=aQ ..
theorem jq {g:cU}{k:Nat}{t:dW}(h:g.nodes[k]?=some t):(ar g)[k]?=some (lN t):=by unfold ar;rw[bE,h];rfl
theorem IE (tv xv:aY)(ts:List xu)(fs:List j8)(g:cU):dA Tryz.prog 83 #[.agg #[tv.1,xv.1],au g] [sl qS tv.1 ts,sl gZ xv.1 fs,aG g] (fv (eU ts.length fs.length (ar g))):=by
 refine dA.abM (args:=[.agg #[tv.1,xv.1],au g]) 86 Tryz.func83 rfl Tryz.ntmps83 rfl (λc=> ?_);refine go ?_
 refine St.j7 (aG g) (λ_:Unit=>jm g) (λρ h=>⟨(),h⟩) λ_=> ?_
 refine St.cast (H':=[aF (sl bW g.nv.1 g.nodes),aF (aI bX g.nodes),aF (sl qS tv.1 ts),aF (sl gZ xv.1 fs),aF (aG g)]) rfl ?_;refine St.wf tv.1 (λWt Yh=> ?_);refine St.wf xv.1 (λhfw Ck=> ?_);refine St.wf g.nv.1 (λhnw KC=> ?_)
 have A5:=cP g
 refine go ?_;refine St.cz (.mk rfl) rfl (λb2=> ?_);refine St.cz (.mk rfl) rfl (λb3=> ?_);refine St.al (λb4=> ?_);refine g10 ?_;refine St.gf _ rfl rfl (λhg=>Ev.dB (.mk rfl) uZ) rfl ?_;refine St.gf _ rfl rfl (λhg=>Ev.kU (aZ.gv rfl hg) pS trivial (by rfl)) rfl ?_;refine St.gf _ rfl rfl (λhg=>Ev.fm (aZ.gv rfl hg) pS) rfl ?_;refine St.gf _ rfl rfl (λhg=>Ev.gtr (aZ.gv rfl hg) (.mk rfl)) rfl ?_;refine g3 ?_;refine St.cq (λpc=> ?_) (λpc=> ?_)
 ·have hf:eU ts.length fs.length (ar g)=(2,-2):=by unfold eU;rw[aB (by omega)]
  refine g2 ?_;refine St.ee (Ev.call (fC 2 (-2)) Lm (.bH rfl rfl)) ?_;refine g5 ?_;refine St.rV [_] [] ?_;exact congrArg fv hf.symm
 ·have hf:eU ts.length fs.length (ar g)=eC ts.length fs.length g.nodes.length 0 (ar g):=by unfold eU;rw[aA (by omega),A5]
  refine g12 ?_;refine St.lS (ι:=Nat) (λk T=>(24,iv k)::T) (λk=>k≤g.nodes.length∧eU ts.length fs.length (ar g)=eC ts.length fs.length g.nodes.length k ((ar g).drop k)) (λk=>g.nodes.length-k) 0 (aC.cons 2 rfl (aC.cons 3 rfl (aC.cons 4 rfl (aC.cons 22 rfl (aC.cons 23 rfl aC.nil))))) ⟨aR _,hf⟩ ?_;intro k fy;obtain⟨hk,hv⟩:=fy;refine g6 ?_;refine St.cq (λh25=> ?_) (λh25=> ?_)
  ·obtain⟨t,ht⟩:=aE (show k<g.nodes.length by omega)
   have rz:=ab ht
   refine St.cL bX g.nodes (x:=t) rz ?_;refine St.eT (sl aq t.lv.1 t.ah) [bX t] (λρ h=>h _ (aU ..)) ?_;refine St.wf t.lv.1 (λSK nU=> ?_)
   have ei:=ID (nt:=ts.length) (nf:=fs.length) (nn:=g.nodes.length) (jq ht)
   rw[←hv]at ei;refine g8 ?_;refine St.ee (Ev.jj (.mk rfl) ht vq trivial jR iY.eq) ?_;refine St.al (λb6=> ?_);refine g11 ?_;refine St.gf _ rfl rfl (λhg=>Ev.dB (.mk rfl) ss) rfl ?_;refine St.gf _ rfl rfl (λhg=>Ev.kU (aZ.gv rfl hg) eN trivial (by rfl)) rfl ?_;refine St.gf _ rfl rfl (λhg=>Ev.dB (.mk rfl) ua) rfl ?_;refine St.gf _ rfl rfl (λhg=>Ev.kU (aZ.gv rfl hg) yD trivial (by rfl)) rfl ?_;refine St.gf _ rfl rfl (λhg=>Ev.fm (aZ.gv rfl hg) yD) rfl ?_;refine St.gf _ rfl rfl (λhg=>Ev.geq (aZ.gv rfl hg) (aZ.gv rfl hg)) rfl ?_;refine g3 ?_;refine St.cq (λSM=> ?_) (λSM=> ?_)
   ·rw[aB (show(lN t).1<0∨(ts.length:Int)≤(lN t).1 from(by omega:t.type<0∨(ts.length:Int)≤t.type))]at ei
    refine g3 ?_;refine St.ee (Ev.call (fC 3 k) Lm (.bH rfl rfl)) ?_;refine g10 ?_;refine St.rV [_] [] ?_;exact congrArg fv ei.symm
   ·rw[aA (show ¬((lN t).1<0∨(ts.length:Int)≤(lN t).1)from(by omega:¬(t.type<0∨(ts.length:Int)≤t.type)))]at ei
    refine g16 ?_;refine St.vo (ι:=Nat) (κ:=Int) (λq z T=>(45,iv q)::(7,iv z)::T) (λq z=>[aF (sl aq t.lv.1 t.ah),aX b4 (.cells [iv 0,iv 0].toArray 35 (0,0)),aX b2 (.cells [tv.1,xv.1].toArray 25 (0,0)),aX b3 (.cells [g.nv.1].toArray 30 (0,0)),aF (sl bW g.nv.1 g.nodes),aF (aI bX g.nodes),aF (sl qS tv.1 ts),aF (sl gZ xv.1 fs),aF (aG g)]) (λq z=>q≤t.ah.length∧AD fs.length g.nodes.length k (-1) (lN t).2=AD fs.length g.nodes.length k z ((t.ah.map eR).drop q)) (λq z=>t.ah.length-q) 0 (-1) (aC.cons 2 rfl (aC.cons 3 rfl (aC.cons 4 rfl (aC.cons 5 rfl (aC.cons 22 rfl (aC.cons 23 rfl (aC.cons 24 rfl (aC.cons 43 rfl (aC.cons 44 rfl aC.nil))))))))) ⟨aR _,rfl⟩ ?_;rintro q z ⟨hq,M4⟩;refine g6 ?_;refine St.cq (λh46=> ?_) (λh46=> ?_)
    ·obtain⟨p,hp⟩:=aE (show q<t.ah.length by omega)
     have I5:=Pt (nf:=fs.length) (nn:=g.nodes.length) (i:=k) (z:=z) (l:=t.ah.map eR) (q:=q) (x:=eR p) (by rw[bE,hp];rfl)
     refine g7 ?_;refine St.ee (Ev.jj (.mk rfl) hp kG trivial dE iY.eq) ?_;refine St.al (λb9=> ?_);refine g10 ?_;refine St.gf _ rfl rfl (λhg=>Ev.dB (.mk rfl) Cq) rfl ?_;refine St.gf _ rfl rfl (λhg=>Ev.kU (aZ.gv rfl hg) eN trivial (by rfl)) rfl ?_;refine St.gf _ rfl rfl (λhg=>Ev.dB (.mk rfl) Cn) rfl ?_;refine St.gf _ rfl rfl (λhg=>Ev.kU (aZ.gv rfl hg) HT trivial (by rfl)) rfl ?_;refine St.gf _ rfl rfl (λhg=>Ev.fm (aZ.gv rfl hg) HT) rfl ?_;refine St.gf _ rfl rfl (λhg=>Ev.geq (aZ.gv rfl hg) (aZ.gv rfl hg)) rfl ?_;refine g2 ?_;refine St.gf _ rfl rfl (λhg=>Ev.dB (.mk rfl) su) rfl ?_;refine St.gf _ rfl rfl (λhg=>Ev.kU (aZ.gv rfl hg) eN trivial (by rfl)) rfl ?_;refine St.gf _ rfl rfl (λhg=>Ev.lss (aZ.gv rfl hg) (.mk rfl)) rfl ?_;refine g2 ?_;refine St.gf _ rfl rfl (λhg=>Ev.dB (.mk rfl) su) rfl ?_;refine St.gf _ rfl rfl (λhg=>Ev.kU (aZ.gv rfl hg) eN trivial (by rfl)) rfl ?_;refine St.gf _ rfl rfl (λhg=>Ev.dB (.mk rfl) uZ) rfl ?_;refine St.gf _ rfl rfl (λhg=>Ev.kU (aZ.gv rfl hg) pS trivial (by rfl)) rfl ?_;refine St.gf _ rfl rfl (λhg=>Ev.fm (aZ.gv rfl hg) pS) rfl ?_;refine St.gf _ rfl rfl (λhg=>Ev.geq (aZ.gv rfl hg) (aZ.gv rfl hg)) rfl ?_;refine g3 ?_;refine St.cq (λGn=> ?_) (λGn=> ?_)
     ·rw[aB (show(eR p).1<0∨(fs.length:Int)≤(eR p).1∨(eR p).2<0∨(g.nodes.length:Int)≤(eR p).2 from(by omega:p.cT<0∨(fs.length:Int)≤p.cT∨p.tqo<0∨(g.nodes.length:Int)≤p.tqo))]at I5
      rw[M4,I5,aB (by show(3:Int)≠0;decide)]at ei;refine g3 ?_;refine St.ee (Ev.call (fC 3 k) Lm (.bH rfl rfl)) ?_;refine g14 ?_;refine St.rV [_] [] ?_;exact congrArg fv ei.symm
     ·rw[aA (show ¬((eR p).1<0∨(fs.length:Int)≤(eR p).1∨(eR p).2<0∨(g.nodes.length:Int)≤(eR p).2)from(by omega:¬(p.cT<0∨(fs.length:Int)≤p.cT∨p.tqo<0∨(g.nodes.length:Int)≤p.tqo)))]at I5
      refine g11 ?_;refine St.cq (λh78=> ?_) (λh78=> ?_)
      ·rw[aB (show(eR p).1≤z from(by omega:p.cT≤z))]at I5
       rw[M4,I5,aB (by show(13:Int)≠0;decide)]at ei;refine g3 ?_;refine St.ee (Ev.call (fC 13 k) Lm (.bH rfl rfl)) ?_;refine g14 ?_;refine St.rV [_] [] ?_;exact congrArg fv ei.symm
      ·rw[aA (show ¬(eR p).1≤z from(by omega:¬p.cT≤z))]at I5
       refine g14 ?_;refine St.wo (q+1) p.cT ⟨by omega,by rw[M4,I5];rfl⟩
    ·rw[U8 (by rw[aQ];omega)]at M4
     rw[aA (by rw[M4];decide)]at ei;refine g11 ?_;refine St.aS (k+1) ⟨by omega,by rw[ei]⟩
  ·rw[MB (by omega)]at hv
   refine g7 ?_;refine St.ee (Ev.build (bF.nil) (λw=>fL w)) ?_;refine g4 ?_;refine St.rV [_] [] ?_;exact congrArg fv hv.symm
theorem Bc {M:List Bool}{k:Nat}{b:Bool}(h:M[k]?=some b):oc (M.drop k)=if b=false then 0 else if oc (M.drop (k+1))<0 then-1 else oc (M.drop (k+1))+1:=by rw[an h,oc]
theorem Pu {M:List Bool}{k:Nat}(h:M.length≤k):oc (M.drop k)= -1:=by rw[fX h,oc]
def mF (M:List Bool)(k:Nat):Prop:=oc M=if oc (M.drop k)<0 then-1 else oc (M.drop k)+k
theorem mF.nil (M:List Bool):mF M 0:=by
 unfold mF;rw[List.drop_zero]
 have:∀M:List Bool,oc M= -1∨0≤oc M:=by
  intro M
  induction M with
  |nil=>left;rfl
  |cons b M ih=>
   rw[oc]
   split
   ·right;decide
   ·split
    ·left;rfl
    ·right;omega
 rcases this M with h|h
 ·rw[h];rfl
 ·rw[aA (by omega)];omega
theorem mF.step {M:List Bool}{k:Nat}(h:mF M k)(hb:M[k]?=some true):mF M (k+1):=by
 unfold mF at h⊢
 have e1:=Bc hb
 rw[aA (show ¬(true=false) by decide)]at e1
 by_cases e:oc (M.drop (k+1))<0
 ·rw[aB e]at e1⊢
  rw[h,e1];rfl
 ·rw[aA e]at e1⊢
  rw[h,e1,aA (by omega)];omega
theorem mF.hit {M:List Bool}{k:Nat}(h:mF M k)(hb:M[k]?=some false):oc M=k:=by
 unfold mF at h
 have e1:=Bc hb
 rw[aB rfl]at e1
 rw[h,e1,aA (by decide)];omega
theorem mF.fin {M:List Bool}{k:Nat}(h:mF M k)(hb:M.length≤k):oc M= -1:=by
 unfold mF at h
 rw[h,Pu hb];rfl
def da:Rp Bool:=⟨1,by decide,λa=>[.bool a],λ_=>True,λ_=>rfl,λx u h=>by rw[bJ.1 h];rfl⟩
theorem oz (U:List Bool):rows da U=U.map λa=>Value.bool a:=by
 show U.flatMap (λa=>[Value.bool a])=_
 induction U with
 |nil=>rfl
 |cons a U ih=>rw[mV,ih];rfl
theorem Pv {U:List Bool}{k:Nat}{a:Bool}(h:U[k]?=some a):(rows da U)[k*1+0]?=some (.bool a):=by
 rw[oz,fR,jK,bE,h];rfl
theorem FK {U:List Bool}{k:Nat}{a:Bool}:(rows da U).set (k*1+0) (.bool a)=rows da (U.set k a):=by
 rw[oz,oz,fR,jK,ia]
theorem Pw (n:Nat):List.replicate n (Value.bool false)=rows da (List.replicate n false):=by rw[oz,sN]
theorem IG (u:Value)(M:List Bool):dA Tryz.prog 117 #[u,.bool false] [sl da u M] (iv (oc M)):=by
 refine dA.na (args:=[u,.bool false]) 19 Tryz.func117 rfl Tryz.ntmps117 rfl (λc=> ?_);refine go ?_;refine St.wf u (λhuw hul=> ?_);refine g13 ?_;refine St.lS (ι:=Nat) (λk T=>(8,iv k)::T) (λk=>k≤M.length∧mF M k) (λk=>M.length-k) 0 (aC.cons 0 rfl (aC.cons 1 rfl (aC.cons 7 rfl aC.nil))) ⟨aR _,mF.nil M⟩ ?_;intro k fy;obtain⟨hk,hso⟩:=fy;refine g6 ?_;refine St.cq (λh9=> ?_) (λh9=> ?_)
 ·obtain⟨b,hb⟩:=aE (show k<M.length by omega)
  refine g17 ?_;refine St.ee (Ev.Sl (.mk rfl) (.mk rfl) Eb) ?_;refine g2 ?_;refine St.cond _ rfl (λzy=> ?_) (λzy=> ?_)
  ·skip
   have hbf:M[k]?=some false:=by rw[hb];cases b;rfl;cases zy
   refine g12 ?_;refine St.rV [_] [] ?_;exact congrArg iv (hso.hit hbf).symm
  ·skip
   have U9:M[k]?=some true:=by rw[hb];cases b;cases zy;rfl
   refine g8 ?_;refine St.aS (k+1) ⟨by omega,hso.step U9⟩
 ·refine g11 ?_
  refine St.rV [_] [] ?_;exact congrArg iv (hso.fin (by omega)).symm
abbrev cA (l:List Nat):List Int:=l.map λi:Nat=>(i:Int)
theorem im (U:List Int):rows aL U=U.map λa=>iv a:=by
 show U.flatMap (λa=>[iv a])=_
 induction U with
 |nil=>rfl
 |cons a U ih=>rw[mV,ih];rfl
theorem MC {l:List Nat}{i:Nat}:(rows aL (cA (l++ [i])))[l.length*1+0]?=some (iv (i:Nat)):=by
 rw[im,fR,jK,cA,kh,bE,mW (aW _),fJ];rfl
theorem Px {l:List Nat}{i:Nat}:(rows aL (cA (l++ [i]))).take (l.length*1)=rows aL (cA l):=by
 rw[im,im,fR,cA,cA,cC,cC];exact List.take_left' (by simp)
theorem uu {l:List Nat}{p:Int}(h:0≤p):rows aL (cA l)++ [iv p]=rows aL (cA (l++ [p.toNat])):=by
 rw[im,im,cA,cA,cC,cC,eW,lV,eW,lV,sM h]
theorem UA {α:Type}{l:List α}(h:0<l.length):∃m x,l=m++ [x]:=by
 rcases List.eq_nil_or_concat l with rfl|⟨m,x,rfl⟩
 ·simp at h
 ·exact⟨m,x,by rw[List.concat_eq_append]⟩
theorem ye (g:cU)(hg:tL (ar g))(hn:g.nodes.length≤60):dA Tryz.prog 86 #[au g] [aG g] (iv (unr (ar g))):=by
 refine dA.na (args:=[au g]) 58 Tryz.func86 rfl Tryz.ntmps86 rfl (λc=> ?_);refine go ?_
 refine St.j7 (aG g) (λ_:Unit=>jm g) (λρ h=>⟨(),h⟩) λ_=> ?_
 refine St.cast (H':=[aF (sl bW g.nv.1 g.nodes),aF (aI bX g.nodes),aF (aG g)]) rfl ?_
 have A5:=cP g
 have nc:0<g.nodes.length:=by have:=hg.1;omega
 refine go ?_;refine St.cz (.mk rfl) rfl (λb1=> ?_);refine g8 ?_;refine St.pg (m:=g.nodes.length) (.mk rfl) (.mk rfl) j9 BN SD by4 rfl rfl (by omega) rfl rfl (λpT=> ?_);refine St.aO (.slice (some ⟨pT,0,none⟩) g.nodes.length g.nodes.length) rfl (Pw _) ?_;refine g6 ?_;refine St.ee (Ev.dT (k:=0) (.mk rfl) (.mk rfl) j9 BN (by omega) (by omega)) ?_;refine St.bj (.mk rfl) (.mk rfl) BN rfl (by omega) (by decide) ?_;refine St.aO (.slice (some ⟨pT,0,none⟩) g.nodes.length g.nodes.length) rfl FK ?_;refine g5 ?_;refine St.gb rfl (.bB rfl) cI eJ jA rfl rfl (by simp[Value.cells]) rfl rfl (λGl=> ?_);refine St.aO (.slice (some ⟨Gl,0,none⟩) 1 1) (show _=([0]:List Nat).length from rfl) (show _=rows aL (cA [0])from rfl) ?_;refine g4 ?_;refine St.vo (ι:=Unit) (κ:=Value×List Nat×List Bool) (λu z T=>(4,z.1)::T) (λu z=>[row (.slice (some ⟨pT,0,none⟩) g.nodes.length g.nodes.length) 4 1 g.nodes.length (rows da z.2.2),row z.1 3 1 (z.2.1).length (rows aL (cA (z.2.1))),aX b1 (.cells [g.nv.1].toArray 30 (0,0)),aF (sl bW g.nv.1 g.nodes),aF (aI bX g.nodes)]) (λu z=>U6 (ar g) z.2.2 z.2.1∧g.nodes.length-pU z.2.2+z.2.1.length≤g.nodes.length+1) (λu z=>g.nodes.length-pU z.2.2+z.2.1.length) () ((.slice (some ⟨Gl,0,none⟩) 1 1),[0],(List.replicate g.nodes.length false).set 0 true) (aC.cons 1 rfl (aC.cons 2 rfl (aC.cons 3 rfl aC.nil))) ⟨by have:=U6.start hg.1;rw[A5]at this;exact this,by show _-_+1≤_;omega⟩ ?_;rintro u ⟨vz,st,M⟩ ⟨hd,hmu⟩
 dsimp only at hd hmu⊢
 have hML:=hd.len
 refine g8 ?_;refine St.cq (λSN=> ?_) (λSN=> ?_)
 ·obtain⟨s0,i,rfl⟩:=UA (show 0<st.length by omega)
  have Tx:(s0++ [i]).length=s0.length+1:=by rw[bA];rfl
  have hiM:=ae (hd.Yq i (by simp))
  obtain⟨t,ht⟩:=aE (show i<g.nodes.length by omega)
  have rz:=ab ht
  have rO:(ar g).getD i gH=lN t:=by rw[ak,jq ht];rfl
  have Pb:=hd.pop
  refine St.cL bX g.nodes (x:=t) rz ?_;refine St.eT (sl aq t.lv.1 t.ah) [bX t] (λρ h=>h _ (aU ..)) ?_;refine St.wf t.lv.1 (λSK nU=> ?_);refine g9 ?_;refine St.ee (Ev.dT (k:=s0.length) (.mk rfl) (.mk rfl) cI eJ (by omega) (by omega)) ?_;refine St.ee (Ev.cB (.mk rfl) eN trivial (by omega) MC) ?_;refine g9 ?_;refine St.ee (Ev.oY (h:=s0.length) (.mk rfl) (.mk rfl) cI eJ (by omega) (by omega)) ?_;refine St.CP vz s0.length (by omega) ?_;refine St.aO (pR vz 1 0 s0.length) rfl Px ?_;refine g16 ?_;refine St.vo (ι:=Nat) (κ:=Value×List Nat×List Bool) (λq z T=>(36,iv q)::(4,z.1)::T) (λq z=>[row (.slice (some ⟨pT,0,none⟩) g.nodes.length g.nodes.length) 4 1 g.nodes.length (rows da z.2.2),row z.1 3 1 (z.2.1).length (rows aL (cA (z.2.1))),aX b1 (.cells [g.nv.1].toArray 30 (0,0)),aF (sl aq t.lv.1 t.ah),aF (sl bW g.nv.1 g.nodes),aF (aI bX g.nodes)]) (λq z=>q≤t.ah.length∧rN (ar g) i q z.2.2 z.2.1∧g.nodes.length-pU z.2.2+z.2.1.length=g.nodes.length-pU M+s0.length) (λq z=>t.ah.length-q) 0 (pR vz 1 0 s0.length,s0,M) (aC.cons 1 rfl (aC.cons 2 rfl (aC.cons 3 rfl (aC.cons 34 rfl (aC.cons 35 rfl aC.nil))))) ⟨aR _,Pb,rfl⟩ ?_;rintro q ⟨wz,sw,W⟩ ⟨hq,pb,pa⟩
  dsimp only at pb pa⊢
  have hWL:=pb.len
  have hWm:=D4 W
  refine g6 ?_;refine St.cq (λKA=> ?_) (λKA=> ?_)
  ·obtain⟨p,hp⟩:=aE (show q<t.ah.length by omega)
   have Dq:((ar g).getD i gH).2[q]?=some (eR p):=by rw[rO];show(t.ah.map eR)[q]?=_;rw[bE,hp];rfl
   obtain⟨_,rP,IH⟩:=hg.at_ (ab Dq)
   replace rP:0≤p.tqo:=rP
   replace IH:p.tqo.toNat<(ar g).length:=IH
   obtain⟨b,hb⟩:=aE (show p.tqo.toNat<W.length by omega);refine g7 ?_;refine St.ee (Ev.jj (.mk rfl) hp kG trivial dE iY.eq) ?_;refine St.al (λb7=> ?_);refine g8 ?_;refine St.ee (Ev.dT (k:=p.tqo.toNat) (.mk rfl) (.mk rfl) j9 BN (by omega) (by omega)) ?_;refine St.ee (Ev.cB (.mk rfl) Eb trivial (by omega) (Pv hb)) ?_;refine g3 ?_;refine St.cond _ rfl (λSG=> ?_) (λSG=> ?_)
   ·skip
    have hbf:W[p.tqo.toNat]?=some false:=by rw[hb];cases b;rfl;cases SG
    have hcn:=U7 hbf
    have hcm:=D4 (W.set p.tqo.toNat true)
    rw[cG]at hcm
    have xg:=pb.new hg Dq
    refine g5 ?_;refine St.ee (Ev.dT (k:=p.tqo.toNat) (.mk rfl) (.mk rfl) j9 BN (by omega) (by omega)) ?_;refine St.bj (.mk rfl) (.mk rfl) BN rfl (by omega) (by decide) ?_;refine St.aO (.slice (some ⟨pT,0,none⟩) g.nodes.length g.nodes.length) rfl FK ?_;refine g6 ?_;refine St.gb rfl (.bB rfl) cI eJ jA rfl rfl (by simp[Value.cells]) rfl rfl (λb53=> ?_);refine St.aj (.mk rfl) (.mk rfl) cI eJ jA wO (by simp[Value.oneCell',Value.cells]) (by omega) (by omega) rfl rfl rfl rfl (λv54 alX=> ?_);refine St.aO v54 (show _=(sw++ [p.tqo.toNat]).length from cV) (show _=rows aL (cA (sw++ [p.tqo.toNat]))from uu rP) ?_;refine g9 ?_;refine St.wo (q+1) (v54,sw++ [p.tqo.toNat],W.set p.tqo.toNat true) ⟨by omega,xg,by rw[hcn,bA];simp only[List.length_cons,List.length_nil];omega⟩
   ·skip
    have U9:W[p.tqo.toNat]?=some true:=by rw[hb];cases b;cases SG;rfl
    have hold:=pb.A2 Dq U9
    refine g8 ?_;refine St.wo (q+1) (wz,sw,W) ⟨by omega,hold,pa⟩
  ·obtain rfl:q=t.ah.length:=by omega
   refine g6 ?_;rw[show t.ah.length=((ar g).getD i gH).2.length by rw[rO];exact(aQ _).symm]at pb;refine St.mf () (wz,sw,W) ⟨pb.done,by dsimp only;omega⟩ (by dsimp only;rw[bA];simp only[List.length_cons,List.length_nil];omega) (by repeat(first|exact Sub.nil|refine Sub.cons (by first|rfl|exact congrArg (λz=>some (iv z)) (by first|omega|(dsimp only;omega))|exact congrArg (λz=>some (Value.bool z)) (by first|assumption|exact iZ (by assumption))) ?_)) (λ_ hw=>hw.sub)
 ·obtain rfl:st=[]:=kf (by omega)
  have FM:=hd.fin hg
  refine St.bZ (.slice (some ⟨pT,0,none⟩) g.nodes.length g.nodes.length) da M rfl (by omega) (λ_ _=>trivial) ?_;refine g8 ?_;refine St.ee (Ev.call (IG (.slice (some ⟨pT,0,none⟩) g.nodes.length g.nodes.length) M) acJ (.bH rfl rfl)) ?_;refine g4 ?_;refine St.rV [_] [] ?_;exact congrArg iv (by rw[FM];rfl)
theorem Py {nf nn i:Int}:∀{l:List (Int×Int)} {z:Int},(AD nf nn i z l).1=0→∀x∈l,0≤x.1∧x.1<nf∧0≤x.2∧x.2<nn
 | [],_,_=>λx hx=>by cases hx
 |y::l,z,h=>by
  rw[AD]at h
  by_cases h1:y.1<0∨nf≤y.1∨y.2<0∨nn≤y.2
  ·rw[aB h1]at h;exact absurd h (by simp)
  rw[aA h1]at h
  by_cases h2:y.1≤z
  ·rw[aB h2]at h;exact absurd h (by simp)
  rw[aA h2]at h;intro x hx
  rcases cD.1 hx with rfl|hx
  ·omega
  ·exact Py h x hx
theorem tN {nt nf nn:Int}:∀{l:dF} {i:Nat},(eC nt nf nn i l).1=0→∀n∈l,(0≤n.1∧n.1<nt)∧∀x∈n.2,0≤x.1∧x.1<nf∧0≤x.2∧x.2<nn
 | [],_,_=>λx hx=>by cases hx
 |y::l,i,h=>by
  rw[eC]at h
  by_cases h1:y.1<0∨nt≤y.1
  ·rw[aB h1]at h;exact absurd h (by simp)
  rw[aA h1]at h
  by_cases h2:(AD nf nn i (-1) y.2).1≠0
  ·rw[aB h2]at h;exact absurd h h2
  rw[aA h2]at h;intro x hx
  rcases cD.1 hx with rfl|hx
  ·exact⟨by omega,Py (iR.1 h2)⟩
  ·exact tN h x hx
theorem yf {nt nf:Int}{g:dF}(h:(eU nt nf g).1=0):0<g.length∧g.length≤60∧∀n∈g,(0≤n.1∧n.1<nt)∧∀x∈n.2,0≤x.1∧x.1<nf∧0≤x.2∧x.2<g.length:=by
 unfold eU at h
 by_cases h1:g.length=0∨60<g.length
 ·rw[aB h1]at h;exact absurd h (by simp)
 rw[aA h1]at h;exact⟨by omega,by omega,tN h⟩
theorem Pz {nt nf:Int}{g:dF}(h:(eU nt nf g).1=0):tL g:=by
 obtain⟨h1,_,h3⟩:=yf h;exact⟨h1,λn hn x hx=>by have:=(h3 n hn).2 x hx;omega⟩
theorem Bd (w1 w2:aY)(T:List dz)(hT:gy T)(i j:Int)(hi:0≤i∧i.toNat<T.length)(hj:0≤j∧j.toNat<T.length):dA Tryz.prog 84 #[jS w1 w2,iv i,iv j] [sl ay w1.1 (cn T),sl ay w2.1 (cr T)] (.bool (fw T i.toNat j.toNat)):=by
 have:=Ph w1 w2 T hT i.toNat j.toNat hi.2 hj.2
 rw[sM hi.1,sM hj.1]at this;exact this
theorem Q0 {T:List dz}{Fs:List oO}{G:dF}{k:Nat}(hk:k<G.length)(h:sd T Fs G k=true)(hb:∀i,i<k→sd T Fs G i=false):lu T Fs G=some k:=by
 unfold lu;rw[List.find?_range_eq_some]
 exact⟨h,cy.2 hk,λj hj=>by rw[hb j hj];rfl⟩
theorem Q1 {T:List dz}{Fs:List oO}{G:dF}(hb:∀i,i<G.length→sd T Fs G i=false):lu T Fs G=none:=by
 unfold lu;rw[List.find?_eq_none]
 intro b h;rw[hb b (cy.1 h)];decide
theorem Be {T:List dz}{Fs:List oO}{G:dF}(h:(eU T.length Fs.length G).1≠0):ca T Fs G=eU T.length Fs.length G:=by unfold ca;rw[aB h]
theorem MD {T:List dz}{Fs:List oO}{G:dF}{i:Nat}(h:¬(eU T.length Fs.length G).1≠0)(h2:lu T Fs G=some i):ca T Fs G=(12,(i:Int)):=by unfold ca;rw[aA h,h2]
theorem ME {T:List dz}{Fs:List oO}{G:dF}(h:¬(eU T.length Fs.length G).1≠0)(h2:lu T Fs G=none):ca T Fs G=if 0≤unr G then(5,unr G)else(0,0):=by unfold ca;rw[aA h,h2]
theorem qA (tv xv w1 w2:aY)(ts:List xu)(fs:List j8)(g:cU)(hT:gy (ts.map cS))(hF:∀f∈fs,0≤f.Dk∧f.Dk<ts.length∧0≤f.value∧f.value<ts.length):dA Tryz.prog 49 #[.agg #[tv.1,xv.1],jS w1 w2,au g] [sl qS tv.1 ts,sl gZ xv.1 fs,sl ay w1.1 (cn (ts.map cS)),sl ay w2.1 (cr (ts.map cS)),aG g] (fv (ca (ts.map cS) (fs.map fi) (ar g))):=by
 refine dA.abX (args:=[.agg #[tv.1,xv.1],jS w1 w2,au g]) 74 Tryz.func49 rfl Tryz.ntmps49 rfl (λc=> ?_);refine go ?_
 refine St.j7 (aG g) (λ_:Unit=>jm g) (λρ h=>⟨(),h⟩) λ_=> ?_
 refine St.cast (H':=[aF (sl bW g.nv.1 g.nodes),aF (aI bX g.nodes),aF (sl qS tv.1 ts),aF (sl gZ xv.1 fs),aF (sl ay w1.1 (cn (ts.map cS))),aF (sl ay w2.1 (cr (ts.map cS))),aF (aG g)]) rfl ?_
 have A5:=cP g
 have M9:(ts.map cS).length=ts.length:=aQ ..
 have Pp:(fs.map fi).length=fs.length:=aQ ..
 refine St.wf g.nv.1 (λhnw KC=> ?_);refine go ?_;refine St.cz (.mk rfl) rfl (λb3=> ?_);refine St.cz (.mk rfl) rfl (λb4=> ?_);refine St.cz (.mk rfl) rfl (λb5=> ?_);refine St.al (λb6=> ?_);refine g7 ?_;refine St.ee (Ev.call (IE tv xv ts fs g) ahZ (.bH rfl rfl)) ?_;refine St.al (λb7=> ?_);refine g10 ?_;refine St.cond _ rfl (λpc=> ?_) (λpc=> ?_)
 ·skip
  have hb:(eU (ts.map cS).length (fs.map fi).length (ar g)).1≠0:=by rw[M9,Pp];simpa using pc
  have vh:=Be hb
  rw[M9,Pp]at vh;refine g8 ?_;refine St.rV [_] [] ?_;exact congrArg fv vh.symm
 ·skip
  have hb:¬(eU (ts.map cS).length (fs.map fi).length (ar g)).1≠0:=by rw[M9,Pp];simpa using pc
  have Dq:=Pz (iR.1 hb)
  obtain⟨H8,alY,wS⟩:=yf (iR.1 hb);refine g12 ?_;refine St.lS (ι:=Nat) (λk T=>(24,iv k)::T) (λk=>k≤g.nodes.length∧∀i,i<k→sd (ts.map cS) (fs.map fi) (ar g) i=false) (λk=>g.nodes.length-k) 0 (aC.cons 3 rfl (aC.cons 4 rfl (aC.cons 5 rfl (aC.cons 6 rfl (aC.cons 22 rfl (aC.cons 23 rfl aC.nil)))))) ⟨aR _,λi hi=>absurd hi (by omega)⟩ ?_;intro k fy;obtain⟨hk,hbd⟩:=fy;refine g6 ?_;refine St.cq (λh25=> ?_) (λh25=> ?_)
  ·obtain⟨t,ht⟩:=aE (show k<g.nodes.length by omega)
   have rz:=ab ht
   refine St.cL bX g.nodes (x:=t) rz ?_;refine St.eT (sl aq t.lv.1 t.ah) [bX t] (λρ h=>h _ (aU ..)) ?_;refine St.wf t.lv.1 (λSK nU=> ?_)
   have rO:(ar g).getD k gH=lN t:=by rw[ak,jq ht];rfl
   obtain⟨Nc,UB⟩:=wS (lN t) (ab (jq ht))
   replace Nc:0≤t.type∧t.type<((ts.map cS).length:Int):=Nc
   refine g8 ?_;refine St.ee (Ev.jj (.mk rfl) ht vq trivial jR iY.eq) ?_;refine St.al (λb9=> ?_);refine g13 ?_;refine St.lS (ι:=Nat) (λq T=>(32,iv q)::T) (λq=>q≤t.ah.length∧∀j,j<q→∀x,(lN t).2[j]?=some x→Jc (ts.map cS) (fs.map fi) (ar g) t.type x=false) (λq=>t.ah.length-q) 0 (aC.cons 3 rfl (aC.cons 4 rfl (aC.cons 5 rfl (aC.cons 6 rfl (aC.cons 8 rfl (aC.cons 9 rfl (aC.cons 22 rfl (aC.cons 23 rfl (aC.cons 24 rfl (aC.cons 30 rfl (aC.cons 31 rfl aC.nil))))))))))) ⟨aR _,λj hj=>absurd hj (by omega)⟩ ?_;intro q fy;obtain⟨hq,pb⟩:=fy;refine g6 ?_;refine St.cq (λD1=> ?_) (λD1=> ?_)
   ·obtain⟨p,hp⟩:=aE (show q<t.ah.length by omega)
    have Yr:(lN t).2[q]?=some (eR p):=by show(t.ah.map eR)[q]?=_;rw[bE,hp];rfl
    have hpk:=UB (eR p) (ab Yr)
    replace hpk:0≤p.cT∧p.cT<((fs.map fi).length:Int)∧0≤p.tqo∧p.tqo<((ar g).length:Int):=hpk
    obtain⟨fe,Ys⟩:=aE (show p.cT.toNat<fs.length by omega);obtain⟨u,hu⟩:=aE (show p.tqo.toNat<g.nodes.length by omega)
    have hfo:=hF fe (ab Ys)
    have huo:=(wS (lN u) (ab (jq hu))).1
    replace huo:0≤u.type∧u.type<((ts.map cS).length:Int):=huo
    have Ch:(!fw (ts.map cS) t.type.toNat fe.Dk.toNat|| !fw (ts.map cS) u.type.toNat fe.value.toNat)=Jc (ts.map cS) (fs.map fi) (ar g) t.type (eR p):=by
     unfold Jc
     rw[show(eR p).1=p.cT from rfl,show(eR p).2=p.tqo from rfl,ak,bE,Ys,ak,jq hu];rfl
    refine g7 ?_;refine St.ee (Ev.jj (.mk rfl) hp kG trivial dE iY.eq) ?_;refine St.al (λpT=> ?_);refine g9 ?_;refine St.ee (Ev.cZ (k:=p.cT.toNat) (.mk rfl) (.mk rfl) HT Ed (by omega) (by omega)) ?_;refine St.ee (Ev.jj (.mk rfl) Ys Tryz.underlying135 trivial Ed iY.eq) ?_;refine St.al (λIA=> ?_);refine g4 ?_;refine St.rq mixed (by kernel_rfl) (Mm.drawn _ _) ?_;refine g5 ?_;refine Sq.ee (Ev.call (Bd w1 w2 (ts.map cS) hT t.type fe.Dk ⟨by omega,by omega⟩ ⟨by omega,by omega⟩) acK (.eZ rfl rfl rfl)) ?_;refine g2 ?_;refine Sq.gf _ rfl rfl (λhg=>Ev.Xh (.mk rfl) vp trivial (by exact vt)) rfl ?_;refine Sq.gf _ rfl rfl (λhg=>Ev.dB (.mk rfl) uZ) rfl ?_;refine Sq.gf _ rfl rfl (λhg=>Ev.kU (aZ.gv rfl hg) pS trivial (by rfl)) rfl ?_;refine Sq.gf _ rfl rfl (λhg=>Ev.dB (.mk rfl) su) rfl ?_;refine Sq.gf _ rfl rfl (λhg=>Ev.kU (aZ.gv rfl hg) eN trivial (by rfl)) rfl ?_;refine Sq.gf _ rfl rfl (λhg=>Ev.cZ (k:=p.tqo.toNat) (aZ.gv rfl hg) (aZ.gv rfl hg) pS jR (by first|omega|(simp only[br]at hg;omega)) (by first|omega|(simp only[br]at hg;omega))) rfl ?_;refine Sq.gf _ rfl rfl (λhg=>Ev.JR (aZ.gv rfl hg) (by first|omega|(simp only[br]at hg;omega)) ss) rfl ?_;refine Sq.gf _ rfl rfl (λhg=>Ev.ld1 (aZ.gv rfl hg) hu eN trivial rfl) rfl ?_;refine Sq.gf _ rfl rfl (λhg=>Ev.dB (.mk rfl) Cp) rfl ?_;refine Sq.gf _ rfl rfl (λhg=>Ev.kU (aZ.gv rfl hg) eN trivial (by rfl)) rfl ?_;refine Sq.gf _ rfl rfl (λhg=>Ev.call (Bd w1 w2 (ts.map cS) hT u.type fe.value ⟨by omega,by omega⟩ ⟨by omega,by omega⟩) acK (.cons (aZ.gv rfl hg) (.cons (aZ.gv rfl hg) (.cons (aZ.gv rfl hg) .nil)))) rfl ?_;refine Sq.gf _ rfl rfl (λhg=>Ev.not (aZ.gv rfl hg)) rfl ?_;refine g3 ?_;refine St.cond _ rfl (λPg=> ?_) (λPg=> ?_)
    ·skip
     rw[Ch]at Pg
     have Wu:sd (ts.map cS) (fs.map fi) (ar g) k=true:=by unfold sd;rw[rO,xN];exact⟨eR p,ab Yr,Pg⟩
     have vh:=MD hb (Q0 (by omega) Wu hbd)
     refine g3 ?_;refine St.ee (Ev.call (fC 12 k) Lm (.bH rfl rfl)) ?_;refine g13 ?_;refine St.rV [_] [] ?_;exact congrArg fv vh.symm
    ·skip
     rw[Ch]at Pg;refine g8 ?_;refine St.aS (q+1) ⟨by omega,λj hj x hx=>by rcases e7 j q with h|h;exact pb j h x hx;rw[show j=q by omega,Yr]at hx;cases hx;exact Pg⟩
   ·refine g11 ?_
    have Wu:sd (ts.map cS) (fs.map fi) (ar g) k=false:=by
     unfold sd;rw[rO,List.any_eq_false]
     intro x hx;obtain⟨j,hj⟩:=Ap hx
     rw[show(lN t).1=t.type from rfl,pb j (by have:=ae hj;rw[show(lN t).2.length=t.ah.length from aQ _]at this;omega) x hj];decide
    refine St.aS (k+1) ⟨by omega,λi hi=>by rcases e7 i k with h|h;exact hbd i h;rw[show i=k by omega];exact Wu⟩
  ·have vh:=ME hb (Q1 (by rw[A5];intro i hi;exact hbd i (by omega)))
   refine g9 ?_;refine St.ee (Ev.call (ye g Dq (by omega)) ah0 (.bB rfl)) ?_;refine g9 ?_;refine St.cq (λPL=> ?_) (λPL=> ?_)
   ·rw[aB (by omega)]at vh
    refine g3 ?_;refine St.ee (Ev.call (fC 5 (unr (ar g))) Lm (.bH rfl rfl)) ?_;refine g5 ?_;refine St.rV [_] [] ?_;exact congrArg fv vh.symm
   ·rw[aA (by omega)]at vh
    refine g4 ?_;refine St.ee (Ev.build (bF.nil) (λw=>fL w)) ?_;refine g4 ?_;refine St.rV [_] [] ?_;exact congrArg fv vh.symm
def o8 (a b:Int):Int:=if a<b then-1 else if b<a then 1 else 0
def Asc (l:List dL):Prop:=∀(i j:Nat) (x y:dL),i<j→l[i]?=some x→l[j]?=some y→x.cT<y.cT
def aeV (l:List dL)(k:Int)(v:Value):Prop:=∃(i:Nat) (b:Bool),v= .tuple #[iv i,.bool b]∧(b=true→∃x,l[i]?=some x∧x.cT=k)∧(b=false→∀x∈l,x.cT≠k)
theorem yg (x:Int):dA Tryz.prog 133 #[iv x] [] (.bool false):=by
 refine dA.jz (args:=[iv x]) 6 Tryz.func133 rfl Tryz.ntmps133 rfl (λc=> ?_);refine g14 ?_;refine St.rV [_] [] ?_;exact be (by simp)
theorem dw (x y:Int):dA Tryz.prog 100 #[iv x,iv y] [] (iv (o8 x y)):=by
 refine dA.jz (args:=[iv x,iv y]) 20 Tryz.func100 rfl Tryz.ntmps100 rfl (λc=> ?_);refine g8 ?_;refine St.ee (Ev.call (yg x) WV (.bB rfl)) ?_;refine g6 ?_;refine St.ee (Ev.call (yg y) WV (.bB rfl)) ?_;refine g9 ?_;refine St.pF _ rfl rfl ?_;refine g8 ?_;refine St.pF _ rfl rfl ?_;refine g10 ?_;refine St.cq (λzy=> ?_) (λzy=> ?_)
 ·refine g7 ?_
  refine St.rV [_] [] ?_;exact ie (by unfold o8;rw[aB zy])
 ·refine g10 ?_
  refine St.cq (λpc=> ?_) (λpc=> ?_)
  ·refine g7 ?_
   refine St.rV [_] [] ?_;exact ie (by unfold o8;rw[aA (by omega),aB (by omega)])
  ·refine g8 ?_
   refine St.rV [_] [] ?_;exact ie (by unfold o8;rw[aA (by omega),aA (by omega)])
theorem tP (x:dL)(k:Int):dA Tryz.prog 138 ([Value.agg #[iv x.cT,iv x.tqo],iv k]++ []).toArray [] (iv (o8 x.cT k)):=by
 refine dA.jz (args:=[Value.agg #[iv x.cT,iv x.tqo],iv k]++ []) 9 Tryz.func138 rfl Tryz.ntmps138 rfl (λc=> ?_);refine g2 ?_;refine St.cz (.mk rfl) rfl (λb2=> ?_);refine g8 ?_;refine St.ee (Ev.call (dw x.cT k) pt (.bH rfl rfl)) ?_;refine g4 ?_;refine St.rV [_] [] ?_;rfl
theorem Q3 (u:Value)(l:List dL)(k:Int)(ha:Asc l)(hl:l.length≤1000000):dt Tryz.prog 137 #[u,iv k,.func (.func 138) #[] #[]] ([sl aq u l].map aF) (λv H'=>aeV l k v∧H'=[]):=by
 refine dt.body (args:=[u,iv k,.func (.func 138) #[] #[]]) 49 Tryz.func137 rfl Tryz.ntmps137 rfl (λc=> ?_);refine St.cast (H':=[aF (sl aq u l)]) rfl ?_;refine g22 ?_;refine St.lS (ι:=Nat×Nat) (λx T=>(9,iv x.1)::(10,iv x.2)::T) (λx=>x.1≤x.2∧x.2≤l.length∧(∀j y,j<x.1→l[j]?=some y→y.cT<k)∧(∀j y,x.2≤j→l[j]?=some y→k≤y.cT)) (λx=>x.2-x.1) (0,l.length) (aC.cons 0 rfl (aC.cons 1 rfl (aC.cons 2 rfl (aC.cons 6 rfl (aC.cons 7 rfl (aC.cons 8 rfl aC.nil)))))) ⟨aR _,aW _,λj y hj=>absurd hj (Nat.not_lt_zero j),λj y hj h=>by have:=ae h;omega⟩ ?_;rintro ⟨i,j⟩ ⟨jv,rf,hv1,wU⟩
 dsimp only at jv rf hv1 wU⊢
 refine g8 ?_;refine St.cq (λSN=> ?_) (λSN=> ?_)
 ·have H9:i≤(i+j)/2:=by omega
  have pa:(i+j)/2<j:=by omega
  obtain⟨y,hy⟩:=aE (show(i+j)/2<l.length by omega);refine g8 ?_;refine St.ee (Ev.Y3 ((i+j)) (.mk rfl) (by rw[eN];rfl) yG (by omega)) ?_;refine St.ee (Ev.Y2 1 2 (by decide) (.mk rfl) (.mk rfl) (by decide)) ?_;refine St.ee (Ev.Ng (.mk rfl) (by rw[yG];rfl) eN (by omega)) ?_;refine g8 ?_;refine St.ee (Ev.cZ (k:=((i+j)/2)) (.mk rfl) (.mk rfl) eA dE (by omega) (by omega)) ?_;refine St.ee (Ev.jj (.mk rfl) hy kG trivial dE iY.eq) ?_;refine go ?_;refine St.ee (Ev.j5 (tP y k) WW (.mk rfl) (.bH rfl rfl)) ?_;refine g3 ?_;refine St.cq (λuq=> ?_) (λuq=> ?_)
  ·have UC:y.cT<k:=by unfold o8 at uq;split at uq<;>first|assumption|(split at uq<;>omega)
   refine g7 ?_;refine St.aS ((i+j)/2+1,j) ⟨by show(i+j)/2+1≤j;omega,rf,λq z hq hz=>by rcases e7 q ((i+j)/2)with g|g;exact Int.lt_trans (ha _ _ _ _ g hz hy) UC;rw[show q=(i+j)/2 from Nat.le_antisymm (Nat.le_of_lt_succ hq) g,hy]at hz;cases hz;exact UC,wU⟩
  ·have UC:k≤y.cT:=by unfold o8 at uq;split at uq<;>omega
   refine g6 ?_;refine St.aS (i,(i+j)/2) ⟨H9,by show(i+j)/2≤l.length;omega,hv1,λq z hq hz=>by rcases e7 ((i+j)/2) q with g|g;exact Int.le_trans UC (Int.le_of_lt (ha _ _ _ _ g hy hz));rw[show q=(i+j)/2 from Nat.le_antisymm g hq,hy]at hz;cases hz;exact UC⟩
 ·have WI:i=j:=by omega
  subst WI;refine g11 ?_;refine St.split 38 _ rfl (λYt=> ?_) (λYt=> ?_)
  ·have hiW:i<l.length:=by simpa using Yt
   obtain⟨y,hy⟩:=aE hiW;refine go ?_;refine St.aa rfl rfl ?_;refine go ?_;refine St.aa rfl rfl ?_;refine go ?_;refine St.aa rfl rfl ?_;refine go ?_;refine St.aa rfl rfl ?_;refine go ?_;refine St.aa rfl rfl ?_;refine St.ee (Ev.jj (.mk rfl) hy kG trivial dE iY.eq) ?_;refine St.aa rfl rfl ?_;refine go ?_;refine St.aa rfl rfl ?_;refine St.ee (Ev.j5 (tP y k) WW (.mk rfl) (.bH rfl rfl)) ?_;refine St.aa rfl rfl ?_;refine go ?_;refine St.split 47 _ rfl (λYu=> ?_) (λYu=> ?_)
   ·refine St.ee (Ev.eo (.mk rfl) rfl (.mk rfl)) ?_
    refine g5 ?_;refine St.rV [_,_] [] ?_
    have hc:o8 y.cT k=0:=by simpa using Yu
    have UC:y.cT=k:=by unfold o8 at hc;split at hc;cases hc;split at hc;cases hc;omega
    exact⟨⟨i,true,rfl,λ_=>⟨y,hy,UC⟩,λh=>(by cases h)⟩,rfl⟩
   ·refine St.ee (Ev.eo (.mk rfl) rfl (.mk rfl)) ?_
    refine g5 ?_;refine St.rV [_,_] [] ?_
    have hc:o8 y.cT k≠0:=by simpa using Yu
    have UC:y.cT≠k:=λe=>hc (by unfold o8;rw[aA (by omega),aA (by omega)])
    have hyg:=wU i y (aW _) hy
    exact⟨⟨i,false,rfl,λh=>(by cases h),λ_ z hz=>by obtain⟨q,hq⟩:=Ap hz;rcases Nat.lt_trichotomy q i with g|g|g;have:=hv1 q z g hq;omega;rw[g,hy]at hq;cases hq;exact UC;have:=ha _ _ _ _ g hy hq;omega⟩,rfl⟩
  ·have hiW:l.length≤i:=by simpa using Yt
   refine go ?_;refine St.ag rfl rfl rfl ?_;refine St.ag rfl rfl rfl ?_;refine St.ag rfl rfl rfl ?_;refine St.ag rfl rfl rfl ?_;refine St.ag rfl rfl rfl ?_;refine St.ag rfl rfl rfl ?_;refine St.ag rfl rfl rfl ?_;refine St.ag rfl rfl rfl ?_;refine St.ee (Ev.ec (.mk rfl) rfl (.mk rfl)) ?_;refine g5 ?_;refine St.rV [_,_] [] ?_;exact⟨⟨i,false,rfl,λh=>(by cases h),λ_ z hz=>by obtain⟨q,hq⟩:=Ap hz;have h1:=ae hq;have h2:=hv1 q z (by omega) hq;omega⟩,rfl⟩
def FN (G:dF)(i:Nat)(k:Int):Int:=match(G.getD i gH).2.find? λx=>x.1==k with
 |some x=>x.2
 |none=> -1
theorem Q4 (G:dF)(k:Int):FN G 0 k=qp G k:=rfl
theorem UD {l:List dL}(ha:Asc l){j:Nat}{x:dL}{k:Int}(hx:l[j]?=some x)(hk:x.cT=k):(l.map eR).find? (λy=>y.1==k)=some (eR x):=by
 cases h:(l.map eR).find? (λy=>y.1==k)with
 |none=>
  rw[List.find?_eq_none]at h;exact absurd (show((eR x).1==k)=true by rw[beq_iff_eq];exact hk) (h (eR x) (dq (ab hx)))
 |some y=>
  have h1:=List.find?_some h
  obtain⟨z,hz,rfl⟩:=ct.1 (List.mem_of_find?_eq_some h)
  have hzk:z.cT=k:=by simpa[eR]using h1
  obtain⟨q,hq⟩:=Ap hz
  rcases Nat.lt_trichotomy q j with g|g|g
  ·have:=ha _ _ _ _ g hq hx;omega
  ·rw[g,hx]at hq;cases hq;rfl
  ·have:=ha _ _ _ _ g hx hq;omega
theorem Q5 {l:List dL}{k:Int}(h:∀x∈l,x.cT≠k):(l.map eR).find? (λy=>y.1==k)=none:=by
 rw[List.find?_eq_none];intro y hy;obtain⟨z,hz,rfl⟩:=ct.1 hy
 rw[beq_iff_eq];exact h z hz
theorem KJ {nf nn i:Int}:∀{l:List dL} {z:Int},(AD nf nn i z (l.map eR)).1=0→(∀x∈l,z<x.cT)∧Asc l
 | [],_,_=>⟨λx hx=>(by cases hx),λi j x y _ hi=>(by simp at hi)⟩
 |y::l,z,h=>by
  rw[eW,AD]at h
  by_cases h1:(eR y).1<0∨nf≤(eR y).1∨(eR y).2<0∨nn≤(eR y).2
  ·rw[aB h1]at h;exact absurd h (by simp)
  rw[aA h1]at h
  by_cases h2:(eR y).1≤z
  ·rw[aB h2]at h;exact absurd h (by simp)
  rw[aA h2]at h;obtain⟨k1,k2⟩:=KJ h
  replace k1:∀x∈l,y.cT<x.cT:=k1
  replace h2:¬y.cT≤z:=h2
  refine⟨λx hx=> ?_,λi j a b WI ha hb=> ?_⟩
  ·rcases cD.1 hx with rfl|hx
   ·omega
   ·have:=k1 x hx;omega
  ·obtain⟨j,rfl⟩:∃j',j=j'+1:=⟨j-1,by omega⟩
   rw[Dw]at hb
   cases i with
   |zero=>rw[List.getElem?_cons_zero]at ha;cases ha;exact k1 b (ab hb)
   |succ i=>rw[Dw]at ha;exact k2 i j a b (by omega) ha hb
theorem rQ {nt nf nn:Int}:∀{l:List dW} {i:Nat},(eC nt nf nn i (l.map lN)).1=0→∀n∈l,Asc n.ah
 | [],_,_=>λx hx=>by cases hx
 |y::l,i,h=>by
  rw[eW,eC]at h
  by_cases h1:(lN y).1<0∨nt≤(lN y).1
  ·rw[aB h1]at h;exact absurd h (by simp)
  rw[aA h1]at h
  by_cases h2:(AD nf nn i (-1) (lN y).2).1≠0
  ·rw[aB h2]at h;exact absurd h h2
  rw[aA h2]at h;intro x hx
  rcases cD.1 hx with rfl|hx
  ·exact(KJ (iR.1 h2)).2
  ·exact rQ h x hx
theorem Bf {nt nf:Int}{g:cU}(h:(eU nt nf (ar g)).1=0):∀n∈g.nodes,Asc n.ah:=by
 unfold eU at h
 by_cases h1:(ar g).length=0∨60<(ar g).length
 ·rw[aB h1]at h;exact absurd h (by simp)
 rw[aA h1]at h;exact rQ h
theorem n5 (g:cU)(i:Nat)(k:Int)(hi:i<g.nodes.length)(ha:∀n∈g.nodes,Asc n.ah∧n.ah.length≤1000000):dA Tryz.prog 111 #[au g,iv i,iv k] [aG g] (iv (FN (ar g) i k)):=by
 refine dA.na (args:=[au g,iv i,iv k]) 32 Tryz.func111 rfl Tryz.ntmps111 rfl (λc=> ?_);refine go ?_
 refine St.j7 (aG g) (λ_:Unit=>jm g) (λρ h=>⟨(),h⟩) λ_=> ?_
 refine St.cast (H':=[aF (sl bW g.nv.1 g.nodes),aF (aI bX g.nodes),aF (aG g)]) rfl ?_;obtain⟨t,ht⟩:=aE hi
 have rz:=ab ht
 refine St.cL bX g.nodes (x:=t) rz ?_;refine St.eT (sl aq t.lv.1 t.ah) [bX t] (λρ h=>h _ (aU ..)) ?_
 have rO:(ar g).getD i gH=lN t:=by rw[ak,jq ht];rfl
 have Q6:FN (ar g) i k=match(t.ah.map eR).find? (λx=>x.1==k)with|some x=>x.2|none=> -1:=by unfold FN;rw[rO];rfl
 obtain⟨aeW,UE⟩:=ha t rz;refine go ?_;refine St.cz (.mk rfl) rfl (λb3=> ?_);refine g12 ?_;refine St.fE (Q3 t.lv.1 t.ah k aeW UE) acL (.eZ rfl rfl rfl) rfl ?_;rintro v17 _ ⟨⟨j,b,rfl,U9,hbf⟩,rfl⟩;refine St.abL ?_;refine g14 ?_;refine St.cond _ rfl (λAJ=> ?_) (λAJ=> ?_)
 ·skip
  have FO:b=false:=by simpa using AJ
  rw[Q5 (hbf FO)]at Q6;refine g7 ?_;refine St.rV [_] [] ?_;exact ie Q6.symm
 ·skip
  have N4:b=true:=by simpa using AJ
  obtain⟨x,hx,hxk⟩:=U9 N4
  have LS:=ae hx
  rw[UD aeW hx hxk]at Q6;refine g18 ?_;refine St.rV [_] [] ?_;exact ie Q6.symm
theorem FP (g:cU)(kids:Int)(hn:0<g.nodes.length)(ha:∀n∈g.nodes,Asc n.ah∧n.ah.length≤1000000):dA Tryz.prog 81 #[au g,iv kids] [aG g] (.bool (ml (ar g) kids)):=by
 refine dA.na (args:=[au g,iv kids]) 18 Tryz.func81 rfl Tryz.ntmps81 rfl (λc=> ?_);refine g2 ?_;refine St.cz (.mk rfl) rfl (λb2=> ?_);refine g10 ?_;refine St.lS (ι:=Nat) (λk T=>(6,iv k)::T) (λk=>k≤4∧∀j,j<k→(decide (0≤qp (ar g) (j:Nat))==decide (((j:Nat):Int)≤kids))=true) (λk=>4-k) 0 (aC.cons 1 rfl (aC.cons 2 rfl aC.nil)) ⟨aR _,λj hj=>absurd hj (by omega)⟩ ?_;intro k fy;obtain⟨hk,pb⟩:=fy;refine g6 ?_;refine St.cq (λh7=> ?_) (λh7=> ?_)
 ·refine g14 ?_
  refine St.ee (Ev.call (n5 g 0 k hn ha) Jv (.eZ rfl rfl rfl)) ?_;refine g4 ?_;refine St.ee (Ev.JS (.mk rfl) (.mk rfl) Eb) ?_;refine g2 ?_;refine St.cond _ rfl (λzy=> ?_) (λzy=> ?_)
  ·skip
   have SO:(decide (0≤qp (ar g) (k:Nat))==decide (((k:Nat):Int)≤kids))=false:=by rw[rZ];simp[Q4]at zy;exact zy
   refine g11 ?_;refine St.rV [_] [] ?_;exact be (by unfold ml;symm;rw[List.all_eq_false];exact⟨k,cy.2 (by omega),by rw[SO];decide⟩)
  ·skip
   have SO:(decide (0≤qp (ar g) (k:Nat))==decide (((k:Nat):Int)≤kids))=true:=by rw[beq_iff_eq];simp[Q4]at zy;exact zy
   refine g8 ?_;refine St.aS (k+1) ⟨by omega,λj hj=>by rcases e7 j k with h|h;exact pb j h;rw[show j=k by omega];exact SO⟩
 ·refine g11 ?_
  refine St.rV [_] [] ?_;exact be (by unfold ml;symm;rw[eO];intro j hj;exact pb j (by have:=cy.1 hj;omega))
theorem Q7 {l:List dL}(ha:Asc l)(h0:∀x∈l,0≤x.cT):∀(i:Nat) (x:dL),l[i]?=some x→(i:Int)≤x.cT
 |0,x,hx=>h0 x (ab hx)
 |i+1,x,hx=>by
  obtain⟨y,hy⟩:=aE (show i<l.length by have:=ae hx;omega)
  have h1:=Q7 ha h0 i y hy
  have h2:=ha i (i+1) y x (uH i) hy hx
  omega
theorem UG {l:List dL}(ha:Asc l){nf:Nat}(h0:∀x∈l,0≤x.cT∧x.cT<nf):l.length≤nf:=by
 rcases Nat.eq_zero_or_pos l.length with h|h
 ·omega
 ·obtain⟨y,hy⟩:=aE (show l.length-1<l.length by omega)
  have h1:=Q7 ha (λx hx=>(h0 x hx).1) _ y hy
  have h2:=(h0 y (ab hy)).2
  omega
theorem Bg {n:Int}:∀{l:List oO} {known:List bI} {i:Nat},(lj n known i l).1=0→∀f∈l,0≤f.2.1∧f.2.1<n∧0≤f.2.2∧f.2.2<n
 | [],_,_,_=>λf hf=>by cases hf
 |t::l,known,i,h=>by
  rw[lj]at h
  by_cases h1:isName t.1=false
  ·rw[aB h1]at h;exact absurd h (by simp)
  rw[aA h1]at h
  by_cases h2:t.1∈known
  ·rw[aB h2]at h;exact absurd h (by simp)
  rw[aA h2]at h
  by_cases h3:t.2.1<0∨n≤t.2.1∨t.2.2<0∨n≤t.2.2
  ·rw[aB h3]at h;exact absurd h (by simp)
  rw[aA h3]at h;intro f hf
  rcases cD.1 hf with rfl|hf
  ·omega
  ·exact Bg h f hf
theorem UH {T:List dz}{Fs:List oO}(h:(ij T Fs).1=0):0<T.length∧gy T∧Fs.length≤40∧∀f∈Fs,0≤f.2.1∧f.2.1<T.length∧0≤f.2.2∧f.2.2<T.length:=by
 unfold ij at h
 by_cases h1:40<Fs.length
 ·rw[aB h1]at h;exact absurd h (by simp)
 rw[aA h1]at h
 by_cases h2:(AA T).1≠0
 ·rw[aB h2]at h;exact absurd h h2
 rw[aA h2]at h;obtain⟨_,k1,k2⟩:=I1 (iR.1 h2)
 cases e:vk T with
 |some b=>rw[e]at h;exact absurd h (by simp)
 |none=>rw[e]at h;exact⟨k1,k2,by omega,Bg h⟩
theorem take_set {A:List Int}{p:List Nat}{i:Nat}(h:A.take p.length=ints p)(hl:p.length<A.length):(A.set p.length (i:Int)).take (p.length+1)=ints (p++ [i]):=by
 have h0:(A.set p.length (i:Int))[p.length]?=some (i:Int):=by rw[eP hl]
 rw[ai h0,List.take_set,h,ints,ints,cC,List.set_eq_of_length_le (by rw[aQ];exact aW _)];rfl
theorem UI (T:List dz)(Fs:List oO)(x:fN):wL T Fs (rJ x)=if isWord x.word=false then 10 else if x.weight<0∨1000000<x.weight then 3 else if(ca T Fs (ar x.graph)).1≠0 then(ca T Fs (ar x.graph)).1 else(pk (di x.er)).1:=rfl
theorem Q8 (T:List dz)(Fs:List oO)(x:dC):pK T Fs (mi x)=if x.kids<1∨3<x.kids∨x.weight<0∨1000000<x.weight then 3 else if(ca T Fs (ar x.graph)).1≠0 then(ca T Fs (ar x.graph)).1 else if ml (ar x.graph) x.kids=false then 5 else(pk (di x.er)).1:=rfl
theorem D5 {T:List dz}{Fs:List oO}{G:dF}(h:(ca T Fs G).1=0):(eU T.length Fs.length G).1=0:=by
 rcases Decidable.em ((eU T.length Fs.length G).1=0)with h1|h1
 ·exact h1
 ·rw[Be h1]at h;exact h
theorem AM {T:List dz}{Fs:List oO}(hFs:Fs.length≤40){g:cU}(h:(ca T Fs (ar g)).1=0):0<g.nodes.length∧∀n∈g.nodes,Asc n.ah∧n.ah.length≤1000000:=by
 have h1:=D5 h
 obtain⟨h2,_,h3⟩:=yf h1;refine⟨by rw[cP]at h2;exact h2,λn hn=>⟨Bf h1 n hn,?_⟩⟩
 have h4:=(h3 (lN n) (dq hn)).2
 have:=UG (Bf h1 n hn) (nf:=Fs.length) (λx hx=>by
  have:=h4 (eR x) (dq hx)
  exact⟨this.1,this.2.1⟩)
 omega
theorem II (tv xv w1 w2:aY)(ts:List xu)(fs:List j8)(x:fN)(hT:gy (ts.map cS))(hF:∀f∈fs,0≤f.Dk∧f.Dk<ts.length∧0≤f.value∧f.value<ts.length)(hw:eF.wf x):iz Tryz.prog 48 #[.agg #[tv.1,xv.1],jS w1 w2,ab2 x] [sl qS tv.1 ts,sl gZ xv.1 fs,sl ay w1.1 (cn (ts.map cS)),sl ay w2.1 (cr (ts.map cS)),eB x,u8] (iv (wL (ts.map cS) (fs.map fi) (rJ x))):=by
 refine iz.body (args:=[.agg #[tv.1,xv.1],jS w1 w2,ab2 x]) (ds:=[sl qS tv.1 ts,sl gZ xv.1 fs,sl ay w1.1 (cn (ts.map cS)),sl ay w2.1 (cr (ts.map cS)),eB x,u8]) 34 Tryz.func48 rfl Tryz.ntmps48 rfl (λc lf=> ?_);refine St.cast (H':=[aF (sl qS tv.1 ts),aF (sl gZ xv.1 fs),aF (sl ay w1.1 (cn (ts.map cS))),aF (sl ay w2.1 (cr (ts.map cS))),aF (eB x),aF (u8)]) rfl ?_;refine go ?_
 refine St.j7 (eB x) (λ_:Unit=>Y6 x) (λρ h=>⟨(),h⟩) λ_=> ?_
 refine St.cast (H':=[aF (aG x.graph),aF (iK x.er),aF (sl qS tv.1 ts),aF (sl gZ xv.1 fs),aF (sl ay w1.1 (cn (ts.map cS))),aF (sl ay w2.1 (cr (ts.map cS))),aF (eB x),aF (u8)]) rfl ?_
 have kI:=UI (ts.map cS) (fs.map fi) x
 obtain⟨SB,Gj,hw3⟩:=hw
 replace SB:x.word.length≤140737488351232:=SB
 refine go ?_;refine St.cz (.mk rfl) rfl (λb3=> ?_);refine St.cz (.mk rfl) rfl (λb4=> ?_);refine St.cz (.mk rfl) rfl (λb5=> ?_);refine g8 ?_;refine St.ee (Ev.ni lf (BQ x.word (by omega)) acR (.bB rfl)) ?_;refine g3 ?_;refine St.cond _ rfl (λKK=> ?_) (λKK=> ?_)
 ·skip
  rw[aB (by simpa using KK)]at kI;refine g7 ?_;refine St.rV [_] [] ?_;exact ie kI.symm
 ·skip
  rw[aA (by simpa using KK)]at kI;refine g9 ?_;refine St.gf _ rfl rfl (λhg=>Ev.dB (.mk rfl) Cv) rfl ?_;refine St.gf _ rfl rfl (λhg=>Ev.kU (aZ.gv rfl hg) eN trivial (by rfl)) rfl ?_;refine St.gf _ rfl rfl (λhg=>Ev.gtr (aZ.gv rfl hg) (.mk rfl)) rfl ?_;refine g3 ?_;refine St.cq (λpc=> ?_) (λpc=> ?_)
  ·rw[aB (by omega)]at kI
   refine g7 ?_;refine St.rV [_] [] ?_;exact ie kI.symm
  ·rw[aA (by omega)]at kI
   refine g8 ?_;refine St.ee (Ev.gh 1 (.mk rfl) mO trivial jb rfl rfl) ?_;refine St.slot 23 (au x.graph) rfl rfl ?_;refine St.ee (Ev.call (qA tv xv w1 w2 ts fs x.graph hT hF) YR (.eZ rfl rfl rfl)) ?_;refine St.al (λb7=> ?_);refine g10 ?_;refine St.cond _ rfl (λQ9=> ?_) (λQ9=> ?_)
   ·skip
    have hb:(ca (ts.map cS) (fs.map fi) (ar x.graph)).1≠0:=by simpa using Q9
    rw[aB hb]at kI;refine g9 ?_;refine St.rV [_] [] ?_;exact ie kI.symm
   ·skip
    have hb:¬(ca (ts.map cS) (fs.map fi) (ar x.graph)).1≠0:=by simpa using Q9
    rw[aA hb]at kI;refine g5 ?_;refine St.ee (Ev.gh 6 (.mk rfl) rK trivial l6 rfl rfl) ?_;refine St.slot 31 (vm x.er) rfl rfl ?_;refine St.ee (Ev.call (tH x.er hw3) acS (.bB rfl)) ?_;refine St.ee (Ev.CT (.mk rfl) Ec rfl (by first|rw[eN]|(dsimp only;rw[eN])|kernel_rfl) rfl) ?_;refine g4 ?_;refine St.rV [_] [] ?_;exact ie kI.symm
theorem MF (tv xv w1 w2:aY)(ts:List xu)(fs:List j8)(x:dC)(hT:gy (ts.map cS))(hF:∀f∈fs,0≤f.Dk∧f.Dk<ts.length∧0≤f.value∧f.value<ts.length)(Pp:fs.length≤40)(hw:cY.wf x):dA Tryz.prog 47 #[.agg #[tv.1,xv.1],jS w1 w2,WD x] [sl qS tv.1 ts,sl gZ xv.1 fs,sl ay w1.1 (cn (ts.map cS)),sl ay w2.1 (cr (ts.map cS)),cK x] (iv (pK (ts.map cS) (fs.map fi) (mi x))):=by
 unfold dA;refine dt.body (args:=[.agg #[tv.1,xv.1],jS w1 w2,WD x]) 46 Tryz.func47 rfl Tryz.ntmps47 rfl (λc=> ?_);refine St.cast (H':=[aF (sl qS tv.1 ts),aF (sl gZ xv.1 fs),aF (sl ay w1.1 (cn (ts.map cS))),aF (sl ay w2.1 (cr (ts.map cS))),aF (cK x)]) rfl ?_;refine go ?_
 refine St.j7 (cK x) (λ_:Unit=>Np x) (λρ h=>⟨(),h⟩) λ_=> ?_
 refine St.cast (H':=[aF (aG x.graph),aF (iK x.er),aF (sl qS tv.1 ts),aF (sl gZ xv.1 fs),aF (sl ay w1.1 (cn (ts.map cS))),aF (sl ay w2.1 (cr (ts.map cS))),aF (cK x)]) rfl ?_
 have kI:=Q8 (ts.map cS) (fs.map fi) x
 obtain⟨SB,hwk,hwg,hw3⟩:=hw;refine go ?_;refine St.cz (.mk rfl) rfl (λb3=> ?_);refine St.cz (.mk rfl) rfl (λb4=> ?_);refine St.cz (.mk rfl) rfl (λb5=> ?_);refine g10 ?_;refine St.gf _ rfl rfl (λhg=>Ev.dB (.mk rfl) xA) rfl ?_;refine St.gf _ rfl rfl (λhg=>Ev.kU (aZ.gv rfl hg) eN trivial (by rfl)) rfl ?_;refine St.gf _ rfl rfl (λhg=>Ev.gtr (aZ.gv rfl hg) (.mk rfl)) rfl ?_;refine g2 ?_;refine St.gf _ rfl rfl (λhg=>Ev.dB (.mk rfl) xB) rfl ?_;refine St.gf _ rfl rfl (λhg=>Ev.kU (aZ.gv rfl hg) eN trivial (by rfl)) rfl ?_;refine St.gf _ rfl rfl (λhg=>Ev.lss (aZ.gv rfl hg) (.mk rfl)) rfl ?_;refine g2 ?_;refine St.gf _ rfl rfl (λhg=>Ev.dB (.mk rfl) xB) rfl ?_;refine St.gf _ rfl rfl (λhg=>Ev.kU (aZ.gv rfl hg) eN trivial (by rfl)) rfl ?_;refine St.gf _ rfl rfl (λhg=>Ev.gtr (aZ.gv rfl hg) (.mk rfl)) rfl ?_;refine g3 ?_;refine St.cq (λh25=> ?_) (λh25=> ?_)
 ·rw[aB (by omega)]at kI
  refine g7 ?_;refine St.rV [_] [] ?_;exact ie kI.symm
 ·rw[aA (by omega)]at kI
  refine g8 ?_;refine St.ee (Ev.gh 1 (.mk rfl) mO trivial jb rfl rfl) ?_;refine St.slot 29 (au x.graph) rfl rfl ?_;refine St.ee (Ev.call (qA tv xv w1 w2 ts fs x.graph hT hF) YR (.eZ rfl rfl rfl)) ?_;refine St.al (λb7=> ?_);refine g10 ?_;refine St.cond _ rfl (λD1=> ?_) (λD1=> ?_)
  ·skip
   have hb:(ca (ts.map cS) (fs.map fi) (ar x.graph)).1≠0:=by simpa using D1
   rw[aB hb]at kI;refine g9 ?_;refine St.rV [_] [] ?_;exact ie kI.symm
  ·skip
   have hb:¬(ca (ts.map cS) (fs.map fi) (ar x.graph)).1≠0:=by simpa using D1
   rw[aA hb]at kI;obtain⟨Sm,hna⟩:=AM (by rw[aQ];exact Pp) (iR.1 hb);refine g6 ?_;refine St.ee (Ev.gh 1 (.mk rfl) mO trivial jb rfl rfl) ?_;refine St.slot 37 (au x.graph) rfl rfl ?_;refine g2 ?_;refine St.ee (Ev.call (FP x.graph x.kids Sm hna) ah4 (.bH rfl rfl)) ?_;refine g3 ?_;refine St.cond _ rfl (λFE=> ?_) (λFE=> ?_)
   ·skip
    rw[aB (by simpa using FE)]at kI;refine g7 ?_;refine St.rV [_] [] ?_;exact ie kI.symm
   ·skip
    rw[aA (by simpa using FE)]at kI;refine g5 ?_;refine St.ee (Ev.gh 6 (.mk rfl) rK trivial l6 rfl rfl) ?_;refine St.slot 43 (vm x.er) rfl rfl ?_;refine St.ee (Ev.call (tH x.er hw3) acS (.bB rfl)) ?_;refine St.ee (Ev.CT (.mk rfl) Ec rfl (by first|rw[eN]|(dsimp only;rw[eN])|kernel_rfl) rfl) ?_;refine g4 ?_;refine St.rV [_] [] ?_;exact ie kI.symm
theorem FQ {T:List dz}{Fs:List oO}{l:List CZ}{k:Nat}{t:CZ}(ht:l[k]?=some t)(known:List bI):j0 T Fs known k (l.drop k)=if isName t.name=false then(10,(k:Int))else if t.name∈known then(7,(k:Int))else if pK T Fs t≠0 then(pK T Fs t,(k:Int))else j0 T Fs (known++ [t.name]) (k+1) (l.drop (k+1)):=by rw[an ht,j0]
theorem IJ {T:List dz}{Fs:List oO}{l:List CZ}{k:Nat}(h:l.length≤k)(known:List bI):j0 T Fs known k (l.drop k)=(0,0):=by rw[fX h,j0]
theorem FR {T:List dz}{Fs:List oO}{l:List HJ}{k:Nat}{t:HJ}(ht:l[k]?=some t):j2 T Fs k (l.drop k)=if wL T Fs t≠0 then(wL T Fs t,(k:Int))else j2 T Fs (k+1) (l.drop (k+1)):=by rw[an ht,j2]
theorem IK {T:List dz}{Fs:List oO}{l:List HJ}{k:Nat}(h:l.length≤k):j2 T Fs k (l.drop k)=(0,0):=by rw[fX h,j2]
theorem UJ (g:ja):lC (gG g)=if(ij (g.types.map cS) (g.bb.map fi)).1≠0 then ij (g.types.map cS) (g.bb.map fi)else if(g.bb.map fi).length≤3 then(9,-1)else if 40<(g.rules.map mi).length∨100<(g.aN.map rJ).length then(2,-1)
 else if(j0 (g.types.map cS) (g.bb.map fi) [] 0 (g.rules.map mi)).1≠0 then j0 (g.types.map cS) (g.bb.map fi) [] 0 (g.rules.map mi)else if(j2 (g.types.map cS) (g.bb.map fi) 0 (g.aN.map rJ)).1≠0 then j2 (g.types.map cS) (g.bb.map fi) 0 (g.aN.map rJ)
 else if(ca (g.types.map cS) (g.bb.map fi) (ar g.start)).1≠0 then((ca (g.types.map cS) (g.bb.map fi) (ar g.start)).1,-1)else(0,0):=rfl
theorem xD {r x E:Int×Int}{c i:Int}(h:x=if r.1≠0 then r else E)(e:r=(c,i))(hc:c≠0):x=(c,i):=by rw[h,aB (by rw[e];exact hc),e]
theorem KM {r x E:Int×Int}(h:x=if r.1≠0 then r else E)(e:r=(0,0)):x=E:=by rw[h,aA (by rw[e];simp)]
theorem w7 (g:ja):iz Tryz.prog 24 #[kC g] [kW g,tz,u8] (fv (lC (gG g))):=by
 refine iz.body (args:=[kC g]) (ds:=[kW g,tz,u8]) 112 Tryz.func24 rfl Tryz.ntmps24 rfl (λc lf=> ?_);refine St.cast (H':=[aF (kW g),aF (tz),aF (u8)]) rfl ?_;refine go ?_
 refine St.j7 (kW g) (λ_:Unit=>Lg g) (λρ h=>⟨(),h⟩) λ_=> ?_
 refine St.cast (H':=[aF (sl qS g.tv.1 g.types),aF (aI xy g.types),aF (sl gZ g.fv.1 g.bb),aF (sl cY g.rv.1 g.rules),aF (aI cK g.rules),aF (sl eF g.xv.1 g.aN),aF (aI eB g.aN),aF (aG g.start),aF (kW g),aF (tz),aF (u8)]) rfl ?_
 have s6:=UJ g
 have M9:(g.types.map cS).length=g.types.length:=aQ ..
 have Pp:(g.bb.map fi).length=g.bb.length:=aQ ..
 have hRl:(g.rules.map mi).length=g.rules.length:=aQ ..
 have hXl:(g.aN.map rJ).length=g.aN.length:=aQ ..
 refine St.wf g.rv.1 (λhrw Yv=> ?_);refine St.wf g.xv.1 (λzu wI=> ?_);refine go ?_;refine St.cz (.mk rfl) rfl (λb1=> ?_);refine St.al (λb2=> ?_);refine g5 ?_;refine St.ee (Ev.gh 2 (.mk rfl) Tryz.underlying25 trivial YJ rfl rfl) ?_;refine St.slot 17 (.agg #[g.tv.1,g.fv.1]) rfl rfl ?_;refine St.al (λb3=> ?_);refine g7 ?_;refine St.ee (Ev.call (D3 g.tv g.fv g.types g.bb) ah5 (.bB rfl)) ?_;refine St.al (λb4=> ?_);refine g10 ?_;refine St.cond _ rfl (λyU=> ?_) (λyU=> ?_)
 ·skip
  have hb:(ij (g.types.map cS) (g.bb.map fi)).1≠0:=by simpa using yU
  rw[aB hb]at s6;refine g8 ?_;refine St.rV [_] [] ?_;exact congrArg fv s6.symm
 ·skip
  have hb:¬(ij (g.types.map cS) (g.bb.map fi)).1≠0:=by simpa using yU
  rw[aA hb]at s6;obtain⟨_,hT,alZ,hF0⟩:=UH (iR.1 hb)
  have hF:∀f∈g.bb,0≤f.Dk∧f.Dk<g.types.length∧0≤f.value∧f.value<g.types.length:=λf hf=>by have:=hF0 (fi f) (dq hf);rw[M9]at this;exact this
  refine g11 ?_;refine St.cq (λQ9=> ?_) (λQ9=> ?_)
  ·rw[aB (by omega)]at s6
   refine g2 ?_;refine St.ee (Ev.call (du 9 (-1)) Hd (.bH rfl rfl)) ?_;refine g5 ?_;refine St.rV [_] [] ?_;exact congrArg fv s6.symm
  ·rw[aA (by omega)]at s6
   refine g10 ?_;refine St.gf _ rfl rfl (λhg=>Ev.dB (.mk rfl) HY) rfl ?_;refine St.gf _ rfl rfl (λhg=>Ev.kU (aZ.gv rfl hg) TR trivial (by rfl)) rfl ?_;refine St.gf _ rfl rfl (λhg=>Ev.fm (aZ.gv rfl hg) TR) rfl ?_;refine St.gf _ rfl rfl (λhg=>Ev.gtr (aZ.gv rfl hg) (.mk rfl)) rfl ?_;refine g3 ?_;refine St.cq (λHu=> ?_) (λHu=> ?_)
   ·rw[aB (by omega)]at s6
    refine g2 ?_;refine St.ee (Ev.call (du 2 (-1)) Hd (.bH rfl rfl)) ?_;refine g5 ?_;refine St.rV [_] [] ?_;exact congrArg fv s6.symm
   ·rw[aA (by omega)]at s6
    refine g6 ?_;refine St.fE (q9 g.tv.1 g.types hT) YM (.bB rfl) rfl ?_;rintro v42 _ ⟨w1,w2,rfl,rfl⟩;refine St.lZ ?_;refine St.al (λb5=> ?_);refine g5 ?_;refine St.makeMap mkStr rfl (λb43=> ?_);refine g13 ?_;refine St.vo (ι:=Nat) (κ:=List (bI×Value)) (λk m T=>(47,iv k)::T) (λk m=>[aX b43 (dh mkStr m),aX b1 (.cells [g.tv.1,g.fv.1,g.rv.1,g.xv.1,g.start.nv.1].toArray 32 (0,0)),aX b2 (.cells [iv 0,iv 0].toArray 35 (0,0)),aX b3 (.cells [g.tv.1,g.fv.1].toArray 25 (0,0)),aX b5 (.cells [w1.1,w2.1].toArray 100 (0,0)),aF (sl qS g.tv.1 g.types),aF (aI xy g.types),aF (sl gZ g.fv.1 g.bb),aF (sl cY g.rv.1 g.rules),aF (aI cK g.rules),aF (sl eF g.xv.1 g.aN),aF (aI eB g.aN),aF (aG g.start),aF (sl ay w1.1 (cn (g.types.map cS))),aF (sl ay w2.1 (cr (g.types.map cS))),aF (u8)]) (λk m=>k≤g.rules.length∧j0 (g.types.map cS) (g.bb.map fi) [] 0 (g.rules.map mi)=j0 (g.types.map cS) (g.bb.map fi) ((g.rules.take k).map dC.name) k ((g.rules.map mi).drop k)∧M3 m ((g.rules.take k).map dC.name)) (λk m=>g.rules.length-k) 0 [] (aC.cons 1 rfl (aC.cons 2 rfl (aC.cons 3 rfl (aC.cons 5 rfl (aC.cons 6 rfl (aC.cons 45 rfl (aC.cons 46 rfl aC.nil))))))) ⟨aR _,rfl,M3.nil⟩ ?_;rintro k m ⟨hk,hv,wT⟩;refine g6 ?_;refine St.cq (λh48=> ?_) (λh48=> ?_)
    ·obtain⟨t,ht⟩:=aE (show k<g.rules.length by omega)
     have rz:=ab ht
     have ei:=FQ (T:=(g.types.map cS)) (Fs:=(g.bb.map fi)) (l:=g.rules.map mi) (k:=k) (t:=mi t) (by rw[bE,ht];rfl) ((g.rules.take k).map dC.name)
     have KC:t.name.length≤9223372036854775807:=by have:=(hrw t rz).1;simp only[xq]at this;omega
     refine St.cL cK g.rules (x:=t) rz ?_;refine g8 ?_;refine St.ee (Ev.jj (.mk rfl) ht sg trivial l7 iY.eq) ?_;refine St.al (λb8=> ?_);refine g9 ?_;refine St.ee (Ev.call (qX t.name KC) TV (.bB rfl)) ?_;refine g3 ?_;refine St.cq (λh55=> ?_) (λh55=> ?_)
     ·rw[aB (show isName (mi t).name=false from(by simpa using h55:isName t.name=false))]at ei
      refine g3 ?_;refine St.ee (Ev.call (du 10 k) Hd (.bH rfl rfl)) ?_;refine g10 ?_;refine St.rV [_] [] ?_;exact congrArg fv (xD s6 (hv.trans ei) (by decide)).symm
     ·rw[aA (show ¬isName (mi t).name=false from(by simpa using h55:¬isName t.name=false))]at ei
      refine g8 ?_;refine St.ee (Ev.sY mkStr (k:=t.name) (.mk rfl) (.mk rfl) pL (by exact sK) jA) ?_;refine g3 ?_;refine St.slot 64 (.bool (decide (t.name∈(g.rules.take k).map dC.name))) rfl (congrArg Value.bool (wT t.name)) ?_;refine g9 ?_;refine St.cq (λh65=> ?_) (λh65=> ?_)
      ·rw[aB (show(mi t).name∈(g.rules.take k).map dC.name from h65)]at ei
       refine g3 ?_;refine St.ee (Ev.call (du 7 k) Hd (.bH rfl rfl)) ?_;refine g10 ?_;refine St.rV [_] [] ?_;exact congrArg fv (xD s6 (hv.trans ei) (by decide)).symm
      ·rw[aA (show ¬(mi t).name∈(g.rules.take k).map dC.name from h65)]at ei
       refine g8 ?_;refine St.mapUpdate mkStr (k:=t.name) (.mk rfl) (.mk rfl) (.mk rfl) pL (by exact sK) ?_;refine g7 ?_;refine St.ee (Ev.call (MF g.tv g.fv w1 w2 g.types g.bb t hT hF (by omega) (hrw t rz)) ah6 (.eZ rfl rfl rfl)) ?_;refine g9 ?_;refine St.cond _ rfl (λSJ=> ?_) (λSJ=> ?_)
       ·skip
        have w8:pK (g.types.map cS) (g.bb.map fi) (mi t)≠0:=by simpa using SJ
        rw[aB w8]at ei;refine g4 ?_;refine St.ee (Ev.call (du (pK (g.types.map cS) (g.bb.map fi) (mi t)) k) Hd (.bH rfl rfl)) ?_;refine g9 ?_;refine St.rV [_] [] ?_;exact congrArg fv (xD s6 (hv.trans ei) w8).symm
       ·skip
        have w8:¬pK (g.types.map cS) (g.bb.map fi) (mi t)≠0:=by simpa using SJ
        rw[aA w8]at ei;refine g8 ?_;refine St.wo (k+1) (kB m t.name (iv k)) ⟨by omega,by rw[hv,ei,fM dC.name ht];rfl,by rw[fM dC.name ht];exact wT.snoc _ _⟩
    ·rw[IJ (by omega)]at hv
     replace s6:=KM s6 hv
     refine g15 ?_;refine St.lH (ι:=Nat) (λq T=>(85,iv q)::T) (λq=>[aX b1 (.cells [g.tv.1,g.fv.1,g.rv.1,g.xv.1,g.start.nv.1].toArray 32 (0,0)),aX b2 (.cells [iv 0,iv 0].toArray 35 (0,0)),aX b3 (.cells [g.tv.1,g.fv.1].toArray 25 (0,0)),aX b5 (.cells [w1.1,w2.1].toArray 100 (0,0)),aF (sl qS g.tv.1 g.types),aF (aI xy g.types),aF (sl gZ g.fv.1 g.bb),aF (sl cY g.rv.1 g.rules),aF (aI cK g.rules),aF (sl eF g.xv.1 g.aN),aF (aI eB g.aN),aF (aG g.start),aF (sl ay w1.1 (cn (g.types.map cS))),aF (sl ay w2.1 (cr (g.types.map cS))),aF (u8)]) (λq=>q≤g.aN.length∧j2 (g.types.map cS) (g.bb.map fi) 0 (g.aN.map rJ)=j2 (g.types.map cS) (g.bb.map fi) q ((g.aN.map rJ).drop q)) (λq=>g.aN.length-q) 0 (aC.cons 1 rfl (aC.cons 2 rfl (aC.cons 3 rfl (aC.cons 5 rfl (aC.cons 83 rfl (aC.cons 84 rfl aC.nil)))))) ⟨aR _,rfl⟩ ?_;rintro q ⟨hq,wU⟩;refine g6 ?_;refine St.cq (λh86=> ?_) (λh86=> ?_)
     ·obtain⟨x,hx⟩:=aE (show q<g.aN.length by omega)
      have zx:=ab hx
      have ei:=FR (T:=(g.types.map cS)) (Fs:=(g.bb.map fi)) (l:=g.aN.map rJ) (k:=q) (t:=rJ x) (by rw[bE,hx];rfl)
      refine St.cL eB g.aN (x:=x) zx ?_;refine g8 ?_;refine St.ee (Ev.jj (.mk rfl) hx yE trivial pq iY.eq) ?_;refine St.al (λQA=> ?_);refine g9 ?_;refine St.ee (Ev.ni lf (II g.tv g.fv w1 w2 g.types g.bb x hT hF (zu x zx)) ah7 (.eZ rfl rfl rfl)) ?_;refine g9 ?_;refine St.cond _ rfl (λzw=> ?_) (λzw=> ?_)
      ·skip
       have w8:wL (g.types.map cS) (g.bb.map fi) (rJ x)≠0:=by simpa using zw
       rw[aB w8]at ei;refine g4 ?_;refine St.ee (Ev.call (du (wL (g.types.map cS) (g.bb.map fi) (rJ x)) q) Hd (.bH rfl rfl)) ?_;refine g9 ?_;refine St.rV [_] [] ?_;exact congrArg fv (xD s6 (wU.trans ei) w8).symm
      ·skip
       have w8:¬wL (g.types.map cS) (g.bb.map fi) (rJ x)≠0:=by simpa using zw
       rw[aA w8]at ei;refine g8 ?_;refine St.aH (q+1) ⟨by omega,wU.trans ei⟩
     ·rw[IK (by omega)]at wU
      replace s6:=KM s6 wU
      refine g11 ?_;refine St.ee (Ev.gh 1 (.mk rfl) mO trivial jb rfl rfl) ?_;refine St.slot 103 (au g.start) rfl rfl ?_;refine St.ee (Ev.call (qA g.tv g.fv w1 w2 g.types g.bb g.start hT hF) YR (.eZ rfl rfl rfl)) ?_;refine St.al (λIL=> ?_);refine g10 ?_;refine St.cond _ rfl (λYw=> ?_) (λYw=> ?_)
      ·skip
       have hwb:(ca (g.types.map cS) (g.bb.map fi) (ar g.start)).1≠0:=by simpa using Yw
       rw[aB hwb]at s6;refine g4 ?_;refine St.ee (Ev.call (du (ca (g.types.map cS) (g.bb.map fi) (ar g.start)).1 (-1)) Hd (.bH rfl rfl)) ?_;refine g5 ?_;refine St.rV [_] [] ?_;exact congrArg fv s6.symm
      ·skip
       have hwb:¬(ca (g.types.map cS) (g.bb.map fi) (ar g.start)).1≠0:=by simpa using Yw
       rw[aA hwb]at s6;refine g4 ?_;refine St.ee (Ev.build (bF.nil) (λw=>fL w)) ?_;refine g4 ?_;refine St.rV [_] [] ?_;exact congrArg fv s6.symm
end Go.Proofs.YtblifkgpebebmaaGreatDoor
namespace Go.J
open Go
def u8R:Rp UInt8:=⟨1,by decide,λx=>[.int .u8 (x.toNat:Int)],λ_=>True,λ_=>rfl,λ_ u h=>by simp at h;subst h;rfl⟩
section
variable {P:Program}{n:Nat}{F:Fr}{c:Ctx}{H:List ao}{ty:TypeId}{x:Operand}{Q:Exit→Act→World→Prop}{ops:Array Oper}{rest:List Oper}{d:Nat}{pos:String}{after:Array Edge}{src dst e:TypeId}
theorem tQ (s:bI):rows u8R s=s.map λb=>Value.int .u8 (b.toNat:Int):=by
 induction s with
 |nil=>rfl
 |cons x xs ih=>simp only[rows,List.flatMap_cons,List.map_cons]at ih⊢;rw[ih];rfl
end
section
variable {P:Program}{n:Nat}{F:Fr}{c:Ctx}{H R:List ao}{ty:TypeId}{x:Operand}{v:Value}
theorem Ev.Yx (l:bI){m:Nat}{cs:List Value}{src dst e:TypeId}[hr:wH v H e 1 m cs](hx:aZ F x v)(hm:m=l.length)(kq:cs=l.map λb=>Value.int .u8 (b.toNat:Int))(fP:l≠ [])
 (hs:P.underlying src=some (.slice e)) (he:P.underlying e=some (.int .u8)) (hd:P.underlying dst=some .string):Ev P n F (Mm c H) (.convert src dst x) ty (sv l):= .of_run λa w ha hw=>by
 obtain⟨ρ,nD⟩:=hw.out;subst hm kq
 have HD:=nD.row hr
 rcases HD.2 with⟨_,h0⟩|⟨g,cap,cur,rfl,_,hg,_,_,kq,nS⟩
 ·exact absurd (kf h0) fP
 ·have:=run_convert_bytes_back (P:=P) w src dst e ⟨g,0,none⟩ cap l hs he hd (λj hj=>by
   have h1:(cur.toList.take (l.length*1))[j]?=some (.int .u8 (l[j].toNat:Int)):=by
    rw[nS,bE,bO hj];rfl
   rw[rA]at h1;rw[Addr.add_lit,gP,bh hg]
   split at h1
   ·simpa using h1
   ·cases h1)
  simp[execOp,hx.eval ha,this]
end
end Go.J
namespace Go.J
open Go Go.RowKit
section
variable {P:Program}{n:Nat}{F:Fr}{A:World→Prop}{c:Ctx}{H:List ao}{ty t e:TypeId}{x y:Operand}{v:Value}{T:Act→World→Prop}
theorem Ev.xE {b o' cap m size k off j N:Nat}{i:Int}{kd:IntKind}(hv:v= .slice (some ⟨b,o',none⟩) m cap)(hx:aZ F x (dR v size k off))(hy:aZ F y (.int kd i))(ht:P.underlying t=some (.array N e))(hs:(P.info? e).map (·.size)=some 1)
 (hi:i=j) (hj:j<N):Ev P n F A (.indexAddr t x y) ty (dR v size k (off+j)):= .of_run λa w ha hw=>by
 obtain⟨inf,nb,gQ⟩:=dG.1 hs;subst hi hv;rw[dS]at hx
 simp[execOp,hx.eval ha,hy.eval ha,Instr.indexAt,Instr.sureAddr,asIntOf,run_underlying ht,sizeOf,typeInfo,nb,gQ,hj,dS,Addr.add_lit,Nat.add_assoc]
theorem St.Wv {α:Type}{Rr:Rp α}{xs:List α}(v:Value)[hd:sQ v H α Rr xs](h:v.oneCell'=true→St n F (Mm c H) T):St n F (Mm c H) T:=by
 intro a w ha hw;obtain⟨ρ,hm⟩:=hw.out;obtain⟨ad,cap,rfl,_⟩:=hm.sl hd;exact h rfl a w ha hw
end
def N5:Rp (Int×Int):=⟨2,by decide,λx=>[iv x.1,iv x.2],λ_=>True,λ_=>rfl,λx u h=>by
 simp only[List.mem_cons,List.not_mem_nil,or_false]at h
 rcases h with rfl|rfl<;>rfl⟩
end Go.J
namespace Go.Proofs.YtblifkgpebebmaaGreatDoor
open Go Go.J Tryz
abbrev jw:=List (Int×Int)
def uw:Nat→jw→jw→jw
 |0,xs,ys=>xs++ys
 |_+1,[],ys=>ys
 |_+1,x::xs,[]=>x::xs
 |f+1,x::xs,y::ys=>if x.1<y.1 then x::uw f xs (y::ys)else if y.1<x.1 then y::uw f (x::xs) ys else x::uw f xs ys
def wV:Nat→jw→jw→List (Int×Int)
 |0,_,_=>[]
 |_+1,[],_=>[]
 |_+1,_::_,[]=>[]
 |f+1,x::xs,y::ys=>if x.1<y.1 then wV f xs (y::ys)else if y.1<x.1 then wV f (x::xs) ys else(x.2,y.2)::wV f xs ys
def AN (xs ys:jw):jw:=uw (xs.length+ys.length) xs ys
def D6 (xs ys:jw):List (Int×Int):=wV (xs.length+ys.length) xs ys
theorem yh (f:Nat)(ys:jw):uw f [] ys=ys:=by cases f<;>rfl
theorem ux (f:Nat)(xs:jw):uw f xs []=xs:=by cases f<;>cases xs<;>simp[uw]
theorem yi (f:Nat)(ys:jw):wV f [] ys=[]:=by cases f<;>rfl
theorem uy (f:Nat)(xs:jw):wV f xs []=[]:=by cases f<;>cases xs<;>rfl
theorem lP:∀(f g:Nat) (xs ys:jw),xs.length+ys.length≤f→xs.length+ys.length≤g→uw f xs ys=uw g xs ys
 |f,g,[],ys,_,_=>by rw[yh,yh]
 |f,g,x::xs,[],_,_=>by rw[ux,ux]
 |f+1,g+1,x::xs,y::ys,hf,hg=>by
  simp only[List.length_cons]at hf hg
  rw[uw,uw,lP f g xs (y::ys) (by simp only[List.length_cons];omega) (by simp only[List.length_cons];omega),lP f g (x::xs) ys (by simp only[List.length_cons];omega) (by simp only[List.length_cons];omega),lP f g xs ys (by omega) (by omega)]
 |0,_,_::_,_::_,h,_=>by simp only[List.length_cons]at h;omega
 |_+1,0,_::_,_::_,_,h=>by simp only[List.length_cons]at h;omega
theorem lQ:∀(f g:Nat) (xs ys:jw),xs.length+ys.length≤f→xs.length+ys.length≤g→wV f xs ys=wV g xs ys
 |f,g,[],ys,_,_=>by rw[yi,yi]
 |f,g,x::xs,[],_,_=>by rw[uy,uy]
 |f+1,g+1,x::xs,y::ys,hf,hg=>by
  simp only[List.length_cons]at hf hg
  rw[wV,wV,lQ f g xs (y::ys) (by simp only[List.length_cons];omega) (by simp only[List.length_cons];omega),lQ f g (x::xs) ys (by simp only[List.length_cons];omega) (by simp only[List.length_cons];omega),lQ f g xs ys (by omega) (by omega)]
 |0,_,_::_,_::_,h,_=>by simp only[List.length_cons]at h;omega
 |_+1,0,_::_,_::_,_,h=>by simp only[List.length_cons]at h;omega
theorem tS (ys:jw):AN [] ys=ys:=yh _ _
theorem qB (xs:jw):AN xs []=xs:=ux _ _
theorem D7 (ys:jw):D6 [] ys=[]:=yi _ _
theorem yj (xs:jw):D6 xs []=[]:=uy _ _
theorem ef (x y:Int×Int)(xs ys:jw):AN (x::xs) (y::ys)=if x.1<y.1 then x::AN xs (y::ys)else if y.1<x.1 then y::AN (x::xs) ys else x::AN xs ys:=by
 have e:(x::xs).length+(y::ys).length=(xs.length+ys.length+1)+1:=by simp only[List.length_cons];omega
 show uw _ _ _=_
 rw[e,uw,lP _ (xs.length+(y::ys).length) xs (y::ys) (by simp only[List.length_cons];omega) (aW _),lP _ ((x::xs).length+ys.length) (x::xs) ys (by simp only[List.length_cons];omega) (aW _),lP _ (xs.length+ys.length) xs ys (by omega) (aW _)];rfl
theorem jT (x y:Int×Int)(xs ys:jw):D6 (x::xs) (y::ys)=if x.1<y.1 then D6 xs (y::ys)else if y.1<x.1 then D6 (x::xs) ys else(x.2,y.2)::D6 xs ys:=by
 have e:(x::xs).length+(y::ys).length=(xs.length+ys.length+1)+1:=by simp only[List.length_cons];omega
 show wV _ _ _=_
 rw[e,wV,lQ _ (xs.length+(y::ys).length) xs (y::ys) (by simp only[List.length_cons];omega) (aW _),lQ _ ((x::xs).length+ys.length) (x::xs) ys (by simp only[List.length_cons];omega) (aW _),lQ _ (xs.length+ys.length) xs ys (by omega) (aW _)];rfl
theorem n9 {C:jw→jw→Prop}(h1:∀ys,C [] ys)(h2:∀x xs,C (x::xs) [])(h3:∀x xs y ys,x.1<y.1→C xs (y::ys)→C (x::xs) (y::ys))(h4:∀x xs y ys,y.1<x.1→C (x::xs) ys→C (x::xs) (y::ys))(h5:∀x xs y ys,x.1=y.1→C xs ys→C (x::xs) (y::ys)):∀(n:Nat) (xs ys:jw),xs.length+ys.length≤n→C xs ys
 |_,[],ys,_=>h1 ys
 |_,x::xs,[],_=>h2 x xs
 |n+1,x::xs,y::ys,h=>by
  simp only[List.length_cons]at h
  rcases Int.lt_trichotomy x.1 y.1 with c|c|c
  ·exact h3 _ _ _ _ c (n9 h1 h2 h3 h4 h5 n xs (y::ys) (by simp only[List.length_cons];omega))
  ·exact h5 _ _ _ _ c (n9 h1 h2 h3 h4 h5 n xs ys (by omega))
  ·exact h4 _ _ _ _ c (n9 h1 h2 h3 h4 h5 n (x::xs) ys (by simp only[List.length_cons];omega))
 |0,_::_,_::_,h=>by simp only[List.length_cons]at h;omega
theorem UK (xs ys:jw):(AN xs ys).length+(D6 xs ys).length=xs.length+ys.length:=by
 refine n9 (C:=λxs ys=>(AN xs ys).length+(D6 xs ys).length=xs.length+ys.length) ?_ ?_ ?_ ?_ ?_ _ xs ys (aW _)
 ·intro ys;rw[tS,D7];simp
 ·intro x xs;rw[qB,yj]
 ·intro x xs y ys h ih;rw[ef,jT,aB h,aB h];simp only[List.length_cons]at ih⊢;omega
 ·intro x xs y ys h ih
  have h2:¬x.1<y.1:=by omega
  rw[ef,jT,aA h2,aA h2,aB h,aB h];simp only[List.length_cons]at ih⊢;omega
 ·intro x xs y ys h ih
  have h2:¬x.1<y.1:=by omega
  have h3:¬y.1<x.1:=by omega
  rw[ef,jT,aA h2,aA h2,aA h3,aA h3];simp only[List.length_cons]at ih⊢;omega
theorem xF {z:Int×Int}(xs ys:jw):z∈AN xs ys→z∈xs∨z∈ys:=by
 refine n9 (C:=λxs ys=>z∈AN xs ys→z∈xs∨z∈ys) ?_ ?_ ?_ ?_ ?_ _ xs ys (aW _)
 ·intro ys h;rw[tS]at h;exact .inr h
 ·intro x xs h;rw[qB]at h;exact .inl h
 ·intro x xs y ys h ih hz;rw[ef,aB h]at hz
  rcases cD.1 hz with rfl|hz
  ·exact .inl (by simp)
  ·rcases ih hz with h|h
   ·exact .inl (by simp[h])
   ·exact .inr h
 ·intro x xs y ys h ih hz;rw[ef,aA (by omega),aB h]at hz
  rcases cD.1 hz with rfl|hz
  ·exact .inr (by simp)
  ·rcases ih hz with h|h
   ·exact .inl h
   ·exact .inr (by simp[h])
 ·intro x xs y ys h ih hz;rw[ef,aA (by omega),aA (by omega)]at hz
  rcases cD.1 hz with rfl|hz
  ·exact .inl (by simp)
  ·rcases ih hz with h|h
   ·exact .inl (by simp[h])
   ·exact .inr (by simp[h])
theorem UL {z:Int×Int}(xs ys:jw):z∈D6 xs ys→(∃x∈xs,z.1=x.2)∧∃y∈ys,z.2=y.2:=by
 refine n9 (C:=λxs ys=>z∈D6 xs ys→(∃x∈xs,z.1=x.2)∧∃y∈ys,z.2=y.2) ?_ ?_ ?_ ?_ ?_ _ xs ys (aW _)
 ·intro ys h;rw[D7]at h;cases h
 ·intro x xs h;rw[yj]at h;cases h
 ·intro x xs y ys h ih hz;rw[jT,aB h]at hz
  obtain⟨⟨u,hu,e⟩,h2⟩:=ih hz;exact⟨⟨u,by simp[hu],e⟩,h2⟩
 ·intro x xs y ys h ih hz;rw[jT,aA (by omega),aB h]at hz
  obtain⟨h2,⟨u,hu,e⟩⟩:=ih hz;exact⟨h2,⟨u,by simp[hu],e⟩⟩
 ·intro x xs y ys h ih hz;rw[jT,aA (by omega),aA (by omega)]at hz
  rcases cD.1 hz with rfl|hz
  ·exact⟨⟨x,by simp,rfl⟩,⟨y,by simp,rfl⟩⟩
  ·obtain⟨⟨u,hu,e⟩,⟨v,hv,e2⟩⟩:=ih hz
   exact⟨⟨u,by simp[hu],e⟩,⟨v,by simp[hv],e2⟩⟩
def lE (l:jw):List Int:=l.map (·.1)
theorem KN {k:Int}(xs ys:jw):k∈lE xs∨k∈lE ys→k∈lE (AN xs ys):=by
 refine n9 (C:=λxs ys=>k∈lE xs∨k∈lE ys→k∈lE (AN xs ys)) ?_ ?_ ?_ ?_ ?_ _ xs ys (aW _)
 ·intro ys h;rw[tS];rcases h with h|h
  ·cases h
  ·exact h
 ·intro x xs h;rw[qB];rcases h with h|h
  ·exact h
  ·cases h
 ·intro x xs y ys h ih hk;rw[ef,aB h]
  simp only[lE,List.map_cons,List.mem_cons]at hk ih⊢
  rcases hk with(hk|hk)|hk
  ·exact .inl hk
  ·exact .inr (ih (.inl hk))
  ·exact .inr (ih (.inr hk))
 ·intro x xs y ys h ih hk;rw[ef,aA (by omega),aB h]
  simp only[lE,List.map_cons,List.mem_cons]at hk ih⊢
  rcases hk with hk|hk|hk
  ·exact .inr (ih (.inl hk))
  ·exact .inl hk
  ·exact .inr (ih (.inr hk))
 ·intro x xs y ys h ih hk;rw[ef,aA (by omega),aA (by omega)]
  simp only[lE,List.map_cons,List.mem_cons]at hk ih⊢
  rcases hk with(hk|hk)|hk|hk
  ·exact .inl hk
  ·exact .inr (ih (.inl hk))
  ·exact .inl (by omega)
  ·exact .inr (ih (.inr hk))
def s7 (l:jw):Prop:=l.Pairwise λx y=>x.1<y.1
theorem UM (xs ys:jw):s7 xs→s7 ys→s7 (AN xs ys):=by
 refine n9 (C:=λxs ys=>s7 xs→s7 ys→s7 (AN xs ys)) ?_ ?_ ?_ ?_ ?_ _ xs ys (aW _)
 ·intro ys _ h;rw[tS];exact h
 ·intro x xs h _;rw[qB];exact h
 ·intro x xs y ys h ih hx hy;rw[ef,aB h]
  obtain⟨h1,h2⟩:=ib.1 hx;obtain⟨h3,h4⟩:=ib.1 hy;refine ib.2 ⟨λz hz=> ?_,ih h2 hy⟩
  rcases xF _ _ hz with hz|hz
  ·exact h1 z hz
  ·rcases cD.1 hz with rfl|hz
   ·exact h
   ·have:=h3 z hz;omega
 ·intro x xs y ys h ih hx hy;rw[ef,aA (by omega),aB h]
  obtain⟨h1,h2⟩:=ib.1 hx;obtain⟨h3,h4⟩:=ib.1 hy;refine ib.2 ⟨λz hz=> ?_,ih hx h4⟩
  rcases xF _ _ hz with hz|hz
  ·rcases cD.1 hz with rfl|hz
   ·exact h
   ·have:=h1 z hz;omega
  ·exact h3 z hz
 ·intro x xs y ys h ih hx hy;rw[ef,aA (by omega),aA (by omega)]
  obtain⟨h1,h2⟩:=ib.1 hx;obtain⟨h3,h4⟩:=ib.1 hy;refine ib.2 ⟨λz hz=> ?_,ih h2 h4⟩
  rcases xF _ _ hz with hz|hz
  ·exact h1 z hz
  ·have:=h3 z hz;omega
def ew (f:Nat→Nat):Nat→Nat
 |0=>0
 |n+1=>ew f n+f n
theorem yk {f g:Nat→Nat}:∀{n:Nat},(∀i,i<n→f i=g i)→ew f n=ew g n
 |0,_=>rfl
 |n+1,h=>by rw[ew,ew,yk λi hi=>h i (by omega),h n (by omega)]
theorem ym {f g:Nat→Nat}{a:Nat}:∀{n:Nat},(∀i,i<n→i≠a→f i=g i)→a<n→ew f n+g a=ew g n+f a
 |0,_,h=>by omega
 |n+1,h,ha=>by
  rw[ew,ew]
  by_cases e:a=n
  ·subst e
   rw[yk λi hi=>h i (by omega) (by omega)];omega
  ·have:=ym (n:=n) (λi hi fP=>h i (by omega) fP) (by omega)
   rw[h n (by omega) (λx=>e x.symm)];omega
structure Pl where
 ro:List Nat
 ty:List Int
 lk:List jw
def Pl.rt (p:Pl)(i:Nat):Nat:=p.ro.getD i 0
def Pl.tt (p:Pl)(i:Nat):Int:=p.ty.getD i 0
def Pl.ll (p:Pl)(i:Nat):jw:=p.lk.getD i []
def Pl.put (p:Pl)(a b m:Nat):Pl:=⟨p.ro.map λx=>if x=b then a else x,p.ty.set a m,p.lk.set a (AN (p.ll a) (p.ll b))⟩
def iQ (mt:Nat→Nat→Option Nat):Nat→Pl→List (Int×Int)→Option Pl
 |0,_,_=>none
 |_+1,p,[]=>some p
 |f+1,p,x::w=>
  if p.rt x.1.toNat=p.rt x.2.toNat then iQ mt f p w
  else match mt (p.tt (p.rt x.1.toNat)).toNat (p.tt (p.rt x.2.toNat)).toNat with
   |none=>none
   |some m=>iQ mt f (p.put (p.rt x.1.toNat) (p.rt x.2.toNat) m) ((D6 (p.ll (p.rt x.1.toNat)) (p.ll (p.rt x.2.toNat))).reverse++w)
def Pl.left (p:Pl):Nat:=ew (λi=>if p.rt i=i then(p.ll i).length else 0) p.ro.length
def Pl.mu (p:Pl)(w:List (Int×Int)):Nat:=p.left+w.length+1
structure mG (nt nf n:Nat)(p:Pl):Prop where
 lr:p.ro.length=n
 lt:p.ty.length=n
 ll:p.lk.length=n
 xS:∀i,i<n→p.rt i<n
 Ww:∀i,i<n→p.rt (p.rt i)=p.rt i
 tys:∀t∈p.ty,0≤t∧t<nt
 SP:∀l∈p.lk,∀x∈l,(0≤x.1∧x.1<nf)∧0≤x.2∧x.2<n
 asc:∀l∈p.lk,s7 l
theorem mG.tt {nt nf n:Nat}{p:Pl}(h:mG nt nf n p){i:Nat}(hi:i<n):0≤p.tt i∧p.tt i<nt:=by
 unfold Pl.tt;rw[ak,bO (by rw[h.lt];exact hi)];exact h.tys _ (gm _)
theorem mG.lm {nt nf n:Nat}{p:Pl}(h:mG nt nf n p){i:Nat}(hi:i<n):p.ll i∈p.lk:=by
 unfold Pl.ll;rw[ak,bO (by rw[h.ll];exact hi)];exact gm _
theorem Pl.IM {p:Pl}{a b m i:Nat}(hi:i<p.ro.length):(p.put a b m).rt i=if p.rt i=b then a else p.rt i:=by
 unfold Pl.rt Pl.put
 simp only[List.getD_eq_getElem?_getD,List.getElem?_map,List.getElem?_eq_getElem hi,Option.map_some,Option.getD_some]
theorem Pl.QB {p:Pl}{a b m i:Nat}(ha:a<p.lk.length):(p.put a b m).ll i=if i=a then AN (p.ll a) (p.ll b)else p.ll i:=by
 unfold Pl.ll Pl.put
 simp only[List.getD_eq_getElem?_getD]
 by_cases e:i=a
 ·subst e;rw[eP ha,aB rfl];rfl
 ·rw[gX (λh=>e h.symm),aA e]
theorem mG.put {nt nf n:Nat}{p:Pl}(h:mG nt nf n p){a b m:Nat}(ha:a<n)(hb:b<n)(FT:p.rt a=a)(hm:m<nt)(fP:a≠b):mG nt nf n (p.put a b m):=by
 have hr:∀i,i<n→(p.put a b m).rt i=if p.rt i=b then a else p.rt i:=λi hi=>Pl.IM (by rw[h.lr];exact hi)
 refine⟨by simp[Pl.put,h.lr],by simp[Pl.put,h.lt],by simp[Pl.put,h.ll],λi hi=> ?_,λi hi=> ?_,λt ht=> ?_,λl hl=> ?_,λl hl=> ?_⟩
 ·rw[hr i hi];split
  ·exact ha
  ·exact h.xS i hi
 ·rw[hr i hi];split
  ·rw[hr a ha,FT,aA fP]
  ·rename_i e
   rw[hr _ (h.xS i hi),h.Ww i hi,aA e]
 ·rcases jx ht with ht|ht
  ·exact h.tys t ht
  ·subst ht;exact⟨by omega,by omega⟩
 ·rcases jx hl with hl|hl
  ·exact h.SP l hl
  ·subst hl
   intro x hx
   rcases xF _ _ hx with hx|hx
   ·exact h.SP _ (h.lm ha) x hx
   ·exact h.SP _ (h.lm hb) x hx
 ·rcases jx hl with hl|hl
  ·exact h.asc l hl
  ·subst hl
   exact UM _ _ (h.asc _ (h.lm ha)) (h.asc _ (h.lm hb))
theorem mG.left {nt nf n:Nat}{p:Pl}(h:mG nt nf n p){a b m:Nat}(ha:a<n)(hb:b<n)(FT:p.rt a=a)(w8:p.rt b=b)(fP:a≠b):(p.put a b m).left+(D6 (p.ll a) (p.ll b)).length=p.left:=by
 have hr:∀i,i<n→(p.put a b m).rt i=if p.rt i=b then a else p.rt i:=λi hi=>Pl.IM (by rw[h.lr];exact hi)
 have hl:∀i,(p.put a b m).ll i=if i=a then AN (p.ll a) (p.ll b)else p.ll i:=λi=>Pl.QB (by rw[h.ll];exact ha)
 have hlen:=UK (p.ll a) (p.ll b)
 unfold Pl.left
 have e1:(p.put a b m).ro.length=n:=by simp[Pl.put,h.lr]
 rw[e1,h.lr]
 -- in ag8:b is no root any more
 have s1:=ym (n:=n) (a:=b) (f:=λi=>if i=b then 0 else if p.rt i=i then(p.ll i).length else 0) (g:=λi=>if p.rt i=i then(p.ll i).length else 0) (λi _ hi=>aA hi) hb
 have s2:=ym (n:=n) (a:=a) (f:=λi=>if(p.put a b m).rt i=i then((p.put a b m).ll i).length else 0) (g:=λi=>if i=b then 0 else if p.rt i=i then(p.ll i).length else 0) (λi hi hia=>by
  rw[hr i hi,hl i,aA hia]
  by_cases e:p.rt i=b
  ·rw[aB e,aA (λh=>hia h.symm)]
   by_cases e2:i=b
   ·rw[aB e2]
   ·rw[aA e2,aA (λh=>e2 (by rw[←e,h]))]
  ·rw[aA e,aA (show i≠b from λh2=>e (by rw[h2,w8]))]) ha
 rw[aB rfl,aB w8]at s1;rw[hr a ha,FT,aA fP,aB rfl,hl a,aB rfl,aA fP,aB rfl]at s2;omega
def Pl.of (x y:dF):Pl:=⟨List.range (x.length+y.length),x.map (·.1)++y.map (·.1),x.map (·.2)++y.map λn=>n.2.map λl=>(l.1,(x.length:Int)+l.2)⟩
def pV (p:Pl):dF:=(List.range p.ro.length).map λi=>(p.tt i,if p.rt i=i then(p.ll i).map (λl=>(l.1,(p.rt l.2.toNat:Int)))else [])
def kL (g:dF):Nat→List Nat→Nat→List Nat
 |0,o,_=>o
 |f+1,o,i=>if i∈o then o else(g.getD i gH).2.foldl (λo x=>kL g f o x.2.toNat) (o++ [i])
def ff (g:dF)(r:Nat):dF:=let o:=kL g (g.length+1) [] r;o.map λi=>((g.getD i gH).1,(g.getD i gH).2.map λx=>(x.1,(o.idxOf x.2.toNat:Int)))
def cm (mt:Nat→Nat→Option Nat)(x:dF)(node:Nat)(y:dF):Option dF:=
 (iQ mt ((Pl.of x y).mu [((node:Int),(x.length:Int))]) (Pl.of x y) [((node:Int),(x.length:Int))]).map λp=>ff (pV p) (p.rt 0)
end Go.Proofs.YtblifkgpebebmaaGreatDoor
