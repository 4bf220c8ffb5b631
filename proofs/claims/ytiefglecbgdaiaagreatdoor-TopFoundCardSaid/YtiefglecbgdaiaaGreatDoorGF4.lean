/-
  Laws of walks through programs, and facts on grammars, trees and queries.
  Conditions: none.
-/
import Derived.Test.YtiefglecbgdaiaaGreatDoorGF3
import Derived.Shelf.Strings.IndexAnyAll
import Derived.Lib.OthersKept
import Derived.Shelf.Small.Utf8
import Derived.Laws.RangeAny
import Derived.Laws.Cover4
import Derived.Scope
import Derived.Handy
import Derived.Shelf.RegionOpen
import Derived.Shelf.RegionOpenPlain
import Derived.Shelf.Utf8.RuneCount
import Derived.Shelf.Unicode.ValidAny
import Derived.Lib.SliceRun
set_option maxHeartbeats 16000000
set_option maxRecDepth 20000
set_option linter.unusedVariables false
set_option linter.unusedSimpArgs false
namespace Go.Proofs.YtiefglecbgdaiaaGreatDoor
open Go Go.J Tryz
mutual
theorem XM {nr nl:Nat}(g:ep):∀t:dA,jU nr nl t→lwT g t=QW g t
 | .mk r x l,h=>by
  rw[jU]at h;rw[lwT,QW]
  by_cases a:r<0
  ·obtain⟨rfl,_,_⟩:=h.2.1 a
   rw[aB a,aB a,TL,fV]
  ·rw[aA a,aA a,nQ]
   exact QX g l h.2.2.2
theorem QX {nr nl:Nat}(g:ep):∀l:List dA,mC nr nl l→TL g l=G3 g l
 | [],_=>by rw[TL,G3]
 |x::l,h=>by
  rw[mC]at h;rw[TL,G3,XM g x h.1,QX g l h.2]
end
theorem PV {g:ep}{t:dA}(h1:(kq g).1=0)(j:(jv g t).1=0)(w:ab):(qU (rS g t 0 (-1) 0) [] [jx [97] w] []).length=0↔w∉QW g t:=by
 have f:=(uc h1 j).ahX
 rw[←XM g t f,←(GF g t 0 (-1) 0 f).1,←ZN _ Nq.label,ym,aR,List.length_eq_zero_iff,List.filter_eq_nil_iff]
 constructor
 ·intro h hw
  obtain⟨i,c,e⟩:=cA.1 hw;obtain⟨a,b⟩:=ZO c;exact h i (cU.2 a) (by rw[b,e];simp)
 ·intro hw i c d
  simp only[Bool.and_eq_true,decide_eq_true_eq]at d
  exact hw (cA.2 ⟨i,po.2 ⟨c,d.1⟩,d.2⟩)
theorem Md {g:ep}{words:List ab}{t:dA}(h:t∈(lG g words).1){w:ab}(hw:isWord w=true):∃E,G8 g [jx [97] w] [] t=(E,(0,0))∧E.length≤500∧decide (0<E.length)=decide (w∈words):=by
 have h1:=(Dx (Kt h).1).2.2
 obtain⟨f1,_,f3⟩:=Uh h
 have a:(jv g t).1=0:=by rw[f1]
 have hm:=VJ h1 a hw
 refine⟨_,hm,?_,?_⟩
 ·have ht:=uc h1 a
  have b:=r9 g t 0 (-1) 0
  have d:=ht.size
  rw[ym,aR];refine cz (AJ _ _) ?_
  rw[db];omega
 ·have e:=PV h1 a w
  rw[f3]at e;refine decide_eq_decide.2 ⟨λq=> ?_,λq=> ?_⟩
  ·exact fK.1 λc=>by have:=e.2 c;omega
  ·exact Nat.pos_of_ne_zero λc=>e.1 c q
theorem yx {p:List ab}{s:List ab}{k:Nat}(hk:k<s.length)(a:ja s k p=true):∀{l:List (List ab)} {i j:Nat},l[i]?=some s→(j+i,k)∈gn p j l
 | [],i,j,h=>by simp at h
 |x::l,0,j,h=>by
  rw[List.getElem?_cons_zero,Option.some.injEq]at h;subst h;rw[gn];exact kA _ (cA.2 ⟨k,po.2 ⟨cU.2 hk,a⟩,rfl⟩)
 |x::l,i+1,j,h=>by
  rw[CZ]at h;rw[gn,show j+(i+1)=(j+1)+i by omega];exact iY _ (yx hk a h)
theorem PM {l:List (List ab)}{w:ab}{i:Nat}{s:List ab}(b:l[i]?=some s):(!decide (((fP l [w]).countP λh=>decide (h.1=i))=0))=decide (w∈s):=by
 rw[←decide_not];refine decide_eq_decide.2 ⟨λh=> ?_,λh=> ?_⟩
 ·have h:=Nat.pos_of_ne_zero h
  obtain⟨a,c,d⟩:=List.countP_pos_iff.1 h;obtain⟨n,h1,o,f⟩:=Iw c;rw[gU d,b,Option.some.injEq]at h1;subst h1
  have:=((uY zE).1 f).2 0 (by simp)
  exact aa this
 ·obtain⟨k,hk,e⟩:=lB.1 h
  have g:ja s k [w]=true:=by
   rw[uY zE];refine⟨by rw[List.length_singleton];omega,λj m=> ?_⟩
   obtain rfl:j=0:=by simpa using m
   rw[fU,aj hk,e];rfl
  have hm:=yx hk g (j:=0) b
  have:=List.countP_pos_iff (p:=λh:Nat×Nat=>decide (h.1=i)).2 ⟨_,hm,by simp⟩
  unfold fP;omega
def nZ (q:Nat→Bool)(i:Nat):Nat:=((List.range i).filter q).length
theorem r0 (q:Nat→Bool)(i:Nat):nZ q (i+1)=nZ q i+if q i=true then 1 else 0:=by
 unfold nZ;rw[mU,List.filter_append,bJ]
 cases h:q i<;>simp[h]
theorem DC (q:Nat→Bool):∀{i n:Nat},i≤n→nZ q i≤nZ q n
 |i,0,h=>by rw[show i=0 by omega];exact aQ _
 |i,n+1,h=>by
  rcases cJ i (n+1)with c|c
  ·have:=DC q (show i≤n by omega)
   rw[r0];omega
  ·rw[show i=n+1 by omega];exact aQ _
theorem Ko (q:Nat→Bool):∀{i n:Nat},i≤n→∃R,(List.range n).filter q=(List.range i).filter q++R∧∀y∈R,i≤y
 |i,0,h=>⟨[],by rw[show i=0 by omega,fV],λy hy=>by cases hy⟩
 |i,n+1,h=>by
  rcases cJ i (n+1)with c|c
  ·obtain⟨R,h1,a⟩:=Ko q (show i≤n by omega)
   refine⟨R++ [n].filter q,by rw[mU,List.filter_append,h1,cr],λy hy=> ?_⟩
   rcases cI.1 hy with h|h
   ·exact a y h
   ·rw[bN.1 (po.1 h).1];omega
  ·exact⟨[],by rw[show i=n+1 by omega,fV],λy hy=>by cases hy⟩
theorem Ye {q:Nat→Bool}{i n y:Nat}(c:i<n)(h:((List.range n).filter q)[nZ q i]?=some y):decide (y=i)=q i:=by
 obtain⟨R,h1,b⟩:=Ko q (show i+1≤n by omega);rw[h1]at h
 cases a:q i with
 |true=>
  have e:(List.range (i+1)).filter q=(List.range i).filter q++ [i]:=by rw[mU,List.filter_append];simp[a]
  rw[e,cr,jM (by unfold nZ;exact aQ _)]at h;unfold nZ at h;rw[eX]at h
  simp at h
  exact dI h.symm
 |false=>
  have e:(List.range (i+1)).filter q=(List.range i).filter q:=by rw[mU,List.filter_append];simp[a]
  rw[e,jM (by unfold nZ;exact aQ _)]at h
  have:=b y (aa h)
  exact e9 zE
theorem Yf {q:Nat→Bool}{i n:Nat}(b:i<n)(h:((List.range n).filter q).length≤nZ q i):q i=false:=by
 cases a:q i with
 |false=>rfl
 |true=>
  have h1:=r0 q i
  rw[a,aB rfl]at h1
  have c:=DC q (show i+1≤n by omega)
  have d:nZ q n=((List.range n).filter q).length:=rfl
  omega
theorem Ub {q:Nat→Bool}{i n:Nat}(a:i<n):(decide (nZ q i<((List.range n).filter q).length)&&decide (((List.range n).filter q).getD (nZ q i) 0=i))=q i:=by
 by_cases h:nZ q i<((List.range n).filter q).length
 ·rw[dI h,Bool.true_and]
  exact Ye a (dm 0 h)
 ·rw[e9 h,Bool.false_and]
  exact(Yf a zE).symm
theorem Tj {W:List Nat}{k:Nat}(h:k<W.length):(ints W)[k]?=some ((W.getD k 0:Nat):Int):=by rw[dm 0 (by rw[bO];exact h),oI]
end Go.Proofs.YtiefglecbgdaiaaGreatDoor
namespace Go.Proofs
open Go.Shelf Go.RowKit Go.Lib
variable {P:Program}{ρ:Ren}
theorem PT {r:Int}(h:128≤r):∃(n:Nat) (x:UInt8),(Utf8.encode r).size=n∧2≤n∧n≤4∧(Utf8.encode r).data.toList[n-1]?=some x∧128≤x.toNat:=by
 have key:∀c:Nat,128≤c→c<1114112→∃(n:Nat) (x:UInt8),(if c<0x80 then(⟨#[UInt8.ofNat c]⟩:ByteArray)else if c<0x800 then⟨#[UInt8.ofNat (0xC0+c/64),UInt8.ofNat (0x80+c%64)]⟩
  else if c<0x10000 then⟨#[UInt8.ofNat (0xE0+c/4096),UInt8.ofNat (0x80+c/64%64),UInt8.ofNat (0x80+c%64)]⟩
  else⟨#[UInt8.ofNat (0xF0+c/262144),UInt8.ofNat (0x80+c/4096%64),UInt8.ofNat (0x80+c/64%64),UInt8.ofNat (0x80+c%64)]⟩).size=n∧2≤n∧n≤4∧
  (if c<0x80 then(⟨#[UInt8.ofNat c]⟩:ByteArray)else if c<0x800 then⟨#[UInt8.ofNat (0xC0+c/64),UInt8.ofNat (0x80+c%64)]⟩
  else if c<0x10000 then⟨#[UInt8.ofNat (0xE0+c/4096),UInt8.ofNat (0x80+c/64%64),UInt8.ofNat (0x80+c%64)]⟩
  else⟨#[UInt8.ofNat (0xF0+c/262144),UInt8.ofNat (0x80+c/4096%64),UInt8.ofNat (0x80+c/64%64),UInt8.ofNat (0x80+c%64)]⟩).data.toList[n-1]?=some x∧128≤x.toNat:=by
  intro c h1 d
  have hx:128≤(UInt8.ofNat (0x80+c%64)).toNat:=by simp[UInt8.toNat_ofNat'];omega
  rw[aA (by omega)]
  by_cases k:c<0x800
  ·rw[aB k];exact⟨2,_,rfl,by omega,by omega,rfl,hx⟩
  ·rw[aA k]
   by_cases b:c<0x10000
   ·rw[aB b];exact⟨3,_,rfl,by omega,by omega,rfl,hx⟩
   ·rw[aA b];exact⟨4,_,rfl,by omega,by omega,rfl,hx⟩
 unfold Utf8.encode
 by_cases a:Utf8.valid r=true
 ·simp only[a,if_true]
  refine key r.toNat (by omega) ?_
  simp[Utf8.valid]at a
  omega
 ·simp only[a]
  exact key Utf8.runeError (by decide) (by decide)
theorem vh {w:World}{s d:TypeId}{k:IntKind}{r:Int}(a:P.underlying s=some (.int k))(hd:P.underlying d=some .string):(convert s d (.int k r)).run P w= .ok (.string (Utf8.encode r)) w:=by
 simp[convert,run_underlying a,run_underlying hd,Conv.intToString]
theorem Dg {w:World}{t:TypeId}{s:ByteArray}{i:Int}{k:Nat}{b:UInt8}(ht:P.underlying t=some .string)(c:i=k)(a:s.data.toList[k]?=some b):(Instr.index t (.string s) (.int .i64 i)).run P w= .ok (.int .u8 (b.toNat:Int)) w:=by
 subst c
 have d:k<s.size:=by have:=(eh.1 a).1;rwa[←Lib.size_eq]at this
 have h1:s[k]?=some b:=by
  rw[ByteArray.getElem?_lt' _ _ d]
  have:=(eh.1 a).2
  simpa[ByteArray.getElem_eq_getElem_data]using this
 simp[Instr.index,asIntOf,run_underlying ht,h1]
theorem Aj {l:List UInt8}{c:UInt8}(h:∀x∈l,x≠c):Lib.indexByte l c<0:=by
 have h1:=Lib.contains_iff_indexByte l c
 have a:l.contains c=false:=by
  rw[Bool.eq_false_iff];intro b;exact h c (List.contains_iff_mem.1 b) rfl
 rw[a]at h1
 have:=l3 h1.symm
 omega
set_option maxRecDepth 1000000 in
theorem Any.yy (L:Lays.n152 P ρ)(s:ByteArray)(r:Int)(w:World)(h0:128≤r)(h1:r≠65533)(hv:Lib.validRune r=true)(hs:∀(j:Nat) b,s.data.toList[j]?=some b→b.toNat<128)(hsz:s.size≤100):
 Calls P (ρ.f 152) #[.string s,.int .i32 r] w λe w'=>e= .returned (.int .i64 (-1))∧∃k,w'=w.drewN k:=by
 have t3:=L.t3;have a3:=L.a3;have z3:=L.z3;have v3:=L.v3
 have t4:=L.t4;have a4:=L.a4;have z4:=L.z4;have v4:=L.v4
 have t5:=L.t5;have a5:=L.a5;have z5:=L.z5;have v5:=L.v5
 have t9:=L.t9;have a9:=L.a9;have z9:=L.z9;have v9:=L.v9
 have t21:=L.t21;have a21:=L.a21;have z21:=L.z21;have v21:=L.v21
 have ahU:∀args w,(callFunc (ρ.f 137) args).run P w= .ok (.enter (ρ.f 137) args) w:=enters_of L.f137 (by kernel_rfl) rfl
 have ahT:∀args w,(callFunc (ρ.f 119) args).run P w= .ok (.enter (ρ.f 119) args) w:=enters_of L.f119 (by kernel_rfl) rfl
 have mixed:=L.mixed
 have d1:decide ((0:Int)≤r)=true:=dI (by omega)
 have d2:decide (r<128)=false:=e9 (by omega)
 have d3:(r==(65533:Int))=false:=tC.2 h1
 obtain⟨n,x,hn,hn2,hn4,hx,XF⟩:=PT h0
 have hc:=λ(w:World)=>vh (P:=P) (w:=w) (r:=r) t21 t9
 generalize Utf8.encode r=rs at hn hx hc
 subst hn
 go_enter L.f152,Body.n152_ntmps ρ
 go_wp2_with (go_at_fn (ρ.f 119);refine(Any.utf8_ValidRune {L with} _ _).mono ?_;rintro e w' ⟨rfl,hw⟩;rw[hw,hv])
 subst hw;refine wp_scope_straight ?_
 go_wp2
 by_cases hl:rs.size-1<s.size
 ·have hi0:(0:Int)≤(rs.size:Int)-1:=by omega
  have hi1:(rs.size:Int)-1<(s.size:Int):=by omega
  obtain⟨y,hy⟩:∃y:UInt8,s.data.toList[rs.size-1]?=some y:=⟨_,aj (by rw[←Lib.size_eq];exact hl)⟩
  have akA:=hs _ _ hy
  refine wp_loop_rounds 1 ?_;rw[rounds_succ]
  go_wp2
  refine wp_scope_straight ?_
  have kx:∀w,(Instr.index (ρ.t 9) (.string rs) (.int .i64 ((rs.size:Int)-1))).run P w= .ok (.int .u8 (x.toNat:Int)) w:=λw=>Dg t9 (by omega) hx
  have ky:∀w,(Instr.index (ρ.t 9) (.string s) (.int .i64 ((rs.size:Int)-1))).run P w= .ok (.int .u8 (y.toNat:Int)) w:=λw=>Dg t9 (by omega) hy
  have hne:((y.toNat:Int)==(x.toNat:Int))=false:=tC.2 (by omega)
  go_wp2
  go_region_o
  have ahU:∀args w,(callFunc (ρ.f 137) args).run P w= .ok (.enter (ρ.f 137) args) w:=enters_of L.f137 (by kernel_rfl) rfl
  have hw1:IntKind.i64.wrap (rs.size:Int)=(rs.size:Int):=by
   simp only[IntKind.wrap,IntKind.bits,IntKind.signed]
   simp
   omega
  have s1:(0:Int)≤(rs.size:Int)-1+1:=by omega
  have s2:(rs.size:Int)-1+1≤(s.size:Int):=by omega
  have s3:(0:Int)≤(rs.size:Int):=by omega
  have s4:(rs.size:Int)≤(s.size:Int):=by omega
  obtain⟨z,hz⟩:∃z,Lib.indexByte (s.extract rs.size s.size).data.toList ((x.toNat:Int).toNat.toUInt8)=z:=⟨_,rfl⟩
  have hz0:z<0:=by
   rw[←hz]
   refine Aj λb hb=> ?_
   have Kz:b∈s.data.toList:=by
    have:(s.extract rs.size s.size).data.toList=(s.data.toList.drop rs.size).take (s.size-rs.size):=by simp
    rw[this]at hb;exact HU (xA hb)
   obtain⟨k,hk⟩:=Ca Kz
   have h5:=hs k b hk
   intro e
   have h6:((x.toNat:Int)).toNat.toUInt8=x:=by simp
   rw[h6]at e;rw[e]at h5;omega
  go_wp2
  go_region_with_o (
   go_at_fn (ρ.f 137)
   refine(Any.strings_IndexByte {L with} _ _ _).mono ?_;rintro e w' ⟨rfl,hw⟩
   rw[hw,hz])
  go_wp2
  simp only[Exit.noGoto,Exit.inBlock,Exit.then]
  go_ret
  exact⟨rfl,2,rfl⟩
 ·have hi1:decide ((rs.size:Int)-1<(s.size:Int))=false:=e9 (by omega)
  refine wp_loop_rounds 1 ?_;rw[rounds_succ]
  go_wp2
  show Exit.inBlock 0 _ Exit.ret _ _
  go_ret
  exact⟨rfl,0,rfl⟩
set_option maxRecDepth 1000000 in
theorem Any.Ak (L:Lays.n152 P ρ)(s:ByteArray)(r:Int)(w:World)(h0:128≤r)(h1:r≠65533)(hv:Lib.validRune r=false):
 Calls P (ρ.f 152) #[.string s,.int .i32 r] w λe w'=>e= .returned (.int .i64 (-1))∧∃k,w'=w.drewN k:=by
 have t3:=L.t3;have a3:=L.a3;have z3:=L.z3;have v3:=L.v3
 have t4:=L.t4;have a4:=L.a4;have z4:=L.z4;have v4:=L.v4
 have t5:=L.t5;have a5:=L.a5;have z5:=L.z5;have v5:=L.v5
 have t9:=L.t9;have a9:=L.a9;have z9:=L.z9;have v9:=L.v9
 have t21:=L.t21;have a21:=L.a21;have z21:=L.z21;have v21:=L.v21
 have ahT:∀args w,(callFunc (ρ.f 119) args).run P w= .ok (.enter (ρ.f 119) args) w:=enters_of L.f119 (by kernel_rfl) rfl
 have d1:decide ((0:Int)≤r)=true:=dI (by omega)
 have d2:decide (r<128)=false:=e9 (by omega)
 have d3:(r==(65533:Int))=false:=tC.2 h1
 go_enter L.f152,Body.n152_ntmps ρ
 go_wp2_with (go_at_fn (ρ.f 119);refine(Any.utf8_ValidRune {L with} _ _).mono ?_;rintro e w' ⟨rfl,hw⟩;rw[hw,hv])
 subst hw
 go_ret
 exact⟨rfl,0,rfl⟩
set_option maxRecDepth 1000000 in
theorem Any.xL (L:Lays.n152 P ρ)(s:ByteArray)(w:World)(hs:∀(j:Nat) b,s.data.toList[j]?=some b→b.toNat<128):
 Calls P (ρ.f 152) #[.string s,.int .i32 65533] w λe w'=>e= .returned (.int .i64 (-1))∧∃pos,w'=w.iter s pos:=by
 have HA:Aside (∀(j:Nat) b,s.data.toList[j]?=some b→b.toNat<128):=hs
 clear hs
 have t3:=L.t3;have a3:=L.a3;have z3:=L.z3;have v3:=L.v3
 have t4:=L.t4;have a4:=L.a4;have z4:=L.z4;have v4:=L.v4
 have t5:=L.t5;have a5:=L.a5;have z5:=L.z5;have v5:=L.v5
 have t9:=L.t9;have a9:=L.a9;have z9:=L.z9;have v9:=L.v9
 have t21:=L.t21;have a21:=L.a21;have z21:=L.z21;have v21:=L.v21
 go_enter L.f152,Body.n152_ntmps ρ
 go_wp2
 go_loopg [5,6] s.size (λg _ _ wx=>∃i:Nat,i+g=s.size∧wx=w.iter s i)
 case atStart=>exact⟨0,by omega,rfl⟩
 case round=>
  obtain⟨i,hig,rfl⟩:=hrel
  cases gk with
  |zero=>
   obtain rfl:i=s.size:=by omega
   have Yy:=run_next_end (P:=P) w s s.size
   go_wp2
   go_ret
   exact⟨rfl,_,rfl⟩
  |succ g=>
   have hi:i<s.size:=by omega
   obtain⟨x,hx⟩:∃x:UInt8,s[i]'hi=x:=⟨_,rfl⟩
   have TI:s.data.toList[i]?=some x:=by rw[←hx];exact Lib.data_getElem? s i hi
   have XF:x.toNat<128:=HA.out i x TI
   have Yy:=λty=>run_next_ascii (P:=P) w s i ty hi (by rw[hx];exact XF)
   rw[hx]at Yy
   have hne:((x.toNat:Int)==(65533:Int))=false:=tC.2 (by omega)
   go_wp2
   go_roundg g
   case measure=>omega
   case rel=>exact⟨i+1,by omega,rfl⟩
theorem Any.vP (L:Lays.n152 P ρ)(s:ByteArray)(r:Int)(w:World)(a:128≤r)(c:∀(j:Nat) b,s.data.toList[j]?=some b→b.toNat<128)(g:s.size≤100):
 Calls P (ρ.f 152) #[.string s,.int .i32 r] w λe w'=>e= .returned (.int .i64 (-1))∧Below w.heap.size w w':=by
 by_cases h1:r=65533
 ·subst h1
  refine(Any.xL L s w c).mono ?_;rintro e w' ⟨rfl,pos,rfl⟩;exact⟨rfl,(Below.refl _ w).alloc (aQ _) _⟩
 ·cases d:Lib.validRune r with
  |true=>
   refine(Any.yy L s r w a h1 d c g).mono ?_;rintro e w' ⟨rfl,k,rfl⟩;exact⟨rfl,rfl,rfl,rfl,aQ _,λ_ _=>rfl⟩
  |false=>
   refine(Any.Ak L s r w a h1 d).mono ?_;rintro e w' ⟨rfl,k,rfl⟩;exact⟨rfl,rfl,rfl,rfl,aQ _,λ_ _=>rfl⟩
theorem Fk {w:World}{k:Nat}{s:ByteArray}{p:Nat}{o:Obj}(h:w.heap[k]?=some o):(w.iterAt k s p).heap[k]?=some (.stringIter s p):=by
 have hk:=(wI.1 h).1
 show(w.heap.setIfInBounds k _)[k]?=_
 simp[hk]
theorem iterAt_size {w:World}{k:Nat}{s:ByteArray}{p:Nat}:(w.iterAt k s p).heap.size=w.heap.size:=by
 show(w.heap.setIfInBounds k _).size=_
 simp
theorem Dk {w wx:World}{k:Nat}{s:ByteArray}{p:Nat}(h:Below k w wx):Below k w (wx.iterAt k s p):=
 ⟨h.os,h.tape,h.output,by rw[iterAt_size];exact h.size,λj a=>by
  show(wx.heap.setIfInBounds k _)[j]?=_
  rw[Array.getElem?_setIfInBounds_ne (by omega)]
  exact h.block j a⟩
theorem JH {s chars:List UInt8}{i n:Nat}(h:NoAny s chars i)(c:∀(j:Nat) b,chars[j]?=some b→b.toNat<128)(d:∀j,j<n→128≤J.bt s (i+j)):NoAny s chars (i+n):=by
 intro j b l a
 by_cases k:j<i
 ·exact h j b k a
 ·have h1:=d (j-i) (by omega)
  rw[show i+(j-i)=j by omega]at h1
  have e:J.bt s j=b.toNat:=by unfold J.bt;rw[aZ,a];rfl
  rw[e]at h1;rw[Bool.eq_false_iff];intro f;obtain⟨q,g⟩:=Ca (List.contains_iff_mem.1 f)
  have:=c q b g
  omega
theorem OZ {B:Nat}{w a b:World}(h:Below B w a)(d:B≤a.heap.size)(k:Below a.heap.size a b):Below B w b:=
 ⟨k.os.trans h.os,k.tape.trans h.tape,k.output.trans h.output,cz h.size k.size,λj c=>(k.block j (by omega)).trans (h.block j c)⟩
end Go.Proofs
namespace Go.Proofs
open Go.Shelf Go.RowKit Go.Lib
variable {P:Program}{ρ:Ren}
set_option maxRecDepth 1000000 in
theorem Any.sW (L:Lays.n153 P ρ)(s chars:ByteArray)(w:World)(h2:2≤chars.size)(Pm:chars.size≤100)(h8:s.size≤8)(Pk:∀(j:Nat) b,chars.data.toList[j]?=some b→b.toNat<128):
 Calls P (ρ.f 153) #[.string s,.string chars] w λe w'=>e= .returned (.int .i64 (Lib.indexAny s.data.toList chars.data.toList))∧Below w.heap.size w w':=by
 have HA:Aside (∀(j:Nat) b,chars.data.toList[j]?=some b→b.toNat<128):=Pk
 clear Pk
 have akT:chars.toList.isEmpty=false:=by
  rw[Lib.toList_data]
  cases h:chars.data.toList with
  |nil=>have:=Lib.size_eq chars;rw[h,List.length_nil]at this;omega
  |cons _ _=>rfl
 have hn1:((chars.size:Int)==1)=false:=tC.2 (by omega)
 have h8z:decide ((8:Int)<(s.size:Int))=false:=e9 (by omega)
 have t3:=L.t3;have a3:=L.a3;have z3:=L.z3;have v3:=L.v3
 have t4:=L.t4;have a4:=L.a4;have z4:=L.z4;have v4:=L.v4
 have t5:=L.t5;have a5:=L.a5;have z5:=L.z5;have v5:=L.v5
 have t9:=L.t9;have a9:=L.a9;have z9:=L.z9;have v9:=L.v9
 have t21:=L.t21;have a21:=L.a21;have z21:=L.z21;have v21:=L.v21
 have akL:∀args w,(callFunc (ρ.f 152) args).run P w= .ok (.enter (ρ.f 152) args) w:=enters_of L.f152 (by kernel_rfl) rfl
 have akN:∀args w,(callFunc (ρ.f 226) args).run P w= .ok (.enter (ρ.f 226) args) w:=enters_of L.f226 (by kernel_rfl) rfl
 go_enter L.f153,Body.n153_ntmps ρ
 go_wp2_with (go_at_fn (ρ.f 226);refine(Any.strings_shouldUseASCIISet {L with} _ _).mono ?_;rintro e w' ⟨rfl,hw⟩;rw[hw,h8z])
 go_loopg [9,10] s.size (λg _ _ wx=>∃i:Nat,i+g=s.size∧wx.heap[w.heap.size]?=some (.stringIter s i)∧Below w.heap.size w wx∧Lib.NoAny s.data.toList chars.data.toList i)
 case atStart=>exact⟨0,by omega,World.iter_heap w s 0,(Below.refl _ w).alloc (aQ _) _,Lib.NoAny.zero _ _⟩
 case round=>
  obtain⟨i,hig,hk,adO,Yx⟩:=hrel
  have HN:Aside (Lib.NoAny s.data.toList chars.data.toList i):=Yx
  clear Yx
  have HB:Aside (Below w.heap.size w wr):=adO
  clear adO
  cases gk with
  |zero=>
   obtain rfl:i=s.size:=by omega
   have Yy:=λty=>run_next_end_at (P:=P) wr w.heap.size s s.size ty hk (by omega)
   go_wp2
   go_ret
   exact⟨by rw[Lib.indexAny_none (by rw[←Lib.size_eq];exact HN.out)];rfl,HB.out⟩
  |succ g=>
   have hi:i<s.size:=by omega
   have L0:i<s.data.toList.length:=by rw[←Lib.size_eq];exact hi
   have Yy:=λty=>run_next_any_at (P:=P) wr w.heap.size s i ty hk hi
   obtain⟨b1,b2,b3⟩:=J.r4 L0
   have adS:=decodeL_drop s i
   have hsz:=Lib.size_eq s
   rw[adS]at b1 b2 b3
   obtain⟨r,wd,hd⟩:∃r wd,Utf8.decode s i=(r,wd):=⟨_,_,rfl⟩
   rw[hd]at Yy b1 b2 b3
   simp only at Yy b1 b2 b3
   obtain⟨w2,hw2⟩:∃w2,wr.iterAt w.heap.size s (i+wd)=w2:=⟨_,rfl⟩
   have hk2:w2.heap[w.heap.size]?=some (.stringIter s (i+wd)):=hw2▸Fk hk
   have Kz:Below w.heap.size w w2:=hw2▸Dk HB.out
   rw[hw2]at Yy
   clear hw2 adS hd
   have HK2:Aside (w2.heap[w.heap.size]?=some (.stringIter s (i+wd))):=hk2
   have HB2:Aside (Below w.heap.size w w2):=Kz
   clear hk2 Kz
   rcases b3 with⟨c1,c2⟩|⟨c1,c2⟩
   ·obtain⟨x,TI⟩:∃x,s.data.toList[i]?=some x:=⟨_,aj L0⟩
    have hbx:J.bt s.data.toList i=x.toNat:=by unfold J.bt;rw[aZ,TI];rfl
    rw[hbx]at c1 c2;obtain⟨rfl,rfl⟩:=Prod.mk.inj c2
    have Hx:Aside (s.data.toList[i]?=some x):=TI
    clear TI hbx c2
    have Mh:=Lib.contains_iff_indexByte chars.data.toList x
    have X7:((x.toNat:Int)).toNat.toUInt8=x:=by simp
    cases Uw:chars.data.toList.contains x
    ·rw[Uw]at Mh
     have hlt:¬((0:Int)≤Lib.indexByte chars.data.toList x):=l3 Mh.symm
     clear Mh
     go_wp2_with (go_at_fn (ρ.f 152);refine(Any.strings_IndexRune_ascii {L with} _ _ _ (by omega) (by omega)).mono ?_;rintro e w' ⟨rfl,rfl⟩;rw[X7];dsimp only)
     go_wp2
     go_roundg g
     case measure=>omega
     case rel=>exact⟨i+1,by omega,HK2.out,HB2.out,HN.out.succ Hx.out Uw⟩
    ·rw[Uw]at Mh
     have hge:(0:Int)≤Lib.indexByte chars.data.toList x:=gU Mh.symm
     clear Mh
     go_wp2_with (go_at_fn (ρ.f 152);refine(Any.strings_IndexRune_ascii {L with} _ _ _ (by omega) (by omega)).mono ?_;rintro e w' ⟨rfl,rfl⟩;rw[X7];dsimp only)
     go_wp2
     go_ret
     exact⟨by rw[Lib.indexAny_hit HN.out Hx.out Uw];rfl,HB2.out⟩
   ·have HC:Aside (∀j,j<wd→128≤J.bt s.data.toList (i+j)):=c2
    clear c2
    go_wp2_with (go_at_fn (ρ.f 152);refine(Any.vP {L with} _ _ _ (by omega) HA.out Pm).mono ?_;rintro e w3 ⟨rfl,hb3⟩;dsimp only)
    go_wp2
    go_roundg (s.size-(i+wd))
    case measure=>omega
    case rel=>exact⟨i+wd,by omega,by rw[hb3.block _ (wI.1 HK2.out).1];exact HK2.out,OZ HB2.out HB2.out.size hb3,JH HN.out HA.out HC.out⟩
theorem Any.Dj (L:Lays.n153 P ρ)(c:(P.info? (ρ.t 116)).map (λi=>(i.zero,i.size))=some (some (.agg (Array.replicate 256 (.bool false))),256))(s chars:ByteArray)(w:World)(d:2≤chars.size)(g:chars.size≤100)(h:s.size<4294967281)
 (a:∀(j:Nat) b,chars.data.toList[j]?=some b→b.toNat<128):
 Calls P (ρ.f 153) #[.string s,.string chars] w λe w'=>e= .returned (.int .i64 (Lib.indexAny s.data.toList chars.data.toList))∧Below w.heap.size w w':=by
 by_cases k:s.size≤8
 ·exact Any.sW L s chars w d g k a
 ·refine(Any.strings_IndexAny_long L (zero_of_info c).1 (zero_of_info c).2 s chars w (by omega) (by omega) h (by omega) a).mono ?_
  rintro e w' ⟨l,m⟩;refine⟨l,?_⟩;rw[m];exact((Below.refl _ _).alloc (aQ _) _).alloc (by simp) _
theorem Any.xJ (L:Lays.n150 P ρ)(ahZ:(P.info? (ρ.t 116)).map (λi=>(i.zero,i.size))=some (some (.agg (Array.replicate 256 (.bool false))),256))(s chars:ByteArray)(w:World)(h2:2≤chars.size)(Pm:chars.size≤100)(hs:s.size<4294967281)
 (hac:∀(j:Nat) b,chars.data.toList[j]?=some b→b.toNat<128):
 Calls P (ρ.f 150) #[.string s,.string chars] w λe w'=>e= .returned (.bool (Lib.containsAny s.data.toList chars.data.toList))∧Below w.heap.size w w':=by
 have c:=Any.Dj {L with} ahZ s chars w h2 Pm hs hac
 have t3:=L.t3;have a3:=L.a3;have z3:=L.z3;have v3:=L.v3
 have t4:=L.t4;have a4:=L.a4;have z4:=L.z4;have v4:=L.v4
 have t9:=L.t9;have a9:=L.a9;have z9:=L.z9;have v9:=L.v9
 have akM:∀args w,(callFunc (ρ.f 153) args).run P w= .ok (.enter (ρ.f 153) args) w:=enters_of L.f153 (by kernel_rfl) rfl
 go_enter L.f150,Body.n150_ntmps ρ
 go_wp2_with (go_at_fn (ρ.f 153);refine c.mono ?_;rintro e w' ⟨rfl,hw⟩)
 go_ret
 exact⟨rfl,hw⟩
theorem vG (s:List UInt8):Lib.containsAny s J.xU=s.any J.iT:=by
 rw[rh];unfold Lib.containsAny;rw[decide_eq_true_iff,uq]
 constructor
 ·have g:∀l:List UInt8,0≤Lib.indexAny l J.xU→∃b,b∈l∧J.iT b=true:=by
   intro l
   induction l with
   |nil=>intro h;exact absurd h (by decide)
   |cons c l i=>
    intro h;unfold Lib.indexAny at h
    have j:=Lib.indexAny_ge J.xU l
    split at h
    ·rename_i d
     exact⟨c,aV ..,by unfold J.iT;exact d⟩
    ·split at h
     ·omega
     ·rename_i he
      have k:Lib.indexAny l J.xU≠ -1:=λe=>he (by rw[e];rfl)
      obtain⟨b,a,f⟩:=i (by omega);exact⟨b,bV _ a,f⟩
  exact g s
 ·rintro ⟨b,a,f⟩
  rcases Int.lt_or_le (Lib.indexAny s J.xU) 0 with h|h
  ·exfalso
   have key:∀l:List UInt8,Lib.indexAny l J.xU<0→∀b∈l,J.iT b=false:=by
    intro l
    induction l with
    |nil=>intro _ b a;cases a
    |cons c l i=>
     intro h b a;unfold Lib.indexAny at h
     have j:=Lib.indexAny_ge J.xU l
     split at h
     ·omega
     ·rename_i d
      rcases bT.1 a with rfl|a
      ·unfold J.iT;simpa using d
      ·refine i ?_ b a
       split at h
       ·rename_i he;rw[qu]at he;omega
       ·rename_i he;omega
   rw[key s h b a]at f;cases f
  ·exact h
end Go.Proofs
namespace Go.Proofs
open Go.Shelf
def Tryz.Fu:Go.Shelf.Ren:=⟨λ|195=>98|n=>n,λ|0=>0|3=>3|4=>4|9=>9|n=>n,λ|n=>n⟩
theorem Tryz.V9:Go.Proofs.Lays.n195 Tryz.prog Tryz.Fu:={
 mixed:=by kernel_rfl
 f195:=Tryz.func98.trans (congrArg some (by kernel_rfl))
 t0:=Tryz.underlying0
 a0:=Tryz.isAgg0
 z0:=Tryz.sizeOf0
 v0:=Tryz.zeroValue0
 t3:=Tryz.underlying3
 a3:=Tryz.isAgg3
 z3:=Tryz.sizeOf3
 v3:=Tryz.zeroValue3
 t4:=Tryz.underlying4
 a4:=Tryz.isAgg4
 z4:=Tryz.sizeOf4
 v4:=Tryz.zeroValue4
 t9:=Tryz.underlying9
 a9:=Tryz.isAgg9
 z9:=Tryz.sizeOf9
 v9:=Tryz.zeroValue9}
def Tryz.qW:Go.Shelf.Ren:=⟨λ|196=>99|259=>148|n=>n,λ|0=>0|3=>3|4=>4|5=>5|9=>9|12=>12|46=>192|53=>123|119=>257|138=>259|139=>260|n=>n,λ|3=>2|4=>3|n=>n⟩
theorem Tryz.VA:Go.Proofs.Lays.n196 Tryz.prog Tryz.qW:={
 mixed:=by kernel_rfl
 f196:=Tryz.func99.trans (congrArg some (by kernel_rfl))
 f259:=Tryz.func148.trans (congrArg some (by kernel_rfl))
 t0:=Tryz.underlying0
 a0:=Tryz.isAgg0
 z0:=Tryz.sizeOf0
 v0:=Tryz.zeroValue0
 t3:=Tryz.underlying3
 a3:=Tryz.isAgg3
 z3:=Tryz.sizeOf3
 v3:=Tryz.zeroValue3
 t4:=Tryz.underlying4
 a4:=Tryz.isAgg4
 z4:=Tryz.sizeOf4
 v4:=Tryz.zeroValue4
 t5:=Tryz.underlying5
 a5:=Tryz.isAgg5
 z5:=Tryz.sizeOf5
 v5:=Tryz.zeroValue5
 t9:=Tryz.underlying9
 a9:=Tryz.isAgg9
 z9:=Tryz.sizeOf9
 v9:=Tryz.zeroValue9
 t12:=Tryz.underlying12
 a12:=Tryz.isAgg12
 z12:=Tryz.sizeOf12
 v12:=Tryz.zeroValue12
 t46:=Tryz.underlying192
 a46:=Tryz.isAgg192
 z46:=Tryz.sizeOf192
 v46:=Tryz.zeroValue192
 t53:=Tryz.underlying123
 a53:=Tryz.isAgg123
 z53:=Tryz.sizeOf123
 v53:=Tryz.zeroValue123
 t119:=Tryz.underlying257
 a119:=Tryz.isAgg257
 z119:=Tryz.sizeOf257
 t138:=Tryz.underlying259
 a138:=Tryz.isAgg259
 z138:=Tryz.sizeOf259
 v138:=Tryz.zeroValue259
 t139:=Tryz.underlying260
 a139:=Tryz.isAgg260
 z139:=Tryz.sizeOf260
 v139:=Tryz.zeroValue260
 g3:=by kernel_rfl
 g4:=by kernel_rfl}
def Tryz.wX:Go.Shelf.Ren:=⟨λ|119=>217|137=>216|150=>100|152=>195|153=>149|217=>245|224=>218|225=>219|226=>196|227=>197|228=>198|266=>252|n=>n,λ|0=>0|3=>3|4=>4|5=>5|9=>9|21=>21|46=>192|116=>303|117=>304|124=>328|n=>n,λ|n=>n⟩
theorem Tryz.V8:Go.Proofs.Lays.n150 Tryz.prog Tryz.wX:={
 mixed:=by kernel_rfl
 f119:=Tryz.func217.trans (congrArg some (by kernel_rfl))
 f137:=Tryz.func216.trans (congrArg some (by kernel_rfl))
 f150:=Tryz.func100.trans (congrArg some (by kernel_rfl))
 f152:=Tryz.func195.trans (congrArg some (by kernel_rfl))
 f153:=Tryz.func149.trans (congrArg some (by kernel_rfl))
 f217:=Tryz.func245.trans (congrArg some (by kernel_rfl))
 f224:=Tryz.func218.trans (congrArg some (by kernel_rfl))
 f225:=Tryz.func219.trans (congrArg some (by kernel_rfl))
 f226:=Tryz.func196.trans (congrArg some (by kernel_rfl))
 f227:=Tryz.func197.trans (congrArg some (by kernel_rfl))
 f228:=Tryz.func198.trans (congrArg some (by kernel_rfl))
 f266:=Tryz.func252.trans (congrArg some (by kernel_rfl))
 t0:=Tryz.underlying0
 a0:=Tryz.isAgg0
 z0:=Tryz.sizeOf0
 v0:=Tryz.zeroValue0
 t3:=Tryz.underlying3
 a3:=Tryz.isAgg3
 z3:=Tryz.sizeOf3
 v3:=Tryz.zeroValue3
 t4:=Tryz.underlying4
 a4:=Tryz.isAgg4
 z4:=Tryz.sizeOf4
 v4:=Tryz.zeroValue4
 t5:=Tryz.underlying5
 a5:=Tryz.isAgg5
 z5:=Tryz.sizeOf5
 v5:=Tryz.zeroValue5
 t9:=Tryz.underlying9
 a9:=Tryz.isAgg9
 z9:=Tryz.sizeOf9
 v9:=Tryz.zeroValue9
 t21:=Tryz.underlying21
 a21:=Tryz.isAgg21
 z21:=Tryz.sizeOf21
 v21:=Tryz.zeroValue21
 t46:=Tryz.underlying192
 a46:=Tryz.isAgg192
 z46:=Tryz.sizeOf192
 v46:=Tryz.zeroValue192
 t116:=Tryz.underlying303
 a116:=Tryz.isAgg303
 z116:=Tryz.sizeOf303
 t117:=Tryz.underlying304
 a117:=Tryz.isAgg304
 z117:=Tryz.sizeOf304
 v117:=Tryz.zeroValue304
 t124:=Tryz.underlying328
 a124:=Tryz.isAgg328
 z124:=Tryz.sizeOf328
 v124:=Tryz.zeroValue328}
end Go.Proofs
namespace Go.Proofs.YtiefglecbgdaiaaGreatDoor
open Go Go.J Tryz
theorem mixed:prog.follows .mixedOrders=true:=by kernel_rfl
theorem ahR:aG prog 98:=⟨_,func98,rfl,by kernel_rfl⟩
theorem ahS:aG prog 99:=⟨_,func99,rfl,by kernel_rfl⟩
theorem abQ:aG prog 100:=⟨_,func100,rfl,by kernel_rfl⟩
def Y4 (w:World):Prop:=Lib.Utf8Tabs (Tryz.qW.g 3) (Tryz.qW.g 4) w
abbrev u8:dQ:=dQ.of Y4
theorem aaA:(prog.info? (Tryz.wX.t 116)).map (λi=>(i.zero,i.size))=some (some (.agg (Array.replicate 256 (.bool false))),256):=by kernel_rfl
theorem LY (s:ab):(⟨s.toArray⟩:ByteArray).size=s.length:=by simp[ByteArray.size]
theorem Vc (s:ab)(a:s.length<9223372036854775807):kC prog 98 #[sv s] [u8] (iv (Lib.runeCountL s)):=
 kC.qd λw _=>by
  refine(Any.utf8_RuneCountInString Tryz.V9 ⟨s.toArray⟩ w (by rw[LY];exact a)).mono ?_;rintro e w' ⟨rfl,pos,rfl⟩;exact⟨rfl,(RowKit.Below.refl _ w).alloc (aQ _) _⟩
theorem K6 (s:ab)(a:s.length<9223372036854775807):kC prog 99 #[sv s] [u8] (.bool (Lib.validD s)):=
 kC.qd λw hw=>Any.utf8_ValidString Tryz.VA ⟨s.toArray⟩ w (by rw[LY];omega) hw
theorem OT (s:ab)(a:s.length<4294967281):kC prog 100 #[sv s,sv xU] [u8] (.bool (s.any iT)):=
 kC.qd λw _=>by
  have:=Any.xJ Tryz.V8 aaA ⟨s.toArray⟩ ⟨xU.toArray⟩ w (by decide) (by decide) (by rw[LY];exact a) (λj b h=>by
   have:∀b∈xU,b.toNat<128:=by decide
   exact this b (aa h))
  rw[←vG];exact this
theorem Zi (s:ab):s.length≤4*Lib.runeCountL s:=by
 have key:∀(f p:Nat),s.length-p≤f→s.length-p≤4*Lib.runeCountFrom ⟨s.toArray⟩ f p:=by
  intro f
  induction f with
  |zero=>intro p h;omega
  |succ f b=>
   intro p h
   by_cases hp:p<s.length
   ·have c:p<(⟨s.toArray⟩:ByteArray).size:=by rw[LY];exact hp
    obtain⟨d1,d2,_⟩:=r4 hp
    have a:=Lib.decodeL_drop ⟨s.toArray⟩ p
    simp only at a
    have hw:(Lib.decodeL (s.drop p)).2≤4:=by
     rw[vI]
     rcases vH (n:=s.length-p) (pZ s p) (pZ s (p+1)) (pZ s (p+2)) (pZ s (p+3))with⟨_,e⟩|⟨_,_,_,_,e⟩|⟨_,r,_,e⟩|⟨_,r,_,e⟩|⟨_,r,_,e⟩<;>rw[e]<;>simp
    have:=b (p+(Lib.decodeL (s.drop p)).2) zE
    rw[Lib.runeCountFrom,aB c,←a];omega
   ·omega
 have:=key s.length 0 zE
 have e:Lib.runeCountFrom ⟨s.toArray⟩ s.length 0=Lib.runeCountL s:=by unfold Lib.runeCountL Lib.runeCount;congr 1
 rw[e]at this;omega
theorem HS (s:ab):(((decide ((1:Int)≤(Lib.runeCountL s:Int))&&decide ((Lib.runeCountL s:Int)≤30))&&Lib.validD s)&& !(s.any iT))=isWord s:=by
 rw[Mx]
 have h1:decide ((1:Int)≤(Lib.runeCountL s:Int))=decide (1≤Lib.runeCountL s):=decide_eq_decide.2 zE
 have a:decide ((Lib.runeCountL s:Int)≤30)=decide (Lib.runeCountL s≤30):=decide_eq_decide.2 zE
 rw[h1,a]
theorem lO (s:ab)(d:s.length<9223372036854775807):kC prog 53 #[sv s] [u8] (.bool (isWord s)):=by
 refine kC.body (args:=[sv s]) (ds:=[u8]) 21 func53 rfl ntmps53 rfl (λc b=> ?_)
 change St _ _ (Mm c [aD u8]) _
 refine St.seq (St.rg ?_);refine St.asg ?_;refine St.nil (St.nJ (St.seq (St.rg ?_)));refine St.mv ?_;refine St.ev _ (Ev.lp b (Vc s d) ahR (.cons (.mk rfl) .nil)) rfl ?_;refine St.asg ?_;refine St.nil (St.nJ (St.seq (St.rg ?_)));refine St.mv ?_;refine St.ev _ (Ev.geq (.mk rfl) (.mk rfl)) rfl ?_;refine St.mv ?_;refine St.gt _ rfl rfl (λa=>Ev.move (.mk rfl)) rfl ?_;refine St.gt _ rfl rfl (λa=>Ev.leq (aX.gv rfl a) (.mk rfl)) rfl ?_;refine St.ev _ (Ev.and (.mk rfl) (λhp=>aX.gv rfl hp)) rfl ?_;refine St.mv ?_;refine St.gt _ rfl rfl (λa=>Ev.move (.mk rfl)) rfl ?_;refine St.gt _ rfl rfl (λa=>Ev.lp b (K6 s d) ahS (.cons (aX.gv rfl a) .nil)) rfl ?_;refine St.ev _ (Ev.and (.mk rfl) (λhp=>aX.gv rfl hp)) rfl ?_;refine St.mv ?_;refine St.gt _ rfl rfl (λa=>Ev.move (.mk rfl)) rfl ?_;refine St.gt _ rfl rfl (λa=>Ev.lp b (OT s (by have e:=Zi s;first|omega|(simp only[Bool.and_eq_true,decide_eq_true_eq]at a;omega)|(simp at a;omega)|(trace_state;omega))) abQ (.cons (aX.gv rfl a) (.cons (.mk rfl) .nil))) rfl ?_;refine St.gt _ rfl rfl (λa=>Ev.not (aX.gv rfl a)) rfl ?_;refine St.ev _ (Ev.and (.mk rfl) (λhp=>aX.gv rfl hp)) rfl ?_;refine St.asg ?_;refine St.nil (St.nJ (St.afS ?_));refine St.JX [_] [] results53 ⟨rfl,trivial⟩ ?_ (λ_ hw=>hw.sub);exact be (by first|exact HS s|(simp[HS]))
end Go.Proofs.YtiefglecbgdaiaaGreatDoor
namespace Go.J
open Go
section
variable {P:Program}{n:Nat}{F:Fr}{A:World→Prop}{c:Ctx}{H R:List ai}{ty:TypeId}{x y:Operand}{v:Value}{Q:Exit→Act→World→Prop}{ops:Array Oper}{rest:List Oper}
 {pos:String} {after:Array Edge} {t e:TypeId}
end
section
variable {P:Program}{n:Nat}{F:Fr}{c:Ctx}{H R:List ai}{ty:TypeId}{x y:Operand}{t e:TypeId}
theorem Ev.iz {b off:Nat}{dd:TypeDesc}{fr:Nat×Nat}{L L':List Value}[f:BE b H (.cells L.toArray e fr)](m:Nat)(hx:aX F x (.pointer (some ⟨b,off,none⟩)))(ht:P.underlying t=some dd)(g:(match dd with| .struct _| .array _ _=>True|_=>False))
 (h:(P.info? t).map (·.size)=some m) (i:(L.drop off).take m=L') (k:L'.length=m):Ev P n F (Mm c H) (.load t x) ty (.agg L'.toArray):= .of_run λa w l hw=>by
 obtain⟨ρ,hm⟩:=hw.out
 have h1:=fz.1 (hm.dC _ f.mem)
 have o:=eB (P:=P) (w:=w) (b:=b) (off:=off) (L:=L') ht g (by rw[k];exact h) (λj u d=>by
  rw[cG h1];rw[←i,om]at d
  split at d
  ·rw[x9]at d;simpa using d
  ·cases d)
 simp[execOp,hx.eval l,Instr.loadAt,Instr.sureAddr,o]
end
theorem fy.ind {p:fy→Prop}(h:∀x,(∀y∈x.args,p y)→p x)(x:fy):p x:=
 fy.rec (motive_1:=p) (motive_2:=λl=>∀y∈l,p y) (λb v l c=>h (.mk b v l) c) (λy hy=>by cases hy) (λa l d e y hy=>by
  rcases bT.1 hy with rfl|hy
  ·exact d
  ·exact e y hy) x
theorem dg.ind {p:dg→Prop}(h:∀x,(∀y∈x.args,p y)→p x)(x:dg):p x:=
 dg.rec (motive_1:=p) (motive_2:=λl=>∀y∈l,p y) (λk s i t v l b=>h (.mk k s i t v l) b) (λy hy=>by cases hy) (λa l c d y hy=>by
  rcases bT.1 hy with rfl|hy
  ·exact c
  ·exact d y hy) x
theorem bH.ind {p:bH→Prop}(h:∀x,(∀y∈x.kids,p y)→p x)(x:bH):p x:=
 bH.rec (motive_1:=p) (motive_2:=λl=>∀y∈l,p y) (λr i v l b=>h (.mk r i v l) b) (λy hy=>by cases hy) (λa l c d y hy=>by
  rcases bT.1 hy with rfl|hy
  ·exact c
  ·exact d y hy) x
theorem Sq.slot {n:Nat}{F:Fr}{T:Act→Prop}{v:Value}(k:Nat)(v':Value)(hk:look F k=some v)(h:v=v')(d:Sq n ((k,v')::F) T):Sq n F T:=by
 subst h
 refine λa b=>d a ⟨b.size,b.defers,λt u hu=> ?_⟩
 simp only[look]at hu
 cases c:Nat.beq t k with
 |true=>
  have e:=xC c
  subst e
  simp only[c,cond_true,Option.some.injEq]at hu
  subst hu;exact b.slot _ _ hk
 |false=>
  simp only[c,cond_false]at hu
  exact b.slot _ _ hu
theorem Ev.ajA {P:Program}{n:Nat}{F:Fr}{A:World→Prop}{ty:TypeId}{x:Operand}{a:Addr}(hx:aX F x (.pointer (some a))):Ev P n F A (.nilCheck x) ty (.pointer (some a)):= .of_run λac w b _=>by simp[execOp,hx.eval b]
section
variable {P:Program}{n:Nat}{F F0:Fr}{A:World→Prop}{c:Ctx}{H R:List ai}{ty:TypeId}{x y:Operand}{v:Value}{Q:Exit→Act→World→Prop}{ops:Array Oper}{rest:List Oper}{d:Nat}{pos:String}{after:Array Edge}{op:Op}{t u e:TypeId}{i j:Int}{k:IntKind}
theorem St.ee (a:Ev P n F A op ty v)(h:St n ((d,v)::F) A (wpList P ops Q rest))(hd:Nat.ble (d+1) n=true:=by rfl):St n F A (wpList P ops Q ({dst:=some d,op:=op,type:=ty,pos:=pos,after:=after,guard:=none}::rest)):=St.ev v a hd h
theorem Sq.ee {T:Act→Prop}(a:Ev P n F A op ty v)(h:Sq n ((d,v)::F) (wpQuiet P ops A T rest))(hd:Nat.ble (d+1) n=true:=by rfl):Sq n F (wpQuiet P ops A T ({dst:=some d,op:=op,type:=ty,pos:=pos,after:=after,guard:=none}::rest)):=Sq.ev v a hd h
theorem St.sA {b m:Nat}{L L':List Value}[f:mn b H (.cells L.toArray t (0,0)) R](hx:aX F x (tW b))(hy:aX F y (.agg L'.toArray))(a:(P.info? e).map (·.size)=some m)(h:St n F (Mm c (aU b (.cells L'.toArray t (0,0))::R)) (wpList P ops Q rest))
 (hm:m=L'.length:=by rfl) (d:L.length=L'.length:=by first|simp only[List.length_cons,List.length_nil]|rfl) (h1:L'.all (·.oneCell')=true:=by rfl):
 St n F (Mm c H) (wpList P ops Q ({dst:=none,op:= .store e x y,type:=ty,pos:=pos,after:=after,guard:=none}::rest)):=St.Rm hx hy (by rw[a,hm]) d h1 h
theorem St.rT {fn:Func}{post:Value→List ai→Prop}{a:List ResultVar}(vs:List Value)(H':List ai)(b:fn.results=a.toArray)(d:TZ P F H a vs)(hp:post (GZ vs) H')(hH:∀w,Mm c H w→Mm c H' w:=by exact λ_ hw=>hw.sub):
 St n F (Mm c H) (bodyPost P fn (λe w'=>∃v H',e= .returned v∧post v H'∧Mm c H' w') .ret):=St.JX vs H' b d hp hH
theorem St.rU {fn:Func}{post:Value→List ai→Prop}{a:List ResultVar}(vs:List Value)(H':List ai)(b:fn.results=a.toArray)(hp:post (GZ vs) H')(d:TZ P F H a vs:=by first|exact⟨rfl,trivial⟩|exact⟨⟨_,_,_,_,rfl,BE.mem,.inl ⟨⟨_,f⟩,g,rfl⟩⟩,trivial⟩)(hH:∀w,Mm c H w→Mm c H' w:=by exact λ_ hw=>hw.sub):
 St n F (Mm c H) (bodyPost P fn (λe w'=>∃v H',e= .returned v∧post v H'∧Mm c H' w') .ret):=St.JX vs H' b d hp hH
theorem St.sr {id:Nat}{l:List Oper}{y:Code}(h:St n F A (wpList P l.toArray (Exit.then (y.wp P Q) Q) l)):St n F A ((Code.seq (Code.region id l.toArray false) y).wp P Q):=St.seq (St.rg h)
theorem St.pb {ι κ:Type}{body:Code}(G:ι→κ→Fr→Fr)(a:ι→κ→List ai)(φ:ι→κ→Prop)(μ:ι→κ→Nat)(b:ι)(d:κ)(hk:aC F F0)(e:φ b d)
 (round:∀x z,φ x z→St n (G x z F0) (Mm c (a x z)) (body.wp P (Exit.then (Cf n G F0 φ μ c a (μ x z)) Q))) (f:Sub (G b d F0) F:=by repeat(first|exact Sub.nil|refine Sub.cons (by first|rfl|exact congrArg (λz=>some (iv z)) (by first|omega|(dsimp only;omega))|exact congrArg (λz=>some (Value.bool z)) (by first|assumption|exact ke (by assumption))) ?_)) (hH:∀w,Mm c H w→Mm c (a b d) w:=by exact λ_ hw=>hw.sub):
 St n F (Mm c H) ((Code.loop body).wp P Q):=St.ZM G a φ μ b d hk e f hH round
theorem St.lH {ι:Type}{body:Code}(G:ι→Fr→Fr)(a:ι→List ai)(φ:ι→Prop)(μ:ι→Nat)(b:ι)(hk:aC F F0)(d:φ b)
 (round:∀x,φ x→St n (G x F0) (Mm c (a x)) (body.wp P (Exit.then (wJ n G F0 φ μ c a (μ x)) Q))) (e:Sub (G b F0) F:=by repeat(first|exact Sub.nil|refine Sub.cons (by first|rfl|exact congrArg (λz=>some (iv z)) (by first|omega|(dsimp only;omega))|exact congrArg (λz=>some (Value.bool z)) (by first|assumption|exact ke (by assumption))) ?_)) (hH:∀w,Mm c H w→Mm c (a b) w:=by exact λ_ hw=>hw.sub):
 St n F (Mm c H) ((Code.loop body).wp P Q):=St.Fy G a φ μ b hk d e hH round
theorem St.lS {ι:Type}{body:Code}(G:ι→Fr→Fr)(φ:ι→Prop)(μ:ι→Nat)(a:ι)(hk:aC F F0)(b:φ a)
 (round:∀x,φ x→St n (G x F0) (Mm c H) (body.wp P (Exit.then (wJ n G F0 φ μ c (λ_=>H) (μ x)) Q))) (d:Sub (G a F0) F:=by repeat(first|exact Sub.nil|refine Sub.cons (by first|rfl|exact congrArg (λz=>some (iv z)) (by first|omega|(dsimp only;omega))|exact congrArg (λz=>some (Value.bool z)) (by first|assumption|exact ke (by assumption))) ?_)):
 St n F (Mm c H) ((Code.loop body).wp P Q):=St.aeZ G φ μ a hk b d round
theorem St.py {ι κ:Type}{G:ι→κ→Fr→Fr}{a:ι→κ→List ai}{φ:ι→κ→Prop}{μ:ι→κ→Nat}{k:Nat}(y:ι)(z:κ)(b:φ y z)(hm:μ y z<k:=by first|omega|(dsimp only;omega))(d:Sub (G y z F0) F:=by repeat(first|exact Sub.nil|refine Sub.cons (by first|rfl|exact congrArg (λz=>some (iv z)) (by first|omega|(dsimp only;omega))|exact congrArg (λz=>some (Value.bool z)) (by first|assumption|exact ke (by assumption))) ?_))(e:∀w,Mm c H w→Mm c (a y z) w:=by exact λ_ hw=>hw.sub):
 St n F (Mm c H) (Cf n G F0 φ μ c a k):=St.lC y z b hm d e
theorem St.aH {ι:Type}{G:ι→Fr→Fr}{a:ι→List ai}{φ:ι→Prop}{μ:ι→Nat}{k:Nat}(y:ι)(b:φ y)(hm:μ y<k:=by first|omega|(dsimp only;omega))(d:Sub (G y F0) F:=by repeat(first|exact Sub.nil|refine Sub.cons (by first|rfl|exact congrArg (λz=>some (iv z)) (by first|omega|(dsimp only;omega))|exact congrArg (λz=>some (Value.bool z)) (by first|assumption|exact ke (by assumption))) ?_))(e:∀w,Mm c H w→Mm c (a y) w:=by exact λ_ hw=>hw.sub):
 St n F (Mm c H) (wJ n G F0 φ μ c a k):=St.p5 y b hm d e
theorem St.aS {ι:Type}{G:ι→Fr→Fr}{φ:ι→Prop}{μ:ι→Nat}{k:Nat}{H':List ai}(y:ι)(a:φ y)(hm:μ y<k:=by first|omega|(dsimp only;omega))(b:Sub (G y F0) F:=by repeat(first|exact Sub.nil|refine Sub.cons (by first|rfl|exact congrArg (λz=>some (iv z)) (by first|omega|(dsimp only;omega))|exact congrArg (λz=>some (Value.bool z)) (by first|assumption|exact ke (by assumption))) ?_))(d:∀w,Mm c H w→Mm c H' w:=by exact λ_ hw=>hw.sub):
 St n F (Mm c H) (wJ n G F0 φ μ c (λ_=>H') k):=St.OP y a hm b d
theorem St.mE {ι:Type}{G:ι→Fr→Fr}{a:ι→List ai}{φ:ι→Prop}(y:ι)(b:φ y)(d:Sub (G y F0) F:=by repeat(first|exact Sub.nil|refine Sub.cons (by first|rfl|exact congrArg (λz=>some (iv z)) (by first|omega|(dsimp only;omega))|exact congrArg (λz=>some (Value.bool z)) (by first|assumption|exact ke (by assumption))) ?_))(e:∀w,Mm c H w→Mm c (a y) w:=by exact λ_ hw=>hw.sub):
 St n F (Mm c H) (Met n G F0 φ c a):=St.met y b d e
theorem Ev.l0 {b off:Nat}{fr:Nat×Nat}{d:TypeDesc}{u:Value}{L:List Value}[f:BE b H (.cells L.toArray e fr)](hx:aX F x (.pointer (some ⟨b,off,none⟩)))(ht:P.underlying t=some d)(a:(match d with| .struct _| .array _ _=>False|_=>True):=by trivial)
 (hu:L[off]?=some u:=by rfl):Ev P n F (Mm c H) (.load t x) ty u:=Ev.gh hx ht a hu
theorem Ev.o0 {p q:Bool}(hx:aX F x (.bool p):=by exact .mk rfl)(hy:(!p)=true→aX F y (.bool q):=by exact λhp=>aX.gv rfl hp):Ev P n F A (.pick x (.const (.bool true)) y) ty (.bool (p||q)):=Ev.or hx hy
theorem Ev.n0 {p q:Bool}(hx:aX F x (.bool p):=by exact .mk rfl)(hy:p=true→aX F y (.bool q):=by exact λhp=>aX.gv rfl hp):Ev P n F A (.pick x y (.const (.bool false))) ty (.bool (p&&q)):=Ev.and hx hy
theorem Ev.a0 (hx:aX F x (iv i):=by exact .mk rfl)(hy:aX F y (iv j):=by exact .mk rfl)(h: -9223372036854775808≤i+j∧i+j≤9223372036854775807:=by omega):Ev P n F A (.binOp .add t x y u) ty (iv (i+j)):=Ev.add hx hy h
theorem Ev.s0 (hx:aX F x (iv i):=by exact .mk rfl)(hy:aX F y (iv j):=by exact .mk rfl)(h: -9223372036854775808≤i-j∧i-j≤9223372036854775807:=by omega):Ev P n F A (.binOp .sub t x y u) ty (iv (i-j)):=Ev.sub hx hy h
theorem Ev.lt0 (hx:aX F x (.int k i):=by exact .mk rfl)(hy:aX F y (.int k j):=by exact .mk rfl):Ev P n F A (.binOp .lss t x y u) ty (.bool (decide (i<j))):=Ev.lss hx hy
theorem Ev.eq0 (hx:aX F x (.int k i):=by exact .mk rfl)(hy:aX F y (.int k j):=by exact .mk rfl):Ev P n F A (.binOp .eql t x y u) ty (.bool (decide (i=j))):=Ev.eql hx hy
theorem Ev.ne0 (hx:aX F x (.int k i):=by exact .mk rfl)(hy:aX F y (.int k j):=by exact .mk rfl):Ev P n F A (.binOp .neq t x y u) ty (.bool (!decide (i=j))):=Ev.neq hx hy
theorem Ev.gt0 (hx:aX F x (.int k i):=by exact .mk rfl)(hy:aX F y (.int k j):=by exact .mk rfl):Ev P n F A (.binOp .gtr t x y u) ty (.bool (decide (j<i))):=Ev.gtr hx hy
theorem Ev.ge0 (hx:aX F x (.int k i):=by exact .mk rfl)(hy:aX F y (.int k j):=by exact .mk rfl):Ev P n F A (.binOp .geq t x y u) ty (.bool (decide (j≤i))):=Ev.geq hx hy
theorem Ev.le0 (hx:aX F x (.int k i):=by exact .mk rfl)(hy:aX F y (.int k j):=by exact .mk rfl):Ev P n F A (.binOp .leq t x y u) ty (.bool (decide (i≤j))):=Ev.leq hx hy
theorem St.nn {K:Act→World→Prop}(h:St n F A K):St n F A (wpList P ops (Exit.then K Q) []):=h
theorem St.dup (d:dQ){T:Act→World→Prop}[hd:kh [d] H](k:St n F (Mm c (aD d::H)) T):St n F (Mm c H) T:=St.gW d [d] (λρ h=>h _ (aV ..)) k
end
section
variable {P:Program}{ops:Array Oper}{Q:Exit→Act→World→Prop}{n:Nat}{F:Fr}{c:Ctx}{H Fp r r' C':List ai}{f:Nat}{listed:Array Bool}{d:Nat}{op:Op}{ty:TypeId}{pos:String}{after:Array Edge}{v:Value}
theorem SW.dd (i:Nat)(a:ops[i]?=some {dst:=some d,op:=op,type:=ty,pos:=pos,after:=after,guard:=none})(b:∀R,Ev P n F (Mm c (Fp++R)) op ty v)(h:SW P ops Q n ((d,v)::F) c Fp r f (listed.setIfInBounds i true))
 (e:NP Q:=by assumption) (g:Region.noSelect ops=true:=by assumption) (j:((Region.ready .any ops listed).contains i&&Region.free .any ops listed i)=true:=by decide+kernel) (hd:Nat.ble (d+1) n=true:=by rfl):SW P ops Q n F c Fp r (f+1) listed:=SW.defer i e g a b j hd h
end
end Go.J
namespace Go.Proofs
open Tryz
theorem u_0:type_of% @underlying0:=underlying0
theorem eK:type_of% @underlying3:=underlying3
theorem K3:type_of% @underlying4:=underlying4
theorem HI:type_of% @underlying5:=underlying5
theorem oc:type_of% @underlying9:=underlying9
theorem A7:type_of% @underlying22:=underlying22
theorem K1:type_of% @underlying23:=underlying23
theorem B7:type_of% @underlying26:=underlying26
theorem B8:type_of% @underlying27:=underlying27
theorem qC:type_of% @underlying28:=underlying28
theorem mh:type_of% @underlying30:=underlying30
theorem aaE:type_of% @underlying32:=underlying32
theorem ug:type_of% @underlying33:=underlying33
theorem kZ:type_of% @underlying34:=underlying34
theorem cP:type_of% @underlying35:=underlying35
theorem Ng:type_of% @underlying39:=underlying39
theorem A9:type_of% @underlying51:=underlying51
theorem K4:type_of% @underlying60:=underlying60
theorem HJ:type_of% @underlying61:=underlying61
theorem B9:type_of% @underlying70:=underlying70
theorem HK:type_of% @underlying75:=underlying75
theorem mi:type_of% @underlying84:=underlying84
theorem re:type_of% @underlying86:=underlying86
theorem rf:type_of% @underlying92:=underlying92
theorem BA:type_of% @underlying95:=underlying95
theorem EH:type_of% @underlying98:=underlying98
theorem A6:type_of% @underlying100:=underlying100
theorem oX:type_of% @underlying107:=underlying107
theorem jw:type_of% @underlying123:=underlying123
theorem HG:type_of% @underlying138:=underlying138
theorem oY:type_of% @underlying142:=underlying142
theorem oZ:type_of% @underlying152:=underlying152
theorem wm:type_of% @underlying154:=underlying154
theorem nL:type_of% @underlying156:=underlying156
theorem eT:type_of% @underlying164:=underlying164
theorem wq:type_of% @underlying166:=underlying166
theorem kY:type_of% @underlying168:=underlying168
theorem qp:type_of% @underlying192:=underlying192
theorem jL:type_of% @underlying214:=underlying214
theorem CL:type_of% @underlying220:=underlying220
theorem ue:type_of% @underlying227:=underlying227
theorem HH:type_of% @underlying234:=underlying234
theorem CM:type_of% @underlying274:=underlying274
theorem A8:type_of% @underlying277:=underlying277
theorem CN:type_of% @underlying286:=underlying286
theorem wu:type_of% @underlying319:=underlying319
theorem CO:type_of% @underlying334:=underlying334
end Go.Proofs
namespace Go.J
open Go
class UT (P:Program)(t:TypeId)(d:outParam TypeDesc):Prop where h:P.underlying t=some d
class oy (P:Program)(t:TypeId)(m:outParam Nat):Prop where h:(P.info? t).map (·.size)=some m
class fX (P:Program)(s i:Nat)(o:outParam Nat):Prop where h:bE P s i=some o
class pX (P:Program)(t:TypeId)(Z:outParam (Array Value)):Prop where h:(P.info? t).bind (λi=>i.zero.map Value.cells)=some Z
class ox (v:Value):Prop where h:v.oneCell'=true
instance ox.sub (u:aY):ox u.1:=⟨u.2⟩
instance ox.int (k:IntKind)(i:Int):ox (.int k i):=⟨rfl⟩
instance ox.bool (b:Bool):ox (.bool b):=⟨rfl⟩
instance ox.str (s:ByteArray):ox (.string s):=⟨rfl⟩
instance ox.sv (s:ab):ox (sv s):=⟨rfl⟩
instance ox.sl (a:Option Addr)(m c:Nat):ox (.slice a m c):=⟨rfl⟩
instance ox.ptr (a:Option Addr):ox (.pointer a):=⟨rfl⟩
instance ox.map (a:Option Nat):ox (.map a):=⟨rfl⟩
instance ox.fn (f:Fn)(a c:Array Value):ox (.func f a c):=⟨rfl⟩
class MI (L:List Value):Prop where h:L.all (·.oneCell')=true
instance MI.nil:MI []:=⟨rfl⟩
instance MI.cons (v:Value)(L:List Value)[a:ox v][b:MI L]:MI (v::L):=⟨by rw[List.all_cons,a.h,b.h];rfl⟩
section
variable {P:Program}{n:Nat}{F F0:Fr}{A:World→Prop}{c:Ctx}{H R:List ai}{ty:TypeId}{x y:Operand}{v:Value}{Q:Exit→Act→World→Prop}{ops:Array Oper}{rest:List Oper}{d:Nat}{pos:String}{after:Array Edge}{op:Op}{t u e s:TypeId}{i j:Int}{k:IntKind}
variable {b off:Nat}{L:List Value}{fr:Nat×Nat}{dd:TypeDesc}{α:Type}{Rr:Rp α}{xs:List α}
theorem Ev.g0 [d:BE b H (.cells L.toArray e fr)][ut:UT P t dd](hx:aX F x (.pointer (some ⟨b,off,none⟩)))(a:(match dd with| .struct _| .array _ _=>False|_=>True):=by exact True.intro)(hu:L[off]?=some v:=by rfl):Ev P n F (Mm c H) (.load t x) ty v:=Ev.gh hx ut.h (by cases dd<;>exact a) hu
theorem Ev.gA [d:BE b H (.cells L.toArray e fr)][ut:UT P t dd]{m:Nat}[sz:oy P t m](hx:aX F x (tW b))(a:(match dd with| .struct _| .array _ _=>True|_=>False):=by exact True.intro)(hm:m=L.length:=by rfl):Ev P n F (Mm c H) (.load t x) ty (.agg L.toArray):=Ev.ZD hx ut.h (by cases dd<;>exact a) (by rw[sz.h,hm])
theorem Ev.gF {o q:Nat}[a:fX P s q o](hx:aX F x (.pointer (some ⟨b,off,none⟩))):Ev P n F A (.fieldAddr s x q) ty (.pointer (some ⟨b,off+o,none⟩)):=Ev.Yg hx a.h
theorem Ev.gF0 {o q:Nat}[a:fX P s q o](hx:aX F x (tW b)):Ev P n F A (.fieldAddr s x q) ty (.pointer (some ⟨b,o,none⟩)):=Ev.cB hx a.h
theorem Ev.gE {o q m:Nat}[hd:sP v H α Rr xs][a:fX P s q o](hx:aX F x (gx v Rr.size m off))(hk:m<xs.length:=by omega):Ev P n F (Mm c H) (.fieldAddr s x q) ty (gx v Rr.size m (off+o)):=Ev.FV hx hk a.h
theorem Ev.gR {o q m k sz:Nat}{cs:List Value}[b:tJ v H e sz m cs][a:fX P s q o](hx:aX F x (gx v sz k off))(hk:k<m:=by omega):Ev P n F (Mm c H) (.fieldAddr s x q) ty (gx v sz k (off+o)):=Ev.Yh hx hk a.h
theorem Ev.gL [hd:sP v H α Rr xs][ut:UT P t (.slice e)](hx:aX F x v):Ev P n F (Mm c H) (.call {callee:= .builtin .len,args:= #[x],argTypes:= #[t]}) ty (iv xs.length):=Ev.eu hx ut.h
theorem Ev.gM {sz m:Nat}{cs:List Value}[a:tJ v H e sz m cs][ut:UT P t (.slice s)](hx:aX F x v):Ev P n F (Mm c H) (.call {callee:= .builtin .len,args:= #[x],argTypes:= #[t]}) ty (iv m):=Ev.ZI hx ut.h
theorem Ev.gS {s:ab}[ut:UT P t .string](hx:aX F x (sv s)):Ev P n F A (.call {callee:= .builtin .len,args:= #[x],argTypes:= #[t]}) ty (iv s.length):=Ev.QI hx ut.h
theorem Ev.g1 {m:Nat}{z:α}[hd:sP v H α Rr xs][ut:UT P t dd]{u:Value}(hx:aX F x (gx v Rr.size m off))(hk:xs[m]?=some z:=by assumption)(a:(match dd with| .struct _| .array _ _=>False|_=>True):=by exact True.intro)(hu:(Rr.cells z)[off]?=some u:=by rfl):Ev P n F (Mm c H) (.load t x) ty u:=Ev.ld1 hx hk ut.h (by cases dd<;>exact a) hu
theorem Ev.gI {m:Nat}{kd:IntKind}[hd:sP v H α Rr xs][ut:UT P t (.slice e)]{z:Nat}[sz:oy P e z](hx:aX F x v)(hy:aX F y (.int kd (m:Nat)))(hz:z=Rr.size:=by rfl)(hk:m<xs.length:=by omega):Ev P n F (Mm c H) (.indexAddr t x y) ty (gx v Rr.size m 0):=Ev.cM hx hy ut.h (by rw[sz.h,hz]) rfl hk
theorem Ev.gJ {m q sz:Nat}{kd:IntKind}{cs:List Value}[b:tJ v H s sz m cs][ut:UT P t (.slice e)]{z:Nat}[a:oy P e z](hx:aX F x v)(hy:aX F y (.int kd (q:Nat)))(hz:z=sz:=by rfl)(he:s=e:=by rfl)(hk:q<m:=by omega):Ev P n F (Mm c H) (.indexAddr t x y) ty (gx v sz q 0):=by
 subst he;exact Ev.cw hx hy ut.h (by rw[a.h,hz]) rfl hk
theorem Ev.gC {u:Value}[d:rp b H u][ut:UT P t dd](hx:aX F x (tW b))(a:(match dd with| .struct _| .array _ _=>False|_=>True):=by exact True.intro):Ev P n F (Mm c H) (.load t x) ty u:=Ev.aeO hx ut.h (by cases dd<;>exact a)
theorem Ev.iM (h:Ev P n F A (.move x) ty v):Ev P n F A (.move x) ty v:=h
theorem Ev.iA (h:Ev P n F A (.assign x) ty v):Ev P n F A (.assign x) ty v:=h
theorem Ev.iF {q:Nat}(h:Ev P n F A (.fieldAddr s x q) ty v):Ev P n F A (.fieldAddr s x q) ty v:=h
theorem Ev.iL (h:Ev P n F A (.load t x) ty v):Ev P n F A (.load t x) ty v:=h
theorem Ev.iB {o:BinOp}(h:Ev P n F A (.binOp o t x y u) ty v):Ev P n F A (.binOp o t x y u) ty v:=h
theorem Ev.iC {a:Builtin}{b:Array Operand}{c:Array TypeId}(h:Ev P n F A (.call {callee:= .builtin a,args:=b,argTypes:=c}) ty v):Ev P n F A (.call {callee:= .builtin a,args:=b,argTypes:=c}) ty v:=h
theorem Ev.iI (h:Ev P n F A (.indexAddr t x y) ty v):Ev P n F A (.indexAddr t x y) ty v:=h
theorem Ev.go (h:Ev P n F A op ty v:=by
 first
 |with_reducible apply Ev.iM
  exact Ev.move (.mk rfl)
 |with_reducible apply Ev.iA
  exact Ev.assign (.mk rfl)
 |with_reducible apply Ev.iF
  first
  |exact Ev.gF0 (.mk rfl)
  |exact Ev.gE (.mk rfl)
  |exact Ev.gF (.mk rfl)
  |exact Ev.gR (.mk rfl)
 |with_reducible apply Ev.iL
  first
  |exact Ev.g0 (.mk rfl)
  |exact Ev.gA (.mk rfl)
  |exact Ev.g1 (.mk rfl)
  |exact Ev.gC (.mk rfl)
 |with_reducible apply Ev.iB
  first
  |exact Ev.lt0
  |exact Ev.a0
  |exact Ev.eq0
  |exact Ev.ne0
  |exact Ev.gt0
  |exact Ev.ge0
  |exact Ev.le0
  |exact Ev.s0
  |exact Ev.Gy (.mk rfl) (.mk rfl)
  |exact Ev.Xc (.mk rfl) (.mk rfl)
 |with_reducible apply Ev.iC
  first
  |exact Ev.gL (.mk rfl)
  |exact Ev.gM (.mk rfl)
  |exact Ev.gS (.mk rfl)
 |with_reducible apply Ev.iI
  first
  |exact Ev.gI (.mk rfl) (.mk rfl)
  |exact Ev.gJ (.mk rfl) (.mk rfl)
 |exact Ev.extract (.mk rfl) rfl
 |exact Ev.not (.mk rfl)
 |exact Ev.o0
 |exact Ev.n0
 |exact Ev.ajA (.mk rfl)):Ev P n F A op ty v:=h
theorem St.oo {b m:Nat}{L L':List Value}[d:mn b H (.cells L.toArray t (0,0)) R][sz:oy P e m](hx:aX F x (tW b))(hy:aX F y (.agg L'.toArray))[o:MI L'](h:St n F (Mm c (aU b (.cells L'.toArray t (0,0))::R)) (wpList P ops Q rest))
 (hm:m=L'.length:=by rfl) (a:L.length=L'.length:=by first|simp only[List.length_cons,List.length_nil]|rfl):
 St n F (Mm c H) (wpList P ops Q ({dst:=none,op:= .store e x y,type:=ty,pos:=pos,after:=after,guard:=none}::rest)):=St.Rm hx hy (by rw[sz.h,hm]) a o.h h
theorem St.al {Z:Array Value}[a:pX P t Z](h:∀b,St n ((d,tW b)::F) (Mm c (aU b (.cells Z t (0,0))::H)) (wpList P ops Q rest))(hd:Nat.ble (d+1) n=true:=by rfl):
 St n F (Mm c H) (wpList P ops Q ({dst:=some d,op:= .alloc t,type:=ty,pos:=pos,after:=after,guard:=none}::rest)):=St.alloc a.h hd h
theorem F1 {p q:Prop}(h:p→q:=by
 first
 |with_reducible exact St.nil
 |with_reducible exact St.nJ
 |with_reducible exact St.seq
 |with_reducible exact St.rg
 |with_reducible exact St.block
 |with_reducible exact St.skip
 |with_reducible exact St.Mr
 |with_reducible exact St.afS
 |with_reducible exact St.SB
 |with_reducible exact St.Z8
 |with_reducible exact St.exit
 |with_reducible exact St.Nb
 |with_reducible exact St.Z7
 |with_reducible exact Sq.nil
 |with_reducible exact Sq.tail
 |exact λh=>St.ee Ev.go h
 |exact λh=>Sq.ee Ev.go h
 |exact λh=>St.oo (.mk rfl) (.mk rfl) h
 |exact St.V2 rfl):p→q:=h
theorem go {p q:Prop}(hp:p)(h:p→q:=by exact F1):q:=h hp
theorem F2 {p q r:Prop}(b:q→r:=by exact F1)(a:p→q:=by exact F1):p→r:=λh=>b (a h)
theorem F3 {p q r:Prop}(b:q→r:=by exact F1)(a:p→q:=by exact F2):p→r:=λh=>b (a h)
theorem F4 {p q r:Prop}(b:q→r:=by exact F2)(a:p→q:=by exact F2):p→r:=λh=>b (a h)
theorem F5 {p q r:Prop}(b:q→r:=by exact F2)(a:p→q:=by exact F3):p→r:=λh=>b (a h)
theorem F6 {p q r:Prop}(b:q→r:=by exact F3)(a:p→q:=by exact F3):p→r:=λh=>b (a h)
theorem F7 {p q r:Prop}(b:q→r:=by exact F3)(a:p→q:=by exact F4):p→r:=λh=>b (a h)
theorem F8 {p q r:Prop}(b:q→r:=by exact F4)(a:p→q:=by exact F4):p→r:=λh=>b (a h)
theorem F9 {p q r:Prop}(b:q→r:=by exact F4)(a:p→q:=by exact F5):p→r:=λh=>b (a h)
theorem F10 {p q r:Prop}(b:q→r:=by exact F5)(a:p→q:=by exact F5):p→r:=λh=>b (a h)
theorem F11 {p q r:Prop}(b:q→r:=by exact F5)(a:p→q:=by exact F6):p→r:=λh=>b (a h)
theorem F12 {p q r:Prop}(b:q→r:=by exact F6)(a:p→q:=by exact F6):p→r:=λh=>b (a h)
theorem F13 {p q r:Prop}(b:q→r:=by exact F6)(a:p→q:=by exact F7):p→r:=λh=>b (a h)
theorem F14 {p q r:Prop}(b:q→r:=by exact F7)(a:p→q:=by exact F7):p→r:=λh=>b (a h)
theorem F15 {p q r:Prop}(b:q→r:=by exact F7)(a:p→q:=by exact F8):p→r:=λh=>b (a h)
theorem F16 {p q r:Prop}(b:q→r:=by exact F8)(a:p→q:=by exact F8):p→r:=λh=>b (a h)
theorem F17 {p q r:Prop}(b:q→r:=by exact F8)(a:p→q:=by exact F9):p→r:=λh=>b (a h)
theorem F18 {p q r:Prop}(b:q→r:=by exact F9)(a:p→q:=by exact F9):p→r:=λh=>b (a h)
theorem F19 {p q r:Prop}(b:q→r:=by exact F9)(a:p→q:=by exact F10):p→r:=λh=>b (a h)
theorem F20 {p q r:Prop}(b:q→r:=by exact F10)(a:p→q:=by exact F10):p→r:=λh=>b (a h)
theorem F21 {p q r:Prop}(b:q→r:=by exact F10)(a:p→q:=by exact F11):p→r:=λh=>b (a h)
theorem F22 {p q r:Prop}(b:q→r:=by exact F11)(a:p→q:=by exact F11):p→r:=λh=>b (a h)
theorem F23 {p q r:Prop}(b:q→r:=by exact F11)(a:p→q:=by exact F12):p→r:=λh=>b (a h)
theorem F24 {p q r:Prop}(b:q→r:=by exact F12)(a:p→q:=by exact F12):p→r:=λh=>b (a h)
theorem F25 {p q r:Prop}(b:q→r:=by exact F12)(a:p→q:=by exact F13):p→r:=λh=>b (a h)
theorem F26 {p q r:Prop}(b:q→r:=by exact F13)(a:p→q:=by exact F13):p→r:=λh=>b (a h)
theorem F27 {p q r:Prop}(b:q→r:=by exact F13)(a:p→q:=by exact F14):p→r:=λh=>b (a h)
theorem F28 {p q r:Prop}(b:q→r:=by exact F14)(a:p→q:=by exact F14):p→r:=λh=>b (a h)
theorem F29 {p q r:Prop}(b:q→r:=by exact F14)(a:p→q:=by exact F15):p→r:=λh=>b (a h)
theorem F30 {p q r:Prop}(b:q→r:=by exact F15)(a:p→q:=by exact F15):p→r:=λh=>b (a h)
theorem g2 {p q:Prop}(hp:p)(h:p→q:=by exact F2):q:=h hp
theorem g3 {p q:Prop}(hp:p)(h:p→q:=by exact F3):q:=h hp
theorem g4 {p q:Prop}(hp:p)(h:p→q:=by exact F4):q:=h hp
theorem g5 {p q:Prop}(hp:p)(h:p→q:=by exact F5):q:=h hp
theorem g6 {p q:Prop}(hp:p)(h:p→q:=by exact F6):q:=h hp
theorem g7 {p q:Prop}(hp:p)(h:p→q:=by exact F7):q:=h hp
theorem g8 {p q:Prop}(hp:p)(h:p→q:=by exact F8):q:=h hp
theorem g9 {p q:Prop}(hp:p)(h:p→q:=by exact F9):q:=h hp
theorem g10 {p q:Prop}(hp:p)(h:p→q:=by exact F10):q:=h hp
theorem g11 {p q:Prop}(hp:p)(h:p→q:=by exact F11):q:=h hp
theorem g12 {p q:Prop}(hp:p)(h:p→q:=by exact F12):q:=h hp
theorem g13 {p q:Prop}(hp:p)(h:p→q:=by exact F13):q:=h hp
theorem g14 {p q:Prop}(hp:p)(h:p→q:=by exact F14):q:=h hp
theorem g15 {p q:Prop}(hp:p)(h:p→q:=by exact F15):q:=h hp
theorem g16 {p q:Prop}(hp:p)(h:p→q:=by exact F16):q:=h hp
theorem g17 {p q:Prop}(hp:p)(h:p→q:=by exact F17):q:=h hp
theorem g18 {p q:Prop}(hp:p)(h:p→q:=by exact F18):q:=h hp
theorem g19 {p q:Prop}(hp:p)(h:p→q:=by exact F19):q:=h hp
theorem g20 {p q:Prop}(hp:p)(h:p→q:=by exact F20):q:=h hp
theorem g21 {p q:Prop}(hp:p)(h:p→q:=by exact F21):q:=h hp
theorem g22 {p q:Prop}(hp:p)(h:p→q:=by exact F22):q:=h hp
theorem g23 {p q:Prop}(hp:p)(h:p→q:=by exact F23):q:=h hp
theorem g24 {p q:Prop}(hp:p)(h:p→q:=by exact F24):q:=h hp
theorem g25 {p q:Prop}(hp:p)(h:p→q:=by exact F25):q:=h hp
theorem g26 {p q:Prop}(hp:p)(h:p→q:=by exact F26):q:=h hp
theorem g27 {p q:Prop}(hp:p)(h:p→q:=by exact F27):q:=h hp
theorem g28 {p q:Prop}(hp:p)(h:p→q:=by exact F28):q:=h hp
theorem g29 {p q:Prop}(hp:p)(h:p→q:=by exact F29):q:=h hp
theorem g30 {p q:Prop}(hp:p)(h:p→q:=by exact F30):q:=h hp
theorem bC.ay {F:Fr}{x0:Operand}{v0:Value}(a:vl F x0=some v0):bC F [x0] [v0]:= .cons (.mk a) .nil
theorem bC.ah {F:Fr}{x0 a:Operand}{v0 v1:Value}(b:vl F x0=some v0)(h1:vl F a=some v1):bC F [x0,a] [v0,v1]:= .cons (.mk b) (.cons (.mk h1) .nil)
theorem bC.fk {F:Fr}{x0 a b:Operand}{v0 v1 v2:Value}(c:vl F x0=some v0)(h1:vl F a=some v1)(d:vl F b=some v2):bC F [x0,a,b] [v0,v1,v2]:= .cons (.mk c) (.cons (.mk h1) (.cons (.mk d) .nil))
theorem bC.pL {F:Fr}{x0 a b x3:Operand}{v0 v1 v2 v3:Value}(c:vl F x0=some v0)(h1:vl F a=some v1)(d:vl F b=some v2)(e:vl F x3=some v3):bC F [x0,a,b,x3] [v0,v1,v2,v3]:= .cons (.mk c) (.cons (.mk h1) (.cons (.mk d) (.cons (.mk e) .nil)))
theorem bC.ae9 {F:Fr}{x0 a b x3 c:Operand}{v0 v1 v2 v3 v4:Value}(d:vl F x0=some v0)(h1:vl F a=some v1)(e:vl F b=some v2)(f:vl F x3=some v3)(g:vl F c=some v4):bC F [x0,a,b,x3,c] [v0,v1,v2,v3,v4]:= .cons (.mk d) (.cons (.mk h1) (.cons (.mk e) (.cons (.mk f) (.cons (.mk g) .nil))))
theorem bC.alP {F:Fr}{x0 a b x3 c d:Operand}{v0 v1 v2 v3 v4 v5:Value}(e:vl F x0=some v0)(h1:vl F a=some v1)(f:vl F b=some v2)(g:vl F x3=some v3)(h:vl F c=some v4)(i:vl F d=some v5):bC F [x0,a,b,x3,c,d] [v0,v1,v2,v3,v4,v5]:= .cons (.mk e) (.cons (.mk h1) (.cons (.mk f) (.cons (.mk g) (.cons (.mk h) (.cons (.mk i) .nil)))))
theorem bC.afA {F:Fr}{x0 a b x3 c d e:Operand}{v0 v1 v2 v3 v4 v5 v6:Value}(f:vl F x0=some v0)(h1:vl F a=some v1)(g:vl F b=some v2)(h:vl F x3=some v3)(i:vl F c=some v4)(j:vl F d=some v5)(k:vl F e=some v6):bC F [x0,a,b,x3,c,d,e] [v0,v1,v2,v3,v4,v5,v6]:= .cons (.mk f) (.cons (.mk h1) (.cons (.mk g) (.cons (.mk h) (.cons (.mk i) (.cons (.mk j) (.cons (.mk k) .nil))))))
theorem bC.alQ {F:Fr}{x0 a b x3 c d e f:Operand}{v0 v1 v2 v3 v4 v5 v6 g:Value}(h:vl F x0=some v0)(h1:vl F a=some v1)(i:vl F b=some v2)(j:vl F x3=some v3)(k:vl F c=some v4)(l:vl F d=some v5)(m:vl F e=some v6)(n:vl F f=some g):bC F [x0,a,b,x3,c,d,e,f] [v0,v1,v2,v3,v4,v5,v6,g]:= .cons (.mk h) (.cons (.mk h1) (.cons (.mk i) (.cons (.mk j) (.cons (.mk k) (.cons (.mk l) (.cons (.mk m) (.cons (.mk n) .nil)))))))
theorem St.rV {fn:Func}{post:Value→List ai→Prop}{a:List ResultVar}(vs:List Value)(H':List ai)(hp:post (GZ vs) H')(b:fn.results=a.toArray:=by rfl)(d:TZ P F H a vs:=by
 repeat(first
 |exact trivial
 |refine⟨rfl,?_⟩
 |refine⟨⟨_,_,_,_,rfl,BE.mem,.inl ⟨⟨_,UT.h⟩,oy.h,rfl⟩⟩,?_⟩
 |refine⟨⟨_,_,_,_,rfl,BE.mem,.inr ⟨by rw[UT.h];trivial,rfl⟩⟩,?_⟩)) (hH:∀w,Mm c H w→Mm c H' w:=by exact λ_ hw=>hw.sub):
 St n F (Mm c H) (bodyPost P fn (λe w'=>∃v H',e= .returned v∧post v H'∧Mm c H' w') .ret):=St.JX vs H' b d hp hH
end
section
variable {P:Program}{ops:Array Oper}{Q:Exit→Act→World→Prop}{n:Nat}{F:Fr}{c:Ctx}{H Fp r r' C':List ai}{f:Nat}{listed:Array Bool}{d:Nat}{op:Op}{ty:TypeId}{pos:String}{after:Array Edge}{v:Value}
theorem SW.gd (i:Nat)(h:SW P ops Q n ((d,v)::F) c Fp r f (listed.setIfInBounds i true))(a:((Region.ready .any ops listed).contains i&&Region.free .any ops listed i)=true:=by decide+kernel)(b:ops[i]?=some {dst:=some d,op:=op,type:=ty,pos:=pos,after:=after,guard:=none}:=by rfl)(e:∀R,Ev P n F (Mm c (Fp++R)) op ty v:=by exact λ_=>Ev.go)
 (g:NP Q:=by assumption) (j:Region.noSelect ops=true:=by assumption) (hd:Nat.ble (d+1) n=true:=by rfl):SW P ops Q n F c Fp r (f+1) listed:=SW.defer i g j b e a hd h
theorem SW.me (h:SW P ops Q n F c Fp r f listed):SW P ops Q n F c Fp r f listed:=h
theorem SW.ck (i:Nat)(h:SW P ops Q n F c Fp r f listed)(a:((Region.ready .any ops listed).contains i&&Region.free .any ops listed i)=true:=by decide+kernel):SW P ops Q n F c Fp r f listed:=h
theorem SW.dn [ap:App Fp r C'](h:St n F (Mm c C') (Q .normal))(a:Region.ready .any ops listed=[]:=by decide+kernel):SW P ops Q n F c Fp r f listed:=SW.done a h
theorem SW.t1 (i:Nat){o:Oper}[ap:App Fp r C'](h:St n F (Mm c C') (wpList P ops (Exit.then (KW P ops Q n c Fp f (listed.setIfInBounds i true)) Q) [o]))(a:Region.ready .any ops listed=[i]:=by decide+kernel)(b:ops[i]?=some o:=by rfl):SW P ops Q n F c Fp r (f+1) listed:=SW.agB a b h
theorem SW.t2 (i j:Nat){o o':Oper}[ap:App Fp r C'](h:St n F (Mm c C') (wpList P ops (Exit.then (KW P ops Q n c Fp f (listed.setIfInBounds i true)) Q) [o]))(b:St n F (Mm c C') (wpList P ops (Exit.then (KW P ops Q n c Fp f (listed.setIfInBounds j true)) Q) [o']))
 (d:Region.ready .any ops listed=[i,j]:=by decide+kernel) (e:ops[i]?=some o:=by rfl) (a:ops[j]?=some o':=by rfl):SW P ops Q n F c Fp r (f+1) listed:=SW.agC d e a h b
end
end Go.J
namespace Go.Proofs
open J Tryz
instance:type_of%(UT.mk A6):=⟨A6⟩
instance:type_of%(UT.mk oX):=⟨oX⟩
instance:type_of%(UT.mk underlying109):=⟨underlying109⟩
instance:type_of%(UT.mk HG):=⟨HG⟩
instance:type_of%(UT.mk oY):=⟨oY⟩
instance:type_of%(UT.mk underlying144):=⟨underlying144⟩
instance:type_of%(UT.mk oZ):=⟨oZ⟩
instance:type_of%(UT.mk wm):=⟨wm⟩
instance:type_of%(UT.mk nL):=⟨nL⟩
instance:type_of%(UT.mk underlying161):=⟨underlying161⟩
instance:type_of%(UT.mk eT):=⟨eT⟩
instance:type_of%(UT.mk wq):=⟨wq⟩
instance:type_of%(UT.mk kY):=⟨kY⟩
instance:type_of%(UT.mk underlying170):=⟨underlying170⟩
instance:type_of%(UT.mk underlying176):=⟨underlying176⟩
instance:type_of%(UT.mk underlying202):=⟨underlying202⟩
instance:type_of%(UT.mk underlying212):=⟨underlying212⟩
instance:type_of%(UT.mk underlying213):=⟨underlying213⟩
instance:type_of%(UT.mk jL):=⟨jL⟩
instance:type_of%(UT.mk underlying215):=⟨underlying215⟩
instance:type_of%(UT.mk underlying217):=⟨underlying217⟩
instance:type_of%(UT.mk A7):=⟨A7⟩
instance:type_of%(UT.mk CL):=⟨CL⟩
instance:type_of%(UT.mk underlying226):=⟨underlying226⟩
instance:type_of%(UT.mk ue):=⟨ue⟩
instance:type_of%(UT.mk K1):=⟨K1⟩
instance:type_of%(UT.mk HH):=⟨HH⟩
instance:type_of%(UT.mk underlying25):=⟨underlying25⟩
instance:type_of%(UT.mk B7):=⟨B7⟩
instance:type_of%(UT.mk underlying264):=⟨underlying264⟩
instance:type_of%(UT.mk underlying267):=⟨underlying267⟩
instance:type_of%(UT.mk B8):=⟨B8⟩
instance:type_of%(UT.mk CM):=⟨CM⟩
instance:type_of%(UT.mk A8):=⟨A8⟩
instance:type_of%(UT.mk qC):=⟨qC⟩
instance:type_of%(UT.mk underlying282):=⟨underlying282⟩
instance:type_of%(UT.mk CN):=⟨CN⟩
instance:type_of%(UT.mk eK):=⟨eK⟩
instance:type_of%(UT.mk mh):=⟨mh⟩
instance:type_of%(UT.mk underlying310):=⟨underlying310⟩
instance:type_of%(UT.mk wu):=⟨wu⟩
instance:type_of%(UT.mk aaE):=⟨aaE⟩
instance:type_of%(UT.mk ug):=⟨ug⟩
instance:type_of%(UT.mk kZ):=⟨kZ⟩
instance:type_of%(UT.mk cP):=⟨cP⟩
instance:type_of%(UT.mk Ng):=⟨Ng⟩
instance:type_of%(UT.mk K3):=⟨K3⟩
instance:type_of%(UT.mk A9):=⟨A9⟩
instance:type_of%(UT.mk K4):=⟨K4⟩
instance:type_of%(UT.mk HJ):=⟨HJ⟩
instance:type_of%(UT.mk underlying63):=⟨underlying63⟩
instance:type_of%(UT.mk B9):=⟨B9⟩
instance:type_of%(UT.mk HK):=⟨HK⟩
instance:type_of%(UT.mk underlying76):=⟨underlying76⟩
instance:type_of%(UT.mk underlying78):=⟨underlying78⟩
instance:type_of%(UT.mk underlying82):=⟨underlying82⟩
instance:type_of%(UT.mk mi):=⟨mi⟩
instance:type_of%(UT.mk re):=⟨re⟩
instance:type_of%(UT.mk oc):=⟨oc⟩
instance:type_of%(UT.mk rf):=⟨rf⟩
instance:type_of%(UT.mk BA):=⟨BA⟩
instance:type_of%(UT.mk EH):=⟨EH⟩
end Go.Proofs
namespace Go.Proofs.YtiefglecbgdaiaaGreatDoor
open Go Go.J Tryz
theorem WJ:(prog.info? 86).bind (λi=>i.zero.map Value.cells)=some #[.string ⟨#[]⟩,.slice none 0 0]:=by kernel_rfl
instance:type_of%(pX.mk WJ):=⟨WJ⟩
theorem afP (w:World):cg prog 86 w= .ok #[(0,1),(1,1)] w:=by kernel_rfl
theorem mQ:(prog.info? 86).map (·.size)=some 2:=by kernel_rfl
instance:type_of%(oy.mk mQ):=⟨mQ⟩
theorem aaW:(prog.info? 86).bind (·.zero)=some (Value.agg #[.string ⟨#[]⟩,.slice none 0 0]):=by kernel_rfl
theorem rY:(prog.info? 95).map (·.size)=some 6:=by kernel_rfl
instance:type_of%(oy.mk rY):=⟨rY⟩
theorem WH:(prog.info? 30).bind (λi=>i.zero.map Value.cells)=some #[.slice none 0 0]:=by kernel_rfl
instance:type_of%(pX.mk WH):=⟨WH⟩
theorem jm:(prog.info? 35).map (·.size)=some 1:=by kernel_rfl
theorem eL:(prog.info? 3).map (·.size)=some 1:=by kernel_rfl
instance:type_of%(oy.mk eL):=⟨eL⟩
theorem afG (w:World):cg prog 166 w= .ok #[(0,1),(1,1)] w:=by kernel_rfl
theorem Sp:(prog.info? 166).bind (λi=>i.zero.map Value.cells)=some #[.int .i64 0,.slice none 0 0]:=by kernel_rfl
instance:type_of%(pX.mk Sp):=⟨Sp⟩
theorem jb:(prog.info? 166).map (·.size)=some 2:=by kernel_rfl
instance:type_of%(oy.mk jb):=⟨jb⟩
theorem th:bE prog 166 1=some 1:=by kernel_rfl
instance:type_of%(fX.mk th):=⟨th⟩
theorem afH (w:World):cg prog 168 w= .ok #[(0,1),(1,1)] w:=by kernel_rfl
theorem Sr:(prog.info? 168).bind (λi=>i.zero.map Value.cells)=some #[.int .i64 0,.int .i64 0]:=by kernel_rfl
instance:type_of%(pX.mk Sr):=⟨Sr⟩
theorem da:(prog.info? 168).map (·.size)=some 2:=by kernel_rfl
instance:type_of%(oy.mk da):=⟨da⟩
theorem mW:(prog.info? 168).bind (·.zero)=some (Value.agg #[.int .i64 0,.int .i64 0]):=by kernel_rfl
theorem tV:(prog.info? 168).map (·.bytes)=some 16:=by kernel_rfl
theorem sI:(prog.info? 164).map (·.size)=some 1:=by kernel_rfl
instance:type_of%(oy.mk sI):=⟨sI⟩
theorem vK:bE prog 30 0=some 0:=by kernel_rfl
instance:type_of%(fX.mk vK):=⟨vK⟩
theorem T0:(prog.info? 166).bind (·.zero)=some (Value.agg #[.int .i64 0,.slice none 0 0]):=by kernel_rfl
theorem WX:(prog.info? 166).map (·.bytes)=some 32:=by kernel_rfl
theorem ajO:(prog.info? 28).map (·.size)=some 1:=by kernel_rfl
theorem jk:(prog.info? 30).map (·.size)=some 1:=by kernel_rfl
instance:type_of%(oy.mk jk):=⟨jk⟩
instance:pX prog 25 #[.slice none 0 0,.slice none 0 0]:=⟨by kernel_rfl⟩
theorem CH:(prog.info? 9).map (·.size)=some 1:=by kernel_rfl
instance:type_of%(oy.mk CH):=⟨CH⟩
instance:pX prog 163 #[.string ⟨#[]⟩,.slice none 0 0]:=⟨by kernel_rfl⟩
theorem Ll:(prog.info? 163).map (·.size)=some 2:=by kernel_rfl
instance:type_of%(oy.mk Ll):=⟨Ll⟩
theorem jF:(prog.info? 3).bind (·.zero)=some (Value.int .i64 0):=by kernel_rfl
instance:fX prog 163 1 1:=⟨by kernel_rfl⟩
theorem vJ:bE prog 25 0=some 0:=by kernel_rfl
instance:type_of%(fX.mk vJ):=⟨vJ⟩
theorem DS:bE prog 25 1=some 1:=by kernel_rfl
instance:type_of%(fX.mk DS):=⟨DS⟩
theorem Zz:(prog.info? 25).map (·.size)=some 2:=by kernel_rfl
instance:type_of%(oy.mk Zz):=⟨Zz⟩
theorem DT:bE prog 32 2=some 3:=by kernel_rfl
instance:type_of%(fX.mk DT):=⟨DT⟩
theorem afC (w:World):cg prog 100 w= .ok #[(0,1),(1,1),(2,1),(3,6)] w:=by kernel_rfl
theorem Sl:(prog.info? 100).bind (λi=>i.zero.map Value.cells)=some #[.string ⟨#[]⟩,.slice none 0 0,.int .i64 0,.int .i64 0,.string ⟨#[]⟩,.int .i64 0,.string ⟨#[]⟩,.slice none 0 0,.slice none 0 0]:=by kernel_rfl
instance:type_of%(pX.mk Sl):=⟨Sl⟩
theorem nH:(prog.info? 100).map (·.size)=some 9:=by kernel_rfl
instance:type_of%(oy.mk nH):=⟨nH⟩
theorem Xk:(prog.info? 100).bind (·.zero)=some (Value.agg #[.string ⟨#[]⟩,.slice none 0 0,.int .i64 0,.int .i64 0,.string ⟨#[]⟩,.int .i64 0,.string ⟨#[]⟩,.slice none 0 0,.slice none 0 0]):=by kernel_rfl
theorem abI:(prog.info? 100).map (·.bytes)=some 144:=by kernel_rfl
theorem ajN:(prog.info? 27).map (·.size)=some 1:=by kernel_rfl
instance:pX prog 32 #[.slice none 0 0,.slice none 0 0,.slice none 0 0,.slice none 0 0,.slice none 0 0]:=⟨by kernel_rfl⟩
theorem Xp:(prog.info? 9).bind (·.zero)=some (Value.string ⟨#[]⟩):=by kernel_rfl
instance:pX prog 91 #[.string ⟨#[]⟩,.int .i64 0,.int .i64 0]:=⟨by kernel_rfl⟩
theorem S2:(prog.info? 91).map (·.size)=some 3:=by kernel_rfl
instance:type_of%(oy.mk S2):=⟨S2⟩
instance:fX prog 32 0 0:=⟨by kernel_rfl⟩
theorem aaV:(prog.info? 35).bind (·.zero)=some (Value.slice none 0 0):=by kernel_rfl
theorem ajH (w:World):cg prog 98 w= .ok #[(0,1),(1,1),(2,1),(3,1),(4,6)] w:=by kernel_rfl
theorem aaT:(prog.info? 98).bind (λi=>i.zero.map Value.cells)=some #[.string ⟨#[]⟩,.slice none 0 0,.int .i64 0,.int .i64 0,.int .i64 0,.string ⟨#[]⟩,.int .i64 0,.string ⟨#[]⟩,.slice none 0 0,.slice none 0 0]:=by kernel_rfl
instance:type_of%(pX.mk aaT):=⟨aaT⟩
theorem oW:(prog.info? 98).map (·.size)=some 10:=by kernel_rfl
instance:type_of%(oy.mk oW):=⟨oW⟩
theorem agK:(prog.info? 98).bind (·.zero)=some (Value.agg #[.string ⟨#[]⟩,.slice none 0 0,.int .i64 0,.int .i64 0,.int .i64 0,.string ⟨#[]⟩,.int .i64 0,.string ⟨#[]⟩,.slice none 0 0,.slice none 0 0]):=by kernel_rfl
theorem Ic:bE prog 32 1=some 2:=by kernel_rfl
instance:type_of%(fX.mk Ic):=⟨Ic⟩
theorem ajM:(prog.info? 26).map (·.size)=some 1:=by kernel_rfl
instance:fX prog 32 3 4:=⟨by kernel_rfl⟩
theorem Vy:(prog.info? 32).map (·.size)=some 5:=by kernel_rfl
instance:type_of%(oy.mk Vy):=⟨Vy⟩
theorem Sw:(prog.info? 39).bind (λi=>i.zero.map Value.cells)=some #[.int .i64 0,.int .i64 0]:=by kernel_rfl
instance:type_of%(pX.mk Sw):=⟨Sw⟩
theorem Zd (w:World):cg prog 39 w= .ok #[(0,1),(1,1)] w:=by kernel_rfl
instance:oy prog 39 2:=⟨by kernel_rfl⟩
theorem DX:bE prog 86 0=some 0:=by kernel_rfl
instance:type_of%(fX.mk DX):=⟨DX⟩
theorem pB:bE prog 86 1=some 1:=by kernel_rfl
instance:type_of%(fX.mk pB):=⟨pB⟩
theorem Wx:aG prog 201:=⟨_,func201,rfl,by kernel_rfl⟩
instance:pX prog 3 #[.int .i64 0]:=⟨by kernel_rfl⟩
instance:pX prog 310 #[.nilFunc]:=⟨by kernel_rfl⟩
theorem af7:(prog.info? 310).map (·.size)=some 1:=by kernel_rfl
theorem Wy:aG prog 202:=⟨_,func202,rfl,by kernel_rfl⟩
theorem rz:aG prog 160:=⟨_,func160,rfl,by kernel_rfl⟩
instance:fX prog 95 0 0:=⟨by kernel_rfl⟩
theorem yr:bE prog 95 2=some 2:=by kernel_rfl
instance:type_of%(fX.mk yr):=⟨yr⟩
theorem vL:bE prog 95 4=some 5:=by kernel_rfl
instance:type_of%(fX.mk vL):=⟨vL⟩
instance:fX prog 95 1 1:=⟨by kernel_rfl⟩
theorem MW:aG prog 66:=⟨_,func66,rfl,by kernel_rfl⟩
theorem DY:bE prog 95 3=some 3:=by kernel_rfl
instance:type_of%(fX.mk DY):=⟨DY⟩
theorem Wn:aG prog 161:=⟨_,func161,rfl,by kernel_rfl⟩
theorem Wo:aG prog 162:=⟨_,func162,rfl,by kernel_rfl⟩
theorem KV:aG prog 159:=⟨_,func159,rfl,by kernel_rfl⟩
instance:fX prog 39 0 0:=⟨by kernel_rfl⟩
theorem agU:(prog.info? 86).map (·.bytes)=some 40:=by kernel_rfl
theorem KX:aG prog 163:=⟨_,func163,rfl,by kernel_rfl⟩
instance:pX prog 267 #[.nilFunc]:=⟨by kernel_rfl⟩
theorem af5:(prog.info? 267).map (·.size)=some 1:=by kernel_rfl
theorem qR:aG prog 105:=⟨_,func105,rfl,by kernel_rfl⟩
instance:fX prog 163 0 0:=⟨by kernel_rfl⟩
theorem Sn:(prog.info? 154).bind (λi=>i.zero.map Value.cells)=some #[.slice none 0 0,.slice none 0 0]:=by kernel_rfl
instance:type_of%(pX.mk Sn):=⟨Sn⟩
theorem kW:(prog.info? 123).map (·.size)=some 1:=by kernel_rfl
instance:type_of%(oy.mk kW):=⟨kW⟩
theorem Xl:(prog.info? 123).bind (·.zero)=some (Value.int .u64 0):=by kernel_rfl
theorem WW:(prog.info? 123).map (·.bytes)=some 8:=by kernel_rfl
theorem afF (w:World):cg prog 154 w= .ok #[(0,1),(1,1)] w:=by kernel_rfl
theorem wg:(prog.info? 154).map (·.size)=some 2:=by kernel_rfl
instance:type_of%(oy.mk wg):=⟨wg⟩
instance:fX prog 154 0 0:=⟨by kernel_rfl⟩
instance:fX prog 154 1 1:=⟨by kernel_rfl⟩
theorem Wm:aG prog 158:=⟨_,func158,rfl,by kernel_rfl⟩
theorem abS:aG prog 106:=⟨_,func106,rfl,by kernel_rfl⟩
theorem YO:aG prog 65:=⟨_,func65,rfl,by kernel_rfl⟩
theorem Ow:aG prog 107:=⟨_,func107,rfl,by kernel_rfl⟩
instance:fX prog 91 0 0:=⟨by kernel_rfl⟩
theorem Ig:bE prog 91 1=some 1:=by kernel_rfl
instance:type_of%(fX.mk Ig):=⟨Ig⟩
theorem Ih:bE prog 91 2=some 2:=by kernel_rfl
theorem BO:aG prog 112:=⟨_,func112,rfl,by kernel_rfl⟩
theorem te:bE prog 166 0=some 0:=by kernel_rfl
instance:type_of%(fX.mk te):=⟨te⟩
theorem DP:bE prog 168 0=some 0:=by kernel_rfl
instance:type_of%(fX.mk DP):=⟨DP⟩
theorem ti:bE prog 168 1=some 1:=by kernel_rfl
instance:type_of%(fX.mk ti):=⟨ti⟩
theorem CG:(prog.info? 4).map (·.size)=some 1:=by kernel_rfl
instance:type_of%(oy.mk CG):=⟨CG⟩
theorem TM:(prog.info? 4).bind (·.zero)=some (Value.bool false):=by kernel_rfl
theorem by4:(prog.info? 4).map (·.bytes)=some 1:=by kernel_rfl
theorem vD:(prog.info? 3).map (·.bytes)=some 8:=by kernel_rfl
theorem acD:aG prog 164:=⟨_,func164,rfl,by kernel_rfl⟩
theorem abU:aG prog 110:=⟨_,func110,rfl,by kernel_rfl⟩
theorem Wd:aG prog 111:=⟨_,func111,rfl,by kernel_rfl⟩
theorem abV:aG prog 113:=⟨_,func113,rfl,by kernel_rfl⟩
theorem Wu:aG prog 187:=⟨_,func187,rfl,by kernel_rfl⟩
theorem mr:aG prog 122:=⟨_,func122,rfl,by kernel_rfl⟩
theorem Wf:aG prog 127:=⟨_,func127,rfl,by kernel_rfl⟩
theorem ab1:aG prog 126:=⟨_,func126,rfl,by kernel_rfl⟩
theorem Tw:aG prog 82:=⟨_,func82,rfl,by kernel_rfl⟩
theorem Ts {a:Value}(h1:a.oneCell'=true)(w:World):(Instr.build 86 #[(1,a)]).run prog w= .ok (.agg #[.string ⟨#[]⟩,a]) w:=
 bM WJ (afP w) (by simp[Instr.fill,J.bS,J.cells_one h1])
theorem D0 (w:World):(Instr.build 86 #[]).run prog w= .ok (.agg #[.string ⟨#[]⟩,.slice none 0 0]) w:=
 bM WJ (afP w) (by simp[Instr.fill,J.bS])
theorem IA {a b:Value}(c:a.oneCell'=true)(h1:b.oneCell'=true)(w:World):(Instr.build 154 #[(0,a),(1,b)]).run prog w= .ok (.agg #[a,b]) w:=
 bM Sn (afF w) (by simp[Instr.fill,J.bS,J.cells_one c,J.cells_one h1])
theorem Og {a:Value}(b:a.oneCell'=true)(w:World):(Instr.build 166 #[(0,a)]).run prog w= .ok (.agg #[a,.slice none 0 0]) w:=
 bM Sp (afG w) (by simp[Instr.fill,J.bS,J.cells_one b])
theorem sS {a b:Value}(c:a.oneCell'=true)(h1:b.oneCell'=true)(w:World):(Instr.build 168 #[(0,a),(1,b)]).run prog w= .ok (.agg #[a,b]) w:=
 bM Sr (afH w) (by simp[Instr.fill,J.bS,J.cells_one c,J.cells_one h1])
theorem Tp {a:Value}(b:a.oneCell'=true)(w:World):(Instr.build 39 #[(0,a)]).run prog w= .ok (.agg #[a,.int .i64 0]) w:=
 bM Sw (Zd w) (by simp[Instr.fill,J.bS,J.cells_one b])
theorem dJ {a b:Value}(c:a.oneCell'=true)(h1:b.oneCell'=true)(w:World):(Instr.build 39 #[(0,a),(1,b)]).run prog w= .ok (.agg #[a,b]) w:=
 bM Sw (Zd w) (by simp[Instr.fill,J.bS,J.cells_one c,J.cells_one h1])
theorem fC (w:World):(Instr.build 39 #[]).run prog w= .ok (.agg #[.int .i64 0,.int .i64 0]) w:=
 bM Sw (Zd w) (by simp[Instr.fill,J.bS])
theorem Vk (b:ab)(v:aY)(l:List fy):dw (.mk b v l)= .mk b (l.map dw):=by rw[dw,vm]
theorem S7 (k:Int)(s:ab)(i:Int)(t:fy)(v:aY)(l:List dg):dx (.mk k s i t v l)= .mk k s i (dw t) (l.map dx):=by rw[dx,sm]
theorem SK (r x:Int)(v:aY)(l:List bH):aM (.mk r x v l)= .mk r x (l.map aM):=by rw[aM,jE]
abbrev vq:fy:= .mk [] cF []
theorem SP {α:Type}{p:α→Prop}{x y:α}(hx:p x)(hy:p y):∀z∈[x,y],p z:=λz hz=>by
 simp only[List.mem_cons,List.not_mem_nil,or_false]at hz
 rcases hz with rfl|rfl
 ·exact hx
 ·exact hy
mutual
def szS:jQ→Nat
 | .mk _ l=>Vz l+1
def Vz:List jQ→Nat
 | []=>0
 |x::l=>szS x+Vz l
end
mutual
def szT:lN→Nat
 | .mk _ _ _ _ l=>W1 l+1
def W1:List lN→Nat
 | []=>0
 |x::l=>szT x+W1 l
end
theorem Vl (x:jQ)(d n:Nat):lL x d n=if 200<n+1∨40<d then(n+1,1)else if j7 x.base x.args.length=false then(n+1,5)else lA x.args (d+1) (n+1):=by cases x;rw[lL];rfl
def A3 (x:lN)(b:Nat):Int:=jd x.kind x.name x.index x.type x.args.length b
theorem aaB (x:lN)(d b n:Nat):lW x d b n=if 200<n+1∨40<d then(n+1,1,(n:Int))else if A3 x b≠0 then(n+1,A3 x b,(n:Int))else nk x.args (d+1) (if x.kind=3 then b+1 else b) (n+1):=by cases x;rw[lW];rfl
theorem SD:∀(x:lN) (d b n:Nat),(lW x d b n).2.1=0→(lW x d b n).2=(0,0):=by
 intro x;refine lN.rec (motive_1:=λx=>∀d b n,(lW x d b n).2.1=0→(lW x d b n).2=(0,0)) (motive_2:=λl=>∀d b n,(nk l d b n).2.1=0→(nk l d b n).2=(0,0)) ?_ ?_ ?_ x
 ·intro k s i t l c d b n h
  rw[lW]at h⊢
  split
  ·rename_i h1;rw[aB h1]at h;exact absurd h (by simp)
  ·rename_i h1
   rw[aA h1]at h
   split
   ·rename_i a;rw[aB a]at h;exact absurd h a
   ·rename_i a;rw[aA a]at h;exact c _ _ _ h
 ·intro d b n _;rfl
 ·intro x l f e d b n h
  rw[nk]at h⊢
  split
  ·rename_i h1;rw[aB h1]at h;exact absurd h h1
  ·rename_i h1;rw[aA h1]at h;exact e _ _ _ h
theorem SF:∀(x:lN) (d b n:Nat),(lW x d b n).2.1=0→(lW x d b n).1≤200∧(lW x d b n).1=n+szT x:=by
 intro x;refine lN.rec (motive_1:=λx=>∀d b n,(lW x d b n).2.1=0→(lW x d b n).1≤200∧(lW x d b n).1=n+szT x) (motive_2:=λl=>∀d b n,(nk l d b n).2.1=0→(n≤200→(nk l d b n).1≤200)∧(nk l d b n).1=n+W1 l) ?_ ?_ ?_ x
 ·intro k s i t l c d b n h
  rw[lW]at h⊢
  by_cases h1:200<n+1∨40<d
  ·rw[aB h1]at h;exact absurd h (by simp)
  rw[aA h1]at h⊢
  by_cases a:jd k s i t l.length b≠0
  ·rw[aB a]at h;exact absurd h a
  rw[aA a]at h⊢;obtain⟨e,f⟩:=c _ _ _ h;exact⟨e zE,by rw[f,szT];omega⟩
 ·intro d b n _;exact⟨λh=>h,rfl⟩
 ·intro x l g j d b n h
  rw[nk]at h⊢
  by_cases h1:(lW x d b n).2.1≠0
  ·rw[aB h1]at h;exact absurd h h1
  rw[aA h1]at h⊢;obtain⟨m,a2⟩:=g d b n (fK.1 h1);obtain⟨o,p⟩:=j _ _ _ h;exact⟨λ_=>o m,by rw[p,a2,W1];omega⟩
theorem aaC:∀(x:lN) (d b n:Nat),n≤200→(lW x d b n).1≤201:=by
 intro x;refine lN.rec (motive_1:=λx=>∀d b n,n≤200→(lW x d b n).1≤201) (motive_2:=λl=>∀d b n,n≤200→(nk l d b n).1≤201) ?_ ?_ ?_ x
 ·intro k s i t l a d b n f
  rw[lW]
  split
  ·show n+1≤201;omega
  ·split
   ·show n+1≤201;omega
   ·exact a _ _ _ zE
 ·intro d b n h;show n≤201;omega
 ·intro x l c e d b n h
  rw[nk]
  split
  ·exact c d b n h
  ·rename_i h1
   exact e _ _ _ (SF x d b n (fK.1 h1)).1
inductive Tb:lN→Nat→Nat→Prop
 |mk {x:lN} {d b:Nat} (hd:d≤40) (h:A3 x b=0) (k:∀y∈x.args,Tb y (d+1) (if x.kind=3 then b+1 else b)):Tb x d b
theorem SE:∀(x:lN) (d b n:Nat),(lW x d b n).2.1=0→Tb x d b:=by
 intro x;refine lN.rec (motive_1:=λx=>∀d b n,(lW x d b n).2.1=0→Tb x d b) (motive_2:=λl=>∀d b n,(nk l d b n).2.1=0→∀y∈l,Tb y d b) ?_ ?_ ?_ x
 ·intro k s i t l c d b n h
  rw[lW]at h
  by_cases h1:200<n+1∨40<d
  ·rw[aB h1]at h;exact absurd h (by simp)
  rw[aA h1]at h
  by_cases a:jd k s i t l.length b≠0
  ·rw[aB a]at h;exact absurd h a
  rw[aA a]at h;exact .mk zE (fK.1 a) (c _ _ _ h)
 ·intro d b n _ y hy;cases hy
 ·intro x l e f d b n h y hy
  rw[nk]at h
  by_cases h1:(lW x d b n).2.1≠0
  ·rw[aB h1]at h;exact absurd h h1
  rw[aA h1]at h
  rcases bT.1 hy with rfl|hy
  ·exact e _ _ _ (fK.1 h1)
  ·exact f _ _ _ h y hy
theorem Tb.inv {x:lN}{d b:Nat}(h:Tb x d b):d≤40∧A3 x b=0∧∀y∈x.args,Tb y (d+1) (if x.kind=3 then b+1 else b):=by
 cases h with
 |mk a b c=>exact⟨a,b,c⟩
theorem Nc {k:Int}{nm:ab}{ix:Int}{a:jQ}{m b:Nat}(h:jd k nm ix a m b=0):
 (k=1∧vn a=0∧m=0)∨(k=2∧0≤ix∧ix<b∧m=0)∨(k=3∧m=1∧vn a=0)∨(k=4∧m=2):=by
 unfold jd at h
 by_cases h1:k=1
 ·rw[aB h1]at h
  by_cases c:ix≠0∨m≠0
  ·rw[aB c]at h;cases h
  rw[aA c]at h
  by_cases c2:isName nm=false
  ·rw[aB c2]at h;cases h
  rw[aA c2]at h
  by_cases c3:vn a≠0
  ·rw[aB c3]at h;cases h
  exact .inl ⟨h1,fK.1 c3,by omega⟩
 rw[aA h1]at h
 by_cases d:k=2
 ·rw[aB d]at h
  by_cases c:nm≠ []∨pd a=false∨m≠0
  ·rw[aB c]at h;cases h
  rw[aA c]at h
  by_cases c2:ix<0∨(b:Int)≤ix
  ·rw[aB c2]at h;cases h
  exact .inr (.inl ⟨d,by omega,by omega,fK.1 λhm=>c (.inr (.inr hm))⟩)
 rw[aA d]at h
 by_cases e:k=3
 ·rw[aB e]at h
  by_cases c:nm≠ []∨ix≠0∨m≠1
  ·rw[aB c]at h;cases h
  rw[aA c]at h
  by_cases c3:vn a≠0
  ·rw[aB c3]at h;cases h
  exact .inr (.inr (.inl ⟨e,fK.1 λhm=>c (.inr (.inr hm)),fK.1 c3⟩))
 rw[aA e]at h
 by_cases f:k=4
 ·rw[aB f]at h
  by_cases c:nm≠ []∨ix≠0∨pd a=false∨m≠2
  ·rw[aB c]at h;cases h
  exact .inr (.inr (.inr ⟨f,fK.1 λhm=>c (.inr (.inr (.inr hm)))⟩))
 rw[aA f]at h;cases h
theorem W7 (x:lN)(c:List jQ):xV x c=if x.kind=1 then some x.type else if x.kind=2 then c[c.length-1-x.index.toNat]? else if x.kind=3 then(nK x.args (c++ [x.type])).map λb=> .mk [] [x.type,b]else I4 (nK x.args c) (EG x.args c):=by
 cases x;rw[xV];rfl
theorem ud (x:lN)(l:List lN)(c:List jQ):nK (x::l) c=xV x c:=by rw[nK]
theorem HF (x y:lN)(l:List lN)(c:List jQ):EG (x::y::l) c=xV y c:=by rw[EG,nK]
theorem MN (a b:Option jQ)(h:∀s l x,a=some s→s.args=l→b=some x→¬∃p q,l=[p,q]∧l9 p x=true):I4 a b=none:=by
 unfold I4
 split
 ·rename_i _ p q x
  split
  ·rename_i c;exact absurd ⟨p,q,rfl,c⟩ (h _ _ _ rfl rfl rfl)
  ·rfl
 ·rfl
theorem MO {s p q x:jQ}(a:s.args=[p,q])(h:l9 p x=true):I4 (some s) (some x)=some q:=by
 cases s with
 |mk b l=>
  cases (show l=[p,q]from a)
  show(if l9 p x then some q else none)=some q
  rw[aB h]
theorem H7 (x:lN)(d b n:Nat):nk [x] d b n=lW x d b n:=by
 rw[nk,nk]
 split
 ·rfl
 ·rename_i h
  have:=SD x d b n (fK.1 h)
  rw[←this]
theorem SC (x y:lN)(d b n:Nat):nk [x,y] d b n=if(lW x d b n).2.1≠0 then lW x d b n else lW y d b (lW x d b n).1:=by rw[nk,H7]
inductive Hy:jQ→Prop
 |leaf {b:ab} (h:b=sE∨b=sT):Hy (.mk b [])
 |fn {x y:jQ} (hx:Hy x) (hy:Hy y):Hy (.mk [] [x,y])
theorem zo {b:ab}{l:List jQ}(h:j7 b l.length=true):((b=sE∨b=sT)∧l=[])∨(b=[]∧∃x y,l=[x,y]):=by
 unfold j7 at h
 simp only[Bool.or_eq_true,Bool.and_eq_true,decide_eq_true_eq]at h
 rcases h with⟨h1,a⟩|⟨h1,a⟩
 ·exact .inl ⟨h1,gg a⟩
 ·refine .inr ⟨h1,?_⟩
  match l,a with
  | [x,y],_=>exact⟨x,y,rfl⟩
theorem LX:∀(x:jQ) (d n:Nat),(lL x d n).2=0→Hy x∧(lL x d n).1=n+szS x∧(lL x d n).1≤200:=by
 intro x;refine jQ.rec (motive_1:=λx=>∀d n,(lL x d n).2=0→Hy x∧(lL x d n).1=n+szS x∧(lL x d n).1≤200) (motive_2:=λl=>∀d n,(lA l d n).2=0→(∀x∈l,Hy x)∧(lA l d n).1=n+Vz l∧(n≤200→(lA l d n).1≤200)) ?_ ?_ ?_ x
 ·intro b l e d n h
  rw[lL]at h⊢
  by_cases h1:200<n+1∨40<d
  ·rw[aB h1]at h;exact absurd h (by simp)
  rw[aA h1]at h⊢
  by_cases a:j7 b l.length=false
  ·rw[aB a]at h;exact absurd h (by simp)
  rw[aA a]at h⊢;obtain⟨c,f,k3⟩:=e _ _ h;refine⟨?_,by rw[f,szS];omega,k3 zE⟩
  rcases zo (by simpa using a)with⟨g,rfl⟩|⟨rfl,x,y,rfl⟩
  ·exact .leaf g
  ·exact .fn (c x (by simp)) (c y (by simp))
 ·intro d n _;exact⟨λx hx=>(by cases hx),rfl,λh=>h⟩
 ·intro x l i j d n h
  rw[lA]at h⊢
  by_cases h1:(lL x d n).2≠0
  ·rw[aB h1]at h;exact absurd h h1
  rw[aA h1]at h⊢;obtain⟨k,a2,a3⟩:=i d n (fK.1 h1);obtain⟨m,o,p⟩:=j _ _ h;refine⟨λy hy=> ?_,by rw[o,a2,Vz];omega,λ_=>p a3⟩
  rcases bT.1 hy with rfl|hy
  ·exact k
  ·exact m y hy
end Go.Proofs.YtiefglecbgdaiaaGreatDoor
namespace Go.Proofs.YtiefglecbgdaiaaGreatDoor
open Go Go.J Tryz
theorem Vm:∀(x:jQ) (d n:Nat),n≤200→(lL x d n).1≤201:=by
 intro x;refine jQ.rec (motive_1:=λx=>∀d n,n≤200→(lL x d n).1≤201) (motive_2:=λl=>∀d n,n≤200→(lA l d n).1≤201) ?_ ?_ ?_ x
 ·intro b l a d n f
  rw[lL]
  split
  ·show n+1≤201;omega
  ·split
   ·show n+1≤201;omega
   ·exact a _ _ zE
 ·intro d n h;show n≤201;omega
 ·intro x l c e d n h
  rw[lA]
  split
  ·exact c d n h
  ·rename_i h1
   exact e _ _ (LX x d n (fK.1 h1)).2.2
theorem Jg {l:List jQ}{k:Nat}{y:jQ}(h:l[k]?=some y)(d n:Nat):lA (l.drop k) d n=if(lL y d n).2≠0 then lL y d n else lA (l.drop (k+1)) d (lL y d n).1:=by rw[bA h,lA]
theorem NS {l:List jQ}{k:Nat}(h:l.length≤k)(d n:Nat):lA (l.drop k) d n=(n,0):=by rw[fS h,lA]
theorem Gn {b:ab}{m:Nat}(h:j7 b m=true):m≤2:=by
 unfold j7 at h
 simp only[Bool.or_eq_true,Bool.and_eq_true,decide_eq_true_eq]at h
 rcases h with⟨_,h⟩|⟨_,h⟩<;>omega
theorem Gk (b:ab)(m:Nat):(((b==([101]:ab))||(b==([116]:ab)))&&decide ((m:Int)=0)||((b==([]:ab))&&decide ((m:Int)=2)))=j7 b m:=by
 unfold j7;rw[rh]
 simp only[Bool.or_eq_true,Bool.and_eq_true,beq_iff_eq,decide_eq_true_eq]
 constructor
 ·rintro (⟨h,k⟩|⟨h,k⟩)
  ·exact .inl ⟨h,by omega⟩
  ·exact .inr ⟨h,by omega⟩
 ·rintro (⟨h,k⟩|⟨h,k⟩)
  ·exact .inl ⟨h,by omega⟩
  ·exact .inr ⟨h,by omega⟩
theorem lM (s:ab)(i:s.length≤9223372036854775807):cX prog 66 #[sv s] [] (.bool (isName s)):=by
 refine cX.l5 (args:=[sv s]) 55 func66 rfl ntmps66 rfl (λc=> ?_);refine g12 ?_;refine St.gf _ rfl rfl (λa=>Ev.move (.mk rfl)) rfl ?_;refine St.gf _ rfl rfl (λa=>Ev.QI (aX.gv rfl a) oc) rfl ?_;refine St.gf _ rfl rfl (λa=>Ev.gtr (aX.gv rfl a) (.mk rfl)) rfl ?_;refine g2 ?_;refine St.gf _ rfl rfl (λa=>Ev.move (.mk rfl)) rfl ?_;refine St.gf _ rfl rfl (λa=>Ev.Dh (k:=0) (aX.gv rfl a) (.mk rfl) oc rfl (by first|omega|(simp only[bj]at a;omega))) rfl ?_;refine St.gf _ rfl rfl (λa=>Ev.lss (aX.gv rfl a) (.mk rfl)) rfl ?_;refine g2 ?_;refine St.gf _ rfl rfl (λa=>Ev.move (.mk rfl)) rfl ?_;refine St.gf _ rfl rfl (λa=>Ev.Dh (k:=0) (aX.gv rfl a) (.mk rfl) oc rfl (by first|omega|(simp only[bj]at a;omega))) rfl ?_;refine St.gf _ rfl rfl (λa=>Ev.gtr (aX.gv rfl a) (.mk rfl)) rfl ?_;refine g3 ?_;refine St.cq (λf=> ?_) (λf=> ?_)
 ·refine g7 ?_
  refine St.rV [_] [] ?_;exact be (Fg zE).symm
 ·refine g11 ?_
  refine St.lS (ι:=Nat) (λk T=>(25,iv k)::T) (λk=>k≤s.length∧(s.take k).all oK=true) (λk=>s.length-k) 0 (aC.k2 0 24) ⟨aP _,rfl⟩ ?_;intro k g;obtain⟨hk,e⟩:=g;refine g6 ?_;refine St.cq (λh=> ?_) (λh=> ?_)
  ·refine g14 ?_
   refine St.ee (Ev.Dh (.mk rfl) (.mk rfl) oc rfl zE) ?_;refine g8 ?_;refine St.gt _ rfl rfl (λa=>Ev.move (.mk rfl)) rfl ?_;refine St.gt _ rfl rfl (λa=>Ev.leq (aX.gv rfl a) (.mk rfl)) rfl ?_;refine g2 ?_;refine St.gf _ rfl rfl (λa=>Ev.move (.mk rfl)) rfl ?_;refine St.gf _ rfl rfl (λa=>Ev.geq (aX.gv rfl a) (.mk rfl)) rfl ?_;refine St.gf _ rfl rfl (λa=>Ev.move (aX.gv rfl a)) rfl ?_;refine St.Pd _ rfl rfl (λa=>Ev.move (.mk rfl)) rfl ?_;refine St.Pd _ rfl rfl (λa=>Ev.leq (aX.gv rfl a) (.mk rfl)) rfl ?_;refine St.gf _ rfl rfl (λa=>Ev.and (aX.gv rfl a) (λhp=>aX.gv rfl (KM a hp))) rfl ?_;refine g2 ?_;refine St.gf _ rfl rfl (λa=>Ev.move (.mk rfl)) rfl ?_;refine St.gf _ rfl rfl (λa=>Ev.eql (aX.gv rfl a) (.mk rfl)) rfl ?_;refine g2 ?_;refine St.gf _ rfl rfl (λa=>Ev.move (.mk rfl)) rfl ?_;refine St.gf _ rfl rfl (λa=>Ev.eql (aX.gv rfl a) (.mk rfl)) rfl ?_;refine g4 ?_;refine St.cq (λb=> ?_) (λb=> ?_)
   ·refine g11 ?_
    refine St.rV [_] [] ?_;exact be (Fh (k:=k) zE (by simp only[oK,low,digit,Bool.and_eq_false_iff,Bool.or_eq_false_iff,decide_eq_false_iff_not];omega)).symm
   ·refine g8 ?_
    refine St.aS (k+1) ⟨by omega,Aa (d:=0) e (by simp only[oK,low,digit,Bool.and_eq_true,Bool.or_eq_true,decide_eq_true_eq];exact b)⟩
  ·refine g11 ?_
   refine St.rV [_] [] ?_;exact be (Fj zE zE (by simp only[low,Bool.and_eq_true,decide_eq_true_eq];omega) (Eh e zE)).symm
theorem dc (a b:Int):cX prog 62 #[iv a,iv b] [] (fv (a,b)):=by
 refine cX.l5 (args:=[iv a,iv b]) 8 func62 rfl ntmps62 rfl (λc=> ?_);refine g2 ?_;refine St.al (λd=> ?_);refine g6 ?_;refine St.ee (Ev.build (bC.ah rfl rfl) (λw=>dJ rfl rfl w)) ?_;refine g4 ?_;refine St.rV [_] [] ?_;rfl
theorem eN (a b:Int):cX prog 64 #[iv a,iv b] [] (fv (a,b)):=by
 refine cX.l5 (args:=[iv a,iv b]) 8 func64 rfl ntmps64 rfl (λc=> ?_);refine g2 ?_;refine St.al (λd=> ?_);refine g6 ?_;refine St.ee (Ev.build (bC.ah rfl rfl) (λw=>dJ rfl rfl w)) ?_;refine g4 ?_;refine St.rV [_] [] ?_;rfl
theorem fO (a b:Int):cX prog 71 #[iv a,iv b] [] (fv (a,b)):=by
 refine cX.l5 (args:=[iv a,iv b]) 8 func71 rfl ntmps71 rfl (λc=> ?_);refine g2 ?_;refine St.al (λd=> ?_);refine g6 ?_;refine St.ee (Ev.build (bC.ah rfl rfl) (λw=>dJ rfl rfl w)) ?_;refine g4 ?_;refine St.rV [_] [] ?_;rfl
theorem cO (a b:Int):cX prog 105 #[iv a,iv b] [] (fv (a,b)):=by
 refine cX.l5 (args:=[iv a,iv b]) 8 func105 rfl ntmps105 rfl (λc=> ?_);refine g2 ?_;refine St.al (λd=> ?_);refine g6 ?_;refine St.ee (Ev.build (bC.ah rfl rfl) (λw=>dJ rfl rfl w)) ?_;refine g4 ?_;refine St.rV [_] [] ?_;rfl
theorem fc (a b:Int):cX prog 112 #[iv a,iv b] [] (fv (a,b)):=by
 refine cX.l5 (args:=[iv a,iv b]) 8 func112 rfl ntmps112 rfl (λc=> ?_);refine g2 ?_;refine St.al (λd=> ?_);refine g6 ?_;refine St.ee (Ev.build (bC.ah rfl rfl) (λw=>dJ rfl rfl w)) ?_;refine g4 ?_;refine St.rV [_] [] ?_;rfl
theorem Bl (x:fy):cX prog 162 #[uV x] [fZ x] (.bool (pd (dw x))):=by
 refine cX.l6 (args:=[uV x]) 12 func162 rfl ntmps162 rfl (λc=> ?_);refine g2 ?_;refine St.cW (.mk rfl) rfl (λb=> ?_);refine g4 ?_;refine St.uH x ?_;refine g5 ?_;refine St.gt _ rfl rfl (λa=>Ev.cB (.mk rfl) pB) rfl ?_;refine St.gt _ rfl rfl (λa=>Ev.gh (aX.gv rfl a) mi trivial (by rfl)) rfl ?_;refine St.gt _ rfl rfl (λa=>Ev.eu (aX.gv rfl a) mi) rfl ?_;refine St.gt _ rfl rfl (λa=>Ev.eql (aX.gv rfl a) (.mk rfl)) rfl ?_;refine g5 ?_;refine St.rV [_] [] ?_;exact be (by rw[pd,rD,kJ,aR,rh];simp only[Bool.and_eq_true,beq_iff_eq,decide_eq_true_eq];exact⟨λh=>⟨h.1,by have:=h.2;omega⟩,λh=>⟨h.1,by have:=h.2;omega⟩⟩)
theorem E6 (b e g:Nat):∀(x:fy) (d n:Nat),d≤100→n≤200→dR prog 201 ([uV x,iv (d:Nat)]++ [tW b,tW e]).toArray [aD (fZ x),tI b [iv (n:Nat)] 3,tI e [(.func (.func 201) #[] [tW b,tW e].toArray)] g] (λv H'=>v=iv (lL (dw x) d n).2∧H'=[tI b [iv ((lL (dw x) d n).1:Nat)] 3,tI e [(.func (.func 201) #[] [tW b,tW e].toArray)] g]):=by
 intro x
 induction x using fy.ind
 rename_i x p
 intro d n hd t;refine dR.body (args:=[uV x,iv (d:Nat)]++ [tW b,tW e]) 62 func201 rfl ntmps201 rfl (λc=> ?_);refine go ?_
 have f:=Vl (dw x) d n
 rw[rD,kJ,aR]at f;refine St.uH x ?_;refine go ?_;refine St.cW (.mk rfl) rfl (λu=> ?_);refine g7 ?_;refine St.bL (.mk rfl) (.mk rfl) eL rfl (by rfl) ?_;refine St.jq b (L':=[iv ((n+1:Nat):Int)]) rfl ?_;refine g8 ?_;refine St.gf _ rfl rfl (λa=>Ev.move (.mk rfl)) rfl ?_;refine St.gf _ rfl rfl (λa=>Ev.gtr (aX.gv rfl a) (.mk rfl)) rfl ?_;refine g3 ?_;refine St.cq (λq=> ?_) (λq=> ?_)
 ·rw[aB zE]at f
  refine g7 ?_;refine St.rV [_] [tI b [iv ((n+1):Nat)] 3,tI e [(.func (.func 201) #[] [tW b,tW e].toArray)] g] ?_
  rw[f];exact⟨rfl,rfl⟩
 ·rw[aA zE]at f
  refine g8 ?_;refine St.gf _ rfl rfl (λa=>Ev.cB (.mk rfl) DX) rfl ?_;refine St.gf _ rfl rfl (λa=>Ev.gh (aX.gv rfl a) oc trivial (by rfl)) rfl ?_;refine St.gf _ rfl rfl (λa=>Ev.Gy (aX.gv rfl a) (.mk rfl)) rfl ?_;refine g9 ?_;refine St.gt _ rfl rfl (λa=>Ev.cB (.mk rfl) pB) rfl ?_;refine St.gt _ rfl rfl (λa=>Ev.gh (aX.gv rfl a) mi trivial (by rfl)) rfl ?_;refine St.gt _ rfl rfl (λa=>Ev.eu (aX.gv rfl a) mi) rfl ?_;refine St.gt _ rfl rfl (λa=>Ev.eql (aX.gv rfl a) (.mk rfl)) rfl ?_;refine g2 ?_;refine St.gf _ rfl rfl (λa=>Ev.cB (.mk rfl) DX) rfl ?_;refine St.gf _ rfl rfl (λa=>Ev.gh (aX.gv rfl a) oc trivial (by rfl)) rfl ?_;refine St.gf _ rfl rfl (λa=>Ev.Gy (aX.gv rfl a) (.mk rfl)) rfl ?_;refine St.gf _ rfl rfl (λa=>Ev.move (aX.gv rfl a)) rfl ?_;refine St.Pd _ rfl rfl (λa=>Ev.cB (.mk rfl) pB) rfl ?_;refine St.Pd _ rfl rfl (λa=>Ev.gh (aX.gv rfl a) mi trivial (by rfl)) rfl ?_;refine St.Pd _ rfl rfl (λa=>Ev.eu (aX.gv rfl a) mi) rfl ?_;refine St.Pd _ rfl rfl (λa=>Ev.eql (aX.gv rfl a) (.mk rfl)) rfl ?_;refine St.gf _ rfl rfl (λa=>Ev.and (aX.gv rfl a) (λhp=>aX.gv rfl (KM a hp))) rfl ?_;refine g4 ?_;refine St.cond _ rfl (λh=> ?_) (λh=> ?_)
  ·rw[Gk]at h
   rw[aB (by simpa using h)]at f;refine g7 ?_;refine St.rV [_] [tI b [iv ((n+1):Nat)] 3,tI e [(.func (.func 201) #[] [tW b,tW e].toArray)] g] ?_
   rw[f];exact⟨rfl,rfl⟩
  ·rw[Gk]at h
   have r:=Gn (show j7 x.base x.args.length=true by simpa using h)
   rw[aA (by simpa using h)]at f;refine g12 ?_;refine St.pb (ι:=Nat) (κ:=Nat) (λk z T=>(49,iv k)::T) (λk z=>[tI b [iv (z:Nat)] 3,tI e [(.func (.func 201) #[] [tW b,tW e].toArray)] g,aD (sl mf x.av.1 x.args),aD (aL fZ x.args)]) (λk z=>k≤x.args.length∧z≤200∧lA (x.args.map dw) (d+1) (n+1)=lA ((x.args.map dw).drop k) (d+1) z) (λk z=>x.args.length-k) 0 (n+1) (aC.k4 1 3 47 48) ⟨aP _,by omega,rfl⟩ ?_;rintro k z ⟨hk,hz,ET⟩;refine g6 ?_;refine St.cq (λs=> ?_) (λs=> ?_)
   ·obtain⟨y,hy⟩:=aF (show k<x.args.length by omega)
    have m:=aa hy
    have o:=Jg (l:=x.args.map dw) (k:=k) (y:=dw y) (by rw[aw,hy];rfl) (d+1) z
    refine St.cN fZ x.args (x:=y) m ?_
    have hle:=Vm (dw y) (d+1) z hz
    refine g7 ?_;refine St.ee (Ev.j2 (.mk rfl) hy re trivial mQ gX.eq) ?_;refine St.al (λw=> ?_);refine g9 ?_;refine St.slot 56 (iv ((d+1:Nat):Int)) rfl rfl ?_;refine St.fg (p y m (d+1) z zE hz) Wx (.mk rfl) (.ah rfl rfl) rfl ?_;rintro v57 _ ⟨rfl,rfl⟩;refine St.mZ ?_;refine g9 ?_;refine St.cq (λi=> ?_) (λi=> ?_)
    ·refine g12 ?_
     refine St.rV [_] [tI b [iv ((lL (dw y) (d+1) z).1:Nat)] 3,tI e [(.func (.func 201) #[] [tW b,tW e].toArray)] g] ?_
     rw[f,ET,o,aB zE];exact⟨rfl,rfl⟩
    ·refine g8 ?_
     have j:=(LX (dw y) (d+1) z zE).2.2
     refine St.py (k+1) (lL (dw y) (d+1) z).1 ⟨by omega,j,by rw[ET,o,aA zE]⟩
   ·rw[NS (by rw[aR];omega)]at ET
    refine g11 ?_;refine St.rV [_] [tI b [iv (z:Nat)] 3,tI e [(.func (.func 201) #[] [tW b,tW e].toArray)] g] ?_
    rw[f,ET];exact⟨rfl,rfl⟩
theorem wc (x:fy):cX prog 161 #[uV x] [fZ x] (fv (vn (dw x),0)):=by
 refine cX.l6 (args:=[uV x]) 10 func161 rfl ntmps161 rfl (λc=> ?_);refine g2 ?_;refine St.cW (.mk rfl) rfl (λd=> ?_);refine St.al (λe=> ?_);refine g4 ?_;refine St.al (λa=> ?_);refine St.bL (.mk rfl) (.mk rfl) eL rfl (by rfl) ?_;refine St.jq a (L':=[iv ((0:Nat):Int)]) rfl ?_;refine g4 ?_;refine St.al (λb=> ?_);refine g4 ?_;refine St.ee (Ev.func (.ah rfl rfl)) ?_;refine St.bL (.mk rfl) (.mk rfl) af7 rfl (by rfl) ?_;refine g6 ?_;refine St.fg (E6 a b 310 x 1 0 zE zE) Wx (.mk rfl) (.ah rfl rfl) rfl ?_;rintro f _ ⟨rfl,rfl⟩;refine St.mZ ?_;refine St.ee (Ev.build (bC.ay rfl) (λw=>Tp rfl w)) ?_;refine g4 ?_;refine St.rV [_] [] ?_;rfl
theorem Ra (x y:jQ):l9 x y=(decide (x.base=y.base)&&decide (x.args.length=y.args.length)&&nj x.args y.args):=by cases x;cases y;rw[l9];rfl
theorem Gi {l m:List jQ}{k:Nat}{x y:jQ}(hx:l[k]?=some x)(hy:m[k]?=some y):nj (l.drop k) (m.drop k)=(l9 x y&&nj (l.drop (k+1)) (m.drop (k+1))):=by rw[bA hx,bA hy,nj]
theorem Jd {l m:List jQ}{k:Nat}(h:l.length≤k):nj (l.drop k) (m.drop k)=true:=by rw[fS h,nj];intro _ _ _ _ h;cases h
theorem NR:∀(x y:fy),cX prog 202 #[uV x,uV y] [fZ x,fZ y] (.bool (l9 (dw x) (dw y))):=by
 intro x
 induction x using fy.ind
 rename_i x i
 intro y;refine cX.lj (args:=[uV x,uV y]) 39 func202 rfl ntmps202 rfl (λc=> ?_);refine go ?_
 have b:=Ra (dw x) (dw y)
 rw[rD,rD,kJ,kJ,aR,aR]at b;refine St.uH x ?_;refine St.uH y ?_;refine St.wf x.av.1 (λq r=> ?_);refine go ?_;refine St.cW (.mk rfl) rfl (λs=> ?_);refine St.cW (.mk rfl) rfl (λt=> ?_);refine g12 ?_;refine St.gf _ rfl rfl (λa=>Ev.cB (.mk rfl) pB) rfl ?_;refine St.gf _ rfl rfl (λa=>Ev.gh (aX.gv rfl a) mi trivial (by rfl)) rfl ?_;refine St.gf _ rfl rfl (λa=>Ev.eu (aX.gv rfl a) mi) rfl ?_;refine St.gf _ rfl rfl (λa=>Ev.cB (.mk rfl) pB) rfl ?_;refine St.gf _ rfl rfl (λa=>Ev.gh (aX.gv rfl a) mi trivial (by rfl)) rfl ?_;refine St.gf _ rfl rfl (λa=>Ev.eu (aX.gv rfl a) mi) rfl ?_;refine St.gf _ rfl rfl (λa=>Ev.neq (aX.gv rfl a) (aX.gv rfl a)) rfl ?_;refine g3 ?_;refine St.cq (λd=> ?_) (λd=> ?_)
 ·refine g7 ?_
  refine St.rV [_] [] ?_;exact be (by rw[b];rcases d with h|h<;>simp[h]<;>omega)
 ·obtain⟨j,n⟩:x.base=y.base∧x.args.length=y.args.length:=⟨by simpa using d.1,by have:=d.2;omega⟩
  rw[j,n,dI rfl,dI rfl,Bool.true_and,Bool.true_and]at b;refine g12 ?_;refine St.lS (ι:=Nat) (λk T=>(23,iv k)::T) (λk=>k≤x.args.length∧nj (x.args.map dw) (y.args.map dw)=nj ((x.args.map dw).drop k) ((y.args.map dw).drop k)) (λk=>x.args.length-k) 0 (aC.k3 2 3 22) ⟨aP _,rfl⟩ ?_;intro k o;obtain⟨hk,e⟩:=o;refine g6 ?_;refine St.cq (λp=> ?_) (λp=> ?_)
  ·obtain⟨u,hu⟩:=aF (show k<x.args.length by omega)
   obtain⟨w,hw⟩:=aF (show k<y.args.length by omega);refine St.cN fZ x.args (x:=u) (aa hu) ?_;refine St.cN fZ y.args (x:=w) (aa hw) ?_
   have g:=Gi (l:=x.args.map dw) (m:=y.args.map dw) (k:=k) (x:=dw u) (y:=dw w) (by rw[aw,hu];rfl) (by rw[aw,hw];rfl)
   refine g11 ?_;refine St.rq mixed (by kernel_rfl) (Mm.drawn _ _) ?_;refine g4 ?_;refine Sq.ee (Ev.j2 (.mk rfl) hu re trivial mQ gX.eq) ?_;refine g4 ?_;refine Sq.ee (Ev.j2 (.mk rfl) hw re trivial mQ gX.eq) ?_;refine Sq.ee (Ev.call (i u (aa hu) w) Wy (.ah rfl rfl)) ?_;refine g3 ?_;refine St.cond _ rfl (λf=> ?_) (λf=> ?_)
   ·skip
    refine g11 ?_;refine St.rV [_] [] ?_;exact be (by rw[b,e,g,show l9 (dw u) (dw w)=false by simpa using f];rfl)
   ·skip
    refine g8 ?_;refine St.aS (k+1) ⟨by omega,by rw[e,g,show l9 (dw u) (dw w)=true by simpa using f,Bool.true_and]⟩
  ·rw[Jd (by rw[aR];omega)]at e
   refine g11 ?_;refine St.rV [_] [] ?_;exact be (by rw[b,e])
theorem Lq (x:dg)(b:Nat):A3 (dx x) b=jd x.kind x.name x.index (dw x.type) x.args.length b:=by
 cases x with
 |mk k s i t v l=>rw[S7];show jd k s i (dw t) (l.map dx).length b=_;rw[aR];rfl
theorem su (x:dg):(dx x).kind=x.kind:=by cases x;rfl
theorem tm1 (nm:ab)(ix:Int)(a:jQ)(m b:Nat):jd 1 nm ix a m b=if ix≠0∨m≠0 then 5 else if isName nm=false then 10 else if vn a≠0 then 12 else 0:=by unfold jd;rw[aB rfl]
theorem tm2 (nm:ab)(ix:Int)(a:jQ)(m b:Nat):jd 2 nm ix a m b=if nm≠ []∨pd a=false∨m≠0 then 5 else if ix<0∨(b:Int)≤ix then 15 else 0:=by unfold jd;rw[aA (by decide),aB rfl]
theorem tm3 (nm:ab)(ix:Int)(a:jQ)(m b:Nat):jd 3 nm ix a m b=if nm≠ []∨ix≠0∨m≠1 then 5 else if vn a≠0 then 12 else 0:=by unfold jd;rw[aA (by decide),aA (by decide),aB rfl]
theorem tm4 (nm:ab)(ix:Int)(a:jQ)(m b:Nat):jd 4 nm ix a m b=if nm≠ []∨ix≠0∨pd a=false∨m≠2 then 5 else 0:=by unfold jd;rw[aA (by decide),aA (by decide),aA (by decide),aB rfl]
theorem tm5 {k:Int}(h1:k≠1)(a:k≠2)(c:k≠3)(d:k≠4)(nm:ab)(ix:Int)(e:jQ)(m b:Nat):jd k nm ix e m b=4:=by unfold jd;rw[aA h1,aA a,aA c,aA d]
theorem GM {α:Type}{l:List α}(h:l.length=1):∃y,l=[y]:=by
 match l,h with
 | [y],_=>exact⟨y,rfl⟩
theorem A5 {α:Type}{l:List α}(h:l.length=2):∃y z,l=[y,z]:=by
 match l,h with
 | [y,z],_=>exact⟨y,z,rfl⟩
theorem j3 (b:Nat)(cd at_:Int):cX prog 160 ([iv cd]++ [tW b]).toArray [fx b (iv at_)] (fv (cd,at_)):=by
 refine cX.l6 (args:=[iv cd]++ [tW b]) 7 func160 rfl ntmps160 rfl (λc=> ?_);refine g2 ?_;refine St.al (λa=> ?_);refine g6 ?_;refine St.ee (Ev.build (bC.ah rfl rfl) (λw=>dJ rfl rfl w)) ?_;refine g4 ?_;refine St.rV [_] [] ?_;rfl
theorem B1 (e f i:Nat):∀(x:dg) (d b n:Nat),nI.wf x→d≤100→b≤d→n≤200→dR prog 159 ([wh x,iv (d:Nat),iv (b:Nat)]++ [tW e,tW f]).toArray [aD (iV x),tI e [iv (n:Nat)] 3,tI f [(.func (.func 159) #[] [tW e,tW f].toArray)] i] (λv H'=>v=fv (lW (dx x) d b n).2∧H'=[tI e [iv ((lW (dx x) d b n).1:Nat)] 3,tI f [(.func (.func 159) #[] [tW e,tW f].toArray)] i]):=by
 intro x
 induction x using dg.ind
 rename_i x F
 intro d b n O hd P W
 have Q:x.name.length≤9223372036854775807:=by have:=O.2.1;omega
 refine dR.body (args:=[wh x,iv (d:Nat),iv (b:Nat)]++ [tW e,tW f]) 166 func159 rfl ntmps159 rfl (λc=> ?_);refine go ?_
 have g:=aaB (dx x) d b n
 rw[Lq,sq,su]at g;refine St.GN x ?_;refine St.wf x.av.1 (λG X=> ?_);refine go ?_;refine St.cW (.mk rfl) rfl (λY=> ?_);refine St.al (λK=> ?_);refine g5 ?_;refine St.al (λl=> ?_);refine St.bL (.mk rfl) (.mk rfl) eL rfl (by rfl) ?_;refine g6 ?_;refine St.bL (.mk rfl) (.mk rfl) eL rfl (by rfl) ?_;refine St.jq e (L':=[iv ((n+1:Nat):Int)]) rfl ?_;refine g4 ?_;refine St.ee (Ev.func (.ay rfl)) ?_;refine g9 ?_;refine St.gf _ rfl rfl (λa=>Ev.move (.mk rfl)) rfl ?_;refine St.gf _ rfl rfl (λa=>Ev.gtr (aX.gv rfl a) (.mk rfl)) rfl ?_;refine g3 ?_;refine St.cq (λR=> ?_) (λR=> ?_)
 ·rw[aB zE]at g
  refine g3 ?_;refine St.ee (Ev.nY (j3 l 1 n) rz (.mk rfl) (.ay rfl) (cm.aU cm.nil)) ?_;refine g5 ?_;refine St.rV [_] [tI e [iv ((n+1):Nat)] 3,tI f [(.func (.func 159) #[] [tW e,tW f].toArray)] i] ?_;rw[g];exact⟨rfl,rfl⟩
 ·rw[aA zE]at g
  refine g16 ?_;refine St.cond _ rfl (λs=> ?_) (λs=> ?_)
  focus
   skip
   try simp only[bj]at s
   rw[s,tm1]at g;refine g7 ?_;refine St.gf _ rfl rfl (λa=>Ev.cB (.mk rfl) vL) rfl ?_;refine St.gf _ rfl rfl (λa=>Ev.gh (aX.gv rfl a) rf trivial (by rfl)) rfl ?_;refine St.gf _ rfl rfl (λa=>Ev.eu (aX.gv rfl a) rf) rfl ?_;refine St.gf _ rfl rfl (λa=>Ev.neq (aX.gv rfl a) (.mk rfl)) rfl ?_;refine g3 ?_;refine St.cond _ rfl (λH=> ?_) (λH=> ?_)
   focus
    skip
    try simp only[bj]at H
    rw[aB (show x.index≠0∨x.args.length≠0 by omega)]at g;refine g3 ?_;refine St.ee (Ev.nY (j3 l 5 n) rz (.mk rfl) (.ay rfl) (cm.aU cm.nil)) ?_;refine g7 ?_;refine St.rV [_] [tI e [iv ((n+1):Nat)] 3,tI f [(.func (.func 159) #[] [tW e,tW f].toArray)] i] ?_;rw[g,aB (by decide)];exact⟨rfl,rfl⟩
   focus
    skip
    try simp only[bj]at H
    obtain⟨Z,t⟩:x.index=0∧x.args.length=0:=by omega
    rw[aA (show ¬(x.index≠0∨x.args.length≠0) by omega)]at g;refine g7 ?_;refine St.ee (Ev.call (lM x.name Q) MW (.ay rfl)) ?_;refine g3 ?_;refine St.cond _ rfl (λu=> ?_) (λu=> ?_)
    focus
     skip
     try simp only[bj]at u
     rw[aB (show isName x.name=false by simpa using u)]at g;refine g3 ?_;refine St.ee (Ev.nY (j3 l 10 n) rz (.mk rfl) (.ay rfl) (cm.aU cm.nil)) ?_;refine g7 ?_;refine St.rV [_] [tI e [iv ((n+1):Nat)] 3,tI f [(.func (.func 159) #[] [tW e,tW f].toArray)] i] ?_;rw[g,aB (by decide)];exact⟨rfl,rfl⟩
    focus
     skip
     try simp only[bj]at u
     rw[aA (show ¬isName x.name=false by simpa using u)]at g;refine g5 ?_;refine St.ee (Ev.iz 2 (.mk rfl) re trivial mQ rfl rfl) ?_;refine St.ee (Ev.call (wc x.type) Wn (.ay rfl)) ?_;refine St.ee (Ev.DJ (.mk rfl) Ng rfl (by first|rw[eK]|(dsimp only;rw[eK])|kernel_rfl) rfl) ?_;refine g3 ?_;refine St.cond _ rfl (λA=> ?_) (λA=> ?_)
     focus
      skip
      try simp only[bj]at A
      rw[aB (show vn (dw x.type)≠0 by simpa using A)]at g;refine g3 ?_;refine St.ee (Ev.nY (j3 l 12 n) rz (.mk rfl) (.ay rfl) (cm.aU cm.nil)) ?_;refine g6 ?_;refine St.rV [_] [tI e [iv ((n+1):Nat)] 3,tI f [(.func (.func 159) #[] [tW e,tW f].toArray)] i] ?_;rw[g,aB (by decide)];exact⟨rfl,rfl⟩
     focus
      skip
      try simp only[bj]at A
      rw[aA (show ¬vn (dw x.type)≠0 by simpa using A),aA (by decide),gg t,jz,nk]at g;refine go ?_
  rotate_left
  focus
   skip
   try simp only[bj]at s
   refine g6 ?_;refine St.cond _ rfl (λB=> ?_) (λB=> ?_)
   focus
    skip
    try simp only[bj]at B
    rw[B,tm2]at g;refine g7 ?_;refine St.gf _ rfl rfl (λa=>Ev.cB (.mk rfl) DY) rfl ?_;refine St.gf _ rfl rfl (λa=>Ev.iz 2 (aX.gv rfl a) re trivial mQ rfl rfl) rfl ?_;refine St.gf _ rfl rfl (λa=>Ev.call (Bl x.type) Wo (.cons (aX.gv rfl a) .nil)) rfl ?_;refine St.gf _ rfl rfl (λa=>Ev.not (aX.gv rfl a)) rfl ?_;refine g2 ?_;refine St.gf _ rfl rfl (λa=>Ev.cB (.mk rfl) vL) rfl ?_;refine St.gf _ rfl rfl (λa=>Ev.gh (aX.gv rfl a) rf trivial (by rfl)) rfl ?_;refine St.gf _ rfl rfl (λa=>Ev.eu (aX.gv rfl a) rf) rfl ?_;refine St.gf _ rfl rfl (λa=>Ev.neq (aX.gv rfl a) (.mk rfl)) rfl ?_;refine g3 ?_;refine St.cond _ rfl (λC=> ?_) (λC=> ?_)
    focus
     skip
     simp only[Bool.or_eq_true,Bool.or_eq_false_iff,Bool.not_eq_true',Bool.not_eq_false',decide_eq_true_eq,decide_eq_false_iff_not,beq_iff_eq,beq_eq_false_iff_ne]at C
     rw[aB (show x.name≠ []∨pd (dw x.type)=false∨x.args.length≠0 by rcases C with(h|h)|h;exact .inl h;exact .inr (.inl h);exact .inr (.inr zE))]at g;refine g3 ?_;refine St.ee (Ev.nY (j3 l 5 n) rz (.mk rfl) (.ay rfl) (cm.aU cm.nil)) ?_;refine g7 ?_;refine St.rV [_] [tI e [iv ((n+1):Nat)] 3,tI f [(.func (.func 159) #[] [tW e,tW f].toArray)] i] ?_;rw[g,aB (by decide)];exact⟨rfl,rfl⟩
    focus
     skip
     simp only[Bool.or_eq_true,Bool.or_eq_false_iff,Bool.not_eq_true',Bool.not_eq_false',decide_eq_true_eq,decide_eq_false_iff_not,beq_iff_eq,beq_eq_false_iff_ne]at C
     obtain⟨⟨D,I⟩,m⟩:=C
     have t:x.args.length=0:=by omega
     rw[aA (show ¬(x.name≠ []∨pd (dw x.type)=false∨x.args.length≠0) by rintro (h|h|h);exact h (by simpa using D);rw[I]at h;cases h;omega)]at g;refine g8 ?_;refine St.gf _ rfl rfl (λa=>Ev.cB (.mk rfl) yr) rfl ?_;refine St.gf _ rfl rfl (λa=>Ev.gh (aX.gv rfl a) eK trivial (by rfl)) rfl ?_;refine St.gf _ rfl rfl (λa=>Ev.move (.mk rfl)) rfl ?_;refine St.gf _ rfl rfl (λa=>Ev.geq (aX.gv rfl a) (aX.gv rfl a)) rfl ?_;refine g3 ?_;refine St.cond _ rfl (λo=> ?_) (λo=> ?_)
     focus
      skip
      try simp only[bj]at o
      rw[aB (show x.index<0∨(b:Int)≤x.index by omega)]at g;refine g3 ?_;refine St.ee (Ev.nY (j3 l 15 n) rz (.mk rfl) (.ay rfl) (cm.aU cm.nil)) ?_;refine g6 ?_;refine St.rV [_] [tI e [iv ((n+1):Nat)] 3,tI f [(.func (.func 159) #[] [tW e,tW f].toArray)] i] ?_;rw[g,aB (by decide)];exact⟨rfl,rfl⟩
     focus
      skip
      try simp only[bj]at o
      rw[aA (show ¬(x.index<0∨(b:Int)≤x.index) by omega),aA (by decide),gg t,jz,nk]at g;refine go ?_
   rotate_left
   focus
    skip
    try simp only[bj]at B
    refine g6 ?_;refine St.cq (λp=> ?_) (λp=> ?_)
    ·rw[p,tm3]at g
     refine g7 ?_;refine St.gf _ rfl rfl (λa=>Ev.cB (.mk rfl) yr) rfl ?_;refine St.gf _ rfl rfl (λa=>Ev.gh (aX.gv rfl a) eK trivial (by rfl)) rfl ?_;refine St.gf _ rfl rfl (λa=>Ev.neq (aX.gv rfl a) (.mk rfl)) rfl ?_;refine g2 ?_;refine St.gf _ rfl rfl (λa=>Ev.cB (.mk rfl) vL) rfl ?_;refine St.gf _ rfl rfl (λa=>Ev.gh (aX.gv rfl a) rf trivial (by rfl)) rfl ?_;refine St.gf _ rfl rfl (λa=>Ev.eu (aX.gv rfl a) rf) rfl ?_;refine St.gf _ rfl rfl (λa=>Ev.neq (aX.gv rfl a) (.mk rfl)) rfl ?_;refine g3 ?_;refine St.cond _ rfl (λj=> ?_) (λj=> ?_)
     ·simp only[Bool.or_eq_true,Bool.or_eq_false_iff,Bool.not_eq_true',Bool.not_eq_false',decide_eq_true_eq,decide_eq_false_iff_not,beq_iff_eq,beq_eq_false_iff_ne]at j
      rw[aB (show x.name≠ []∨x.index≠0∨x.args.length≠1 by rcases j with(h|h)|h;exact .inl h;exact .inr (.inl h);exact .inr (.inr zE))]at g;refine g3 ?_;refine St.ee (Ev.nY (j3 l 5 n) rz (.mk rfl) (.ay rfl) (cm.aU cm.nil)) ?_;refine g7 ?_;refine St.rV [_] [tI e [iv ((n+1):Nat)] 3,tI f [(.func (.func 159) #[] [tW e,tW f].toArray)] i] ?_;rw[g,aB (by decide)];exact⟨rfl,rfl⟩
     ·simp only[Bool.or_eq_true,Bool.or_eq_false_iff,Bool.not_eq_true',Bool.not_eq_false',decide_eq_true_eq,decide_eq_false_iff_not,beq_iff_eq,beq_eq_false_iff_ne]at j
      obtain⟨⟨D,I⟩,m⟩:=j
      have t:x.args.length=1:=by omega
      rw[aA (show ¬(x.name≠ []∨x.index≠0∨x.args.length≠1) by rintro (h|h|h);exact h (by simpa using D);omega;omega)]at g;refine g6 ?_;refine St.ee (Ev.iz 2 (.mk rfl) re trivial mQ rfl rfl) ?_;refine St.ee (Ev.call (wc x.type) Wn (.ay rfl)) ?_;refine St.ee (Ev.DJ (.mk rfl) Ng rfl (by first|rw[eK]|(dsimp only;rw[eK])|kernel_rfl) rfl) ?_;refine g3 ?_;refine St.cq (λq=> ?_) (λq=> ?_)
      ·rw[aB (show vn (dw x.type)≠0 by simpa using q)]at g
       refine g3 ?_;refine St.ee (Ev.nY (j3 l 12 n) rz (.mk rfl) (.ay rfl) (cm.aU cm.nil)) ?_;refine g7 ?_;refine St.rV [_] [tI e [iv ((n+1):Nat)] 3,tI f [(.func (.func 159) #[] [tW e,tW f].toArray)] i] ?_;rw[g,aB (by decide)];exact⟨rfl,rfl⟩
      ·obtain⟨y,hy⟩:=GM t
       rw[aA (show ¬vn (dw x.type)≠0 by simpa using q),aA (by decide),aB rfl,hy,eV,jz,H7]at g;refine St.cN iV x.args (x:=y) (by rw[hy];simp) ?_;refine g3 ?_;refine St.dZ [tI e [iv ((n+1):Nat)] 3,tI f [(.func (.func 159) #[] [tW e,tW f].toArray)] i,aD (iV y),tI K [iv 0,iv 0] 39] mixed (λL M=> ?_);refine SW.gd 1 ?_;refine SW.gd 2 ?_;refine SW.dd 3 rfl (λ_=>Ev.cM (k:=0) (.mk rfl) (.mk rfl) rf rY rfl zE) ?_;refine SW.dd 4 rfl (λ_=>Ev.j2 (.mk rfl) (show x.args[0]?=some y by rw[hy];rfl) BA trivial rY gX.eq) ?_;refine SW.gd 5 ?_;refine SW.gd 6 ?_;refine SW.slot 115 (iv ((d+1:Nat):Int)) rfl rfl ?_;refine SW.gd 7 ?_;refine SW.gd 8 ?_;refine SW.slot 117 (iv ((b+1:Nat):Int)) rfl rfl ?_;refine SW.t1 0 ?_;refine g3 ?_;refine SW.go ?_;refine SW.t1 9 ?_;refine St.fg (F y (by rw[hy];simp) (d+1) (b+1) (n+1) (G y (by rw[hy];simp)) zE zE zE) KV (.mk rfl) (.fk rfl rfl rfl) rfl ?_;rintro S _ ⟨rfl,rfl⟩;refine St.mZ ?_;refine g2 ?_;refine SW.go ?_;refine SW.t1 10 ?_;refine g3 ?_;refine SW.go ?_;refine SW.dn ?_;refine g4 ?_;refine St.rV [_] [tI e [iv ((lW (dx y) (d+1) (b+1) (n+1)).1:Nat)] 3,tI f [(.func (.func 159) #[] [tW e,tW f].toArray)] i] ?_
       rw[g];exact⟨rfl,rfl⟩
    ·refine g6 ?_
     refine St.cq (λJ=> ?_) (λJ=> ?_)
     ·rw[J,tm4]at g
      refine g7 ?_;refine St.gf _ rfl rfl (λa=>Ev.cB (.mk rfl) yr) rfl ?_;refine St.gf _ rfl rfl (λa=>Ev.gh (aX.gv rfl a) eK trivial (by rfl)) rfl ?_;refine St.gf _ rfl rfl (λa=>Ev.neq (aX.gv rfl a) (.mk rfl)) rfl ?_;refine g2 ?_;refine St.gf _ rfl rfl (λa=>Ev.cB (.mk rfl) DY) rfl ?_;refine St.gf _ rfl rfl (λa=>Ev.iz 2 (aX.gv rfl a) re trivial mQ rfl rfl) rfl ?_;refine St.gf _ rfl rfl (λa=>Ev.call (Bl x.type) Wo (.cons (aX.gv rfl a) .nil)) rfl ?_;refine St.gf _ rfl rfl (λa=>Ev.not (aX.gv rfl a)) rfl ?_;refine g2 ?_;refine St.gf _ rfl rfl (λa=>Ev.cB (.mk rfl) vL) rfl ?_;refine St.gf _ rfl rfl (λa=>Ev.gh (aX.gv rfl a) rf trivial (by rfl)) rfl ?_;refine St.gf _ rfl rfl (λa=>Ev.eu (aX.gv rfl a) rf) rfl ?_;refine St.gf _ rfl rfl (λa=>Ev.neq (aX.gv rfl a) (.mk rfl)) rfl ?_;refine g3 ?_;refine St.cond _ rfl (λE=> ?_) (λE=> ?_)
      ·simp only[Bool.or_eq_true,Bool.or_eq_false_iff,Bool.not_eq_true',Bool.not_eq_false',decide_eq_true_eq,decide_eq_false_iff_not,beq_iff_eq,beq_eq_false_iff_ne]at E
       rw[aB (show x.name≠ []∨x.index≠0∨pd (dw x.type)=false∨x.args.length≠2 by rcases E with((h|h)|h)|h;exact .inl h;exact .inr (.inl h);exact .inr (.inr (.inl h));exact .inr (.inr (.inr zE)))]at g;refine g3 ?_;refine St.ee (Ev.nY (j3 l 5 n) rz (.mk rfl) (.ay rfl) (cm.aU cm.nil)) ?_;refine g7 ?_;refine St.rV [_] [tI e [iv ((n+1):Nat)] 3,tI f [(.func (.func 159) #[] [tW e,tW f].toArray)] i] ?_;rw[g,aB (by decide)];exact⟨rfl,rfl⟩
      ·simp only[Bool.or_eq_true,Bool.or_eq_false_iff,Bool.not_eq_true',Bool.not_eq_false',decide_eq_true_eq,decide_eq_false_iff_not,beq_iff_eq,beq_eq_false_iff_ne]at E
       obtain⟨⟨⟨D,I⟩,m⟩,T⟩:=E;obtain⟨y,z,hy⟩:=A5 (show x.args.length=2 by omega);rw[aA (show ¬(x.name≠ []∨x.index≠0∨pd (dw x.type)=false∨x.args.length≠2) by rintro (h|h|h|h);exact h (by simpa using D);omega;rw[m]at h;cases h;omega),aA (by decide),aA (by decide),hy,eV,eV,jz,SC]at g;refine St.cN iV x.args (x:=y) (by rw[hy];simp) ?_;refine St.cN iV x.args (x:=z) (by rw[hy];simp) ?_
       have hle:=aaC (dx y) (d+1) b (n+1) zE
       have U:x.args.length=2:=by rw[hy];rfl
       refine g4 ?_;refine St.dZ [tI e [iv ((n+1):Nat)] 3,tI f [(.func (.func 159) #[] [tW e,tW f].toArray)] i,aD (iV y)] mixed (λL M=> ?_)
       repeat' first
        |with_reducible refine SW.me ?_
         first
          |refine SW.gd 1 ?_
          |refine SW.gd 2 ?_
          |refine SW.dd 3 rfl (λ_=>Ev.cM (k:=0) (.mk rfl) (.mk rfl) rf rY rfl zE) ?_
          |refine SW.dd 4 rfl (λ_=>Ev.j2 (.mk rfl) (show x.args[0]?=some y by rw[hy];rfl) BA trivial rY gX.eq) ?_
          |refine SW.gd 5 ?_
          |refine SW.gd 6 ?_
           refine SW.slot 149 (iv ((d+1:Nat):Int)) rfl rfl ?_
          |refine SW.gd 7 ?_
          |refine SW.t2 0 9 ?_ ?_
          |refine SW.t2 8 9 ?_ ?_
          |refine SW.t1 9 ?_
          |refine SW.t1 10 ?_
          |refine SW.t1 8 ?_
          |refine SW.t1 0 ?_
        |with_reducible refine SW.tg 0 ?_
         refine g3 ?_;refine SW.go ?_
        |with_reducible refine SW.tg 8 ?_
         refine St.fg (F y (by rw[hy];simp) (d+1) b (n+1) (G y (by rw[hy];simp)) zE zE zE) KV (.mk rfl) (.fk rfl rfl rfl) rfl ?_;rintro V _ ⟨rfl,rfl⟩;refine St.mZ ?_;refine g2 ?_;refine SW.go ?_
        |with_reducible refine SW.tg 9 ?_
         refine St.al (λb11=> ?_);refine g2 ?_;refine SW.go ?_
        |with_reducible refine SW.tg 10 ?_
         refine g3 ?_;refine SW.go ?_
       all_goals refine SW.dn ?_
       all_goals
        refine g8 ?_;refine St.cq (λr=> ?_) (λr=> ?_)
        ·rw[aB (show(lW (dx y) (d+1) b (n+1)).2.1≠0 by simpa using r)]at g
         refine g10 ?_;refine St.rV [_] [tI e [iv ((lW (dx y) (d+1) b (n+1)).1:Nat)] 3,tI f [(.func (.func 159) #[] [tW e,tW f].toArray)] i] ?_
         rw[g];exact⟨rfl,rfl⟩
        ·have N:(lW (dx y) (d+1) b (n+1)).2.1=0:=by simpa using r
         have hok:=(SF (dx y) (d+1) b (n+1) N).1
         rw[aA (by rw[N];decide)]at g;refine g3 ?_;refine St.dZ [tI e [iv ((lW (dx y) (d+1) b (n+1)).1:Nat)] 3,tI f [(.func (.func 159) #[] [tW e,tW f].toArray)] i,aD (iV z),tI K [iv 0,iv 0] 39] mixed (λL M=> ?_);refine SW.gd 1 ?_;refine SW.gd 2 ?_;refine SW.dd 3 rfl (λ_=>Ev.cM (k:=1) (.mk rfl) (.mk rfl) rf rY rfl zE) ?_;refine SW.dd 4 rfl (λ_=>Ev.j2 (.mk rfl) (show x.args[1]?=some z by rw[hy];rfl) BA trivial rY gX.eq) ?_;refine SW.gd 5 ?_;refine SW.gd 6 ?_;refine SW.slot 162 (iv ((d+1:Nat):Int)) rfl rfl ?_;refine SW.gd 7 ?_;refine SW.t1 0 ?_;refine g3 ?_;refine SW.go ?_;refine SW.t1 8 ?_;refine St.fg (F z (by rw[hy];simp) (d+1) b (lW (dx y) (d+1) b (n+1)).1 (G z (by rw[hy];simp)) zE zE zE) KV (.mk rfl) (.fk rfl rfl rfl) rfl ?_;rintro v164 _ ⟨rfl,rfl⟩;refine St.mZ ?_;refine g2 ?_;refine SW.go ?_;refine SW.t1 9 ?_;refine g3 ?_;refine SW.go ?_;refine SW.dn ?_;refine g4 ?_;refine St.rV [_] [tI e [iv ((lW (dx z) (d+1) b (lW (dx y) (d+1) b (n+1)).1).1:Nat)] 3,tI f [(.func (.func 159) #[] [tW e,tW f].toArray)] i] ?_
         rw[g];exact⟨rfl,rfl⟩
     ·rw[tm5 s B p J]at g
      refine g3 ?_;refine St.ee (Ev.nY (j3 l 4 n) rz (.mk rfl) (.ay rfl) (cm.aU cm.nil)) ?_;refine g6 ?_;refine St.rV [_] [tI e [iv ((n+1):Nat)] 3,tI f [(.func (.func 159) #[] [tW e,tW f].toArray)] i] ?_;rw[g,aB (by decide)];exact⟨rfl,rfl⟩
  all_goals
   refine g4 ?_;refine St.ee (Ev.build (bC.nil) (λw=>fC w)) ?_;refine g4 ?_;refine St.rV [_] [tI e [iv ((n+1):Nat)] 3,tI f [(.func (.func 159) #[] [tW e,tW f].toArray)] i] ?_;rw[g];exact⟨rfl,rfl⟩
end Go.Proofs.YtiefglecbgdaiaaGreatDoor
namespace Go.J
open Go
section
variable {P:Program}{n:Nat}{F:Fr}{A:World→Prop}{c:Ctx}{H R:List ai}{ty:TypeId}{x y z:Operand}{v:Value}{Q:Exit→Act→World→Prop}{ops:Array Oper}{rest:List Oper}
 {d:Nat} {pos:String} {after:Array Edge} {t e:TypeId} {size m:Nat} {cs:List Value}
theorem Ev.sj {i:Int}{l:Nat}{o:IntKind}{h:Operand}[p:tJ v H e size m cs](hx:aX F x v)(b:aX F h (.int o i))(ht:P.underlying t=some (.slice e))(q:(P.info? e).map (·.size)=some size)
 (r:i=l) (s:l≤m):Ev P n F (Mm c H) (.slice t x (some h) none none) ty (mX v size l m):= .of_run λa w d hw=>by
 obtain⟨ρ,hm⟩:=hw.out;obtain⟨inf,j,k⟩:=dX.1 q;subst r
 rcases(hm.row p).2 with⟨rfl,rfl⟩|⟨g,cap,cur,rfl,_,_,u,_⟩
 ·have f:(0:Int)≤(l:Int)∧(l:Int)≤((0:Nat):Int):=by omega
  simp only[execOp,hx.eval d,b.eval d,Option.map_some,Option.map_none,Instr.sliceAt,Instr.slice,Instr.sliceBounds,Instr.sliceBound,asIntOf,Sem.run_bind,run_underlying ht,Result.andThen_ok,Sem.run_pure,f,and_self,if_true,Int.toNat_natCast,sizeOf,typeInfo,run_program,j,k,eQ]
 ·have f:(0:Int)≤(l:Int)∧(l:Int)≤(m:Int):=by omega
  simp only[execOp,hx.eval d,b.eval d,Option.map_some,Option.map_none,Instr.sliceAt,Instr.slice,Instr.sliceBounds,Instr.sliceBound,asIntOf,Sem.run_bind,run_underlying ht,Result.andThen_ok,Sem.run_pure,f,and_self,if_true,Int.toNat_natCast,sizeOf,typeInfo,run_program,j,k,eQ]
theorem Ev.ZJ {d:TypeId}{l h:Nat}[f:tJ v H e size m cs](hx:aX F x (mX v size l h))(ht:P.underlying t=some (.slice d)):
 Ev P n F (Mm c H) (.call {callee:= .builtin .len,args:= #[x],argTypes:= #[t]}) ty (iv ((h-l:Nat))):= .of_run λa w b hw=>by
 obtain⟨ρ,hm⟩:=hw.out
 rcases(hm.row f).2 with⟨rfl,rfl⟩|⟨g,cap,cur,rfl,_⟩
 ·rw[eQ]at hx
  simp[execOp,resolve,invoke,builtin,hx.eval b,Builtin.len_,run_underlying ht,goInt]
 ·rw[eQ]at hx
  simp[execOp,resolve,invoke,builtin,hx.eval b,Builtin.len_,run_underlying ht,goInt]
theorem Ev.sV {i:Int}{kd:IntKind}{j l h:Nat}[d:tJ v H e size m cs](hx:aX F x (mX v size l h))(hy:aX F y (.int kd i))(ht:P.underlying t=some (.slice e))(f:(P.info? e).map (·.size)=some size)
 (k:i=j) (r:l+j<h) (s:h≤m):Ev P n F (Mm c H) (.indexAddr t x y) ty (gx v size (l+j) 0):= .of_run λa w b hw=>by
 obtain⟨ρ,hm⟩:=hw.out
 rcases(hm.row d).2 with⟨rfl,rfl⟩|⟨g,cap,cur,rfl,_,_,u,_⟩
 ·omega
 ·obtain⟨inf,o,p⟩:=dX.1 f
  subst k
  have hk:j<h-l:=by omega
  have q:¬cap=l:=by omega
  rw[eQ,aA q]at hx
  simp only[Option.map_some,Addr.add_lit,Nat.zero_add]at hx
  simp[execOp,hx.eval b,hy.eval b,Instr.indexAt,asIntOf,run_underlying ht,sizeOf,typeInfo,o,p,hk,dY,Addr.add_lit,Nat.add_mul]
theorem S5 {α:Type}{A B C:List α}{m:Nat}(h:A.length+B.length=m):(A++B++C).take m=A++B:=by
 rw[List.take_append_of_le_length (by rw[bJ];omega),dV (by rw[bJ];omega)]
theorem sC (b:Nat){e:TypeId}{fr:Nat×Nat}:∀(vs:List Value) (o:Nat) (w:World) (C:List Value),w.heap[b]?=some (.cells C.toArray e fr)→o+vs.length≤C.length→
 (w.setCells b o vs).heap[b]?=some (.cells (C.take o++vs++C.drop (o+vs.length)).toArray e fr)∧(w.setCells b o vs).heap.size=w.heap.size∧(∀k,k≠b→(w.setCells b o vs).heap[k]?=w.heap[k]?)∧
 (w.setCells b o vs).os=w.os∧(w.setCells b o vs).tape=w.tape∧(w.setCells b o vs).drawn=w.drawn∧(w.setCells b o vs).output=w.output
 | [],o,w,C,h,_=>by simp[World.setCells,h]
 |u::vs,o,w,C,h,c=>by
  simp only[List.length_cons]at c
  have h1:(w.setCell ⟨b,o,none⟩ u).heap[b]?=some (.cells (C.set o u).toArray e fr):=by
   simp[World.setCell,Array.getElem?_modify,h]
  have d:∀k,k≠b→(w.setCell ⟨b,o,none⟩ u).heap[k]?=w.heap[k]?:=by
   intro k hk
   simp only[World.setCell,Array.getElem?_modify]
   rw[aA (λe=>hk e.symm)]
  have a:=sC b vs (o+1) (w.setCell ⟨b,o,none⟩ u) (C.set o u) h1 (by rw[eC];omega)
  rw[World.setCells];refine⟨?_,by rw[a.2.1];simp[World.setCell],λk hk=>by rw[a.2.2.1 k hk,d k hk],by rw[a.2.2.2.1];rfl,by rw[a.2.2.2.2.1];rfl,by rw[a.2.2.2.2.2.1];rfl,by rw[a.2.2.2.2.2.2];rfl⟩;rw[a.1]
  congr 2
  simp only[List.length_cons]
  rw[List.drop_set_of_lt zE,show o+1+vs.length=o+(vs.length+1) by omega]
  have:(C.set o u).take (o+1)=C.take o++ [u]:=by
   rw[HW (by rw[eC];omega),List.take_set_of_le (aQ _)]
   simp
  rw[this]
  simp
theorem St.Eu {b:Value}{l:Nat}{o:List ai}[D:jH v H e 1 m cs o](hx:aX F x (mX v 1 l m))(ht:P.underlying t=some (.slice e))(hz:(P.info? e).bind (·.zero)=some b)(E:b.cells= #[b])(h1:b.oneCell'=true)(hl:l≤m){dd:Option Tmp}(hd:dd=none)
 (h:St n F (Mm c (row v e 1 m (cs.take l++List.replicate (m-l) b)::o)) (wpList P ops Q rest)):
 St n F (Mm c H) (wpList P ops Q ({dst:=dd,op:= .call {callee:= .builtin .clear,args:= #[x],argTypes:= #[t]},type:=ty,pos:=pos,after:=after,guard:=none}::rest)):=by
 subst hd;refine St.p9 (K:=λu' H'=>H'=row v e 1 m (cs.take l++List.replicate (m-l) b)::o) ?_ ?_
 ·intro a w ρ p hm
  have d:=hm.perm D.perm
  have A:=dP.1 (d.dC _ (aV ..))
  obtain⟨i,G,q⟩:=o6.1 hz
  have I:∀w,(zeroValue e).run P w= .ok b w:=λw=>by simp[zeroValue,typeInfo,G,q]
  have B:=A.1
  rw[e8]at B
  have hlen:(cs.take l++List.replicate (m-l) b).length=m*1:=by rw[bJ,cy,nO];omega
  rcases A.2 with⟨rfl,rfl⟩|⟨g,cap,cur,rfl,J,r,L,M,N,O⟩
  ·obtain rfl:l=0:=by omega
   have s:cs=[]:=gg B
   subst s;rw[eQ]at hx;refine⟨.value (.tuple #[]),w,ρ,_,?_,⟨_,.inl rfl,rfl⟩,?_⟩
   ·simp[execOp,resolve,invoke,builtin,hx.eval p,Builtin.clear_,run_underlying ht]
   ·simpa using d
  ·rcases cJ l m with u|u
   ·have f:¬cap=l:=by omega
    rw[eQ,aA f]at hx
    simp only[Option.map_some,Addr.add_lit,Nat.zero_add,Nat.mul_one]at hx
    have R:∀off,w.cell? ⟨g,off,none⟩=cur[off]?:=λoff=>cG r
    rw[e8]at N
    have S:=Lib.run_clear_slice (P:=P) w t e ty b ht I E h1 g l (m-l) (cap-l) zE (λj T=>by rw[R,WK zE];rfl) (λj T=>by simp[World.frozen?,r])
    obtain⟨U,V,k3,W,X,Y,Z⟩:=sC g (List.replicate (m-l) b) l w cur.toList (by rw[r]) (by rw[nO,Array.length_toList];omega);refine⟨.value (.tuple #[]),w.setCells g l (List.replicate (m-l) b),ρ,_,?_,⟨_,.inl rfl,rfl⟩,?_⟩
    ·simp[execOp,resolve,invoke,builtin,hx.eval p,S]
    ·refine d.alter W ⟨X,by rw[Y];exact aQ _⟩ Z (by rw[V];exact aQ _) (λk hk f=> ?_) (dP.2 ⟨hlen,.inr ⟨g,cap,_,rfl,J,U,L,M,?_,?_⟩⟩) (λb' C=>by rw[dF]at C⊢;exact .inl C)
     ·rw[dF]at f
      exact k3 k (λe=>f (by rw[e];rfl))
     ·simp only[List.size_toArray,List.length_append,List.length_take,List.length_replicate,List.length_drop,Array.length_toList];omega
     ·have y:cur.toList.take m=cs:=by simpa using O
      show(cur.toList.take l++List.replicate (m-l) b++cur.toList.drop (l+(List.replicate (m-l) b).length)).take (m*1)=_
      rw[S5 (by rw[cy,nO,Array.length_toList];omega)];rw[←y,List.take_take,gB (show l≤m by omega)]
   ·obtain rfl:l=m:=by omega
    rw[eQ,eX]at hx;refine⟨.value (.tuple #[]),w,ρ,_,?_,⟨_,.inl rfl,rfl⟩,?_⟩
    ·have hx2:∃ad,aX F x (.slice ad 0 (cap-l)):=⟨_,hx⟩
     obtain⟨ad,z⟩:=hx2
     cases ad<;>simp[execOp,resolve,invoke,builtin,z.eval p,Builtin.clear_,run_underlying ht]
    ·have:cs.take l++List.replicate (l-l) b=cs:=by rw[eX,List.replicate_zero,fV,dV zE]
     rw[this];exact d
 ·rintro _ _ rfl
  exact h
end
section
variable {P:Program}{n:Nat}{F:Fr}{A:World→Prop}{c:Ctx}{H R:List ai}{ty:TypeId}{x y z:Operand}{v:Value}{Q:Exit→Act→World→Prop}{ops:Array Oper}{rest:List Oper}
 {d:Nat} {pos:String} {after:Array Edge} {t e:TypeId} {size m:Nat} {cs:List Value}
def Ew:Value→Value
 | .slice a m _=> .slice a m m
 |v=>v
theorem Ev.clip {α:Type}{Rr:Rp α}{xs:List α}{i j:Int}{g kj:IntKind}{d f:Operand}[hd:sP v H α Rr xs](hx:aX F x v)(h:aX F d (.int g i))(hm:aX F f (.int kj j))(ht:P.underlying t=some (.slice e))(k:(P.info? e).map (·.size)=some Rr.size)
 (h1:i=xs.length) (l:j=xs.length):Ev P n F (Mm c H) (.slice t x none (some d) (some f)) ty (Ew v):= .of_run λa w b hw=>by
 obtain⟨ρ,m⟩:=hw.out;obtain⟨inf,o,p⟩:=dX.1 k;obtain⟨ad,cap,rfl,s,_⟩:=m.sl hd;subst h1 l
 have q:(0:Int)≤(xs.length:Int)∧(xs.length:Int)≤(cap:Int):=by omega
 have r:(0:Int)≤(xs.length:Int)∧(xs.length:Int)≤(xs.length:Int):=by omega
 simp only[execOp,hx.eval b,h.eval b,hm.eval b,Option.map_some,Option.map_none,Instr.sliceAt,Instr.slice,Instr.sliceBounds,Instr.sliceBound,asIntOf,Sem.run_bind,run_underlying ht,Result.andThen_ok,Sem.run_pure,q,r,and_self,if_true,Int.toNat_natCast,sizeOf,typeInfo,run_program,o,p,Ew,Nat.sub_zero,Nat.zero_mul]
 cases ad with
 |none=>simp
 |some a=>simp[Addr.add_zero']
theorem St.sQ {α:Type}{Rr:Rp α}{xs:List α}{v2:Value}{m2:Nat}{news:List Value}{m:Value}{wQ:Nat}[t2:jH v2 H e Rr.size m2 news R][t1:sP v H α Rr xs]
 (hx:aX F x (Ew v)) (hy:aX F y v2) (ht:P.underlying t=some (.slice e)) (B:(P.info? e).map (·.size)=some Rr.size) (hz:(P.info? e).bind (·.zero)=some m) (o:(P.info? e).map (·.bytes)=some wQ)
 (akY:∀u∈news,u.oneCell'=true) (hlen:xs.length+m2≤9223372036854775807) (O:(xs.length+m2)*wQ≤140737488355328) (S:m.cells.size=Rr.size) (ad5:Nat.ble 1 Rr.size=true) (T:Nat.ble 1 m2=true) (hd:Nat.ble (d+1) n=true)
 (h:∀v',v'.oneCell'=true→St n ((d,v')::F) (Mm c (row v' e Rr.size (xs.length+m2) (rows Rr xs++news)::R)) (wpList P ops Q rest)):
 St n F (Mm c H) (wpList P ops Q ({dst:=some d,op:= .call {callee:= .builtin .append,args:= #[x,y],argTypes:= #[t,t]},type:=ty,pos:=pos,after:=after,guard:=none}::rest)):=by
 refine St.PS (K:=λv' H'=>v'.oneCell'=true∧H'=row v' e Rr.size (xs.length+m2) (rows Rr xs++news)::R) ?_ hd ?_
 ·intro a w ρ D hm
  have E:=hm.perm t2.perm
  have p:=dP.1 (E.dC _ (aV ..))
  obtain⟨ad,cap,rfl,_,_,_,f⟩:=hm.sl t1
  have U:=eI T
  obtain⟨i,q,hsz⟩:=dX.1 B;obtain⟨G,I,V⟩:=og B hz o q
  rcases p.2 with⟨_,rfl⟩|⟨g2,r,W,rfl,_,s,X8,hc2,X,Y⟩
  ·omega
  ·have J:∀j u,news[j]?=some u→w.cell? ((⟨g2,0,none⟩:Addr).add j)=some u:=λj u l=>by
    rw[Addr.add_lit,iW,cG s];rw[←Y,om]at l
    split at l
    ·simpa using l
    ·simp at l
   have z:xs.length+m2≤9223372036854775807:=hlen
   have L:(xs.length+m2)*i.bytes≤140737488355328:=by rw[V];exact O
   have Z:(rows Rr xs).length=xs.length*i.size:=by rw[fM,G]
   have M:news.length=m2*i.size:=by rw[p.1,G]
   have vO:∃(g:Nat),(Builtin.append_ #[t,t] ty #[Ew (.slice ad xs.length cap),tO g2 m2 r]).run P w= .ok (.slice (some ⟨w.heap.size,0,none⟩) (xs.length+m2) g) (w.drew.alloc (.cells ((rows Rr xs).toArray++news.toArray++Builtin.zeroCells m.cells (g-(xs.length+m2))) e))∧xs.length+m2≤g∧g≤maxLen:=by
    cases ad with
    |none=>
     rcases f with f|⟨b,off,C,e',fr,f,_⟩
     ·subst f
      refine⟨grownCap w (([]:List α).length+m2) 0 e,?_,grownCap_ge ..,grownCap_le_maxLen _ _ _ _ (by unfold maxLen;omega)⟩
      have hr:=run_append_nil (P:=P) w t ty e i m ht q I ⟨g2,0,none⟩ m2 r news M J zE (by simp at z;omega) (by simp at L;omega)
      simpa[Ew,rows]using hr
     ·cases f
    |some ad=>
     refine⟨grownCap w (xs.length+m2) xs.length e,?_,grownCap_ge ..,grownCap_le_maxLen _ _ _ _ (by unfold maxLen;omega)⟩;refine run_append_grow (P:=P) w t ty e i m ht q I ad xs.length xs.length (rows Rr xs) Z (λj u l=> ?_) ⟨g2,0,none⟩ m2 r news M J zE zE (growslice_fits zE L)
     rcases f with f|⟨b,off,C,e',fr,f,h6,h7⟩
     ·subst f;simp[rows]at l
     ·cases f
      rw[Addr.add_lit,cG (hm.fits _ _ h6)];exact h7 j u l
   obtain⟨g,aiW,hc3,A⟩:=vO;refine⟨.value (.slice (some ⟨w.heap.size,0,none⟩) (xs.length+m2) g),w.drew.alloc (.cells ((rows Rr xs).toArray++news.toArray++Builtin.zeroCells m.cells (g-(xs.length+m2))) e),ρ,_,?_,⟨_,.inl rfl,rfl,rfl⟩,?_⟩
   ·simp[execOp,resolve,invoke,builtin,hx.eval D,hy.eval D,aiW]
   ·have N:(rows Rr xs++news).length=(xs.length+m2)*Rr.size:=by rw[bJ,p.1,fM,ji]
    refine E.drop.GG rfl ⟨rfl,Nat.le_succ _⟩ rfl (by simp) (λk hk=>heap_alloc_old w.drew _ hk) (dP.2 ⟨N,.inr ⟨w.heap.size,g,_,rfl,aP _,heap_alloc_new w.drew _,hc3,A,?_,?_⟩⟩) ?_
    ·simp only[Array.size_append,List.size_toArray,size_zeroCells,S,fM,p.1,←Nat.add_mul]
     congr 1
     omega
    ·simp only[Array.toList_append,List.append_assoc]
     rw[←cr,←N];exact List.take_left
    ·intro b o;rw[dF]at o;simp[Value.ownBlock]at o;omega
 ·rintro _ _ ⟨h1,rfl⟩
  exact h _ h1
end
end Go.J
namespace Go.Proofs.YtiefglecbgdaiaaGreatDoor
open Go Go.J Tryz
theorem Jv (x:dg):(dx x).type=dw x.type:=by cases x;rfl
theorem H4 (x:dg):(dx x).index=x.index:=by cases x;rfl
theorem rI {a b:Option jQ}{s1 s2:jQ}{c d:Bool}(h1:c=true→a=some s1)(e:c=false→a=none)(g:d=true→b=some s2)(f:d=false→b=none)
 (h:c=true→d=true→∀p q,s1.args=[p,q]→l9 p s2=true→False):I4 a b=none:=by
 cases c with
 |false=>rw[e rfl];rfl
 |true=>
  cases d with
  |false=>
   rw[f rfl];unfold I4
   split
   ·contradiction
   ·rfl
  |true=>
   rw[h1 rfl,g rfl]
   refine MN _ _ λs l x i e2 j=> ?_
   cases i;cases j
   rintro ⟨p,q,rfl,k⟩;exact h rfl rfl p q e2 k
theorem Mi {l:List fy}{p q:fy}(h:l=[p,q]):l[0]?=some (l.headD vq):=by rw[h];rfl
section
variable {n:Nat}{F:Fr}{c:Ctx}{H:List ai}{T:Act→World→Prop}
theorem St.Ut (l:List fy)[hd:tH (aL fZ l) H](k:St n F (Mm c (aD (fZ (l.headD vq))::H)) T):St n F (Mm c H) T:=
 St.gW (fZ (l.headD vq)) [aL fZ l] (λρ h=>by
  cases l with
  |nil=>exact .mk (x:=vq) (j1 mf ρ) (λy hy=>by cases hy)
  |cons p l=>exact h _ (aV ..) p (aV ..)) k
end
theorem K0:∀(x:dg) (ctx:List fy) (v:Value) (d:Nat),Tb (dx x) d ctx.length→nI.wf x→ctx.length≤d→dR prog 163 #[wh x,v] ([iV x,sl mf v ctx,aL fZ ctx].map aD) (λr H'=>∃(s:fy) (b:Bool),r= .tuple #[uV s,.bool b]∧mf.wf s∧(b=true→xV (dx x) (ctx.map dw)=some (dw s))∧(b=false→xV (dx x) (ctx.map dw)=none)∧H'=[aD (fZ s)]):=by
 intro x
 induction x using dg.ind
 rename_i x T
 intro ctx v d a hw hcl;refine dR.body (args:=[wh x,v]) 101 func163 rfl ntmps163 rfl (λc=> ?_);refine St.cast (H':=[aD (iV x),aD (sl mf v ctx),aD (aL fZ ctx)]) rfl ?_;refine go ?_;obtain⟨akR,Y,hk⟩:=a.inv;rw[Lq]at Y
 have hinv:=Nc Y
 rw[sq,su]at hk
 have i:=W7 (dx x) (ctx.map dw)
 rw[su,sq,Jv,H4,aR]at i;refine St.GN x ?_;refine St.wf x.av.1 (λU TI=> ?_);refine St.wf v (λJ hcx=> ?_);refine go ?_;refine St.cW (.mk rfl) rfl (λK=> ?_);refine St.al (λb4=> ?_);refine g17 ?_;refine St.cond _ rfl (λL=> ?_) (λL=> ?_)
 focus
  skip
  try simp only[bj]at L
  rw[aB L]at i;refine g3 ?_;refine St.ee (Ev.iz 2 (.mk rfl) re trivial mQ rfl rfl) ?_;refine St.slot 18 (uV x.type) rfl rfl ?_;refine g7 ?_;refine St.rV [_,_] [aD (fZ x.type)] ?_;exact⟨x.type,true,rfl,hw.2.2.2,(λ_=>i),((λj=>by cases j)),rfl⟩
 focus
  skip
  try simp only[bj]at L
  rw[aA L]at i;refine g6 ?_;refine St.cond _ rfl (λM=> ?_) (λM=> ?_)
  focus
   skip
   try simp only[bj]at M
   rw[aB M]at i;obtain⟨s,G⟩:=aF (show ctx.length-1-x.index.toNat<ctx.length by omega);refine St.cN fZ ctx (x:=s) (aa G) ?_;refine g9 ?_;refine St.ee (Ev.cM (k:=(ctx.length-1-x.index.toNat)) (.mk rfl) (.mk rfl) mi mQ zE zE) ?_;refine St.ee (Ev.j2 (.mk rfl) G re trivial mQ gX.eq) ?_;refine g7 ?_;refine St.rV [_,_] [aD (fZ s)] ?_;exact⟨s,true,rfl,J s (aa G),(λ_=>by rw[i,aw,G];rfl),((λj=>by cases j)),rfl⟩
  focus
   skip
   try simp only[bj]at M
   rw[aA M]at i;refine g6 ?_;refine St.cond _ rfl (λD=> ?_) (λD=> ?_)
   focus
    skip
    try simp only[bj]at D
    rw[aB D]at i;obtain⟨y,hy⟩:=GM (show x.args.length=1 by omega)
    have h1l:x.args.length=1:=by omega
    have o:y∈x.args:=by rw[hy];simp
    have n:=hk (dx y) (di o)
    rw[aB D]at n;refine St.cN iV x.args (x:=y) o ?_;rw[hy,eV,jz,ud]at i;refine go ?_;refine St.qe [] mixed (λf g=> ?_);refine SW.gd 0 ?_;refine SW.gd 1 ?_;refine SW.gd 2 ?_;refine SW.gd 3 ?_;refine SW.gd 4 ?_;refine SW.dd 5 rfl (λ_=>Ev.clip (.mk rfl) (.mk rfl) (.mk rfl) mi mQ rfl rfl) ?_;refine SW.gd 6 ?_;refine SW.dd 7 rfl (λ_=>Ev.iz 2 (.mk rfl) re trivial mQ rfl rfl) ?_;refine SW.slot 39 (uV x.type) rfl rfl ?_;refine SW.t1 8 ?_;refine St.hS rfl (.ay rfl) mi mQ aaW rfl rfl (by simp[Value.cells]) rfl rfl (λb40=> ?_);refine g2 ?_;refine SW.go ?_;refine SW.t1 9 ?_;refine St.sQ (.mk rfl) (.mk rfl) mi mQ aaW agU (SP (p:=λu:Value=>u.oneCell'=true) rfl x.type.av.2) zE zE rfl rfl rfl rfl (λv41 alA=> ?_);refine St.bI v41 mf (ctx++ [x.type]) (by simp[rows];rfl) (by simp) (λu hu=>(List.mem_append.1 hu).elim (J u) (λh=>by rw[List.mem_singleton.1 h];exact hw.2.2.2)) ?_;refine St.yi fZ (xs:=ctx) (x:=x.type) ?_;refine g2 ?_;refine SW.go ?_;refine SW.gd 10 ?_;refine SW.dn ?_;refine g5 ?_;refine St.ee (Ev.cM (k:=0) (.mk rfl) (.mk rfl) rf rY rfl zE) ?_;refine St.ee (Ev.j2 (.mk rfl) (show x.args[0]?=some y by rw[hy];rfl) BA trivial rY gX.eq) ?_;refine go ?_;refine St.dt (T y o (ctx++ [x.type]) v41 (d+1) (by rw[←cH];exact n) (U y o) (by rw[←cH];omega)) KX (.ah rfl rfl) rfl ?_;rintro v48 _ ⟨s,H,rfl,N,E,I,rfl⟩;refine St.eZ ?_;refine g3 ?_;refine St.al (λb7=> ?_);refine g7 ?_;refine St.ee (Ev.iz 2 (.mk rfl) re trivial mQ rfl rfl) ?_;refine St.slot 52 (uV x.type) rfl rfl ?_;refine go ?_;refine St.hS rfl (.ah rfl rfl) mi mQ aaW rfl rfl (by simp[Value.cells]) rfl rfl (λt=> ?_);refine St.bI (tO t 2 2) mf [x.type,s] rfl rfl (SP hw.2.2.2 N) ?_;refine St.ea fZ ?_;refine St.FE fZ (xs:=[]) (x:=s) ?_;refine St.FE fZ (xs:=[s]) (x:=x.type) ?_;refine St.G9 [] (tO t 2 2) rfl [x.type,s] ?_;refine St.ee (Ev.build (bC.ay rfl) (λw=>Ts rfl w)) ?_;refine g8 ?_;refine St.rV [_,_] [aD (fZ (.mk [] ⟨(tO t 2 2),rfl⟩ [x.type,s]))] ?_;exact⟨(.mk [] ⟨(tO t 2 2),rfl⟩ [x.type,s]),H,rfl,aP _,(λj=>by rw[i,show xV (dx y) (ctx.map dw++ [dw x.type])=some (dw s) by rw[←E j,cL];rfl,Vk];rfl),(λj=>by rw[i,show xV (dx y) (ctx.map dw++ [dw x.type])=none by rw[←I j,cL];rfl];rfl),rfl⟩
   focus
    skip
    try simp only[bj]at D
    rw[aA D]at i;obtain⟨y,z,hy⟩:=A5 (show x.args.length=2 by omega)
    have h2l:x.args.length=2:=by omega
    have o:y∈x.args:=by rw[hy];simp
    have A:z∈x.args:=by rw[hy];simp
    have n:=hk (dx y) (di o)
    have O:=hk (dx z) (di A)
    rw[aA D]at n O;refine St.cN iV x.args (x:=y) o ?_;refine St.cN iV x.args (x:=z) A ?_;rw[hy,eV,eV,jz,ud,HF]at i;refine go ?_
 all_goals
  refine g6 ?_;refine St.ee (Ev.cM (k:=0) (.mk rfl) (.mk rfl) rf rY rfl zE) ?_;refine St.ee (Ev.j2 (.mk rfl) (show x.args[0]?=some y by rw[hy];rfl) BA trivial rY gX.eq) ?_;refine go ?_;refine St.dt (T y o ctx v (d+1) n (U y o) zE) KX (.ah rfl rfl) rfl ?_;rintro v63 _ ⟨s1,H,rfl,N,E,I,rfl⟩;refine St.eZ ?_;refine g3 ?_;refine St.al (λb9=> ?_);refine g8 ?_;refine St.ee (Ev.cM (k:=1) (.mk rfl) (.mk rfl) rf rY rfl zE) ?_;refine St.ee (Ev.j2 (.mk rfl) (show x.args[1]?=some z by rw[hy];rfl) BA trivial rY gX.eq) ?_;refine go ?_;refine St.dt (T z A ctx v (d+1) O (U z A) zE) KX (.ah rfl rfl) rfl ?_;rintro v72 _ ⟨s2,K,rfl,ak3,P,B,rfl⟩;refine St.eZ ?_;refine g3 ?_;refine St.al (λb11=> ?_);refine g6 ?_;refine St.uH s1 ?_;refine St.wf s1.av.1 (λV hpl=> ?_);refine St.Ut s1.args ?_;refine St.dZ [] mixed (λf g=> ?_);refine SW.gd 0 ?_;refine SW.gd 1 ?_;refine SW.gd 2 ?_;refine SW.split 77 _ rfl (λQ=> ?_) (λQ=> ?_)
  ·refine SW.gf 3 undef f g rfl rfl rfl (λR a=>by cases a) (by kernel_rfl) rfl ?_
   refine SW.slot 78 undef rfl (bF rfl _) ?_;refine SW.gf 4 undef f g rfl rfl rfl (λR a=>by cases a) (by kernel_rfl) rfl ?_;refine SW.slot 79 undef rfl (bF rfl _) ?_;refine SW.dd 5 rfl (λ_=>Ev.jt (.mk rfl) rfl (.mk rfl)) ?_;refine SW.gd 6 ?_;refine SW.slot 81 (.bool true) rfl (congrArg Value.bool rfl) ?_;refine SW.gf 7 undef f g rfl rfl rfl (λR a=>by cases a) (by kernel_rfl) rfl ?_;refine SW.slot 82 undef rfl (bF rfl _) ?_;refine SW.gf 8 undef f g rfl rfl rfl (λR a=>by cases a) (by kernel_rfl) rfl ?_;refine SW.slot 83 undef rfl (bF rfl _) ?_;refine SW.gf 9 undef f g rfl rfl rfl (λR a=>by cases a) (by kernel_rfl) rfl ?_;refine SW.slot 84 undef rfl (bF rfl _) ?_;refine SW.gf 10 undef f g rfl rfl rfl (λR a=>by cases a) (by kernel_rfl) rfl ?_;refine SW.slot 85 undef rfl (bF rfl _) ?_;refine SW.dd 11 rfl (λ_=>Ev.jt (.mk rfl) rfl (.mk rfl)) ?_;refine SW.gd 12 ?_;refine SW.slot 87 (.bool true) rfl (congrArg Value.bool rfl) ?_;refine SW.gf 13 undef f g rfl rfl rfl (λR a=>by cases a) (by kernel_rfl) rfl ?_;refine SW.slot 88 undef rfl (bF rfl _) ?_;refine SW.gf 14 undef f g rfl rfl rfl (λR a=>by cases a) (by kernel_rfl) rfl ?_;refine SW.slot 89 undef rfl (bF rfl _) ?_;refine SW.gf 15 undef f g rfl rfl rfl (λR a=>by cases a) (by kernel_rfl) rfl ?_;refine SW.slot 90 undef rfl (bF rfl _) ?_;refine SW.gf 16 undef f g rfl rfl rfl (λR a=>by cases a) (by kernel_rfl) rfl ?_;refine SW.slot 91 undef rfl (bF rfl _) ?_;refine SW.gf 17 undef f g rfl rfl rfl (λR a=>by cases a) (by kernel_rfl) rfl ?_;refine SW.slot 92 undef rfl (bF rfl _) ?_;refine SW.gf 18 undef f g rfl rfl rfl (λR a=>by cases a) (by kernel_rfl) rfl ?_;refine SW.slot 93 undef rfl (bF rfl _) ?_;refine SW.gf 19 undef f g rfl rfl rfl (λR a=>by cases a) (by kernel_rfl) rfl ?_;refine SW.slot 94 undef rfl (bF rfl _) ?_;refine SW.dd 20 rfl (λ_=>Ev.jt (.mk rfl) rfl (.mk rfl)) ?_;refine SW.dn ?_;refine go ?_;refine St.cond _ rfl (λm=> ?_) (λm=> ?_)
   ·skip
    have F:H=true→K=true→∀p q,(dw s1).args=[p,q]→l9 p (dw s2)=true→False:=λe1 _ _ _ _ _=>by rw[e1]at Q;cases Q
    refine g2 ?_;refine St.ee (Ev.build (bC.nil) (λw=>D0 w)) ?_;refine g6 ?_;refine St.gb mf ?_;refine St.ea fZ ?_;refine St.G9 [] (.slice none 0 0) rfl [] ?_;refine St.rV [_,_] [aD (fZ vq)] ?_;exact⟨vq,false,rfl,aP _,((λj=>by cases j)),(λ_=>by rw[i];exact rI E I P B F),rfl⟩
   ·skip
    cases m
  ·refine SW.gf 3 _ f g rfl rfl rfl (λR _=>Ev.move (.mk rfl)) (by kernel_rfl) rfl ?_
   refine SW.slot 78 _ rfl (dD rfl _) ?_;refine SW.gf 4 _ f g rfl rfl rfl (λR _=>Ev.not (.mk rfl)) (by kernel_rfl) rfl ?_;refine SW.slot 79 _ rfl (dD rfl _) ?_;refine SW.dd 5 rfl (λ_=>Ev.mI (.mk rfl) rfl (.mk rfl)) ?_;refine SW.gd 6 ?_;refine SW.split 81 _ rfl (λS=> ?_) (λS=> ?_)
   ·refine SW.gf 7 undef f g rfl rfl rfl (λR a=>by cases a) (by kernel_rfl) rfl ?_
    refine SW.slot 82 undef rfl (bF rfl _) ?_;refine SW.gf 8 undef f g rfl rfl rfl (λR a=>by cases a) (by kernel_rfl) rfl ?_;refine SW.slot 83 undef rfl (bF rfl _) ?_;refine SW.gf 9 undef f g rfl rfl rfl (λR a=>by cases a) (by kernel_rfl) rfl ?_;refine SW.slot 84 undef rfl (bF rfl _) ?_;refine SW.gf 10 undef f g rfl rfl rfl (λR a=>by cases a) (by kernel_rfl) rfl ?_;refine SW.slot 85 undef rfl (bF rfl _) ?_;refine SW.dd 11 rfl (λ_=>Ev.jt (.mk rfl) rfl (.mk rfl)) ?_;refine SW.gd 12 ?_;refine SW.slot 87 (.bool true) rfl (congrArg Value.bool rfl) ?_;refine SW.gf 13 undef f g rfl rfl rfl (λR a=>by cases a) (by kernel_rfl) rfl ?_;refine SW.slot 88 undef rfl (bF rfl _) ?_;refine SW.gf 14 undef f g rfl rfl rfl (λR a=>by cases a) (by kernel_rfl) rfl ?_;refine SW.slot 89 undef rfl (bF rfl _) ?_;refine SW.gf 15 undef f g rfl rfl rfl (λR a=>by cases a) (by kernel_rfl) rfl ?_;refine SW.slot 90 undef rfl (bF rfl _) ?_;refine SW.gf 16 undef f g rfl rfl rfl (λR a=>by cases a) (by kernel_rfl) rfl ?_;refine SW.slot 91 undef rfl (bF rfl _) ?_;refine SW.gf 17 undef f g rfl rfl rfl (λR a=>by cases a) (by kernel_rfl) rfl ?_;refine SW.slot 92 undef rfl (bF rfl _) ?_;refine SW.gf 18 undef f g rfl rfl rfl (λR a=>by cases a) (by kernel_rfl) rfl ?_;refine SW.slot 93 undef rfl (bF rfl _) ?_;refine SW.gf 19 undef f g rfl rfl rfl (λR a=>by cases a) (by kernel_rfl) rfl ?_;refine SW.slot 94 undef rfl (bF rfl _) ?_;refine SW.dd 20 rfl (λ_=>Ev.jt (.mk rfl) rfl (.mk rfl)) ?_;refine SW.dn ?_;refine go ?_;refine St.cond _ rfl (λm=> ?_) (λm=> ?_)
    ·skip
     have F:H=true→K=true→∀p q,(dw s1).args=[p,q]→l9 p (dw s2)=true→False:=λ_ e2 _ _ _ _=>by rw[e2]at S;cases S
     refine g2 ?_;refine St.ee (Ev.build (bC.nil) (λw=>D0 w)) ?_;refine g6 ?_;refine St.gb mf ?_;refine St.ea fZ ?_;refine St.G9 [] (.slice none 0 0) rfl [] ?_;refine St.rV [_,_] [aD (fZ vq)] ?_;exact⟨vq,false,rfl,aP _,((λj=>by cases j)),(λ_=>by rw[i];exact rI E I P B F),rfl⟩
    ·skip
     cases m
   ·refine SW.gf 7 _ f g rfl rfl rfl (λR _=>Ev.cB (.mk rfl) pB) (by kernel_rfl) rfl ?_
    refine SW.slot 82 _ rfl (dD rfl _) ?_;refine SW.gf 8 _ f g rfl rfl rfl (λR _=>Ev.gh (.mk rfl) mi trivial (by rfl)) (by kernel_rfl) rfl ?_;refine SW.slot 83 _ rfl (dD rfl _) ?_;refine SW.gf 9 _ f g rfl rfl rfl (λR _=>Ev.eu (.mk rfl) mi) (by kernel_rfl) rfl ?_;refine SW.slot 84 _ rfl (dD rfl _) ?_;refine SW.gf 10 _ f g rfl rfl rfl (λR _=>Ev.ne0) (by kernel_rfl) rfl ?_;refine SW.slot 85 _ rfl (dD rfl _) ?_;refine SW.dd 11 rfl (λ_=>Ev.mI (.mk rfl) rfl (.mk rfl)) ?_;refine SW.gd 12 ?_;refine SW.split 87 _ rfl (λC=> ?_) (λC=> ?_)
    ·refine SW.gf 13 undef f g rfl rfl rfl (λR a=>by cases a) (by kernel_rfl) rfl ?_
     refine SW.slot 88 undef rfl (bF rfl _) ?_;refine SW.gf 14 undef f g rfl rfl rfl (λR a=>by cases a) (by kernel_rfl) rfl ?_;refine SW.slot 89 undef rfl (bF rfl _) ?_;refine SW.gf 15 undef f g rfl rfl rfl (λR a=>by cases a) (by kernel_rfl) rfl ?_;refine SW.slot 90 undef rfl (bF rfl _) ?_;refine SW.gf 16 undef f g rfl rfl rfl (λR a=>by cases a) (by kernel_rfl) rfl ?_;refine SW.slot 91 undef rfl (bF rfl _) ?_;refine SW.gf 17 undef f g rfl rfl rfl (λR a=>by cases a) (by kernel_rfl) rfl ?_;refine SW.slot 92 undef rfl (bF rfl _) ?_;refine SW.gf 18 undef f g rfl rfl rfl (λR a=>by cases a) (by kernel_rfl) rfl ?_;refine SW.slot 93 undef rfl (bF rfl _) ?_;refine SW.gf 19 undef f g rfl rfl rfl (λR a=>by cases a) (by kernel_rfl) rfl ?_;refine SW.slot 94 undef rfl (bF rfl _) ?_;refine SW.dd 20 rfl (λ_=>Ev.jt (.mk rfl) rfl (.mk rfl)) ?_;refine SW.dn ?_;refine go ?_;refine St.cond _ rfl (λm=> ?_) (λm=> ?_)
     ·skip
      simp only[bj]at C
      have F:H=true→K=true→∀p q,(dw s1).args=[p,q]→l9 p (dw s2)=true→False:=λ_ _ p q e _=>by rw[kJ]at e;have Z:=congrArg List.length e;rw[aR]at Z;exact C (by rw[Z];rfl)
      refine g2 ?_;refine St.ee (Ev.build (bC.nil) (λw=>D0 w)) ?_;refine g6 ?_;refine St.gb mf ?_;refine St.ea fZ ?_;refine St.G9 [] (.slice none 0 0) rfl [] ?_;refine St.rV [_,_] [aD (fZ vq)] ?_;exact⟨vq,false,rfl,aP _,((λj=>by cases j)),(λ_=>by rw[i];exact rI E I P B F),rfl⟩
     ·skip
      cases m
    ·have W:=C
     simp only[bj]at W
     have X:s1.args.length=2:=by omega
     obtain⟨p,q,l⟩:=A5 X;refine SW.gf 13 _ f g rfl rfl rfl (λR _=>Ev.cB (.mk rfl) pB) (by kernel_rfl) rfl ?_;refine SW.slot 88 _ rfl (dD rfl _) ?_;refine SW.gf 14 _ f g rfl rfl rfl (λR _=>Ev.gh (.mk rfl) mi trivial (by rfl)) (by kernel_rfl) rfl ?_;refine SW.slot 89 _ rfl (dD rfl _) ?_;refine SW.gf 15 _ f g rfl rfl rfl (λR _=>Ev.cM (k:=0) (.mk rfl) (.mk rfl) mi mQ rfl zE) (by kernel_rfl) rfl ?_;refine SW.slot 90 _ rfl (dD rfl _) ?_;refine SW.gf 16 _ f g rfl rfl rfl (λR _=>Ev.j2 (.mk rfl) (Mi l) re trivial mQ gX.eq) (by kernel_rfl) rfl ?_;refine SW.slot 91 _ rfl (dD rfl _) ?_;refine SW.gf 17 _ f g rfl rfl rfl (λR _=>Ev.ZD (.mk rfl) re trivial (by exact mQ)) (by kernel_rfl) rfl ?_;refine SW.slot 92 _ rfl (dD rfl _) ?_;refine SW.gf 18 _ f g rfl rfl rfl (λR _=>Ev.call (NR (s1.args.headD vq) s2) Wy (.ah rfl rfl)) (by kernel_rfl) rfl ?_;refine SW.slot 93 _ rfl (dD rfl _) ?_;refine SW.gf 19 _ f g rfl rfl rfl (λR _=>Ev.not (.mk rfl)) (by kernel_rfl) rfl ?_;refine SW.slot 94 _ rfl (dD rfl _) ?_;refine SW.dd 20 rfl (λ_=>Ev.mI (.mk rfl) rfl (.mk rfl)) ?_;refine SW.dn ?_;refine go ?_;refine St.cond _ rfl (λm=> ?_) (λm=> ?_)
     ·skip
      simp only[bj]at m
      have F:H=true→K=true→∀p q,(dw s1).args=[p,q]→l9 p (dw s2)=true→False:=λ_ _ p1 q1 e G=>by rw[kJ,l]at e;cases e;rw[l]at m;exact absurd (m.symm.trans G) (by decide)
      refine g2 ?_;refine St.ee (Ev.build (bC.nil) (λw=>D0 w)) ?_;refine g6 ?_;refine St.gb mf ?_;refine St.ea fZ ?_;refine St.G9 [] (.slice none 0 0) rfl [] ?_;refine St.rV [_,_] [aD (fZ vq)] ?_;exact⟨vq,false,rfl,aP _,((λj=>by cases j)),(λ_=>by rw[i];exact rI E I P B F),rfl⟩
     ·skip
      simp only[bj]at m Q S
      rw[l]at m;refine St.cN fZ s1.args (x:=q) (by rw[l];simp) ?_;refine g6 ?_;refine St.ee (Ev.cM (k:=1) (.mk rfl) (.mk rfl) mi mQ rfl zE) ?_;refine St.ee (Ev.j2 (.mk rfl) (show s1.args[1]?=some q by rw[l];rfl) re trivial mQ gX.eq) ?_;refine g5 ?_;refine St.rV [_,_] [aD (fZ q)] ?_;exact⟨q,true,rfl,V q (by rw[l];simp),(λ_=>by rw[i,E Q,P S];exact MO (by rw[kJ,l];rfl) m),((λj=>by cases j)),rfl⟩
theorem Na {t:lN}(h:(lW t 1 0 0).2.1≠0):qo t=(lW t 1 0 0).2:=by unfold qo;rw[aB h]
theorem Jw {t:lN}(h:¬(lW t 1 0 0).2.1≠0)(a:xV t []=none):qo t=(12,-1):=by unfold qo;rw[aA h,a];rfl
theorem S8 {t:lN}{s:jQ}(h:¬(lW t 1 0 0).2.1≠0)(a:xV t []=some s):qo t=(0,0):=by unfold qo;rw[aA h,a,aA (by simp)]
theorem ua (x:dg)(hw:nI.wf x):cX prog 109 #[wh x] [iV x] (fv (qo (dx x))):=by
 refine cX.l6 (args:=[wh x]) 25 func109 rfl ntmps109 rfl (λc=> ?_);refine g2 ?_;refine St.cW (.mk rfl) rfl (λj=> ?_);refine St.al (λk=> ?_);refine g4 ?_;refine St.al (λg=> ?_);refine St.bL (.mk rfl) (.mk rfl) eL rfl (by rfl) ?_;refine St.jq g (L':=[iv ((0:Nat):Int)]) rfl ?_;refine g4 ?_;refine St.al (λh=> ?_);refine g4 ?_;refine St.ee (Ev.func (.ah rfl rfl)) ?_;refine St.bL (.mk rfl) (.mk rfl) af5 rfl (by rfl) ?_;refine g4 ?_;refine St.dup (iV x) ?_;refine g3 ?_;refine St.fg (B1 g h 267 x 1 0 0 hw zE zE zE) KV (.mk rfl) (.fk rfl rfl rfl) rfl ?_;rintro v11 _ ⟨rfl,rfl⟩;refine St.mZ ?_;refine St.al (λl=> ?_);refine g10 ?_;refine St.cond _ rfl (λd=> ?_) (λd=> ?_)
 ·skip
  have a:(lW (dx x) 1 0 0).2.1≠0:=by simpa using d
  refine g8 ?_;refine St.rV [_] [] ?_;exact congrArg fv (Na a).symm
 ·skip
  have a:¬(lW (dx x) 1 0 0).2.1≠0:=by simpa using d
  refine St.gb mf ?_;refine St.ea fZ ?_;refine g6 ?_;refine St.dt (K0 x [] (.slice none 0 0) 1 (SE _ _ _ _ (fK.1 a)) hw (aP _)) KX (.ah rfl rfl) rfl ?_;rintro m _ ⟨s,b,rfl,n,i,e,rfl⟩;refine St.eZ ?_;refine g3 ?_;refine St.al (λo=> ?_);refine g10 ?_;refine St.cq (λf=> ?_) (λf=> ?_)
  ·refine g2 ?_
   refine St.ee (Ev.build (bC.ah rfl rfl) (λw=>dJ rfl rfl w)) ?_;refine g5 ?_;refine St.rV [_] [] ?_;exact congrArg fv (Jw a (e (by simpa using f))).symm
  ·refine g4 ?_
   refine St.ee (Ev.build (bC.nil) (λw=>fC w)) ?_;refine g4 ?_;refine St.rV [_] [] ?_;exact congrArg fv (S8 a (i (by simpa using f))).symm
end Go.Proofs.YtiefglecbgdaiaaGreatDoor
