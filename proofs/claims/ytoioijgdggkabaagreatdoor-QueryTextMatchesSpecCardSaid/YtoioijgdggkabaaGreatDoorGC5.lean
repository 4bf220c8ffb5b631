/-
  Laws of walks through programs, and facts on grammars, trees and queries.
  Conditions: none.
-/
import Derived.Test.YtoioijgdggkabaaGreatDoorGC1
import Derived.Shelf.Strings.IndexAnyAll
import Derived.Lib.OthersKept
import Derived.Shelf.Small.Utf8
import Derived.Laws.RangeAny
import Derived.Laws.Cover4
import Derived.Scope
import Derived.Handy
import Derived.Shelf.RegionOpen
import Derived.Shelf.RegionOpenPlain
import Derived.Shelf.Utf8.RuneCount
import Derived.Shelf.Unicode.ValidAny
import Derived.Test.YtoioijgdggkabaaGreatDoorChecked
import Derived.Test.YtoioijgdggkabaaGreatDoorGC4
import Derived.Test.YtoioijgdggkabaaGreatDoorGC2
import Derived.Lib.Join
import Derived.Shelf.Strings.OnBuilder
set_option linter.unusedVariables false
set_option linter.unusedSimpArgs false
namespace Go.Proofs
open Go.Shelf Go.RowKit Go.Lib
variable {P:Program}{ρ:Ren}
theorem Dl {r:Int}(h:128≤r):∃(n:Nat) (x:UInt8),(Utf8.encode r).size=n∧2≤n∧n≤4∧(Utf8.encode r).data.toList[n-1]?=some x∧128≤x.toNat:=by
 have key:∀c:Nat,128≤c→c<1114112→∃(n:Nat) (x:UInt8),(if c<0x80 then(⟨#[UInt8.ofNat c]⟩:ByteArray)else if c<0x800 then⟨#[UInt8.ofNat (0xC0+c/64),UInt8.ofNat (0x80+c%64)]⟩
  else if c<0x10000 then⟨#[UInt8.ofNat (0xE0+c/4096),UInt8.ofNat (0x80+c/64%64),UInt8.ofNat (0x80+c%64)]⟩
  else⟨#[UInt8.ofNat (0xF0+c/262144),UInt8.ofNat (0x80+c/4096%64),UInt8.ofNat (0x80+c/64%64),UInt8.ofNat (0x80+c%64)]⟩).size=n∧2≤n∧n≤4∧
  (if c<0x80 then(⟨#[UInt8.ofNat c]⟩:ByteArray)else if c<0x800 then⟨#[UInt8.ofNat (0xC0+c/64),UInt8.ofNat (0x80+c%64)]⟩
  else if c<0x10000 then⟨#[UInt8.ofNat (0xE0+c/4096),UInt8.ofNat (0x80+c/64%64),UInt8.ofNat (0x80+c%64)]⟩
  else⟨#[UInt8.ofNat (0xF0+c/262144),UInt8.ofNat (0x80+c/4096%64),UInt8.ofNat (0x80+c/64%64),UInt8.ofNat (0x80+c%64)]⟩).data.toList[n-1]?=some x∧128≤x.toNat:=by
  intro c h1 h2
  have hx:128≤(UInt8.ofNat (0x80+c%64)).toNat:=by simp[UInt8.toNat_ofNat'];omega
  rw[if_neg (by omega)]
  by_cases k:c<0x800
  ·rw[if_pos k];exact⟨2,_,rfl,by omega,by omega,rfl,hx⟩
  ·rw[if_neg k]
   by_cases k2:c<0x10000
   ·rw[if_pos k2];exact⟨3,_,rfl,by omega,by omega,rfl,hx⟩
   ·rw[if_neg k2];exact⟨4,_,rfl,by omega,by omega,rfl,hx⟩
 unfold Utf8.encode
 by_cases hv:Utf8.valid r=true
 ·simp only[hv,if_true]
  refine key r.toNat (by omega) ?_
  simp[Utf8.valid]at hv
  omega
 ·simp only[hv]
  exact key Utf8.runeError (by decide) (by decide)
theorem oK {w:World}{s d:TypeId}{k:IntKind}{r:Int}(hs:P.underlying s=some (.int k))(hd:P.underlying d=some .string):(convert s d (.int k r)).run P w= .ok (.string (Utf8.encode r)) w:=by
 simp[convert,run_underlying hs,run_underlying hd,Conv.intToString]
theorem Dm {w:World}{t:TypeId}{s:ByteArray}{i:Int}{k:Nat}{b:UInt8}(ht:P.underlying t=some .string)(hi:i=k)(hb:s.data.toList[k]?=some b):(Instr.index t (.string s) (.int .i64 i)).run P w= .ok (.int .u8 (b.toNat:Int)) w:=by
 subst hi
 have iU:k<s.size:=by have:=(List.getElem?_eq_some_iff.1 hb).1;rwa[←Lib.size_eq]at this
 have h1:s[k]?=some b:=by
  rw[ByteArray.getElem?_lt' _ _ iU]
  have:=(List.getElem?_eq_some_iff.1 hb).2
  simpa[ByteArray.getElem_eq_getElem_data]using this
 simp[Instr.index,asIntOf,run_underlying ht,h1]
theorem rY {l:List UInt8}{c:UInt8}(h:∀x∈l,x≠c):Lib.indexByte l c<0:=by
 have h1:=Lib.contains_iff_indexByte l c
 have h2:l.contains c=false:=by
  rw[Bool.eq_false_iff];intro h3;exact h c (List.contains_iff_mem.1 h3) rfl
 rw[h2]at h1
 have:=of_decide_eq_false h1.symm
 omega
set_option maxHeartbeats 8000000 in
set_option maxRecDepth 1000000 in
theorem Any.qd (L:Lays.n152 P ρ)(s:ByteArray)(r:Int)(w:World)(h0:128≤r)(h1:r≠65533)(hv:Lib.validRune r=true)(hs:∀(j:Nat) b,s.data.toList[j]?=some b→b.toNat<128)(fx:s.size≤100):
 Calls P (ρ.f 152) #[.string s,.int .i32 r] w fun e w'=>e= .returned (.int .i64 (-1))∧∃k,w'=w.drewN k:=by
 have t3:=L.t3;have a3:=L.a3;have z3:=L.z3;have v3:=L.v3
 have t4:=L.t4;have a4:=L.a4;have z4:=L.z4;have v4:=L.v4
 have t5:=L.t5;have a5:=L.a5;have z5:=L.z5;have v5:=L.v5
 have t9:=L.t9;have a9:=L.a9;have z9:=L.z9;have v9:=L.v9
 have t21:=L.t21;have a21:=L.a21;have z21:=L.z21;have v21:=L.v21
 have Tb:∀args w,(callFunc (ρ.f 137) args).run P w= .ok (.enter (ρ.f 137) args) w:=enters_of L.f137 (by kernel_rfl) rfl
 have Tc:∀args w,(callFunc (ρ.f 119) args).run P w= .ok (.enter (ρ.f 119) args) w:=enters_of L.f119 (by kernel_rfl) rfl
 have mixed:=L.mixed
 have d1:decide ((0:Int)≤r)=true:=decide_eq_true (by omega)
 have d2:decide (r<128)=false:=decide_eq_false (by omega)
 have d3:(r==(65533:Int))=false:=beq_eq_false_iff_ne.2 h1
 obtain⟨n,x,hn,Wz,ZR,hx,Iq⟩:=Dl h0
 have hc:=fun(w:World)=>oK (P:=P) (w:=w) (r:=r) t21 t9
 generalize Utf8.encode r=rs at hn hx hc
 subst hn
 go_enter L.f152,Body.n152_ntmps ρ
 go_wp2_with (go_at_fn (ρ.f 119);refine(Any.utf8_ValidRune {L with} _ _).mono ?_;rintro e w' ⟨rfl,hw⟩;rw[hw,hv])
 subst hw;refine wp_scope_straight ?_
 go_wp2
 by_cases hl:rs.size-1<s.size
 ·have WQ:(0:Int)≤(rs.size:Int)-1:=by omega
  have Qe:(rs.size:Int)-1<(s.size:Int):=by omega
  obtain⟨y,hy⟩:∃y:UInt8,s.data.toList[rs.size-1]?=some y:=⟨_,List.getElem?_eq_getElem (by rw[←Lib.size_eq];exact hl)⟩
  have XA:=hs _ _ hy
  refine wp_loop_rounds 1 ?_;rw[rounds_succ]
  go_wp2
  refine wp_scope_straight ?_
  have kx:∀w,(Instr.index (ρ.t 9) (.string rs) (.int .i64 ((rs.size:Int)-1))).run P w= .ok (.int .u8 (x.toNat:Int)) w:=fun w=>Dm t9 (by omega) hx
  have ky:∀w,(Instr.index (ρ.t 9) (.string s) (.int .i64 ((rs.size:Int)-1))).run P w= .ok (.int .u8 (y.toNat:Int)) w:=fun w=>Dm t9 (by omega) hy
  have er:((y.toNat:Int)==(x.toNat:Int))=false:=beq_eq_false_iff_ne.2 (by omega)
  go_wp2
  go_region_o
  have Tb:∀args w,(callFunc (ρ.f 137) args).run P w= .ok (.enter (ρ.f 137) args) w:=enters_of L.f137 (by kernel_rfl) rfl
  have FV:IntKind.i64.wrap (rs.size:Int)=(rs.size:Int):=by
   simp only[IntKind.wrap,IntKind.bits,IntKind.signed]
   simp
   omega
  have s1:(0:Int)≤(rs.size:Int)-1+1:=by omega
  have s2:(rs.size:Int)-1+1≤(s.size:Int):=by omega
  have s3:(0:Int)≤(rs.size:Int):=by omega
  have s4:(rs.size:Int)≤(s.size:Int):=by omega
  obtain⟨z,hz⟩:∃z,Lib.indexByte (s.extract rs.size s.size).data.toList ((x.toNat:Int).toNat.toUInt8)=z:=⟨_,rfl⟩
  have LN:z<0:=by
   rw[←hz]
   refine rY fun b hb=> ?_
   have II:b∈s.data.toList:=by
    have:(s.extract rs.size s.size).data.toList=(s.data.toList.drop rs.size).take (s.size-rs.size):=by simp
    rw[this]at hb;exact List.mem_of_mem_drop (List.mem_of_mem_take hb)
   obtain⟨k,hk⟩:=List.getElem?_of_mem II
   have h5:=hs k b hk
   intro e
   have h6:((x.toNat:Int)).toNat.toUInt8=x:=by simp
   rw[h6]at e;rw[e]at h5;omega
  go_wp2
  go_region_with_o (
   go_at_fn (ρ.f 137)
   refine(Any.strings_IndexByte {L with} _ _ _).mono ?_;rintro e w' ⟨rfl,hw⟩
   rw[hw,hz])
  go_wp2
  simp only[Exit.noGoto,Exit.inBlock,Exit.then]
  go_ret
  exact⟨rfl,2,rfl⟩
 ·have Qe:decide ((rs.size:Int)-1<(s.size:Int))=false:=decide_eq_false (by omega)
  refine wp_loop_rounds 1 ?_;rw[rounds_succ]
  go_wp2
  show Exit.inBlock 0 _ Exit.ret _ _
  go_ret
  exact⟨rfl,0,rfl⟩
set_option maxHeartbeats 8000000 in
set_option maxRecDepth 1000000 in
theorem Any.rZ (L:Lays.n152 P ρ)(s:ByteArray)(r:Int)(w:World)(h0:128≤r)(h1:r≠65533)(hv:Lib.validRune r=false):
 Calls P (ρ.f 152) #[.string s,.int .i32 r] w fun e w'=>e= .returned (.int .i64 (-1))∧∃k,w'=w.drewN k:=by
 have t3:=L.t3;have a3:=L.a3;have z3:=L.z3;have v3:=L.v3
 have t4:=L.t4;have a4:=L.a4;have z4:=L.z4;have v4:=L.v4
 have t5:=L.t5;have a5:=L.a5;have z5:=L.z5;have v5:=L.v5
 have t9:=L.t9;have a9:=L.a9;have z9:=L.z9;have v9:=L.v9
 have t21:=L.t21;have a21:=L.a21;have z21:=L.z21;have v21:=L.v21
 have Tc:∀args w,(callFunc (ρ.f 119) args).run P w= .ok (.enter (ρ.f 119) args) w:=enters_of L.f119 (by kernel_rfl) rfl
 have d1:decide ((0:Int)≤r)=true:=decide_eq_true (by omega)
 have d2:decide (r<128)=false:=decide_eq_false (by omega)
 have d3:(r==(65533:Int))=false:=beq_eq_false_iff_ne.2 h1
 go_enter L.f152,Body.n152_ntmps ρ
 go_wp2_with (go_at_fn (ρ.f 119);refine(Any.utf8_ValidRune {L with} _ _).mono ?_;rintro e w' ⟨rfl,hw⟩;rw[hw,hv])
 subst hw
 go_ret
 exact⟨rfl,0,rfl⟩
set_option maxHeartbeats 8000000 in
set_option maxRecDepth 1000000 in
theorem Any.pN (L:Lays.n152 P ρ)(s:ByteArray)(w:World)(hs:∀(j:Nat) b,s.data.toList[j]?=some b→b.toNat<128):
 Calls P (ρ.f 152) #[.string s,.int .i32 65533] w fun e w'=>e= .returned (.int .i64 (-1))∧∃pos,w'=w.iter s pos:=by
 have HA:Aside (∀(j:Nat) b,s.data.toList[j]?=some b→b.toNat<128):=hs
 clear hs
 have t3:=L.t3;have a3:=L.a3;have z3:=L.z3;have v3:=L.v3
 have t4:=L.t4;have a4:=L.a4;have z4:=L.z4;have v4:=L.v4
 have t5:=L.t5;have a5:=L.a5;have z5:=L.z5;have v5:=L.v5
 have t9:=L.t9;have a9:=L.a9;have z9:=L.z9;have v9:=L.v9
 have t21:=L.t21;have a21:=L.a21;have z21:=L.z21;have v21:=L.v21
 go_enter L.f152,Body.n152_ntmps ρ
 go_wp2
 go_loopg [5,6] s.size (fun g _ _ wx=>∃i:Nat,i+g=s.size∧wx=w.iter s i)
 case atStart=>exact⟨0,by omega,rfl⟩
 case round=>
  obtain⟨i,ZS,rfl⟩:=hrel
  cases gk with
  |zero=>
   obtain rfl:i=s.size:=by omega
   have KZ:=run_next_end (P:=P) w s s.size
   go_wp2
   go_ret
   exact⟨rfl,_,rfl⟩
  |succ g=>
   have hi:i<s.size:=by omega
   obtain⟨x,hx⟩:∃x:UInt8,s[i]'hi=x:=⟨_,rfl⟩
   have uu:s.data.toList[i]?=some x:=by rw[←hx];exact Lib.data_getElem? s i hi
   have Iq:x.toNat<128:=HA.out i x uu
   have KZ:=fun ty=>run_next_ascii (P:=P) w s i ty hi (by rw[hx];exact Iq)
   rw[hx]at KZ
   have er:((x.toNat:Int)==(65533:Int))=false:=beq_eq_false_iff_ne.2 (by omega)
   go_wp2
   go_roundg g
   case measure=>omega
   case rel=>exact⟨i+1,by omega,rfl⟩
theorem Any.oL (L:Lays.n152 P ρ)(s:ByteArray)(r:Int)(w:World)(h0:128≤r)(hs:∀(j:Nat) b,s.data.toList[j]?=some b→b.toNat<128)(fx:s.size≤100):
 Calls P (ρ.f 152) #[.string s,.int .i32 r] w fun e w'=>e= .returned (.int .i64 (-1))∧Below w.heap.size w w':=by
 by_cases h1:r=65533
 ·subst h1
  refine(Any.pN L s w hs).mono ?_;rintro e w' ⟨rfl,pos,rfl⟩;exact⟨rfl,(Below.refl _ w).alloc (Nat.le_refl _) _⟩
 ·cases hv:Lib.validRune r with
  |true=>
   refine(Any.qd L s r w h0 h1 hv hs fx).mono ?_;rintro e w' ⟨rfl,k,rfl⟩;exact⟨rfl,rfl,rfl,rfl,Nat.le_refl _,fun _ _=>rfl⟩
  |false=>
   refine(Any.rZ L s r w h0 h1 hv).mono ?_;rintro e w' ⟨rfl,k,rfl⟩;exact⟨rfl,rfl,rfl,rfl,Nat.le_refl _,fun _ _=>rfl⟩
theorem wG {w:World}{k:Nat}{s:ByteArray}{p:Nat}{o:Obj}(h:w.heap[k]?=some o):(w.iterAt k s p).heap[k]?=some (.stringIter s p):=by
 have hk:=(Array.getElem?_eq_some_iff.1 h).1
 show(w.heap.setIfInBounds k _)[k]?=_
 simp[hk]
theorem iterAt_size {w:World}{k:Nat}{s:ByteArray}{p:Nat}:(w.iterAt k s p).heap.size=w.heap.size:=by
 show(w.heap.setIfInBounds k _).size=_
 simp
theorem uR {w wx:World}{k:Nat}{s:ByteArray}{p:Nat}(h:Below k w wx):Below k w (wx.iterAt k s p):=
 ⟨h.os,h.tape,h.output,by rw[iterAt_size];exact h.size,fun j hj=>by
  show(wx.heap.setIfInBounds k _)[j]?=_
  rw[Array.getElem?_setIfInBounds_ne (by omega)]
  exact h.block j hj⟩
theorem yc {s chars:List UInt8}{i n:Nat}(h:NoAny s chars i)(hc:∀(j:Nat) b,chars[j]?=some b→b.toNat<128)(hb:∀j,j<n→128≤J.bt s (i+j)):NoAny s chars (i+n):=by
 intro j b hj Td
 by_cases k:j<i
 ·exact h j b k Td
 ·have h1:=hb (j-i) (by omega)
  rw[show i+(j-i)=j by omega]at h1
  have h2:J.bt s j=b.toNat:=by unfold J.bt;rw[List.getD_eq_getElem?_getD,Td];rfl
  rw[h2]at h1;rw[Bool.eq_false_iff];intro h3;obtain⟨q,hq⟩:=List.getElem?_of_mem (List.contains_iff_mem.1 h3)
  have:=hc q b hq
  omega
theorem Dn {B:Nat}{w w2 w3:World}(h:Below B w w2)(hB:B≤w2.heap.size)(k:Below w2.heap.size w2 w3):Below B w w3:=
 ⟨k.os.trans h.os,k.tape.trans h.tape,k.output.trans h.output,Nat.le_trans h.size k.size,fun j hj=>(k.block j (by omega)).trans (h.block j hj)⟩
end Go.Proofs
namespace Go.Proofs
open Go.Shelf Go.RowKit Go.Lib
variable {P:Program}{ρ:Ren}
set_option maxHeartbeats 16000000 in
set_option maxRecDepth 1000000 in
theorem Any.mX (L:Lays.n153 P ρ)(s chars:ByteArray)(w:World)(h2:2≤chars.size)(wH:chars.size≤100)(h8:s.size≤8)(Dp:∀(j:Nat) b,chars.data.toList[j]?=some b→b.toNat<128):
 Calls P (ρ.f 153) #[.string s,.string chars] w fun e w'=>e= .returned (.int .i64 (Lib.indexAny s.data.toList chars.data.toList))∧Below w.heap.size w w':=by
 have HA:Aside (∀(j:Nat) b,chars.data.toList[j]?=some b→b.toNat<128):=Dp
 clear Dp
 have ZT:chars.toList.isEmpty=false:=by
  rw[Lib.toList_data]
  cases h:chars.data.toList with
  |nil=>have:=Lib.size_eq chars;rw[h,List.length_nil]at this;omega
  |cons _ _=>rfl
 have LS:((chars.size:Int)==1)=false:=beq_eq_false_iff_ne.2 (by omega)
 have ZU:decide ((8:Int)<(s.size:Int))=false:=decide_eq_false (by omega)
 have t3:=L.t3;have a3:=L.a3;have z3:=L.z3;have v3:=L.v3
 have t4:=L.t4;have a4:=L.a4;have z4:=L.z4;have v4:=L.v4
 have t5:=L.t5;have a5:=L.a5;have z5:=L.z5;have v5:=L.v5
 have t9:=L.t9;have a9:=L.a9;have z9:=L.z9;have v9:=L.v9
 have t21:=L.t21;have a21:=L.a21;have z21:=L.z21;have v21:=L.v21
 have ZV:∀args w,(callFunc (ρ.f 152) args).run P w= .ok (.enter (ρ.f 152) args) w:=enters_of L.f152 (by kernel_rfl) rfl
 have ZW:∀args w,(callFunc (ρ.f 226) args).run P w= .ok (.enter (ρ.f 226) args) w:=enters_of L.f226 (by kernel_rfl) rfl
 go_enter L.f153,Body.n153_ntmps ρ
 go_wp2_with (go_at_fn (ρ.f 226);refine(Any.strings_shouldUseASCIISet {L with} _ _).mono ?_;rintro e w' ⟨rfl,hw⟩;rw[hw,ZU])
 go_loopg [9,10] s.size (fun g _ _ wx=>∃i:Nat,i+g=s.size∧wx.heap[w.heap.size]?=some (.stringIter s i)∧Below w.heap.size w wx∧Lib.NoAny s.data.toList chars.data.toList i)
 case atStart=>exact⟨0,by omega,World.iter_heap w s 0,(Below.refl _ w).alloc (Nat.le_refl _) _,Lib.NoAny.zero _ _⟩
 case round=>
  obtain⟨i,ZS,hk,Nd,wm⟩:=hrel
  have HN:Aside (Lib.NoAny s.data.toList chars.data.toList i):=wm
  clear wm
  have HB:Aside (Below w.heap.size w wr):=Nd
  clear Nd
  cases gk with
  |zero=>
   obtain rfl:i=s.size:=by omega
   have KZ:=fun ty=>run_next_end_at (P:=P) wr w.heap.size s s.size ty hk (by omega)
   go_wp2
   go_ret
   exact⟨by rw[Lib.indexAny_none (by rw[←Lib.size_eq];exact HN.out)];rfl,HB.out⟩
  |succ g=>
   have hi:i<s.size:=by omega
   have CC:i<s.data.toList.length:=by rw[←Lib.size_eq];exact hi
   have KZ:=fun ty=>run_next_any_at (P:=P) wr w.heap.size s i ty hk hi
   obtain⟨b1,b2,b3⟩:=J.lU CC
   have vG:=decodeL_drop s i
   have fx:=Lib.size_eq s
   rw[vG]at b1 b2 b3
   obtain⟨r,wd,hd⟩:∃r wd,Utf8.decode s i=(r,wd):=⟨_,_,rfl⟩
   rw[hd]at KZ b1 b2 b3
   simp only at KZ b1 b2 b3
   obtain⟨w2,Nf⟩:∃w2,wr.iterAt w.heap.size s (i+wd)=w2:=⟨_,rfl⟩
   have I5:w2.heap[w.heap.size]?=some (.stringIter s (i+wd)):=Nf▸wG hk
   have II:Below w.heap.size w w2:=Nf▸uR HB.out
   rw[Nf]at KZ
   clear Nf vG hd
   have Te:Aside (w2.heap[w.heap.size]?=some (.stringIter s (i+wd))):=I5
   have R7:Aside (Below w.heap.size w w2):=II
   clear I5 II
   rcases b3 with⟨c1,c2⟩|⟨c1,c2⟩
   ·obtain⟨x,uu⟩:∃x,s.data.toList[i]?=some x:=⟨_,List.getElem?_eq_getElem CC⟩
    have XB:J.bt s.data.toList i=x.toNat:=by unfold J.bt;rw[List.getD_eq_getElem?_getD,uu];rfl
    rw[XB]at c1 c2;obtain⟨rfl,rfl⟩:=Prod.mk.inj c2
    have Hx:Aside (s.data.toList[i]?=some x):=uu
    clear uu XB c2
    have BC:=Lib.contains_iff_indexByte chars.data.toList x
    have Ir:((x.toNat:Int)).toNat.toUInt8=x:=by simp
    cases qR:chars.data.toList.contains x
    ·rw[qR]at BC
     have iU:¬((0:Int)≤Lib.indexByte chars.data.toList x):=of_decide_eq_false BC.symm
     clear BC
     go_wp2_with (go_at_fn (ρ.f 152);refine(Any.strings_IndexRune_ascii {L with} _ _ _ (by omega) (by omega)).mono ?_;rintro e w' ⟨rfl,rfl⟩;rw[Ir];dsimp only)
     go_wp2
     go_roundg g
     case measure=>omega
     case rel=>exact⟨i+1,by omega,Te.out,R7.out,HN.out.succ Hx.out qR⟩
    ·rw[qR]at BC
     have XC:(0:Int)≤Lib.indexByte chars.data.toList x:=of_decide_eq_true BC.symm
     clear BC
     go_wp2_with (go_at_fn (ρ.f 152);refine(Any.strings_IndexRune_ascii {L with} _ _ _ (by omega) (by omega)).mono ?_;rintro e w' ⟨rfl,rfl⟩;rw[Ir];dsimp only)
     go_wp2
     go_ret
     exact⟨by rw[Lib.indexAny_hit HN.out Hx.out qR];rfl,R7.out⟩
   ·have HC:Aside (∀j,j<wd→128≤J.bt s.data.toList (i+j)):=c2
    clear c2
    go_wp2_with (go_at_fn (ρ.f 152);refine(Any.oL {L with} _ _ _ (by omega) HA.out wH).mono ?_;rintro e w3 ⟨rfl,XD⟩;dsimp only)
    go_wp2
    go_roundg (s.size-(i+wd))
    case measure=>omega
    case rel=>exact⟨i+wd,by omega,by rw[XD.block _ (Array.getElem?_eq_some_iff.1 Te.out).1];exact Te.out,Dn R7.out R7.out.size XD,yc HN.out HA.out HC.out⟩
theorem Any.uS (L:Lays.n153 P ρ)(Gz:(P.info? (ρ.t 116)).map (fun i=>(i.zero,i.size))=some (some (.agg (Array.replicate 256 (.bool false))),256))(s chars:ByteArray)(w:World)(h2:2≤chars.size)(wH:chars.size≤100)(hs:s.size<4294967281)
 (R8:∀(j:Nat) b,chars.data.toList[j]?=some b→b.toNat<128):
 Calls P (ρ.f 153) #[.string s,.string chars] w fun e w'=>e= .returned (.int .i64 (Lib.indexAny s.data.toList chars.data.toList))∧Below w.heap.size w w':=by
 by_cases h8:s.size≤8
 ·exact Any.mX L s chars w h2 wH h8 R8
 ·refine(Any.strings_IndexAny_long L (zero_of_info Gz).1 (zero_of_info Gz).2 s chars w (by omega) (by omega) hs (by omega) R8).mono ?_
  rintro e w' ⟨h3,h4⟩;refine⟨h3,?_⟩;rw[h4];exact((Below.refl _ _).alloc (Nat.le_refl _) _).alloc (by simp) _
set_option maxHeartbeats 4000000 in
theorem Any.pO (L:Lays.n150 P ρ)(Gz:(P.info? (ρ.t 116)).map (fun i=>(i.zero,i.size))=some (some (.agg (Array.replicate 256 (.bool false))),256))(s chars:ByteArray)(w:World)(h2:2≤chars.size)(wH:chars.size≤100)(hs:s.size<4294967281)
 (R8:∀(j:Nat) b,chars.data.toList[j]?=some b→b.toNat<128):
 Calls P (ρ.f 150) #[.string s,.string chars] w fun e w'=>e= .returned (.bool (Lib.containsAny s.data.toList chars.data.toList))∧Below w.heap.size w w':=by
 have c:=Any.uS {L with} Gz s chars w h2 wH hs R8
 have t3:=L.t3;have a3:=L.a3;have z3:=L.z3;have v3:=L.v3
 have t4:=L.t4;have a4:=L.a4;have z4:=L.z4;have v4:=L.v4
 have t9:=L.t9;have a9:=L.a9;have z9:=L.z9;have v9:=L.v9
 have ZX:∀args w,(callFunc (ρ.f 153) args).run P w= .ok (.enter (ρ.f 153) args) w:=enters_of L.f153 (by kernel_rfl) rfl
 go_enter L.f150,Body.n150_ntmps ρ
 go_wp2_with (go_at_fn (ρ.f 153);refine c.mono ?_;rintro e w' ⟨rfl,hw⟩)
 go_ret
 exact⟨rfl,hw⟩
theorem oM (s:List UInt8):Lib.containsAny s J.pC=s.any J.eB:=by
 rw[Bool.eq_iff_iff];unfold Lib.containsAny;rw[decide_eq_true_iff,List.any_eq_true]
 constructor
 ·have Tf:∀l:List UInt8,0≤Lib.indexAny l J.pC→∃b,b∈l∧J.eB b=true:=by
   intro l
   induction l with
   |nil=>intro h;exact absurd h (by decide)
   |cons c l ih=>
    intro h;unfold Lib.indexAny at h
    have XC:=Lib.indexAny_ge J.pC l
    split at h
    ·rename_i KO
     exact⟨c,List.mem_cons_self ..,by unfold J.eB;exact KO⟩
    ·split at h
     ·omega
     ·rename_i he
      have er:Lib.indexAny l J.pC≠ -1:=fun e=>he (by rw[e];rfl)
      obtain⟨b,hb,hc⟩:=ih (by omega);exact⟨b,List.mem_cons_of_mem _ hb,hc⟩
  exact Tf s
 ·rintro ⟨b,hb,hc⟩
  rcases Int.lt_or_le (Lib.indexAny s J.pC) 0 with h|h
  ·exfalso
   have key:∀l:List UInt8,Lib.indexAny l J.pC<0→∀b∈l,J.eB b=false:=by
    intro l
    induction l with
    |nil=>intro _ b hb;cases hb
    |cons c l ih=>
     intro h b hb;unfold Lib.indexAny at h
     have XC:=Lib.indexAny_ge J.pC l
     split at h
     ·omega
     ·rename_i KO
      rcases List.mem_cons.1 hb with rfl|hb
      ·unfold J.eB;simpa using KO
      ·refine ih ?_ b hb
       split at h
       ·rename_i he;rw[beq_iff_eq]at he;omega
       ·rename_i he;omega
   rw[key s h b hb]at hc;cases hc
  ·exact h
end Go.Proofs
namespace Go.Proofs
open Go.Shelf
def Tryz.wI:Go.Shelf.Ren:=⟨fun|195=>62|n=>n,fun|0=>0|3=>3|4=>4|9=>9|n=>n,fun|n=>n⟩
theorem Tryz.H0:Go.Proofs.Lays.n195 Tryz.prog Tryz.wI:={
 mixed:=by kernel_rfl
 f195:=Tryz.func62.trans (congrArg some (by kernel_rfl))
 t0:=MQ
 a0:=Tryz.isAgg0
 z0:=Tryz.sizeOf0
 v0:=Tryz.zeroValue0
 t3:=bf
 a3:=Tryz.isAgg3
 z3:=Tryz.sizeOf3
 v3:=Tryz.zeroValue3
 t4:=zR
 a4:=Tryz.isAgg4
 z4:=Tryz.sizeOf4
 v4:=Tryz.zeroValue4
 t9:=cZ
 a9:=Tryz.isAgg9
 z9:=Tryz.sizeOf9
 v9:=Tryz.zeroValue9}
def Tryz.lG:Go.Shelf.Ren:=⟨fun|196=>63|259=>83|n=>n,fun|0=>0|3=>3|4=>4|5=>5|9=>9|12=>12|46=>164|53=>153|119=>160|138=>162|139=>163|n=>n,fun|3=>1|4=>2|n=>n⟩
theorem Tryz.H3:Go.Proofs.Lays.n196 Tryz.prog Tryz.lG:={
 mixed:=by kernel_rfl
 f196:=Tryz.func63.trans (congrArg some (by kernel_rfl))
 f259:=Tryz.func83.trans (congrArg some (by kernel_rfl))
 t0:=MQ
 a0:=Tryz.isAgg0
 z0:=Tryz.sizeOf0
 v0:=Tryz.zeroValue0
 t3:=bf
 a3:=Tryz.isAgg3
 z3:=Tryz.sizeOf3
 v3:=Tryz.zeroValue3
 t4:=zR
 a4:=Tryz.isAgg4
 z4:=Tryz.sizeOf4
 v4:=Tryz.zeroValue4
 t5:=IP
 a5:=Tryz.isAgg5
 z5:=Tryz.sizeOf5
 v5:=Tryz.zeroValue5
 t9:=cZ
 a9:=Tryz.isAgg9
 z9:=Tryz.sizeOf9
 v9:=Tryz.zeroValue9
 t12:=Tryz.underlying12
 a12:=Tryz.isAgg12
 z12:=Tryz.sizeOf12
 v12:=Tryz.zeroValue12
 t46:=vS
 a46:=Tryz.isAgg164
 z46:=Tryz.sizeOf164
 v46:=Tryz.zeroValue164
 t53:=kO
 a53:=Tryz.isAgg153
 z53:=Tryz.sizeOf153
 v53:=Tryz.zeroValue153
 t119:=Tryz.underlying160
 a119:=Tryz.isAgg160
 z119:=Tryz.sizeOf160
 t138:=Tryz.underlying162
 a138:=Tryz.isAgg162
 z138:=Tryz.sizeOf162
 v138:=Tryz.zeroValue162
 t139:=Tryz.underlying163
 a139:=Tryz.isAgg163
 z139:=Tryz.sizeOf163
 v139:=Tryz.zeroValue163
 g3:=by kernel_rfl
 g4:=by kernel_rfl}
def Tryz.oz:Go.Shelf.Ren:=⟨fun|119=>105|137=>104|150=>64|152=>90|153=>84|217=>100|224=>102|225=>101|226=>99|227=>50|228=>71|266=>111|n=>n,fun|0=>0|3=>3|4=>4|5=>5|9=>9|21=>21|46=>164|116=>120|117=>121|124=>124|n=>n,fun|n=>n⟩
theorem Tryz.H4:Go.Proofs.Lays.n150 Tryz.prog Tryz.oz:={
 mixed:=by kernel_rfl
 f119:=Tryz.func105.trans (congrArg some (by kernel_rfl))
 f137:=Tryz.func104.trans (congrArg some (by kernel_rfl))
 f150:=Tryz.func64.trans (congrArg some (by kernel_rfl))
 f152:=Tryz.func90.trans (congrArg some (by kernel_rfl))
 f153:=Tryz.func84.trans (congrArg some (by kernel_rfl))
 f217:=Tryz.func100.trans (congrArg some (by kernel_rfl))
 f224:=Tryz.func102.trans (congrArg some (by kernel_rfl))
 f225:=Tryz.func101.trans (congrArg some (by kernel_rfl))
 f226:=Tryz.func99.trans (congrArg some (by kernel_rfl))
 f227:=Tryz.func50.trans (congrArg some (by kernel_rfl))
 f228:=Tryz.func71.trans (congrArg some (by kernel_rfl))
 f266:=Tryz.func111.trans (congrArg some (by kernel_rfl))
 t0:=MQ
 a0:=Tryz.isAgg0
 z0:=Tryz.sizeOf0
 v0:=Tryz.zeroValue0
 t3:=bf
 a3:=Tryz.isAgg3
 z3:=Tryz.sizeOf3
 v3:=Tryz.zeroValue3
 t4:=zR
 a4:=Tryz.isAgg4
 z4:=Tryz.sizeOf4
 v4:=Tryz.zeroValue4
 t5:=IP
 a5:=Tryz.isAgg5
 z5:=Tryz.sizeOf5
 v5:=Tryz.zeroValue5
 t9:=cZ
 a9:=Tryz.isAgg9
 z9:=Tryz.sizeOf9
 v9:=Tryz.zeroValue9
 t21:=Tryz.underlying21
 a21:=Tryz.isAgg21
 z21:=Tryz.sizeOf21
 v21:=Tryz.zeroValue21
 t46:=vS
 a46:=Tryz.isAgg164
 z46:=Tryz.sizeOf164
 v46:=Tryz.zeroValue164
 t116:=Tryz.underlying120
 a116:=Tryz.isAgg120
 z116:=Tryz.sizeOf120
 t117:=Tryz.underlying121
 a117:=Tryz.isAgg121
 z117:=Tryz.sizeOf121
 v117:=Tryz.zeroValue121
 t124:=Tryz.underlying124
 a124:=Tryz.isAgg124
 z124:=Tryz.sizeOf124
 v124:=Tryz.zeroValue124}
end Go.Proofs
set_option maxRecDepth 20000
namespace Go.Proofs.YtoioijgdggkabaaGreatDoor
open Go Go.J
theorem Tg:aU Tryz.prog 62:=⟨_,Tryz.func62,rfl,by kernel_rfl⟩
theorem Th:aU Tryz.prog 63:=⟨_,Tryz.func63,rfl,by kernel_rfl⟩
theorem Ti:aU Tryz.prog 64:=⟨_,Tryz.func64,rfl,by kernel_rfl⟩
def Ka (w:World):Prop:=Lib.Utf8Tabs (Tryz.lG.g 3) (Tryz.lG.g 4) w
abbrev u8:dJ:=dJ.of Ka
theorem Kb:(Tryz.prog.info? (Tryz.oz.t 116)).map (fun i=>(i.zero,i.size))=some (some (.agg (Array.replicate 256 (.bool false))),256):=by kernel_rfl
theorem wJ (s:ax):(⟨s.toArray⟩:ByteArray).size=s.length:=by simp[ByteArray.size]
theorem H5 (s:ax)(hs:s.length<9223372036854775807):fG Tryz.prog 62 #[sv s] [u8] (iv (Lib.runeCountL s)):=
 fG.jq fun w _=>by
  refine(Any.utf8_RuneCountInString Tryz.H0 ⟨s.toArray⟩ w (by rw[wJ];exact hs)).mono ?_;rintro e w' ⟨rfl,pos,rfl⟩;exact⟨rfl,(RowKit.Below.refl _ w).alloc (Nat.le_refl _) _⟩
theorem yd (s:ax)(hs:s.length<9223372036854775807):fG Tryz.prog 63 #[sv s] [u8] (.bool (Lib.validD s)):=
 fG.jq fun w hw=>Any.utf8_ValidString Tryz.H3 ⟨s.toArray⟩ w (by rw[wJ];omega) hw
theorem Dq (s:ax)(hs:s.length<4294967281):fG Tryz.prog 64 #[sv s,sv pC] [u8] (.bool (s.any eB)):=
 fG.jq fun w _=>by
  have:=Any.pO Tryz.H4 Kb ⟨s.toArray⟩ ⟨pC.toArray⟩ w (by decide) (by decide) (by rw[wJ];exact hs) (fun j b h=>by
   have:∀b∈pC,b.toNat<128:=by decide
   exact this b (List.mem_of_getElem? h))
  rw[←oM];exact this
theorem Dr (s:ax):s.length≤4*Lib.runeCountL s:=by
 have key:∀(f p:Nat),s.length-p≤f→s.length-p≤4*Lib.runeCountFrom ⟨s.toArray⟩ f p:=by
  intro f
  induction f with
  |zero=>intro p h;omega
  |succ f ih=>
   intro p h
   by_cases hp:p<s.length
   ·have fx:p<(⟨s.toArray⟩:ByteArray).size:=by rw[wJ];exact hp
    obtain⟨d1,d2,_⟩:=lU hp
    have vG:=Lib.decodeL_drop ⟨s.toArray⟩ p
    simp only at vG
    have hw:(Lib.decodeL (s.drop p)).2≤4:=by
     rw[nu]
     rcases nw (n:=s.length-p) (kM s p) (kM s (p+1)) (kM s (p+2)) (kM s (p+3))with⟨_,e⟩|⟨_,_,_,_,e⟩|⟨_,r,_,e⟩|⟨_,r,_,e⟩|⟨_,r,_,e⟩<;>rw[e]<;>simp
    have:=ih (p+(Lib.decodeL (s.drop p)).2) (by omega)
    rw[Lib.runeCountFrom,if_pos fx,←vG];omega
   ·omega
 have:=key s.length 0 (by omega)
 have e:Lib.runeCountFrom ⟨s.toArray⟩ s.length 0=Lib.runeCountL s:=by unfold Lib.runeCountL Lib.runeCount;congr 1
 rw[e]at this;omega
theorem wK (s:ax):(((decide ((1:Int)≤(Lib.runeCountL s:Int))&&decide ((Lib.runeCountL s:Int)≤30))&&Lib.validD s)&& !(s.any eB))=isWord s:=by
 rw[ny]
 have h1:decide ((1:Int)≤(Lib.runeCountL s:Int))=decide (1≤Lib.runeCountL s):=decide_eq_decide.2 (by omega)
 have h2:decide ((Lib.runeCountL s:Int)≤30)=decide (Lib.runeCountL s≤30):=decide_eq_decide.2 (by omega)
 rw[h1,h2]
theorem oO (s:ax)(hs:s.length<9223372036854775807):fG Tryz.prog 43 #[sv s] [u8] (.bool (isWord s)):=by
 refine fG.body (args:=[sv s]) (ds:=[u8]) 21 Tryz.func43 rfl Tryz.ntmps43 rfl (fun c gL=> ?_)
 change St _ _ (Mm c [aE u8]) _
 refine St.sr ?_;refine St.ao ?_;refine St.nn (St.sr ?_);refine St.mv ?_;refine St.ee (Ev.gA gL (H5 s hs) Tg (.cons (.mk rfl) .nil)) ?_;refine St.ao ?_;refine St.nn (St.sr ?_);refine St.mv ?_;refine St.ee Ev.xi ?_;refine St.mv ?_;refine St.gt _ rfl rfl (fun hg=>Ev.move (.mk rfl)) rfl ?_;refine St.gt _ rfl rfl (fun hg=>Ev.leq (aL.gv rfl hg) (.mk rfl)) rfl ?_;refine St.ee Ev.n0 ?_;refine St.mv ?_;refine St.gt _ rfl rfl (fun hg=>Ev.move (.mk rfl)) rfl ?_;refine St.gt _ rfl rfl (fun hg=>Ev.gA gL (yd s hs) Th (.cons (aL.gv rfl hg) .nil)) rfl ?_;refine St.ee Ev.n0 ?_;refine St.mv ?_;refine St.gt _ rfl rfl (fun hg=>Ev.move (.mk rfl)) rfl ?_;refine St.gt _ rfl rfl (fun hg=>Ev.gA gL (Dq s (by have hq:=Dr s;first|omega|(simp only[Bool.and_eq_true,decide_eq_true_eq]at hg;omega)|(simp at hg;omega)|(trace_state;omega))) Ti (.cons (aL.gv rfl hg) (.cons (.mk rfl) .nil))) rfl ?_;refine St.gt _ rfl rfl (fun hg=>Ev.not (aL.gv rfl hg)) rfl ?_;refine St.ee Ev.n0 ?_;refine St.ao ?_;refine St.nn (St.ae ?_);refine St.rU [_] [] Tryz.results43 ?_;exact be (by first|exact wK s|(simp[wK]))
theorem H6 (T:List dh)(Fs:List kR)(x:cR):pz T Fs (k8 x)=if isWord x.word=false then 10 else if x.weight<0∨1000000<x.weight then 3 else if(cO T Fs (fM x.graph)).1≠0 then(cO T Fs (fM x.graph)).1 else(kh (bN x.cl)).1:=rfl
theorem Ds (T:List dh)(Fs:List kR)(x:bm):kk T Fs (pE x)=if x.kids<1∨3<x.kids∨x.weight<0∨1000000<x.weight then 3 else if(cO T Fs (fM x.graph)).1≠0 then(cO T Fs (fM x.graph)).1 else if mw (fM x.graph) x.kids=false then 5 else(kh (bN x.cl)).1:=rfl
theorem uT {T:List dh}{Fs:List kR}{G:gF}(h:(cO T Fs G).1=0):(e8 T.length Fs.length G).1=0:=by
 rcases Decidable.em ((e8 T.length Fs.length G).1=0)with h1|h1
 ·exact h1
 ·rw[sV h1]at h;exact h
theorem ra {T:List dh}{Fs:List kR}(hFs:Fs.length≤40){g:eM}(h:(cO T Fs (fM g)).1=0):0<g.nodes.length∧∀n∈g.nodes,Asc n.aV∧n.aV.length≤1000000:=by
 have h1:=uT h
 obtain⟨h2,_,h3⟩:=qW h1;refine⟨by rw[pY]at h2;exact h2,fun n hn=>⟨sW h1 n hn,?_⟩⟩
 have h4:=(h3 (r6 n) (List.mem_map_of_mem hn)).2
 have:=Gi (sW h1 n hn) (nf:=Fs.length) (fun x hx=>by
  have:=h4 (jt x) (List.mem_map_of_mem hx)
  exact⟨this.1,this.2.1⟩)
 omega
set_option maxHeartbeats 2000000 in
theorem ye (tv xv w1 w2:dQ)(ts:List mq)(fs:List gH)(x:cR)(hT:iR (ts.map ck))(hF:∀f∈fs,0≤f.sD∧f.sD<ts.length∧0≤f.value∧f.value<ts.length)(hw:c6.wf x):fG Tryz.prog 57 #[.agg #[tv.1,xv.1],qQ w1 w2,MI x] [sl fh tv.1 ts,sl cV xv.1 fs,sl dU w1.1 (iz (ts.map ck)),sl dU w2.1 (j0 (ts.map ck)),dn x,u8] (iv (pz (ts.map ck) (fs.map ey) (k8 x))):=by
 refine fG.body (args:=[.agg #[tv.1,xv.1],qQ w1 w2,MI x]) (ds:=[sl fh tv.1 ts,sl cV xv.1 fs,sl dU w1.1 (iz (ts.map ck)),sl dU w2.1 (j0 (ts.map ck)),dn x,u8]) 34 Tryz.func57 rfl Tryz.ntmps57 rfl (fun c gL=> ?_);refine St.cast (H':=[aE (sl fh tv.1 ts),aE (sl cV xv.1 fs),aE (sl dU w1.1 (iz (ts.map ck))),aE (sl dU w2.1 (j0 (ts.map ck))),aE (dn x),aE (u8)]) rfl ?_;refine St.seq ?_
 refine St.fP (dn x) (fun _:Unit=>M0 x) (fun ρ h=>⟨(),h⟩) fun _=> ?_
 refine St.cast (H':=[aE (bz x.graph),aE (bW x.cl),aE (sl fh tv.1 ts),aE (sl cV xv.1 fs),aE (sl dU w1.1 (iz (ts.map ck))),aE (sl dU w2.1 (j0 (ts.map ck))),aE (dn x),aE (u8)]) rfl ?_
 have ow:=H6 (ts.map ck) (fs.map ey) x
 obtain⟨FV,Nf,Ng⟩:=hw
 replace FV:x.word.length≤140737488351232:=FV
 refine St.rg ?_;refine St.dS (.mk rfl) rfl (fun b3=> ?_);refine St.dS (.mk rfl) rfl (fun b4=> ?_);refine St.dS (.mk rfl) rfl (fun b5=> ?_);refine St.ao ?_;refine St.nn (St.seq (St.sr ?_));refine St.ee (Ev.aD (.mk rfl) zj) ?_;refine St.ee (Ev.l0 (.mk rfl) cZ) ?_;refine St.ee (Ev.gA gL (oO x.word (by omega)) KJ (.cons (.mk rfl) .nil)) ?_;refine St.ee (Ev.not (.mk rfl)) ?_;refine St.nn ?_;refine St.cond _ rfl (fun Dt=> ?_) (fun Dt=> ?_)
 ·skip
  rw[if_pos (by simpa using Dt)]at ow;refine St.sr ?_;refine St.ao ?_;refine St.nn (St.ae (St.a8 ?_));refine St.rU [_] [] Tryz.results57 ?_;exact ie ow.symm
 ·skip
  rw[if_neg (by simpa using Dt)]at ow;refine St.skip (St.a7 (St.seq (St.sr ?_)));refine St.ee (Ev.aD (.mk rfl) zm) ?_;refine St.ee (Ev.l0 (.mk rfl) bf) ?_;refine St.ee Ev.ez ?_;refine St.mv ?_;refine St.gf _ rfl rfl (fun hg=>Ev.aD (.mk rfl) zm) rfl ?_;refine St.gf _ rfl rfl (fun hg=>Ev.cY (aL.gv rfl hg) bf trivial (by rfl)) rfl ?_;refine St.gf _ rfl rfl (fun hg=>Ev.gtr (aL.gv rfl hg) (.mk rfl)) rfl ?_;refine St.ee Ev.o0 ?_;refine St.nn ?_;refine St.cond _ rfl (fun gz=> ?_) (fun gz=> ?_)
  ·try simp only[aA]at gz
   rw[if_pos (by omega)]at ow;refine St.sr ?_;refine St.ao ?_;refine St.nn (St.ae (St.a8 ?_));refine St.rU [_] [] Tryz.results57 ?_;exact ie ow.symm
  ·try simp only[aA]at gz
   rw[if_neg (by omega)]at ow;refine St.skip (St.a7 (St.seq (St.sr ?_)));refine St.ee (Ev.an (.mk rfl) rK trivial (by exact o9)) ?_;refine St.ee (Ev.an (.mk rfl) mA trivial (by exact gD)) ?_;refine St.ee (Ev.aD (.mk rfl) Gl) ?_;refine St.ee (Ev.nC 1 (.mk rfl) tr trivial qE rfl rfl) ?_;refine St.slot 23 (eN x.graph) rfl rfl ?_;refine St.ee (Ev.call (lD tv xv w1 w2 ts fs x.graph hT hF) KK (.cons (.mk rfl) (.cons (.mk rfl) (.cons (.mk rfl) .nil)))) ?_;refine St.alloc dR rfl (fun b7=> ?_);refine St.sA (.mk rfl) (.mk rfl) aR ?_;refine St.nn (St.sr ?_);refine St.ee (Ev.aD (.mk rfl) cW) ?_;refine St.ee (Ev.l0 (.mk rfl) bf) ?_;refine St.ee Ev.kz ?_;refine St.nn ?_;refine St.cond _ rfl (fun yf=> ?_) (fun yf=> ?_)
   ·skip
    have hb:(cO (ts.map ck) (fs.map ey) (fM x.graph)).1≠0:=by simpa using yf
    rw[if_pos hb]at ow;refine St.sr ?_;refine St.ee (Ev.aD (.mk rfl) cW) ?_;refine St.ee (Ev.l0 (.mk rfl) bf) ?_;refine St.ao ?_;refine St.nn (St.ae (St.a8 ?_));refine St.rU [_] [] Tryz.results57 ?_;exact ie ow.symm
   ·skip
    have hb:¬(cO (ts.map ck) (fs.map ey) (fM x.graph)).1≠0:=by simpa using yf
    rw[if_neg hb]at ow;refine St.skip (St.a7 (St.sr ?_));refine St.ee (Ev.aD (.mk rfl) Gm) ?_;refine St.ee (Ev.nC 6 (.mk rfl) fl trivial dI rfl rfl) ?_;refine St.slot 31 (bT x.cl) rfl rfl ?_;refine St.ee (Ev.call (nH x.cl Ng) N8 (.cons (.mk rfl) .nil)) ?_;refine St.ee (Ev.tT (.mk rfl) bC rfl (by first|rw[bf]|(dsimp only;rw[bf])|kernel_rfl) rfl) ?_;refine St.ao ?_;refine St.nn (St.ae ?_);refine St.rU [_] [] Tryz.results57 ?_;exact ie ow.symm
set_option maxHeartbeats 2000000 in
theorem BD (tv xv w1 w2:dQ)(ts:List mq)(fs:List gH)(x:bm)(hT:iR (ts.map ck))(hF:∀f∈fs,0≤f.sD∧f.sD<ts.length∧0≤f.value∧f.value<ts.length)(KD:fs.length≤40)(hw:cJ.wf x):de Tryz.prog 56 #[.agg #[tv.1,xv.1],qQ w1 w2,m9 x] [sl fh tv.1 ts,sl cV xv.1 fs,sl dU w1.1 (iz (ts.map ck)),sl dU w2.1 (j0 (ts.map ck)),cK x] (iv (kk (ts.map ck) (fs.map ey) (pE x))):=by
 unfold de;refine eI.body (args:=[.agg #[tv.1,xv.1],qQ w1 w2,m9 x]) 46 Tryz.func56 rfl Tryz.ntmps56 rfl (fun c=> ?_);refine St.cast (H':=[aE (sl fh tv.1 ts),aE (sl cV xv.1 fs),aE (sl dU w1.1 (iz (ts.map ck))),aE (sl dU w2.1 (j0 (ts.map ck))),aE (cK x)]) rfl ?_;refine St.seq ?_
 refine St.fP (cK x) (fun _:Unit=>IE x) (fun ρ h=>⟨(),h⟩) fun _=> ?_
 refine St.cast (H':=[aE (bz x.graph),aE (bW x.cl),aE (sl fh tv.1 ts),aE (sl cV xv.1 fs),aE (sl dU w1.1 (iz (ts.map ck))),aE (sl dU w2.1 (j0 (ts.map ck))),aE (cK x)]) rfl ?_
 have ow:=Ds (ts.map ck) (fs.map ey) x
 obtain⟨FV,hwk,hwg,Ng⟩:=hw;refine St.rg ?_;refine St.dS (.mk rfl) rfl (fun b3=> ?_);refine St.dS (.mk rfl) rfl (fun b4=> ?_);refine St.dS (.mk rfl) rfl (fun b5=> ?_);refine St.ao ?_;refine St.nn (St.seq (St.sr ?_));refine St.ee (Ev.aD (.mk rfl) uK) ?_;refine St.ee (Ev.l0 (.mk rfl) bf) ?_;refine St.ee Ev.ez ?_;refine St.mv ?_;refine St.gf _ rfl rfl (fun hg=>Ev.aD (.mk rfl) uK) rfl ?_;refine St.gf _ rfl rfl (fun hg=>Ev.cY (aL.gv rfl hg) bf trivial (by rfl)) rfl ?_;refine St.gf _ rfl rfl (fun hg=>Ev.gtr (aL.gv rfl hg) (.mk rfl)) rfl ?_;refine St.ee Ev.o0 ?_;refine St.mv ?_;refine St.gf _ rfl rfl (fun hg=>Ev.aD (.mk rfl) DV) rfl ?_;refine St.gf _ rfl rfl (fun hg=>Ev.cY (aL.gv rfl hg) bf trivial (by rfl)) rfl ?_;refine St.gf _ rfl rfl (fun hg=>Ev.lss (aL.gv rfl hg) (.mk rfl)) rfl ?_;refine St.ee Ev.o0 ?_;refine St.mv ?_;refine St.gf _ rfl rfl (fun hg=>Ev.aD (.mk rfl) DV) rfl ?_;refine St.gf _ rfl rfl (fun hg=>Ev.cY (aL.gv rfl hg) bf trivial (by rfl)) rfl ?_;refine St.gf _ rfl rfl (fun hg=>Ev.gtr (aL.gv rfl hg) (.mk rfl)) rfl ?_;refine St.ee Ev.o0 ?_;refine St.nn ?_;refine St.cond _ rfl (fun qU=> ?_) (fun qU=> ?_)
 ·try simp only[aA]at qU
  rw[if_pos (by omega)]at ow;refine St.sr ?_;refine St.ao ?_;refine St.nn (St.ae (St.a8 ?_));refine St.rU [_] [] Tryz.results56 ?_;exact ie ow.symm
 ·try simp only[aA]at qU
  rw[if_neg (by omega)]at ow;refine St.skip (St.a7 (St.seq (St.sr ?_)));refine St.ee (Ev.an (.mk rfl) rK trivial (by exact o9)) ?_;refine St.ee (Ev.an (.mk rfl) mA trivial (by exact gD)) ?_;refine St.ee (Ev.aD (.mk rfl) DW) ?_;refine St.ee (Ev.nC 1 (.mk rfl) tr trivial qE rfl rfl) ?_;refine St.slot 29 (eN x.graph) rfl rfl ?_;refine St.ee (Ev.call (lD tv xv w1 w2 ts fs x.graph hT hF) KK (.cons (.mk rfl) (.cons (.mk rfl) (.cons (.mk rfl) .nil)))) ?_;refine St.alloc dR rfl (fun b7=> ?_);refine St.sA (.mk rfl) (.mk rfl) aR ?_;refine St.nn (St.sr ?_);refine St.ee (Ev.aD (.mk rfl) cW) ?_;refine St.ee (Ev.l0 (.mk rfl) bf) ?_;refine St.ee Ev.kz ?_;refine St.nn ?_;refine St.cond _ rfl (fun nZ=> ?_) (fun nZ=> ?_)
  ·skip
   have hb:(cO (ts.map ck) (fs.map ey) (fM x.graph)).1≠0:=by simpa using nZ
   rw[if_pos hb]at ow;refine St.sr ?_;refine St.ee (Ev.aD (.mk rfl) cW) ?_;refine St.ee (Ev.l0 (.mk rfl) bf) ?_;refine St.ao ?_;refine St.nn (St.ae (St.a8 ?_));refine St.rU [_] [] Tryz.results56 ?_;exact ie ow.symm
  ·skip
   have hb:¬(cO (ts.map ck) (fs.map ey) (fM x.graph)).1≠0:=by simpa using nZ
   rw[if_neg hb]at ow;obtain⟨Qd,Il⟩:=ra (by rw[List.length_map];exact KD) (Decidable.not_not.1 hb);refine St.skip (St.a7 (St.seq (St.sr ?_)));refine St.ee (Ev.aD (.mk rfl) DW) ?_;refine St.ee (Ev.nC 1 (.mk rfl) tr trivial qE rfl rfl) ?_;refine St.slot 37 (eN x.graph) rfl rfl ?_;refine St.ee (Ev.aD (.mk rfl) uK) ?_;refine St.ee (Ev.l0 (.mk rfl) bf) ?_;refine St.ee (Ev.call (vx x.graph x.kids Qd Il) Sv (.cons (.mk rfl) (.cons (.mk rfl) .nil))) ?_;refine St.ee (Ev.not (.mk rfl)) ?_;refine St.nn ?_;refine St.cond _ rfl (fun yD=> ?_) (fun yD=> ?_)
   ·skip
    rw[if_pos (by simpa using yD)]at ow;refine St.sr ?_;refine St.ao ?_;refine St.nn (St.ae (St.a8 ?_));refine St.rU [_] [] Tryz.results56 ?_;exact ie ow.symm
   ·skip
    rw[if_neg (by simpa using yD)]at ow;refine St.skip (St.a7 (St.sr ?_));refine St.ee (Ev.aD (.mk rfl) KL) ?_;refine St.ee (Ev.nC 6 (.mk rfl) fl trivial dI rfl rfl) ?_;refine St.slot 43 (bT x.cl) rfl rfl ?_;refine St.ee (Ev.call (nH x.cl Ng) N8 (.cons (.mk rfl) .nil)) ?_;refine St.ee (Ev.tT (.mk rfl) bC rfl (by first|rw[bf]|(dsimp only;rw[bf])|kernel_rfl) rfl) ?_;refine St.ao ?_;refine St.nn (St.ae ?_);refine St.rU [_] [] Tryz.results56 ?_;exact ie ow.symm
theorem wL {T:List dh}{Fs:List kR}{l:List nX}{k:Nat}{t:nX}(ht:l[k]?=some t)(known:List ax):fi T Fs known k (l.drop k)=if isName t.name=false then(10,(k:Int))else if t.name∈known then(7,(k:Int))else if kk T Fs t≠0 then(kk T Fs t,(k:Int))else fi T Fs (known++ [t.name]) (k+1) (l.drop (k+1)):=by rw[bS ht,fi]
theorem yg {T:List dh}{Fs:List kR}{l:List nX}{k:Nat}(h:l.length≤k)(known:List ax):fi T Fs known k (l.drop k)=(0,0):=by rw[List.drop_of_length_le h,fi]
theorem wM {T:List dh}{Fs:List kR}{l:List FK}{k:Nat}{t:FK}(ht:l[k]?=some t):fj T Fs k (l.drop k)=if pz T Fs t≠0 then(pz T Fs t,(k:Int))else fj T Fs (k+1) (l.drop (k+1)):=by rw[bS ht,fj]
theorem yh {T:List dh}{Fs:List kR}{l:List FK}{k:Nat}(h:l.length≤k):fj T Fs k (l.drop k)=(0,0):=by rw[List.drop_of_length_le h,fj]
theorem H7 (g:k7):q7 (iW g)=if(fq (g.types.map ck) (g.c8.map ey)).1≠0 then fq (g.types.map ck) (g.c8.map ey)else if(g.c8.map ey).length≤3 then(9,-1)else if 40<(g.rules.map pE).length∨100<(g.bK.map k8).length then(2,-1)
 else if(fi (g.types.map ck) (g.c8.map ey) [] 0 (g.rules.map pE)).1≠0 then fi (g.types.map ck) (g.c8.map ey) [] 0 (g.rules.map pE)else if(fj (g.types.map ck) (g.c8.map ey) 0 (g.bK.map k8)).1≠0 then fj (g.types.map ck) (g.c8.map ey) 0 (g.bK.map k8)
 else if(cO (g.types.map ck) (g.c8.map ey) (fM g.start)).1≠0 then((cO (g.types.map ck) (g.c8.map ey) (fM g.start)).1,-1)else(0,0):=rfl
theorem ff {r x E:Int×Int}{c i:Int}(h:x=if r.1≠0 then r else E)(e:r=(c,i))(hc:c≠0):x=(c,i):=by rw[h,if_pos (by rw[e];exact hc),e]
theorem pa {r x E:Int×Int}(h:x=if r.1≠0 then r else E)(e:r=(0,0)):x=E:=by rw[h,if_neg (by rw[e];simp)]
set_option maxHeartbeats 4000000 in
theorem wN (g:k7):fG Tryz.prog 26 #[pG g] [jD g,tz,u8] (fv (q7 (iW g))):=by
 refine fG.body (args:=[pG g]) (ds:=[jD g,tz,u8]) 112 Tryz.func26 rfl Tryz.ntmps26 rfl (fun c gL=> ?_);refine St.cast (H':=[aE (jD g),aE (tz),aE (u8)]) rfl ?_;refine St.seq ?_
 refine St.fP (jD g) (fun _:Unit=>G2 g) (fun ρ h=>⟨(),h⟩) fun _=> ?_
 refine St.cast (H':=[aE (sl fh g.tv.1 g.types),aE (au hY g.types),aE (sl cV g.fv.1 g.c8),aE (sl cJ g.rv.1 g.rules),aE (au cK g.rules),aE (sl c6 g.xv.1 g.bK),aE (au dn g.bK),aE (bz g.start),aE (jD g),aE (tz),aE (u8)]) rfl ?_
 have rb:=H7 g
 have Ii:(g.types.map ck).length=g.types.length:=List.length_map ..
 have KD:(g.c8.map ey).length=g.c8.length:=List.length_map ..
 have hRl:(g.rules.map pE).length=g.rules.length:=List.length_map ..
 have Nh:(g.bK.map k8).length=g.bK.length:=List.length_map ..
 refine St.wf g.rv.1 (fun XE TJ=> ?_);refine St.wf g.xv.1 (fun nY uu=> ?_);refine St.rg ?_;refine St.dS (.mk rfl) rfl (fun b1=> ?_);refine St.alloc dR rfl (fun b2=> ?_);refine St.nn (St.sr ?_);refine St.ee (Ev.aD (.mk rfl) CQ) ?_;refine St.ee (Ev.nC 2 (.mk rfl) rK trivial o9 rfl rfl) ?_;refine St.slot 17 (.agg #[g.tv.1,g.fv.1]) rfl rfl ?_;refine St.alloc Jx rfl (fun b3=> ?_);refine St.sA (.mk rfl) (.mk rfl) o9 ?_ (h1:=(by simp only[List.all_cons,List.all_nil,Bool.and_true,Bool.and_eq_true];exact⟨g.tv.2,g.fv.2⟩));refine St.nn (St.seq (St.sr ?_));refine St.ee (Ev.an (.mk rfl) rK trivial (by exact o9)) ?_;refine St.ee (Ev.call (uG g.tv g.fv g.types g.c8) Sw (.cons (.mk rfl) .nil)) ?_;refine St.alloc dR rfl (fun b4=> ?_);refine St.sA (.mk rfl) (.mk rfl) aR ?_;refine St.nn (St.sr ?_);refine St.ee (Ev.aD (.mk rfl) cW) ?_;refine St.ee (Ev.l0 (.mk rfl) bf) ?_;refine St.ee Ev.kz ?_;refine St.nn ?_;refine St.cond _ rfl (fun pL=> ?_) (fun pL=> ?_)
 ·skip
  have hb:(fq (g.types.map ck) (g.c8.map ey)).1≠0:=by simpa using pL
  rw[if_pos hb]at rb;refine St.sr ?_;refine St.ee (Ev.an (.mk rfl) bC trivial (by exact aR)) ?_;refine St.sA (.mk rfl) (.mk rfl) aR ?_;refine St.nn (St.ae (St.a8 ?_));refine St.rT [_] [] Tryz.results26 ⟨⟨_,_,_,_,rfl,c4.mem,.inl ⟨⟨_,bC⟩,aR,rfl⟩⟩,trivial⟩ ?_;exact congrArg fv rb.symm
 ·skip
  have hb:¬(fq (g.types.map ck) (g.c8.map ey)).1≠0:=by simpa using pL
  rw[if_neg hb]at rb;obtain⟨_,hT,ZY,ZZ⟩:=Gj (Decidable.not_not.1 hb)
  have hF:∀f∈g.c8,0≤f.sD∧f.sD<g.types.length∧0≤f.value∧f.value<g.types.length:=fun f hf=>by have:=ZZ (ey f) (List.mem_map_of_mem hf);rw[Ii]at this;exact this
  refine St.skip (St.a7 (St.seq (St.sr ?_)));refine St.ee (Ev.aD (.mk rfl) o8) ?_;refine St.ee (Ev.l0 (.mk rfl) pI) ?_;refine St.ee (Ev.bA (.mk rfl) pI) ?_;refine St.ee Ev.Ju ?_;refine St.nn ?_;refine St.cond _ rfl (fun yf=> ?_) (fun yf=> ?_)
  ·try simp only[aA]at yf
   rw[if_pos (by omega)]at rb;refine St.sr ?_;refine St.ee (Ev.call (cy 9 (-1)) yT (.cons (.mk rfl) (.cons (.mk rfl) .nil))) ?_;refine St.sA (.mk rfl) (.mk rfl) aR ?_;refine St.nn (St.ae (St.a8 ?_));refine St.rT [_] [] Tryz.results26 ⟨⟨_,_,_,_,rfl,c4.mem,.inl ⟨⟨_,bC⟩,aR,rfl⟩⟩,trivial⟩ ?_;exact congrArg fv rb.symm
  ·try simp only[aA]at yf
   rw[if_neg (by omega)]at rb;refine St.skip (St.a7 (St.seq (St.sr ?_)));refine St.ee (Ev.aD (.mk rfl) oA) ?_;refine St.ee (Ev.l0 (.mk rfl) pJ) ?_;refine St.ee (Ev.bA (.mk rfl) pJ) ?_;refine St.ee Ev.vQ ?_;refine St.mv ?_;refine St.gf _ rfl rfl (fun hg=>Ev.aD (.mk rfl) l3) rfl ?_;refine St.gf _ rfl rfl (fun hg=>Ev.cY (aL.gv rfl hg) kS trivial (by rfl)) rfl ?_;refine St.gf _ rfl rfl (fun hg=>Ev.bA (aL.gv rfl hg) kS) rfl ?_;refine St.gf _ rfl rfl (fun hg=>Ev.gtr (aL.gv rfl hg) (.mk rfl)) rfl ?_;refine St.ee Ev.o0 ?_;refine St.nn ?_;refine St.cond _ rfl (fun Al=> ?_) (fun Al=> ?_)
   ·try simp only[aA]at Al
    rw[if_pos (by omega)]at rb;refine St.sr ?_;refine St.ee (Ev.call (cy 2 (-1)) yT (.cons (.mk rfl) (.cons (.mk rfl) .nil))) ?_;refine St.sA (.mk rfl) (.mk rfl) aR ?_;refine St.nn (St.ae (St.a8 ?_));refine St.rT [_] [] Tryz.results26 ⟨⟨_,_,_,_,rfl,c4.mem,.inl ⟨⟨_,bC⟩,aR,rfl⟩⟩,trivial⟩ ?_;exact congrArg fv rb.symm
   ·try simp only[aA]at Al
    rw[if_neg (by omega)]at rb;refine St.skip (St.a7 (St.sr ?_));refine St.ee (Ev.aD (.mk rfl) iy) ?_;refine St.ee (Ev.l0 (.mk rfl) gQ) ?_;refine St.ag (ox g.tv.1 g.types hT) Mh (.cons (.mk rfl) .nil) rfl ?_;rintro v42 _ ⟨w1,w2,rfl,rfl⟩;refine St.cI ?_;refine St.alloc nD rfl (fun b5=> ?_);refine St.sA (.mk rfl) (.mk rfl) gD ?_ (h1:=(by simp only[List.all_cons,List.all_nil,Bool.and_true,Bool.and_eq_true];exact⟨w1.2,w2.2⟩));refine St.nn (St.sr ?_);refine St.makeMap mkStr rfl (fun Ni=> ?_);refine St.ao ?_;refine St.nn (St.seq (St.sr ?_));refine St.ee (Ev.aD (.mk rfl) oA) ?_;refine St.ee (Ev.l0 (.mk rfl) pJ) ?_;refine St.ee (Ev.bA (.mk rfl) pJ) ?_;refine St.mv ?_;refine St.nn (St.block ?_);refine St.pH (ι:=Nat) (κ:=List (ax×Value)) (fun k m T=>(47,iv k)::T) (fun k m=>[aZ Ni (gE mkStr m),aZ b1 (.cells [g.tv.1,g.fv.1,g.rv.1,g.xv.1,g.start.nv.1].toArray 54 (0,0)),aZ b2 (.cells [iv 0,iv 0].toArray 28 (0,0)),aZ b3 (.cells [g.tv.1,g.fv.1].toArray 47 (0,0)),aZ b5 (.cells [w1.1,w2.1].toArray 128 (0,0)),aE (sl fh g.tv.1 g.types),aE (au hY g.types),aE (sl cV g.fv.1 g.c8),aE (sl cJ g.rv.1 g.rules),aE (au cK g.rules),aE (sl c6 g.xv.1 g.bK),aE (au dn g.bK),aE (bz g.start),aE (sl dU w1.1 (iz (g.types.map ck))),aE (sl dU w2.1 (j0 (g.types.map ck))),aE (u8)]) (fun k m=>k≤g.rules.length∧fi (g.types.map ck) (g.c8.map ey) [] 0 (g.rules.map pE)=fi (g.types.map ck) (g.c8.map ey) ((g.rules.take k).map bm.name) k ((g.rules.map pE).drop k)∧Aq m ((g.rules.take k).map bm.name)) (fun k m=>g.rules.length-k) 0 [] (aG.cons 1 rfl (aG.cons 2 rfl (aG.cons 3 rfl (aG.cons 5 rfl (aG.cons 6 rfl (aG.cons 45 rfl (aG.cons 46 rfl aG.nil))))))) ⟨Nat.zero_le _,rfl,Aq.nil⟩ ?_;rintro k m ⟨hk,hv,wu⟩;refine St.sr ?_;refine St.ee Ev.ez ?_;refine St.nn (St.seq ?_);refine St.cond _ rfl (fun BB=> ?_) (fun BB=> ?_)
    ·try simp only[aA]at BB
     obtain⟨t,ht⟩:=aY (show k<g.rules.length by omega)
     have qM:=List.mem_of_getElem? ht
     have cq:=wL (T:=(g.types.map ck)) (Fs:=(g.c8.map ey)) (l:=g.rules.map pE) (k:=k) (t:=pE t) (by rw[List.getElem?_map,ht];rfl) ((g.rules.take k).map bm.name)
     have FQ:t.name.length≤9223372036854775807:=by have:=(XE t qM).1;simp only[iK]at this;omega
     refine St.dK cK g.rules (x:=t) qM ?_;refine St.skip (St.a7 (St.seq (St.block (St.sr ?_))));refine St.mv ?_;refine St.ee (Ev.aa (k:=k) (.mk rfl) (.mk rfl) pJ xk (by omega) (by omega)) ?_;refine St.ee (Ev.iH (.mk rfl) ht Tryz.underlying98 trivial xk fw.eq) ?_;refine St.alloc K0 rfl (fun b8=> ?_);refine St.ao ?_;refine St.sA (.mk rfl) (.mk rfl) xk ?_ (h1:=(by simp only[List.all_cons,List.all_nil,Bool.and_true,Bool.and_eq_true];exact⟨rfl,t.graph.nv.2,rfl,rfl,rfl,rfl,rfl,rfl,t.cl.type.av.2,t.cl.av.2⟩));refine St.nn (St.seq (St.sr ?_));refine St.ee (Ev.aD (.mk rfl) uL) ?_;refine St.ee (Ev.l0 (.mk rfl) cZ) ?_;refine St.ee (Ev.call (fB t.name FQ) u5 (.cons (.mk rfl) .nil)) ?_;refine St.ee (Ev.not (.mk rfl)) ?_;refine St.nn ?_;refine St.cond _ rfl (fun Du=> ?_) (fun Du=> ?_)
     ·try simp only[aA]at Du
      rw[if_pos (show isName (pE t).name=false from(by simpa using Du:isName t.name=false))]at cq;refine St.sr ?_;refine St.mv ?_;refine St.ee (Ev.call (cy 10 k) yT (.cons (.mk rfl) (.cons (.mk rfl) .nil))) ?_;refine St.sA (.mk rfl) (.mk rfl) aR ?_;refine St.nn (St.ae (St.a8 (St.aN (St.a8 (St.a8 (St.aN (St.a8 ?_)))))));refine St.rT [_] [] Tryz.results26 ⟨⟨_,_,_,_,rfl,c4.mem,.inl ⟨⟨_,bC⟩,aR,rfl⟩⟩,trivial⟩ ?_;exact congrArg fv (ff rb (hv.trans cq) (by decide)).symm
     ·try simp only[aA]at Du
      rw[if_neg (show ¬isName (pE t).name=false from(by simpa using Du:¬isName t.name=false))]at cq;refine St.skip (St.a7 (St.seq (St.sr ?_)));refine St.mv ?_;refine St.ee (Ev.aD (.mk rfl) uL) ?_;refine St.ee (Ev.l0 (.mk rfl) cZ) ?_;refine St.ee (Ev.jz mkStr (k:=t.name) (.mk rfl) (.mk rfl) pK (by exact cZ) dx) ?_;refine St.mv ?_;refine St.ee (Ev.extract (.mk rfl) rfl) ?_;refine St.ee (Ev.extract (.mk rfl) rfl) ?_;refine St.slot 64 (.bool (decide (t.name∈(g.rules.take k).map bm.name))) rfl (congrArg Value.bool (wu t.name)) ?_;refine St.ao ?_;refine St.ao ?_;refine St.nn (St.sr ?_);refine St.mv ?_;refine St.nn ?_;refine St.cond _ rfl (fun re=> ?_) (fun re=> ?_)
      ·try simp only[aA]at re
       rw[if_pos (show(pE t).name∈(g.rules.take k).map bm.name from re)]at cq;refine St.sr ?_;refine St.mv ?_;refine St.ee (Ev.call (cy 7 k) yT (.cons (.mk rfl) (.cons (.mk rfl) .nil))) ?_;refine St.sA (.mk rfl) (.mk rfl) aR ?_;refine St.nn (St.ae (St.a8 (St.aN (St.a8 (St.a8 (St.aN (St.a8 ?_)))))));refine St.rT [_] [] Tryz.results26 ⟨⟨_,_,_,_,rfl,c4.mem,.inl ⟨⟨_,bC⟩,aR,rfl⟩⟩,trivial⟩ ?_;exact congrArg fv (ff rb (hv.trans cq) (by decide)).symm
      ·try simp only[aA]at re
       rw[if_neg (show ¬(pE t).name∈(g.rules.take k).map bm.name from re)]at cq;refine St.skip (St.a7 (St.sr ?_));refine St.mv ?_;refine St.ee (Ev.aD (.mk rfl) uL) ?_;refine St.ee (Ev.l0 (.mk rfl) cZ) ?_;refine St.mv ?_;refine St.mapUpdate mkStr (k:=t.name) (.mk rfl) (.mk rfl) (.mk rfl) pK (by exact cZ) ?_;refine St.nn (St.sr ?_);refine St.ee (Ev.an (.mk rfl) rK trivial (by exact o9)) ?_;refine St.ee (Ev.an (.mk rfl) mA trivial (by exact gD)) ?_;refine St.ee (Ev.an (.mk rfl) Tryz.underlying98 trivial (by exact xk)) ?_;refine St.ee (Ev.call (BD g.tv g.fv w1 w2 g.types g.c8 t hT hF (by omega) (XE t qM)) Sy (.cons (.mk rfl) (.cons (.mk rfl) (.cons (.mk rfl) .nil)))) ?_;refine St.ao ?_;refine St.nn (St.sr ?_);refine St.mv ?_;refine St.ee Ev.kz ?_;refine St.nn ?_;refine St.cond _ rfl (fun uH=> ?_) (fun uH=> ?_)
       ·skip
        have Dk:kk (g.types.map ck) (g.c8.map ey) (pE t)≠0:=by simpa using uH
        rw[if_pos Dk]at cq;refine St.sr ?_;refine St.mv ?_;refine St.mv ?_;refine St.ee (Ev.call (cy (kk (g.types.map ck) (g.c8.map ey) (pE t)) k) yT (.cons (.mk rfl) (.cons (.mk rfl) .nil))) ?_;refine St.sA (.mk rfl) (.mk rfl) aR ?_;refine St.nn (St.ae (St.aN (St.a8 (St.a8 (St.aN (St.a8 ?_))))));refine St.rT [_] [] Tryz.results26 ⟨⟨_,_,_,_,rfl,c4.mem,.inl ⟨⟨_,bC⟩,aR,rfl⟩⟩,trivial⟩ ?_;exact congrArg fv (ff rb (hv.trans cq) Dk).symm
       ·skip
        have Dk:¬kk (g.types.map ck) (g.c8.map ey) (pE t)≠0:=by simpa using uH
        rw[if_neg Dk]at cq;refine St.skip (St.aW (St.a7 (St.rg ?_)));refine St.ee Ev.a0 ?_;refine St.mv ?_;refine St.nn ?_;refine St.ly (k+1) (gZ m t.name (iv k)) ⟨by omega,by rw[hv,cq,c9 bm.name ht];rfl,by rw[c9 bm.name ht];exact wu.snoc _ _⟩
    ·try simp only[aA]at BB
     rw[yg (by omega)]at hv
     replace rb:=pa rb hv
     refine St.exit (St.aJ (St.aJ (St.bO (St.a7 (St.seq (St.sr ?_))))));refine St.ee (Ev.aD (.mk rfl) l3) ?_;refine St.ee (Ev.l0 (.mk rfl) kS) ?_;refine St.ee (Ev.bA (.mk rfl) kS) ?_;refine St.mv ?_;refine St.nn (St.block ?_);refine St.lH (ι:=Nat) (fun q T=>(85,iv q)::T) (fun q=>[aZ b1 (.cells [g.tv.1,g.fv.1,g.rv.1,g.xv.1,g.start.nv.1].toArray 54 (0,0)),aZ b2 (.cells [iv 0,iv 0].toArray 28 (0,0)),aZ b3 (.cells [g.tv.1,g.fv.1].toArray 47 (0,0)),aZ b5 (.cells [w1.1,w2.1].toArray 128 (0,0)),aE (sl fh g.tv.1 g.types),aE (au hY g.types),aE (sl cV g.fv.1 g.c8),aE (sl cJ g.rv.1 g.rules),aE (au cK g.rules),aE (sl c6 g.xv.1 g.bK),aE (au dn g.bK),aE (bz g.start),aE (sl dU w1.1 (iz (g.types.map ck))),aE (sl dU w2.1 (j0 (g.types.map ck))),aE (u8)]) (fun q=>q≤g.bK.length∧fj (g.types.map ck) (g.c8.map ey) 0 (g.bK.map k8)=fj (g.types.map ck) (g.c8.map ey) q ((g.bK.map k8).drop q)) (fun q=>g.bK.length-q) 0 (aG.cons 1 rfl (aG.cons 2 rfl (aG.cons 3 rfl (aG.cons 5 rfl (aG.cons 83 rfl (aG.cons 84 rfl aG.nil)))))) ⟨Nat.zero_le _,rfl⟩ ?_;rintro q ⟨hq,oI⟩;refine St.sr ?_;refine St.ee Ev.ez ?_;refine St.nn (St.seq ?_);refine St.cond _ rfl (fun H8=> ?_) (fun H8=> ?_)
     ·try simp only[aA]at H8
      obtain⟨x,hx⟩:=aY (show q<g.bK.length by omega)
      have FT:=List.mem_of_getElem? hx
      have cq:=wM (T:=(g.types.map ck)) (Fs:=(g.c8.map ey)) (l:=g.bK.map k8) (k:=q) (t:=k8 x) (by rw[List.getElem?_map,hx];rfl)
      refine St.dK dn g.bK (x:=x) FT ?_;refine St.skip (St.a7 (St.seq (St.block (St.sr ?_))));refine St.mv ?_;refine St.ee (Ev.aa (k:=q) (.mk rfl) (.mk rfl) kS l4 (by omega) (by omega)) ?_;refine St.ee (Ev.iH (.mk rfl) hx Tryz.underlying100 trivial l4 fw.eq) ?_;refine St.alloc IX rfl (fun XF=> ?_);refine St.ao ?_;refine St.sA (.mk rfl) (.mk rfl) l4 ?_ (h1:=(by simp only[List.all_cons,List.all_nil,Bool.and_true,Bool.and_eq_true];exact⟨rfl,x.graph.nv.2,rfl,rfl,rfl,rfl,rfl,x.cl.type.av.2,x.cl.av.2⟩));refine St.nn (St.sr ?_);refine St.ee (Ev.an (.mk rfl) rK trivial (by exact o9)) ?_;refine St.ee (Ev.an (.mk rfl) mA trivial (by exact gD)) ?_;refine St.ee (Ev.an (.mk rfl) Tryz.underlying100 trivial (by exact l4)) ?_;refine St.ee (Ev.gA gL (ye g.tv g.fv w1 w2 g.types g.c8 x hT hF (nY x FT)) Sz (.cons (.mk rfl) (.cons (.mk rfl) (.cons (.mk rfl) .nil)))) ?_;refine St.ao ?_;refine St.nn (St.sr ?_);refine St.mv ?_;refine St.ee Ev.kz ?_;refine St.nn ?_;refine St.cond _ rfl (fun sO=> ?_) (fun sO=> ?_)
      ·skip
       have Dk:pz (g.types.map ck) (g.c8.map ey) (k8 x)≠0:=by simpa using sO
       rw[if_pos Dk]at cq;refine St.sr ?_;refine St.mv ?_;refine St.mv ?_;refine St.ee (Ev.call (cy (pz (g.types.map ck) (g.c8.map ey) (k8 x)) q) yT (.cons (.mk rfl) (.cons (.mk rfl) .nil))) ?_;refine St.sA (.mk rfl) (.mk rfl) aR ?_;refine St.nn (St.ae (St.aN (St.a8 (St.a8 (St.aN (St.a8 ?_))))));refine St.rT [_] [] Tryz.results26 ⟨⟨_,_,_,_,rfl,c4.mem,.inl ⟨⟨_,bC⟩,aR,rfl⟩⟩,trivial⟩ ?_;exact congrArg fv (ff rb (oI.trans cq) Dk).symm
      ·skip
       have Dk:¬pz (g.types.map ck) (g.c8.map ey) (k8 x)≠0:=by simpa using sO
       rw[if_neg Dk]at cq;refine St.skip (St.aW (St.a7 (St.rg ?_)));refine St.ee Ev.a0 ?_;refine St.mv ?_;refine St.nn ?_;refine St.aH (q+1) ⟨by omega,oI.trans cq⟩
     ·try simp only[aA]at H8
      rw[yh (by omega)]at oI
      replace rb:=pa rb oI
      refine St.exit (St.aJ (St.aJ (St.bO (St.a7 (St.seq (St.sr ?_))))));refine St.ee (Ev.an (.mk rfl) rK trivial (by exact o9)) ?_;refine St.ee (Ev.an (.mk rfl) mA trivial (by exact gD)) ?_;refine St.ee (Ev.aD (.mk rfl) CR) ?_;refine St.ee (Ev.nC 1 (.mk rfl) tr trivial qE rfl rfl) ?_;refine St.slot 103 (eN g.start) rfl rfl ?_;refine St.ee (Ev.call (lD g.tv g.fv w1 w2 g.types g.c8 g.start hT hF) KK (.cons (.mk rfl) (.cons (.mk rfl) (.cons (.mk rfl) .nil)))) ?_;refine St.alloc dR rfl (fun ZC=> ?_);refine St.sA (.mk rfl) (.mk rfl) aR ?_;refine St.nn (St.sr ?_);refine St.ee (Ev.aD (.mk rfl) cW) ?_;refine St.ee (Ev.l0 (.mk rfl) bf) ?_;refine St.ee Ev.kz ?_;refine St.nn ?_;refine St.cond _ rfl (fun Kc=> ?_) (fun Kc=> ?_)
      ·skip
       have Tj:(cO (g.types.map ck) (g.c8.map ey) (fM g.start)).1≠0:=by simpa using Kc
       rw[if_pos Tj]at rb;refine St.sr ?_;refine St.ee (Ev.aD (.mk rfl) cW) ?_;refine St.ee (Ev.l0 (.mk rfl) bf) ?_;refine St.ee (Ev.call (cy (cO (g.types.map ck) (g.c8.map ey) (fM g.start)).1 (-1)) yT (.cons (.mk rfl) (.cons (.mk rfl) .nil))) ?_;refine St.sA (.mk rfl) (.mk rfl) aR ?_;refine St.nn (St.ae (St.a8 ?_));refine St.rT [_] [] Tryz.results26 ⟨⟨_,_,_,_,rfl,c4.mem,.inl ⟨⟨_,bC⟩,aR,rfl⟩⟩,trivial⟩ ?_;exact congrArg fv rb.symm
      ·skip
       have Tj:¬(cO (g.types.map ck) (g.c8.map ey) (fM g.start)).1≠0:=by simpa using Kc
       rw[if_neg Tj]at rb;refine St.skip (St.a7 (St.sr ?_));refine St.ee (Ev.build (ps:=[]) (aQ.nil) (fun w=>fK w)) ?_;refine St.sA (.mk rfl) (.mk rfl) aR ?_;refine St.nn (St.ae ?_);refine St.rT [_] [] Tryz.results26 ⟨⟨_,_,_,_,rfl,c4.mem,.inl ⟨⟨_,bC⟩,aR,rfl⟩⟩,trivial⟩ ?_;exact congrArg fv rb.symm
theorem p2 {l:List bL}{k:Nat}{v:bL}(ht:l[k]?=some v)(known:List ax):dp known k (l.drop k)=if v.kind<1∨4<v.kind then(4,(k:Int))else if isName v.name=false∨(v.kind=2∧isName v.label=false)∨(v.kind=3∧isWord v.label=false)then(10,(k:Int))
 else if v.name∈known then(7,(k:Int))else if(v.kind=1∨v.kind=4)∧v.label≠ []then(5,(k:Int))else dp (known++ [v.name]) (k+1) (l.drop (k+1)):=by rw[bS ht,dp]
theorem qe {l:List bL}{k:Nat}(h:l.length≤k)(known:List ax):dp known k (l.drop k)=(0,0):=by rw[List.drop_of_length_le h,dp]
theorem p4 {n:Int}{m:Nat}{l:List cL}{k:Nat}{x:cL}(ht:l[k]?=some x):fI n (m+k) (l.drop k)=if x.kind<1∨5<x.kind then(4,((m+k:Nat):Int))else if x.a<0∨n≤x.a∨x.b<0∨n≤x.b then(3,((m+k:Nat):Int))else if x.a=x.b then(5,((m+k:Nat):Int))else fI n (m+(k+1)) (l.drop (k+1)):=by rw[bS ht,fI];rfl
theorem qf {n:Int}{l:List cL}{k m:Nat}(h:l.length≤k):fI n m (l.drop k)=(0,0):=by rw[List.drop_of_length_le h,fI]
theorem zw (vs:List bL)(ks:List cL):ec vs ks=if 4<vs.length∨8<ks.length then(2,-1)else if vs.length=0 then(9,-1)else if(dp [] 0 vs).1≠0 then dp [] 0 vs else fI vs.length vs.length ks:=rfl
set_option maxHeartbeats 4000000 in
theorem lI (q:cF):fG Tryz.prog 15 #[da q] [bG q,u8] (fv (ec q.vars q.aV)):=by
 refine fG.body (args:=[da q]) (ds:=[bG q,u8]) 165 Tryz.func15 rfl Tryz.ntmps15 rfl (fun c gL=> ?_);refine St.cast (H':=[aE (bG q),aE (u8)]) rfl ?_;refine St.seq ?_
 refine St.fP (bG q) (fun _:Unit=>kD q) (fun ρ h=>⟨(),h⟩) fun _=> ?_
 refine St.cast (H':=[aE (sl cC q.vv.1 q.vars),aE (sl cE q.kv.1 q.aV),aE (bG q),aE (u8)]) rfl ?_
 have lz:=zw q.vars q.aV
 refine St.wf q.vv.1 (fun yb rV=> ?_);refine St.wf q.kv.1 (fun zf wv=> ?_);refine St.rg ?_;refine St.dS (.mk rfl) rfl (fun b1=> ?_);refine St.alloc dR rfl (fun b2=> ?_);refine St.nn (St.seq (St.sr ?_));refine St.ee (Ev.aD (.mk rfl) cN) ?_;refine St.ee (Ev.l0 (.mk rfl) cM) ?_;refine St.ee (Ev.bA (.mk rfl) cM) ?_;refine St.ee Ev.vQ ?_;refine St.mv ?_;refine St.gf _ rfl rfl (fun hg=>Ev.aD (.mk rfl) dz) rfl ?_;refine St.gf _ rfl rfl (fun hg=>Ev.cY (aL.gv rfl hg) dw trivial (by rfl)) rfl ?_;refine St.gf _ rfl rfl (fun hg=>Ev.bA (aL.gv rfl hg) dw) rfl ?_;refine St.gf _ rfl rfl (fun hg=>Ev.gtr (aL.gv rfl hg) (.mk rfl)) rfl ?_;refine St.ee Ev.o0 ?_;refine St.nn ?_;refine St.cond _ rfl (fun qc=> ?_) (fun qc=> ?_)
 ·try simp only[aA]at qc
  rw[if_pos (by omega)]at lz;refine St.sr ?_;refine St.ee (Ev.call (bU 2 (-1)) mU (.cons (.mk rfl) (.cons (.mk rfl) .nil))) ?_;refine St.sA (.mk rfl) (.mk rfl) aR ?_;refine St.nn (St.ae (St.a8 ?_));refine St.rT [_] [] Tryz.results15 ⟨⟨_,_,_,_,rfl,c4.mem,.inl ⟨⟨_,bC⟩,aR,rfl⟩⟩,trivial⟩ ?_;exact congrArg fv lz.symm
 ·try simp only[aA]at qc
  rw[if_neg (by omega)]at lz
  have Za:q.vars.length≤4:=by omega
  have XG:q.aV.length≤8:=by omega
  refine St.skip (St.a7 (St.seq (St.sr ?_)));refine St.ee (Ev.aD (.mk rfl) cN) ?_;refine St.ee (Ev.l0 (.mk rfl) cM) ?_;refine St.ee (Ev.bA (.mk rfl) cM) ?_;refine St.ee Ev.fE ?_;refine St.nn ?_;refine St.cond _ rfl (fun qU=> ?_) (fun qU=> ?_)
  ·try simp only[aA]at qU
   rw[if_pos (by omega)]at lz;refine St.sr ?_;refine St.ee (Ev.call (bU 9 (-1)) mU (.cons (.mk rfl) (.cons (.mk rfl) .nil))) ?_;refine St.sA (.mk rfl) (.mk rfl) aR ?_;refine St.nn (St.ae (St.a8 ?_));refine St.rT [_] [] Tryz.results15 ⟨⟨_,_,_,_,rfl,c4.mem,.inl ⟨⟨_,bC⟩,aR,rfl⟩⟩,trivial⟩ ?_;exact congrArg fv lz.symm
  ·try simp only[aA]at qU
   rw[if_neg (by omega)]at lz;refine St.skip (St.a7 (St.sr ?_));refine St.makeMap mkStr rfl (fun R9=> ?_);refine St.ao ?_;refine St.nn (St.seq (St.sr ?_));refine St.ee (Ev.aD (.mk rfl) cN) ?_;refine St.ee (Ev.l0 (.mk rfl) cM) ?_;refine St.ee (Ev.bA (.mk rfl) cM) ?_;refine St.mv ?_;refine St.nn (St.block ?_);refine St.pH (ι:=Nat) (κ:=List (ax×Value)) (fun k m T=>(31,iv k)::T) (fun k m=>[aZ R9 (gE mkStr m),aZ b1 (.cells [q.vv.1,q.kv.1].toArray 25 (0,0)),aZ b2 (.cells [iv 0,iv 0].toArray 28 (0,0)),aE (sl cC q.vv.1 q.vars),aE (sl cE q.kv.1 q.aV),aE (u8)]) (fun k m=>k≤q.vars.length∧dp [] 0 q.vars=dp ((q.vars.take k).map bL.name) k (q.vars.drop k)∧Aq m ((q.vars.take k).map bL.name)) (fun k m=>q.vars.length-k) 0 [] (aG.cons 1 rfl (aG.cons 2 rfl (aG.cons 3 rfl (aG.cons 29 rfl (aG.cons 30 rfl aG.nil))))) ⟨Nat.zero_le _,rfl,Aq.nil⟩ ?_;rintro k m ⟨hk,hv,wu⟩;refine St.sr ?_;refine St.ee Ev.ez ?_;refine St.nn (St.seq ?_);refine St.cond _ rfl (fun xB=> ?_) (fun xB=> ?_)
   ·try simp only[aA]at xB
    obtain⟨va,ht⟩:=aY (show k<q.vars.length by omega)
    have qM:=List.mem_of_getElem? ht
    have cq:=p2 ht ((q.vars.take k).map bL.name)
    obtain⟨LS,Wz,Nj⟩:=yb va qM
    replace LS:va.name.length≤140737488351232:=LS
    replace Nj:va.label.length≤140737488351232:=Nj
    refine St.skip (St.a7 (St.seq (St.block (St.sr ?_))));refine St.mv ?_;refine St.ee (Ev.aa (k:=k) (.mk rfl) (.mk rfl) cM cv (by omega) (by omega)) ?_;refine St.ee (Ev.iH (.mk rfl) ht gP trivial cv fw.eq) ?_;refine St.alloc pM rfl (fun b5=> ?_);refine St.ao ?_;refine St.sA (.mk rfl) (.mk rfl) cv ?_ (h1:=(by simp only[List.all_cons,List.all_nil,Bool.and_true,Bool.and_eq_true];exact⟨rfl,rfl,rfl⟩));refine St.nn (St.sr ?_);refine St.mv ?_;refine St.ee (Ev.aD (.mk rfl) fm) ?_;refine St.ee (Ev.l0 (.mk rfl) cZ) ?_;refine St.ee (Ev.jz mkStr (k:=va.name) (.mk rfl) (.mk rfl) pK (by exact cZ) dx) ?_;refine St.mv ?_;refine St.ee (Ev.extract (.mk rfl) rfl) ?_;refine St.ee (Ev.extract (.mk rfl) rfl) ?_;refine St.slot 42 (.bool (decide (va.name∈(q.vars.take k).map bL.name))) rfl (congrArg Value.bool (wu va.name)) ?_;refine St.ao ?_;refine St.ao ?_;refine St.nn (St.sr ?_);refine St.mv ?_;refine St.ee (Ev.aD (.mk rfl) fm) ?_;refine St.ee (Ev.l0 (.mk rfl) cZ) ?_;refine St.mv ?_;refine St.mapUpdate mkStr (k:=va.name) (.mk rfl) (.mk rfl) (.mk rfl) pK (by exact cZ) ?_;refine St.nn (St.block (St.sr ?_));refine St.ee (Ev.aD (.mk rfl) db) ?_;refine St.ee (Ev.l0 (.mk rfl) bf) ?_;refine St.ee Ev.ez ?_;refine St.mv ?_;refine St.gf _ rfl rfl (fun hg=>Ev.aD (.mk rfl) db) rfl ?_;refine St.gf _ rfl rfl (fun hg=>Ev.cY (aL.gv rfl hg) bf trivial (by rfl)) rfl ?_;refine St.gf _ rfl rfl (fun hg=>Ev.gtr (aL.gv rfl hg) (.mk rfl)) rfl ?_;refine St.ee Ev.o0 ?_;refine St.ao ?_;refine St.nn ?_;refine St.cond _ rfl (fun Tk=> ?_) (fun Tk=> ?_)
    ·try simp only[aA]at Tk
     rw[if_pos (by omega)]at cq;refine St.sr ?_;refine St.mv ?_;refine St.ee (Ev.call (bU 4 k) mU (.cons (.mk rfl) (.cons (.mk rfl) .nil))) ?_;refine St.sA (.mk rfl) (.mk rfl) aR ?_;refine St.nn (St.ae (St.aN (St.aN (St.a8 (St.a8 (St.aN (St.a8 ?_)))))));refine St.rT [_] [] Tryz.results15 ⟨⟨_,_,_,_,rfl,c4.mem,.inl ⟨⟨_,bC⟩,aR,rfl⟩⟩,trivial⟩ ?_;exact congrArg fv (ff lz (hv.trans cq) (by decide)).symm
    ·try simp only[aA]at Tk
     rw[if_neg (by omega)]at cq;refine St.join (ι:=Bool) (fun bq T=>(58,.bool bq)::T) (fun bq=>[aZ b5 (.cells [sv va.name,iv va.kind,sv va.label].toArray 38 (0,0)),aZ R9 (gE mkStr (gZ m va.name (iv k))),aZ b1 (.cells [q.vv.1,q.kv.1].toArray 25 (0,0)),aZ b2 (.cells [iv 0,iv 0].toArray 28 (0,0)),aE (sl cC q.vv.1 q.vars),aE (sl cE q.kv.1 q.aV),aE (u8)]) (fun bq=>(bq=true↔(isName va.name=false∨(va.kind=2∧isName va.label=false)∨(va.kind=3∧isWord va.label=false)))) (aG.cons 1 rfl (aG.cons 2 rfl (aG.cons 3 rfl (aG.cons 4 rfl (aG.cons 5 rfl (aG.cons 7 rfl (aG.cons 29 rfl (aG.cons 30 rfl (aG.cons 31 rfl aG.nil))))))))) ?_ ?_
     ·refine St.sr ?_
      refine St.ee (Ev.aD (.mk rfl) fm) ?_;refine St.ee (Ev.l0 (.mk rfl) cZ) ?_;refine St.ee (Ev.call (fB va.name (by omega)) u5 (.cons (.mk rfl) .nil)) ?_;refine St.ee (Ev.not (.mk rfl)) ?_;refine St.ao ?_;refine St.nn ?_;refine St.cond _ rfl (fun nP=> ?_) (fun nP=> ?_)
      ·skip
       refine St.skip (St.a7 ?_);refine St.mE true (by first|(simp only[Bool.and_eq_true,decide_eq_true_eq,Bool.not_eq_true']at yi;exact⟨fun _=>Or.inr (Or.inl yi),fun _=>rfl⟩)|(simp only[Bool.not_eq_true']at nP;exact⟨fun _=>Or.inl nP,fun _=>rfl⟩))
      ·skip
       refine St.sr ?_;refine St.ee (Ev.aD (.mk rfl) db) ?_;refine St.ee (Ev.l0 (.mk rfl) bf) ?_;refine St.ee Ev.fE ?_;refine St.mv ?_;refine St.gt _ rfl rfl (fun hg=>Ev.aD (.mk rfl) fL) rfl ?_;refine St.gt _ rfl rfl (fun hg=>Ev.cY (aL.gv rfl hg) cZ trivial (by rfl)) rfl ?_;refine St.gt _ rfl rfl (fun hg=>Ev.call (fB va.label (by omega)) u5 (.cons (aL.gv rfl hg) .nil)) rfl ?_;refine St.gt _ rfl rfl (fun hg=>Ev.not (aL.gv rfl hg)) rfl ?_;refine St.ee Ev.n0 ?_;refine St.ao ?_;refine St.nn ?_;refine St.cond _ rfl (fun yi=> ?_) (fun yi=> ?_)
       ·skip
        refine St.skip (St.a7 ?_);refine St.mE true (by first|(simp only[Bool.and_eq_true,decide_eq_true_eq,Bool.not_eq_true']at yi;exact⟨fun _=>Or.inr (Or.inl yi),fun _=>rfl⟩)|(simp only[Bool.not_eq_true']at nP;exact⟨fun _=>Or.inl nP,fun _=>rfl⟩))
       ·skip
        refine St.rg ?_;refine St.ee (Ev.aD (.mk rfl) db) ?_;refine St.ee (Ev.l0 (.mk rfl) bf) ?_;refine St.ee Ev.fE ?_;refine St.mv ?_;refine St.gt _ rfl rfl (fun hg=>Ev.aD (.mk rfl) fL) rfl ?_;refine St.gt _ rfl rfl (fun hg=>Ev.cY (aL.gv rfl hg) cZ trivial (by rfl)) rfl ?_;refine St.gt _ rfl rfl (fun hg=>Ev.gA gL (oO va.label (by omega)) KJ (.cons (aL.gv rfl hg) .nil)) rfl ?_;refine St.gt _ rfl rfl (fun hg=>Ev.not (aL.gv rfl hg)) rfl ?_;refine St.ee Ev.n0 ?_;refine St.ao ?_;refine St.nn ?_;refine St.mE (decide (va.kind=3)&& !isWord va.label) (by simp only[Bool.not_eq_false',Bool.and_eq_false_iff,decide_eq_false_iff_not]at nP yi;simp only[Bool.and_eq_true,decide_eq_true_eq,Bool.not_eq_true'];exact⟨fun h=>Or.inr (Or.inr h),fun h=>by rcases h with h|⟨h,h2⟩|h;(rw[nP]at h;cases h);(rcases yi with h3|h3;exact absurd h h3;rw[h3]at h2;cases h2);exact h⟩)
     ·intro bq XH
      refine St.cond _ rfl (fun nP=> ?_) (fun nP=> ?_)
      ·skip
       refine St.seq ?_;rw[if_pos (XH.1 nP)]at cq;refine St.rg ?_;refine St.mv ?_;refine St.ee (Ev.call (bU 10 k) mU (.cons (.mk rfl) (.cons (.mk rfl) .nil))) ?_;refine St.sA (.mk rfl) (.mk rfl) aR ?_;refine St.nn (St.ae (St.aN (St.aN (St.a8 (St.a8 (St.aN (St.a8 ?_)))))));refine St.rT [_] [] Tryz.results15 ⟨⟨_,_,_,_,rfl,c4.mem,.inl ⟨⟨_,bC⟩,aR,rfl⟩⟩,trivial⟩ ?_;exact congrArg fv (ff lz (hv.trans cq) (by decide)).symm
      ·skip
       refine St.seq ?_;rw[if_neg (fun hp=>by rw[XH.2 hp]at nP;cases nP)]at cq;refine St.rg ?_;refine St.mv ?_;refine St.ao ?_;refine St.nn ?_;refine St.cond _ rfl (fun H9=> ?_) (fun H9=> ?_)
       ·try simp only[aA]at H9
        rw[if_pos H9]at cq;refine St.sr ?_;refine St.mv ?_;refine St.ee (Ev.call (bU 7 k) mU (.cons (.mk rfl) (.cons (.mk rfl) .nil))) ?_;refine St.sA (.mk rfl) (.mk rfl) aR ?_;refine St.nn (St.ae (St.aN (St.aN (St.a8 (St.a8 (St.aN (St.a8 ?_)))))));refine St.rT [_] [] Tryz.results15 ⟨⟨_,_,_,_,rfl,c4.mem,.inl ⟨⟨_,bC⟩,aR,rfl⟩⟩,trivial⟩ ?_;exact congrArg fv (ff lz (hv.trans cq) (by decide)).symm
       ·try simp only[aA]at H9
        rw[if_neg H9]at cq;refine St.sr ?_;refine St.ee (Ev.aD (.mk rfl) db) ?_;refine St.ee (Ev.l0 (.mk rfl) bf) ?_;refine St.ee Ev.fE ?_;refine St.mv ?_;refine St.gf _ rfl rfl (fun hg=>Ev.aD (.mk rfl) db) rfl ?_;refine St.gf _ rfl rfl (fun hg=>Ev.cY (aL.gv rfl hg) bf trivial (by rfl)) rfl ?_;refine St.gf _ rfl rfl (fun hg=>Ev.eql (aL.gv rfl hg) (.mk rfl)) rfl ?_;refine St.ee Ev.o0 ?_;refine St.mv ?_;refine St.gt _ rfl rfl (fun hg=>Ev.aD (.mk rfl) fL) rfl ?_;refine St.gt _ rfl rfl (fun hg=>Ev.cY (aL.gv rfl hg) cZ trivial (by rfl)) rfl ?_;refine St.gt _ rfl rfl (fun hg=>Ev.oU (aL.gv rfl hg) (.mk rfl)) rfl ?_;refine St.ee Ev.n0 ?_;refine St.ao ?_;refine St.nn ?_;refine St.cond _ rfl (fun r9=> ?_) (fun r9=> ?_)
        ·skip
         rw[if_pos (by simpa using r9)]at cq;refine St.sr ?_;refine St.mv ?_;refine St.ee (Ev.call (bU 5 k) mU (.cons (.mk rfl) (.cons (.mk rfl) .nil))) ?_;refine St.sA (.mk rfl) (.mk rfl) aR ?_;refine St.nn (St.ae (St.aN (St.aN (St.a8 (St.a8 (St.aN (St.a8 ?_)))))));refine St.rT [_] [] Tryz.results15 ⟨⟨_,_,_,_,rfl,c4.mem,.inl ⟨⟨_,bC⟩,aR,rfl⟩⟩,trivial⟩ ?_;exact congrArg fv (ff lz (hv.trans cq) (by decide)).symm
        ·skip
         rw[if_neg (by simpa using r9)]at cq;refine St.skip (St.aW (St.aW (St.a7 (St.rg ?_))));refine St.ee Ev.a0 ?_;refine St.mv ?_;refine St.nn ?_;refine St.ly (k+1) (gZ m va.name (iv k)) ⟨by omega,by rw[hv,cq,c9 bL.name ht],by rw[c9 bL.name ht];exact wu.snoc _ _⟩
   ·try simp only[aA]at xB
    rw[qe (by omega)]at hv
    replace lz:=pa lz hv
    refine St.exit (St.aJ (St.aJ (St.bO (St.a7 (St.seq (St.sr ?_))))));refine St.ee (Ev.aD (.mk rfl) dz) ?_;refine St.ee (Ev.l0 (.mk rfl) dw) ?_;refine St.ee (Ev.bA (.mk rfl) dw) ?_;refine St.mv ?_;refine St.nn (St.block ?_);refine St.lH (ι:=Nat) (fun p T=>(107,iv p)::T) (fun p=>[aZ b1 (.cells [q.vv.1,q.kv.1].toArray 25 (0,0)),aZ b2 (.cells [iv 0,iv 0].toArray 28 (0,0)),aE (sl cC q.vv.1 q.vars),aE (sl cE q.kv.1 q.aV),aE (u8)]) (fun p=>p≤q.aV.length∧fI q.vars.length q.vars.length q.aV=fI q.vars.length (q.vars.length+p) (q.aV.drop p)) (fun p=>q.aV.length-p) 0 (aG.cons 1 rfl (aG.cons 2 rfl (aG.cons 105 rfl (aG.cons 106 rfl aG.nil)))) ⟨Nat.zero_le _,rfl⟩ ?_;rintro p ⟨hp,oI⟩;refine St.sr ?_;refine St.ee Ev.ez ?_;refine St.nn (St.seq ?_);refine St.cond _ rfl (fun BE=> ?_) (fun BE=> ?_)
    ·try simp only[aA]at BE
     obtain⟨x,hx⟩:=aY (show p<q.aV.length by omega)
     have cq:=p4 (n:=q.vars.length) (m:=q.vars.length) hx
     refine St.skip (St.a7 (St.seq (St.block (St.sr ?_))));refine St.mv ?_;refine St.ee (Ev.aa (k:=p) (.mk rfl) (.mk rfl) dw gj (by omega) (by omega)) ?_;refine St.ee (Ev.iH (.mk rfl) hx tq trivial gj fw.eq) ?_;refine St.alloc B2 rfl (fun b9=> ?_);refine St.ao ?_;refine St.sA (.mk rfl) (.mk rfl) gj ?_ (h1:=(by simp only[List.all_cons,List.all_nil,Bool.and_true,Bool.and_eq_true];exact⟨rfl,rfl,rfl⟩));refine St.nn (St.sr ?_);refine St.ee (Ev.aD (.mk rfl) cN) ?_;refine St.ee (Ev.l0 (.mk rfl) cM) ?_;refine St.ee (Ev.bA (.mk rfl) cM) ?_;refine St.mv ?_;refine St.ee Ev.a0 ?_;refine St.slot 116 (iv ((q.vars.length+p:Nat):Int)) rfl rfl ?_;refine St.ao ?_;refine St.nn (St.block (St.sr ?_));refine St.ee (Ev.aD (.mk rfl) mV) ?_;refine St.ee (Ev.l0 (.mk rfl) bf) ?_;refine St.ee Ev.ez ?_;refine St.mv ?_;refine St.gf _ rfl rfl (fun hg=>Ev.aD (.mk rfl) mV) rfl ?_;refine St.gf _ rfl rfl (fun hg=>Ev.cY (aL.gv rfl hg) bf trivial (by rfl)) rfl ?_;refine St.gf _ rfl rfl (fun hg=>Ev.gtr (aL.gv rfl hg) (.mk rfl)) rfl ?_;refine St.ee Ev.o0 ?_;refine St.ao ?_;refine St.nn ?_;refine St.cond _ rfl (fun rQ=> ?_) (fun rQ=> ?_)
     ·try simp only[aA]at rQ
      rw[if_pos (by omega)]at cq;refine St.sr ?_;refine St.mv ?_;refine St.ee (Ev.call (bU 4 ((q.vars.length+p:Nat):Int)) mU (.cons (.mk rfl) (.cons (.mk rfl) .nil))) ?_;refine St.sA (.mk rfl) (.mk rfl) aR ?_;refine St.nn (St.ae (St.aN (St.aN (St.a8 (St.a8 (St.aN (St.a8 ?_)))))));refine St.rT [_] [] Tryz.results15 ⟨⟨_,_,_,_,rfl,c4.mem,.inl ⟨⟨_,bC⟩,aR,rfl⟩⟩,trivial⟩ ?_;exact congrArg fv (lz.trans (oI.trans cq)).symm
     ·try simp only[aA]at rQ
      rw[if_neg (by omega)]at cq;refine St.sr ?_;refine St.ee (Ev.aD (.mk rfl) hG) ?_;refine St.ee (Ev.l0 (.mk rfl) bf) ?_;refine St.ee Ev.ez ?_;refine St.mv ?_;refine St.gf _ rfl rfl (fun hg=>Ev.aD (.mk rfl) hG) rfl ?_;refine St.gf _ rfl rfl (fun hg=>Ev.cY (aL.gv rfl hg) bf trivial (by rfl)) rfl ?_;refine St.gf _ rfl rfl (fun hg=>Ev.aD (.mk rfl) cN) rfl ?_;refine St.gf _ rfl rfl (fun hg=>Ev.cY (aL.gv rfl hg) cM trivial (by rfl)) rfl ?_;refine St.gf _ rfl rfl (fun hg=>Ev.bA (aL.gv rfl hg) cM) rfl ?_;refine St.gf _ rfl rfl (fun hg=>Ev.geq (aL.gv rfl hg) (aL.gv rfl hg)) rfl ?_;refine St.ee Ev.o0 ?_;refine St.mv ?_;refine St.gf _ rfl rfl (fun hg=>Ev.aD (.mk rfl) hJ) rfl ?_;refine St.gf _ rfl rfl (fun hg=>Ev.cY (aL.gv rfl hg) bf trivial (by rfl)) rfl ?_;refine St.gf _ rfl rfl (fun hg=>Ev.lss (aL.gv rfl hg) (.mk rfl)) rfl ?_;refine St.ee Ev.o0 ?_;refine St.mv ?_;refine St.gf _ rfl rfl (fun hg=>Ev.aD (.mk rfl) hJ) rfl ?_;refine St.gf _ rfl rfl (fun hg=>Ev.cY (aL.gv rfl hg) bf trivial (by rfl)) rfl ?_;refine St.gf _ rfl rfl (fun hg=>Ev.aD (.mk rfl) cN) rfl ?_;refine St.gf _ rfl rfl (fun hg=>Ev.cY (aL.gv rfl hg) cM trivial (by rfl)) rfl ?_;refine St.gf _ rfl rfl (fun hg=>Ev.bA (aL.gv rfl hg) cM) rfl ?_;refine St.gf _ rfl rfl (fun hg=>Ev.geq (aL.gv rfl hg) (aL.gv rfl hg)) rfl ?_;refine St.ee Ev.o0 ?_;refine St.ao ?_;refine St.nn ?_;refine St.cond _ rfl (fun Kd=> ?_) (fun Kd=> ?_)
      ·try simp only[aA]at Kd
       rw[if_pos (by omega)]at cq;refine St.sr ?_;refine St.mv ?_;refine St.ee (Ev.call (bU 3 ((q.vars.length+p:Nat):Int)) mU (.cons (.mk rfl) (.cons (.mk rfl) .nil))) ?_;refine St.sA (.mk rfl) (.mk rfl) aR ?_;refine St.nn (St.ae (St.aN (St.aN (St.a8 (St.a8 (St.aN (St.a8 ?_)))))));refine St.rT [_] [] Tryz.results15 ⟨⟨_,_,_,_,rfl,c4.mem,.inl ⟨⟨_,bC⟩,aR,rfl⟩⟩,trivial⟩ ?_;exact congrArg fv (lz.trans (oI.trans cq)).symm
      ·try simp only[aA]at Kd
       rw[if_neg (by omega)]at cq;refine St.sr ?_;refine St.ee (Ev.aD (.mk rfl) hG) ?_;refine St.ee (Ev.l0 (.mk rfl) bf) ?_;refine St.ee (Ev.aD (.mk rfl) hJ) ?_;refine St.ee (Ev.l0 (.mk rfl) bf) ?_;refine St.ee Ev.fE ?_;refine St.ao ?_;refine St.nn ?_;refine St.cond _ rfl (fun Ke=> ?_) (fun Ke=> ?_)
       ·try simp only[aA]at Ke
        rw[if_pos (by omega)]at cq;refine St.sr ?_;refine St.mv ?_;refine St.ee (Ev.call (bU 5 ((q.vars.length+p:Nat):Int)) mU (.cons (.mk rfl) (.cons (.mk rfl) .nil))) ?_;refine St.sA (.mk rfl) (.mk rfl) aR ?_;refine St.nn (St.ae (St.aN (St.aN (St.a8 (St.a8 (St.aN (St.a8 ?_)))))));refine St.rT [_] [] Tryz.results15 ⟨⟨_,_,_,_,rfl,c4.mem,.inl ⟨⟨_,bC⟩,aR,rfl⟩⟩,trivial⟩ ?_;exact congrArg fv (lz.trans (oI.trans cq)).symm
       ·try simp only[aA]at Ke
        rw[if_neg (by omega)]at cq;refine St.skip (St.aW (St.aW (St.a7 (St.rg ?_))));refine St.ee Ev.a0 ?_;refine St.mv ?_;refine St.nn ?_;refine St.aH (p+1) ⟨by omega,oI.trans cq⟩
    ·try simp only[aA]at BE
     rw[qf (by omega)]at oI
     have Tl:=lz.trans oI
     refine St.exit (St.aJ (St.aJ (St.bO (St.a7 (St.sr ?_)))));refine St.ee (Ev.build (ps:=[]) (aQ.nil) (fun w=>fK w)) ?_;refine St.sA (.mk rfl) (.mk rfl) aR ?_;refine St.nn (St.ae ?_);refine St.rT [_] [] Tryz.results15 ⟨⟨_,_,_,_,rfl,c4.mem,.inl ⟨⟨_,bC⟩,aR,rfl⟩⟩,trivial⟩ ?_;exact congrArg fv Tl.symm
theorem HD (g:mP)(vs:List bL)(ks:List cL)(t:gU):vy g vs ks t=if(q7 g).1≠0 then([],q7 g)else if(ec vs ks).1≠0 then([],ec vs ks)else if(km g t).1≠0 then([],km g t)
 else if 500<(mT g vs ks t).length then([],(17,0))else(mT g vs ks t,(0,0)):=rfl
set_option maxHeartbeats 4000000 in
theorem kJ (g:k7)(q:cF)(t:bV)(hw:fR.wf t):um Tryz.prog 11 #[pG g,da q,kp t] ([jD g,bG q,dV t,tz,u8].map aE) (fun r H'=>∃vo,r= .tuple #[vo,fv (vy (iW g) q.vars q.aV (ay t)).2]∧vo.oneCell'=true∧H'=[aE (ub aF vo ((vy (iW g) q.vars q.aV (ay t)).1.map ints))]):=by
 refine um.body (args:=[pG g,da q,kp t]) 50 Tryz.func11 rfl Tryz.ntmps11 rfl (fun c gL=> ?_);refine St.cast (H':=[aE (jD g),aE (bG q),aE (dV t),aE (tz),aE (u8)]) rfl ?_;refine St.seq ?_
 refine St.fP (bG q) (fun _:Unit=>kD q) (fun ρ h=>⟨(),h⟩) fun _=> ?_
 refine St.cast (H':=[aE (sl cC q.vv.1 q.vars),aE (sl cE q.kv.1 q.aV),aE (jD g),aE (bG q),aE (dV t),aE (tz),aE (u8)]) rfl ?_
 have ug:=HD (iW g) q.vars q.aV (ay t)
 refine St.rg ?_;refine St.dS (.mk rfl) rfl (fun b3=> ?_);refine St.dS (.mk rfl) rfl (fun b4=> ?_);refine St.dS (.mk rfl) rfl (fun b5=> ?_);refine St.ao ?_;refine St.alloc dR rfl (fun b7=> ?_);refine St.nn (St.seq (St.sr ?_));refine St.ee (Ev.an (.mk rfl) CO trivial (by exact Aa)) ?_;refine St.ee (Ev.gA gL (wN g) T8 (.cons (.mk rfl) .nil)) ?_;refine St.alloc dR rfl (fun b8=> ?_);refine St.sA (.mk rfl) (.mk rfl) aR ?_;refine St.nn (St.sr ?_);refine St.ee (Ev.aD (.mk rfl) cW) ?_;refine St.ee (Ev.l0 (.mk rfl) bf) ?_;refine St.ee Ev.kz ?_;refine St.nn ?_;refine St.cond _ rfl (fun gz=> ?_) (fun gz=> ?_)
 ·skip
  rw[if_pos (show(q7 (iW g)).1≠0 by simpa using gz)]at ug;refine St.seq ?_;refine St.lr [b7] mixed (fun np ns=> ?_);refine SW.dd 0 rfl (fun _=>Ev.an (.mk rfl) bC trivial (by exact aR)) ?_;refine SW.dd 1 rfl (fun _=>Ev.assign (.mk rfl)) ?_;refine SW.ar (i:=2) (by kernel_rfl) rfl ?_;refine St.sA (.mk rfl) (.mk rfl) aR ?_;refine St.nn ?_;refine SW.go ?_;refine SW.done (by kernel_rfl) ?_;refine St.a7 (St.ae (St.a8 ?_));refine St.dN br ?_;refine St.pt aF ?_;refine St.C0 (Rr:=aF) (l:=[]) (.slice none 0 0) (vs:=[]) rfl ?_;refine St.rT [_,_] [aE (ub aF (.slice none 0 0) [])] Tryz.results11 ⟨rfl,⟨⟨_,_,_,_,rfl,c4.mem,.inl ⟨⟨_,bC⟩,aR,rfl⟩⟩,trivial⟩⟩ ?_;exact⟨_,congrArg (fun z=>Value.tuple #[(.slice none 0 0),fv z]) (by rw[ug]),rfl,by rw[ug];rfl⟩
 ·skip
  have Nk:¬(q7 (iW g)).1≠0:=by simpa using gz
  rw[if_neg Nk]at ug;refine St.skip (St.a7 (St.seq (St.sr ?_)));refine St.ee (Ev.an (.mk rfl) fV trivial (by exact dX)) ?_;refine St.ee (Ev.gA gL (lI q) KM (.cons (.mk rfl) .nil)) ?_;refine St.alloc dR rfl (fun b9=> ?_);refine St.sA (.mk rfl) (.mk rfl) aR ?_;refine St.nn (St.sr ?_);refine St.ee (Ev.aD (.mk rfl) cW) ?_;refine St.ee (Ev.l0 (.mk rfl) bf) ?_;refine St.ee Ev.kz ?_;refine St.nn ?_;refine St.cond _ rfl (fun qU=> ?_) (fun qU=> ?_)
  ·skip
   rw[if_pos (show(ec q.vars q.aV).1≠0 by simpa using qU)]at ug;refine St.seq ?_;refine St.lr [b7] mixed (fun np ns=> ?_);refine SW.dd 0 rfl (fun _=>Ev.an (.mk rfl) bC trivial (by exact aR)) ?_;refine SW.dd 1 rfl (fun _=>Ev.assign (.mk rfl)) ?_;refine SW.ar (i:=2) (by kernel_rfl) rfl ?_;refine St.sA (.mk rfl) (.mk rfl) aR ?_;refine St.nn ?_;refine SW.go ?_;refine SW.done (by kernel_rfl) ?_;refine St.a7 (St.ae (St.a8 ?_));refine St.dN br ?_;refine St.pt aF ?_;refine St.C0 (Rr:=aF) (l:=[]) (.slice none 0 0) (vs:=[]) rfl ?_;refine St.rT [_,_] [aE (ub aF (.slice none 0 0) [])] Tryz.results11 ⟨rfl,⟨⟨_,_,_,_,rfl,c4.mem,.inl ⟨⟨_,bC⟩,aR,rfl⟩⟩,trivial⟩⟩ ?_;exact⟨_,congrArg (fun z=>Value.tuple #[(.slice none 0 0),fv z]) (by rw[ug]),rfl,by rw[ug];rfl⟩
  ·skip
   have Nl:¬(ec q.vars q.aV).1≠0:=by simpa using qU
   rw[if_neg Nl]at ug
   have hq:=(la (Decidable.not_not.1 Nl)).2
   refine St.skip (St.a7 (St.seq (St.sr ?_)));refine St.ee (Ev.an (.mk rfl) CO trivial (by exact Aa)) ?_;refine St.ee (Ev.an (.mk rfl) rM trivial (by exact kV)) ?_;refine St.ee (Ev.call (B7 g t hw) T9 (.cons (.mk rfl) (.cons (.mk rfl) .nil))) ?_;refine St.alloc dR rfl (fun iC=> ?_);refine St.sA (.mk rfl) (.mk rfl) aR ?_;refine St.nn (St.sr ?_);refine St.ee (Ev.aD (.mk rfl) cW) ?_;refine St.ee (Ev.l0 (.mk rfl) bf) ?_;refine St.ee Ev.kz ?_;refine St.nn ?_;refine St.cond _ rfl (fun xB=> ?_) (fun xB=> ?_)
   ·skip
    rw[if_pos (show(km (iW g) (ay t)).1≠0 by simpa using xB)]at ug;refine St.seq ?_;refine St.lr [b7] mixed (fun np ns=> ?_);refine SW.dd 0 rfl (fun _=>Ev.an (.mk rfl) bC trivial (by exact aR)) ?_;refine SW.dd 1 rfl (fun _=>Ev.assign (.mk rfl)) ?_;refine SW.ar (i:=2) (by kernel_rfl) rfl ?_;refine St.sA (.mk rfl) (.mk rfl) aR ?_;refine St.nn ?_;refine SW.go ?_;refine SW.done (by kernel_rfl) ?_;refine St.a7 (St.ae (St.a8 ?_));refine St.dN br ?_;refine St.pt aF ?_;refine St.C0 (Rr:=aF) (l:=[]) (.slice none 0 0) (vs:=[]) rfl ?_;refine St.rT [_,_] [aE (ub aF (.slice none 0 0) [])] Tryz.results11 ⟨rfl,⟨⟨_,_,_,_,rfl,c4.mem,.inl ⟨⟨_,bC⟩,aR,rfl⟩⟩,trivial⟩⟩ ?_;exact⟨_,congrArg (fun z=>Value.tuple #[(.slice none 0 0),fv z]) (by rw[ug]),rfl,by rw[ug];rfl⟩
   ·skip
    have Nn:¬(km (iW g) (ay t)).1≠0:=by simpa using xB
    rw[if_neg Nn]at ug
    have Zb:=DU (Decidable.not_not.1 Nk) (Decidable.not_not.1 Nn)
    obtain⟨Np,Tm,Zc⟩:=Zb;rw[show(iW g).rules.length=g.rules.length from List.length_map _,show(iW g).bK.length=g.bK.length from List.length_map _]at Np
    have Nr:=hq.LM
    have hvp:=hq.pos
    refine St.skip (St.a7 (St.sr ?_));refine St.ee (Ev.an (.mk rfl) CO trivial (by exact Aa)) ?_;refine St.ee (Ev.an (.mk rfl) rM trivial (by exact kV)) ?_;refine St.ag (ya g t hw Np Tm (by omega)) TA (.cons (.mk rfl) (.cons (.mk rfl) .nil)) rfl ?_;rintro v36 _ ⟨Zd,rfl⟩;refine St.aq ?_;refine St.alloc NG rfl (fun mG=> ?_);refine St.bQ (.mk rfl) (.mk rfl) ND Zd (by rfl) ?_;refine St.nn (St.sr ?_);refine St.alloc TB rfl (fun Ij=> ?_);refine St.nn (St.sr ?_);refine St.ee (Ev.aD (.mk rfl) cN) ?_;refine St.ee (Ev.l0 (.mk rfl) cM) ?_;refine St.ee (Ev.bA (.mk rfl) cM) ?_;refine St.gn (m:=q.vars.length) (.mk rfl) (.mk rfl) bJ cu dx Mi rfl rfl (by omega) rfl rfl (fun Se=> ?_);refine St.bI (.slice (some ⟨Se,0,none⟩) q.vars.length q.vars.length) rfl (Df _) ?_;refine St.alloc TC rfl (fun XF=> ?_);refine St.bQ (.mk rfl) (.mk rfl) e9 rfl (by rfl) ?_;refine St.nn (St.sr ?_);refine St.alloc TD rfl (fun r7=> ?_);refine St.nn (St.sr ?_);refine St.ee (Ev.func (.cons (.mk rfl) (.cons (.mk rfl) (.cons (.mk rfl) (.cons (.mk rfl) (.cons (.mk rfl) .nil)))))) ?_;refine St.bQ (.mk rfl) (.mk rfl) TE rfl (by rfl) ?_;refine St.nn (St.seq ?_);refine St.ic 61 1 ?_;refine St.bI (.slice none 0 0) (show _=([]:List (List Nat)).length from rfl) (show _=rows br []from rfl) ?_;refine St.pt aF ?_;refine St.cast (H':=_::_) (show aE (mL aF [] [])::_=aE (mL aF [] (([]:List (List Nat)).map ints))::_ from rfl) ?_
    obtain⟨T,hT⟩:∃T,T=rI (o7 (iW g) (ay t) 0 (-1) 0) q.aV q.vars [] []:=⟨_,rfl⟩
    have LU:=ti (o7 (iW g) (ay t) 0 (-1) 0) q.aV q.vars [] [] (by simp) (by simp)
    rw[←hT,List.nil_append]at LU
    replace LU:T=(mT (iW g) q.vars q.aV (ay t)).take 501:=LU
    refine St.rg ?_;refine St.ee (Ev.l0 (.mk rfl) Tryz.underlying79) ?_;refine St.cp (uQ XF Ij mG b4 r7 (.slice (some ⟨Se,0,none⟩) q.vars.length q.vars.length) v36 (o7 (iW g) (ay t) 0 (-1) 0) q hq q.vars.length q.vars [] [] (List.replicate q.vars.length 0) (.slice none 0 0) [] T rfl hT rfl (by simp) (by simp) rfl (fun y hy=>by cases hy) rfl rfl (by simp) (fun _=>by simp)) NJ (.mk rfl) (.cons (.mk rfl) .nil) rfl ?_;rintro XI _ ⟨A2,RA,XJ,hA2,_,Tn,Ns,rfl⟩;refine St.NR ?_;refine St.nn (St.seq (St.sr ?_));refine St.ee (Ev.l0 (.mk rfl) dM) ?_;refine St.ee (Ev.gm (.mk rfl) dM) ?_;refine St.ee Ev.vQ ?_;refine St.nn ?_;refine St.cond _ rfl (fun r8=> ?_) (fun r8=> ?_)
    ·try simp only[aA]at r8
     have Tp:500<(mT (iW g) q.vars q.aV (ay t)).length:=by have:=congrArg List.length LU;rw[List.length_take]at this;omega
     rw[if_pos Tp]at ug;refine St.sr ?_;refine St.ee (Ev.call (bU 17 0) mU (.cons (.mk rfl) (.cons (.mk rfl) .nil))) ?_;refine St.ao ?_;refine St.sA (.mk rfl) (.mk rfl) aR ?_;refine St.nn (St.ae (St.a8 ?_));refine St.dN br ?_;refine St.pt aF ?_;refine St.C0 (Rr:=aF) (l:=[]) (.slice none 0 0) (vs:=[]) rfl ?_;refine St.rT [_,_] [aE (ub aF (.slice none 0 0) [])] Tryz.results11 ⟨rfl,⟨⟨_,_,_,_,rfl,c4.mem,.inl ⟨⟨_,bC⟩,aR,rfl⟩⟩,trivial⟩⟩ ?_;exact⟨_,congrArg (fun z=>Value.tuple #[(.slice none 0 0),fv z]) (by rw[ug]),rfl,by rw[ug];rfl⟩
    ·try simp only[aA]at r8
     have XK:T=mT (iW g) q.vars q.aV (ay t):=by rw[LU,List.take_of_length_le];have:=congrArg List.length LU;rw[List.length_take]at this;omega
     rw[if_neg (by rw[←XK];omega)]at ug;refine St.skip (St.a7 (St.sr ?_));refine St.ee (Ev.l0 (.mk rfl) dM) ?_;refine St.ee (Ev.build (ps:=[]) (aQ.nil) (fun w=>fK w)) ?_;refine St.ao ?_;refine St.sA (.mk rfl) (.mk rfl) aR ?_;refine St.nn (St.ae ?_);refine St.aM RA br XJ rfl Ns.symm (fun _ _=>trivial) ?_;refine St.C0 (Rr:=aF) (l:=T.map ints) RA (vs:=XJ) (by rw[List.length_map];exact Ns) ?_;refine St.rT [_,_] [aE (ub aF RA (T.map ints))] Tryz.results11 ⟨rfl,⟨⟨_,_,_,_,rfl,c4.mem,.inl ⟨⟨_,bC⟩,aR,rfl⟩⟩,trivial⟩⟩ ?_;exact⟨RA,by rw[ug];rfl,Tn,by rw[ug,XK]⟩
theorem qg (l:List ax)(w:ax):rows dH l++ [sv w]=rows dH (l++ [w]):=by rw[dA];rfl
theorem gV (v0 v1:Value)(a b:List Int):de Tryz.prog 14 #[v0,v1] [sl aF v0 a,sl aF v1 b] (.bool (decide (a=b))):=by
 refine de.zC (args:=[v0,v1]) 26 Tryz.func14 rfl Tryz.ntmps14 rfl (fun c=> ?_);refine St.seq ?_;refine St.wf v0 (fun Ze XL=> ?_);refine St.wf v1 (fun Nt XM=> ?_);refine St.rg ?_;refine St.ao ?_;refine St.nn (St.seq (St.sr ?_));refine St.mv ?_;refine St.ee (Ev.bA (.mk rfl) bJ) ?_;refine St.mv ?_;refine St.ee (Ev.bA (.mk rfl) bJ) ?_;refine St.ee Ev.kz ?_;refine St.nn ?_;refine St.cond _ rfl (fun sR=> ?_) (fun sR=> ?_)
 ·try simp only[aA]at sR
  refine St.sr ?_;refine St.ao ?_;refine St.nn (St.ae (St.a8 ?_));refine St.rU [_] [] Tryz.results14 ?_;exact be (by rw[eq_comm,decide_eq_false_iff_not];rintro rfl;omega)
 ·try simp only[aA]at sR
  refine St.skip (St.a7 (St.seq (St.sr ?_)));refine St.ao ?_;refine St.nn (St.block ?_);refine St.lS (ι:=Nat) (fun k T=>(5,iv k)::T) (fun k=>k≤a.length∧a.take k=b.take k) (fun k=>a.length-k) 0 (aG.cons 0 rfl (aG.cons 1 rfl aG.nil)) ⟨Nat.zero_le _,rfl⟩ ?_;intro k iQ;obtain⟨hk,hv⟩:=iQ;refine St.seq (St.sr ?_);refine St.mv ?_;refine St.mv ?_;refine St.ee (Ev.bA (.mk rfl) bJ) ?_;refine St.ee Ev.ez ?_;refine St.nn ?_;refine St.cond _ rfl (fun uE=> ?_) (fun uE=> ?_)
  ·try simp only[aA]at uE
   obtain⟨x,hx⟩:=aY (show k<a.length by omega);obtain⟨y,hy⟩:=aY (show k<b.length by omega);refine St.skip (St.a7 (St.seq (St.block (St.seq ?_))));refine St.rq mixed (by kernel_rfl) (Mm.drawn _ _) ?_;refine Sq.ee (Ev.move (.mk rfl)) ?_;refine Sq.ee (Ev.move (.mk rfl)) ?_;refine Sq.ee (Ev.aa (k:=k) (.mk rfl) (.mk rfl) bJ cu (by omega) (by omega)) ?_;refine Sq.ee (Ev.jA (.mk rfl) hx bf trivial rfl) ?_;refine Sq.ee (Ev.move (.mk rfl)) ?_;refine Sq.ee (Ev.move (.mk rfl)) ?_;refine Sq.ee (Ev.aa (k:=k) (.mk rfl) (.mk rfl) bJ cu (by omega) (by omega)) ?_;refine Sq.ee (Ev.jA (.mk rfl) hy bf trivial rfl) ?_;refine Sq.ee Ev.kz ?_;refine Sq.nil ?_;refine St.a7 ?_;refine St.cond _ rfl (fun qU=> ?_) (fun qU=> ?_)
   ·skip
    refine St.sr ?_;refine St.ao ?_;refine St.nn (St.ae (St.aN (St.a8 (St.a8 (St.aN (St.a8 ?_))))));refine St.rU [_] [] Tryz.results14 ?_;exact be (by rw[eq_comm,decide_eq_false_iff_not];rintro rfl;rw[hx]at hy;simp only[Option.some.injEq]at hy;simp[hy]at qU)
   ·skip
    refine St.skip (St.aW (St.a7 (St.rg ?_)));refine St.mv ?_;refine St.ee Ev.a0 ?_;refine St.ao ?_;refine St.nn ?_;refine St.aS (k+1) ⟨by omega,by rw[bD hx,bD hy,hv,show x=y by simpa using qU]⟩
  ·try simp only[aA]at uE
   refine St.exit (St.aJ (St.aJ (St.bO (St.a7 (St.sr ?_)))));refine St.ao ?_;refine St.nn (St.ae ?_);refine St.rU [_] [] Tryz.results14 ?_;exact be (by rw[eq_comm,decide_eq_true_eq];rw[List.take_of_length_le (by omega),List.take_of_length_le (by omega)]at hv;exact hv)
def BF:gU:= .mk 0 0 [.mk (-1) 19 [],.mk 2 0 [.mk (-1) 9 []]]
theorem pb (r x:Int)(v:dQ)(l:List bV)(h1: -100≤r∧r≤100)(h2: -100≤x∧x≤100):fR.wf (.mk r x v l):=⟨by show aj r;unfold aj;omega,by show aj x;unfold aj;omega⟩
theorem jf:eI Tryz.prog 13 #[] ([].map aE) (fun v H'=>∃t:bV,v=kp t∧ay t=BF∧fR.wf t∧H'=[aE (dV t)]):=by
 refine eI.body (args:=[]) 9 Tryz.func13 rfl Tryz.ntmps13 rfl (fun c=> ?_);refine St.cast (H':=[]) rfl ?_;refine St.sr ?_;refine St.alloc yV rfl (fun b0=> ?_);refine St.nn (St.sr ?_);refine St.ee (Ev.build (ps:=[(0,(.const (.int .i64 (-1)))),(1,(.const (.int .i64 9)))]) (aQ.cons (aL.mk rfl) (aQ.cons (aL.mk rfl) aQ.nil)) (fun w=>sc rfl rfl w)) ?_;refine St.alloc yV rfl (fun b1=> ?_);refine St.sA (.mk rfl) (.mk rfl) kV ?_ (h1:=(by simp only[List.all_cons,List.all_nil,Bool.and_true,Bool.and_eq_true];exact⟨rfl,rfl,rfl⟩));refine St.nn (St.sr ?_);refine St.ee (Ev.build (ps:=[(0,(.const (.int .i64 (-1)))),(1,(.const (.int .i64 19)))]) (aQ.cons (aL.mk rfl) (aQ.cons (aL.mk rfl) aQ.nil)) (fun w=>sc rfl rfl w)) ?_;refine St.ee (Ev.an (.mk rfl) rM trivial (by exact kV)) ?_;refine St.cS rfl (.cons (.mk rfl) .nil) rL kV NK rfl rfl (by simp[Value.cells]) rfl rfl (fun b5=> ?_);refine St.dN fR ?_;refine St.du dV ?_;refine St.td (-1) 9 (.slice none 0 0) rfl [] ?_;refine St.aM (.slice (some ⟨b5,0,none⟩) 1 1) fR [(.mk (-1) 9 bu []:bV)] rfl rfl (fun y hy=>by rw[List.mem_singleton.1 hy];exact pb _ _ _ _ (by decide) (by decide)) ?_;refine St.fQ dV (xs:=[]) (x:=(.mk (-1) 9 bu []:bV)) ?_;refine St.td 2 0 (.slice (some ⟨b5,0,none⟩) 1 1) rfl [(.mk (-1) 9 bu []:bV)] ?_;refine St.ee (Ev.build (ps:=[(0,(.const (.int .i64 2))),(2,(.tmp 5))]) (aQ.cons (aL.mk rfl) (aQ.cons (aL.mk rfl) aQ.nil)) (fun w=>B5 rfl rfl w)) ?_;refine St.cS rfl (.cons (.mk rfl) (.cons (.mk rfl) .nil)) rL kV NK rfl rfl (by simp[Value.cells]) rfl rfl (fun b7=> ?_);refine St.td (-1) 19 (.slice none 0 0) rfl [] ?_;refine St.aM (.slice (some ⟨b7,0,none⟩) 2 2) fR [(.mk (-1) 19 bu []:bV),(.mk 2 0 ⟨(.slice (some ⟨b5,0,none⟩) 1 1),rfl⟩ [(.mk (-1) 9 bu []:bV)]:bV)] rfl rfl (fun y hy=>by rcases List.mem_cons.1 hy with rfl|hy;exact pb _ _ _ _ (by decide) (by decide);rw[List.mem_singleton.1 hy];exact pb _ _ _ _ (by decide) (by decide)) ?_;refine St.fQ dV (xs:=[]) (x:=(.mk 2 0 ⟨(.slice (some ⟨b5,0,none⟩) 1 1),rfl⟩ [(.mk (-1) 9 bu []:bV)]:bV)) ?_;refine St.fQ dV (xs:=[(.mk 2 0 ⟨(.slice (some ⟨b5,0,none⟩) 1 1),rfl⟩ [(.mk (-1) 9 bu []:bV)]:bV)]) (x:=(.mk (-1) 19 bu []:bV)) ?_;refine St.td 0 0 (.slice (some ⟨b7,0,none⟩) 2 2) rfl [(.mk (-1) 19 bu []:bV),(.mk 2 0 ⟨(.slice (some ⟨b5,0,none⟩) 1 1),rfl⟩ [(.mk (-1) 9 bu []:bV)]:bV)] ?_;refine St.ee (Ev.build (ps:=[(2,(.tmp 7))]) (aQ.cons (aL.mk rfl) aQ.nil) (fun w=>Gq rfl w)) ?_;refine St.sA (.mk rfl) (.mk rfl) kV ?_ (h1:=(by simp only[List.all_cons,List.all_nil,Bool.and_true,Bool.and_eq_true];exact⟨rfl,rfl,rfl⟩));refine St.nn (St.ae ?_);refine St.rT [_] [aE (dV (.mk 0 0 ⟨(.slice (some ⟨b7,0,none⟩) 2 2),rfl⟩ [(.mk (-1) 19 bu []:bV),(.mk 2 0 ⟨(.slice (some ⟨b5,0,none⟩) 1 1),rfl⟩ [(.mk (-1) 9 bu []:bV)]:bV)]:bV))] Tryz.results13 ⟨⟨_,_,_,_,rfl,c4.mem,.inl ⟨⟨_,rM⟩,kV,rfl⟩⟩,trivial⟩ ?_;exact⟨(.mk 0 0 ⟨(.slice (some ⟨b7,0,none⟩) 2 2),rfl⟩ [(.mk (-1) 19 bu []:bV),(.mk 2 0 ⟨(.slice (some ⟨b5,0,none⟩) 1 1),rfl⟩ [(.mk (-1) 9 bu []:bV)]:bV)]:bV),rfl,rfl,pb _ _ _ _ (by decide) (by decide),rfl⟩
end Go.Proofs.YtoioijgdggkabaaGreatDoor
namespace Go.J
open Go.RowKit
open Go
theorem um.uU {P:Program}{f:FuncId}{args:Array Value}{ds:List dJ}{post:Value→List bE→Prop}(h:∀w (ρ:Ro),(∀k o,ρ k=some o→w.heap[k]?=some o)→(∀d∈ds,d.f ρ)→Calls P f args w fun e w'=>∃v,e= .returned v∧post v []∧Below w.heap.size w w'):
 um P f args (ds.map aE) post:=by
 intro w ρ hs;refine(h w ρ hs.fits fun d hd=>cw.1 (hs.ct (aE d) (List.mem_map_of_mem hd))).mono ?_;rintro e w' ⟨v,rfl,hp,hb⟩;refine⟨v,[],rfl,hp,Mm.mk (ρ:=ρ) ⟨hb.os,⟨hb.tape,fun h=>h.elim⟩,hb.output,hb.size,fun k hk _=>hb.block k hk,fun k o hk=> ?_,Ro.le_refl _,fun _ _ _=>rfl,fun _ h=>by simp at h,fun _ h=>by simp at h,.nil⟩⟩;rw[hb.block k (hs.I0 hk)];exact hs.fits k o hk
theorem fG.uU {P:Program}{f:FuncId}{args:Array Value}{ds:List dJ}{v:Value}(h:∀w (ρ:Ro),(∀k o,ρ k=some o→w.heap[k]?=some o)→(∀d∈ds,d.f ρ)→Calls P f args w fun e w'=>e= .returned v∧Below w.heap.size w w'):fG P f args ds v:=
 um.uU fun w ρ h1 h2=>(h w ρ h1 h2).mono fun _ _ ⟨h1,h2⟩=>⟨v,h1,rfl,h2⟩
theorem zx {l:List ax}{k:Nat}{x:ax}(h:l[k]?=some x):(rows dH l)[k*1+0]?=some (sv x):=by
 have e:rows dH l=l.map fun s=>sv s:=by
  show l.flatMap (fun s=>[sv s])=_
  clear h
  induction l with
  |nil=>rfl
  |cons a l ih=>rw[List.flatMap_cons,ih];rfl
 rw[e,Nat.mul_one,Nat.add_zero,List.getElem?_map,h];rfl
theorem wO (sep:List UInt8)(m:Nat):∀l:List (List UInt8),(∀s∈l,s.length≤m)→(Lib.join l sep).length≤l.length*(m+sep.length)
 | [],_=>by rw[Lib.join_nil];simp
 |x::r,h=>by
  rw[Lib.join_cons,List.length_append]
  have h1:=h x (List.mem_cons_self ..)
  have h2:(Lib.joinTail sep r).length≤r.length*(m+sep.length):=by
   have h3:∀s∈r,s.length≤m:=fun s hs=>h s (List.mem_cons_of_mem _ hs)
   clear h h1
   induction r with
   |nil=>simp[Lib.joinTail]
   |cons y r ih=>
    have e:Lib.joinTail sep (y::r)=(sep++y)++Lib.joinTail sep r:=by simp[Lib.joinTail]
    rw[e,List.length_append,List.length_append,List.length_cons,Nat.add_mul,Nat.one_mul]
    have h4:=ih fun s hs=>h3 s (List.mem_cons_of_mem _ hs)
    have h5:=h3 y (List.mem_cons_self ..)
    omega
  rw[List.length_cons,Nat.add_mul,Nat.one_mul];omega
end Go.J
namespace Go.Proofs
open Go.Shelf
def Tryz.p5:Go.Shelf.Ren:=⟨fun|156=>16|165=>44|166=>45|169=>46|240=>65|241=>66|276=>85|277=>86|n=>n,fun|0=>0|3=>3|4=>4|9=>9|20=>20|31=>62|37=>108|5=>5|70=>107|72=>110|75=>112|80=>115|76=>113|127=>143|164=>165|n=>n,fun|n=>n⟩
theorem Tryz.zy:Go.Proofs.Lays.n156 Tryz.prog Tryz.p5:={
 mixed:=by kernel_rfl
 f156:=Tryz.func16.trans (congrArg some (by kernel_rfl))
 f165:=Tryz.func44.trans (congrArg some (by kernel_rfl))
 f166:=Tryz.func45.trans (congrArg some (by kernel_rfl))
 f169:=Tryz.func46.trans (congrArg some (by kernel_rfl))
 f240:=Tryz.func65.trans (congrArg some (by kernel_rfl))
 f241:=Tryz.func66.trans (congrArg some (by kernel_rfl))
 f276:=Tryz.func85.trans (congrArg some (by kernel_rfl))
 f277:=Tryz.func86.trans (congrArg some (by kernel_rfl))
 t0:=MQ
 a0:=Tryz.isAgg0
 z0:=Tryz.sizeOf0
 v0:=Tryz.zeroValue0
 t3:=bf
 a3:=Tryz.isAgg3
 z3:=Tryz.sizeOf3
 v3:=Tryz.zeroValue3
 t4:=zR
 a4:=Tryz.isAgg4
 z4:=Tryz.sizeOf4
 v4:=Tryz.zeroValue4
 t9:=cZ
 a9:=Tryz.isAgg9
 z9:=Tryz.sizeOf9
 v9:=Tryz.zeroValue9
 t20:=Tryz.underlying20
 a20:=Tryz.isAgg20
 z20:=Tryz.sizeOf20
 v20:=Tryz.zeroValue20
 t31:=kT
 a31:=Tryz.isAgg62
 z31:=Tryz.sizeOf62
 v31:=Tryz.zeroValue62
 t37:=Tryz.underlying108
 a37:=Tryz.isAgg108
 z37:=Tryz.sizeOf108
 v37:=Tryz.zeroValue108
 t70:=Tryz.underlying107
 a70:=Tryz.isAgg107
 z70:=Tryz.sizeOf107
 v70:=Tryz.zeroValue107
 t72:=Tryz.underlying110
 a72:=Tryz.isAgg110
 z72:=Tryz.sizeOf110
 v72:=Tryz.zeroValue110
 t75:=Tryz.underlying112
 a75:=Tryz.isAgg112
 z75:=Tryz.sizeOf112
 v75:=Tryz.zeroValue112
 t76:=Tryz.underlying113
 a76:=Tryz.isAgg113
 z76:=Tryz.sizeOf113
 v76:=Tryz.zeroValue113
 t127:=Tryz.underlying143
 a127:=Tryz.isAgg143
 z127:=Tryz.sizeOf143
 v127:=Tryz.zeroValue143
 t164:=Tryz.underlying165
 a164:=Tryz.isAgg165
 z164:=Tryz.sizeOf165
 v164:=Tryz.zeroValue165}
theorem Tryz.jS:Builder.Extra Tryz.prog Tryz.p5:={
 sizeBuilder:=by kernel_rfl
 liesBuilder:=by kernel_rfl
 t5:=IP
 a5:=Tryz.isAgg5
 z5:=Tryz.sizeOf5
 v5:=Tryz.zeroValue5
 infoByte:=by kernel_rfl
 cellsByte:=by kernel_rfl
 sizeByte:=by kernel_rfl
 neB5:=by decide}
end Go.Proofs
namespace Go.Proofs.YtoioijgdggkabaaGreatDoor
open Go Go.J
theorem XN:(Tryz.prog.info? 9).map (·.bytes)=some 16:=by kernel_rfl
theorem Tq:aU Tryz.prog 16:=⟨_,Tryz.func16,rfl,by kernel_rfl⟩
theorem Nu (w:World):cj Tryz.prog 38 w= .ok #[(0,1),(1,1),(2,1)] w:=by kernel_rfl
theorem Dv:(Tryz.prog.info? 38).bind (·.zero)=some (Value.agg #[.string ⟨#[]⟩,.int .i64 0,.string ⟨#[]⟩]):=by kernel_rfl
theorem Ts (w:World):cj Tryz.prog 40 w= .ok #[(0,1),(1,1),(2,1)] w:=by kernel_rfl
theorem Dw:(Tryz.prog.info? 40).bind (·.zero)=some (Value.agg #[.int .i64 0,.int .i64 0,.int .i64 0]):=by kernel_rfl
theorem Nv (w:World):cj Tryz.prog 25 w= .ok #[(0,1),(1,1)] w:=by kernel_rfl
theorem pP:(Tryz.prog.info? 25).bind (fun i=>i.zero.map Value.cells)=some #[.slice none 0 0,.slice none 0 0]:=by kernel_rfl
theorem Nw:aU Tryz.prog 12:=⟨_,Tryz.func12,rfl,by kernel_rfl⟩
theorem Kf:aU Tryz.prog 13:=⟨_,Tryz.func13,rfl,by kernel_rfl⟩
theorem HE:aU Tryz.prog 11:=⟨_,Tryz.func11,rfl,by kernel_rfl⟩
theorem Nx:aU Tryz.prog 5:=⟨_,Tryz.func5,rfl,by kernel_rfl⟩
theorem HF:aU Tryz.prog 14:=⟨_,Tryz.func14,rfl,by kernel_rfl⟩
theorem BG {u0 u1:Value}(h0:u0.oneCell'=true)(h1:u1.oneCell'=true)(w:World):(Instr.build 25 #[(0,u0),(1,u1)]).run Tryz.prog w= .ok (.agg #[u0,u1]) w:=
 bP pP (Nv w) (by simp[Instr.fill,J.bR,J.aB h0,J.aB h1])
theorem lJ {u0 u1 u2:Value}(h0:u0.oneCell'=true)(h1:u1.oneCell'=true)(h2:u2.oneCell'=true)(w:World):(Instr.build 38 #[(0,u0),(1,u1),(2,u2)]).run Tryz.prog w= .ok (.agg #[u0,u1,u2]) w:=
 bP pM (Nu w) (by simp[Instr.fill,J.bR,J.aB h0,J.aB h1,J.aB h2])
theorem lK {u0 u1 u2:Value}(h0:u0.oneCell'=true)(h1:u1.oneCell'=true)(h2:u2.oneCell'=true)(w:World):(Instr.build 40 #[(0,u0),(1,u1),(2,u2)]).run Tryz.prog w= .ok (.agg #[u0,u1,u2]) w:=
 bP B2 (Ts w) (by simp[Instr.fill,J.bR,J.aB h0,J.aB h1,J.aB h2])
theorem BH (v:Value)(l:List ax)(sep:ax)(hlen:(Lib.join l sep).length≤140737488355328)(hl:l.length≤140737488355328):fG Tryz.prog 16 #[v,sv sep] [sl dH v l] (sv (Lib.join l sep)):=
 fG.uU fun w ρ hf hd=>by
  obtain⟨a,cap,rfl,h2,h3,h4,h5⟩:=hd (sl dH v l) (List.mem_cons_self ..)
  have hm:(l.map fun s=>(⟨s.toArray⟩:ByteArray)).map (·.data.toList)=l:=by rw[List.map_map];exact List.map_id _
  have Zf:(⟨sep.toArray⟩:ByteArray).data.toList=sep:=rfl
  cases l with
  |nil=>
   refine(Any.strings_Join_none Tryz.zy Tryz.jS a cap ⟨sep.toArray⟩ w).mono ?_;rintro e w' ⟨rfl,rfl⟩;exact⟨rfl,Go.RowKit.Below.refl _ _⟩
  |cons x l=>
   rcases h5 with h5|⟨b,off,C,e,fr,rfl,h6,h7⟩
   ·cases h5
   have hb:=hf _ _ h6
   have xO:∀(j:Nat) y,((x::l).map fun s=>(⟨s.toArray⟩:ByteArray))[j]?=some y→w.cell? ⟨b,off+j,none⟩=some (.string y):=fun j y hy=>by
    rw[List.getElem?_map]at hy;obtain⟨s,hs,rfl⟩:=Option.map_eq_some_iff.1 hy;rw[bp hb];refine h7 j _ ?_
    have:=zx hs
    rw[Nat.mul_one,Nat.add_zero]at this;exact this
   have hj:=Any.strings_Join Tryz.zy Tryz.jS b off cap ((x::l).map fun s=>(⟨s.toArray⟩:ByteArray)) ⟨sep.toArray⟩ w xO (Array.getElem?_eq_some_iff.1 hb).1 (by rw[List.length_map];exact hl) (by rw[List.length_map];exact h2) (by rw[hm];exact hlen)
   rw[hm,List.length_map]at hj;exact hj
def cn:List ax:=[[],[62],[62,62],[60],[60,60],[126]]
def qh:dJ:=⟨fun ρ=>∃u:dQ,(rp 0 u.1).f ρ∧(sl dH u.1 cn).f ρ,fun ρ gS h ⟨u,a,b⟩=>⟨u,(rp 0 u.1).mono _ _ h a,(sl dH u.1 cn).mono _ _ h b⟩⟩
def jg (k:Int):ax:=if k=1 then [42]else if k=3 then [39]else if k=4 then [46]else []
def dY (v:bL):ax:=((v.name++ [58])++jg v.kind)++v.label
def Ny:bL:=⟨[],0,[]⟩
def fF (vs:List bL)(l:cL):ax:=((vs.getD l.a.toNat Ny).name++cn.getD l.kind.toNat [])++(vs.getD l.b.toNat Ny).name
def cU (vs:List bL)(ks:List cL):List ax:=vs.map dY++ks.map (fF vs)
def kQ (vs:List bL)(ks:List cL):ax:=Lib.join (cU vs ks) [32]
def qi (vs:List bL)(ks:List cL):ax:=if(ec vs ks).1≠0 then []else kQ vs ks
theorem Kg {k:Int}(h1:1≤k)(h4:k≤4):([[],[42],[],[39],[46]]:List ax)[k.toNat]?=some (jg k):=by
 rcases(show k=1∨k=2∨k=3∨k=4 by omega)with rfl|rfl|rfl|rfl<;>rfl
theorem yj {s:ax}(h:isWord s=true):s.length≤120:=by
 have h1:=Dr s
 rw[ny]at h
 simp only[Bool.and_eq_true,decide_eq_true_eq]at h
 have h2:Lib.runeCountL s≤30:=h.1.1.2
 omega
theorem jT {vs:List bL}{ks:List cL}(hq:oy vs ks):∀v∈vs,v.name.length≤30∧v.label.length≤120:=fun v hv=>by
 obtain⟨h1,h2,h3,h4,h5,h6⟩:=hq.var v hv;refine⟨(px h3).2,?_⟩
 rcases(show v.kind=1∨v.kind=2∨v.kind=3∨v.kind=4 by omega)with h|h|h|h
 ·rw[h6 (Or.inl h)];simp
 ·have:=(px (h4 h)).2;omega
 ·exact yj (h5 h)
 ·rw[h6 (Or.inr h)];simp
theorem qj (k:Int):(jg k).length≤1:=by unfold jg;repeat(first|split|simp)
theorem pc (k:Nat):(cn.getD k []).length≤2:=by
 match k with
 |0=>decide
 |1=>decide
 |2=>decide
 |3=>decide
 |4=>decide
 |5=>decide
 |k+6=>exact Nat.zero_le _
theorem BI {v:bL}(h1:v.name.length≤30)(h2:v.label.length≤120):(dY v).length≤200:=by
 have:=qj v.kind
 unfold dY;rw[List.length_append,List.length_append,List.length_append];simp only[List.length_cons,List.length_nil];omega
theorem ld {vs:List bL}{i:Nat}(h:i<vs.length):vs[i]?=some (vs.getD i Ny):=by rw[List.getD_eq_getElem?_getD,List.getElem?_eq_getElem h];rfl
theorem oP {vs:List bL}{ks:List cL}(hq:oy vs ks):(∀s∈cU vs ks,s.length≤200)∧(cU vs ks).length≤12:=by
 refine⟨fun s hs=> ?_,?_⟩
 ·unfold cU at hs
  rcases List.mem_append.1 hs with hs|hs
  ·obtain⟨v,hv,rfl⟩:=List.mem_map.1 hs
   exact BI (jT hq v hv).1 (jT hq v hv).2
  ·obtain⟨l,hl,rfl⟩:=List.mem_map.1 hs
   obtain⟨_,_,a1,a2,b1,b2,_⟩:=hq.link l hl
   have ha:=(jT hq _ (List.mem_of_getElem? (ld (show l.a.toNat<vs.length by omega)))).1
   have hb:=(jT hq _ (List.mem_of_getElem? (ld (show l.b.toNat<vs.length by omega)))).1
   have hs:=pc l.kind.toNat
   unfold fF;rw[List.length_append,List.length_append];omega
 ·have h1:=hq.LM
  have h2:=hq.aV
  unfold cU;rw[List.length_append,List.length_map,List.length_map];omega
theorem Dx {vs:List bL}{ks:List cL}(hq:oy vs ks):(kQ vs ks).length≤10000:=by
 obtain⟨h1,h2⟩:=oP hq
 have h3:=wO [32] 200 (cU vs ks) h1
 have h4:(cU vs ks).length*(200+([32]:List UInt8).length)≤12*201:=Nat.mul_le_mul h2 (by simp)
 unfold kQ;omega
set_option maxHeartbeats 4000000 in
theorem j4 (q:cF):fG Tryz.prog 5 #[da q] [bG q,u8,qh] (.tuple #[sv (qi q.vars q.aV),fv (ec q.vars q.aV)]):=by
 refine fG.body (args:=[da q]) (ds:=[bG q,u8,qh]) 74 Tryz.func5 rfl Tryz.ntmps5 rfl (fun c gL=> ?_);refine St.cast (H':=[aE (bG q),aE (u8),aE (qh)]) rfl ?_;refine St.seq ?_
 refine St.fP qh (fun u:dQ=>[rp 0 u.1,sl dH u.1 cn]) (fun ρ ⟨u,h1,h2⟩=>⟨u,fun e he=>by simp only[List.mem_cons,List.not_mem_nil,or_false]at he;rcases he with rfl|rfl;exact h1;exact h2⟩) fun us=> ?_
 refine St.cast (H':=[aE (rp 0 us.1),aE (sl dH us.1 cn),aE (bG q),aE u8,aE qh]) rfl ?_
 refine St.fP (bG q) (fun _:Unit=>kD q) (fun ρ h=>⟨(),h⟩) fun _=> ?_
 refine St.cast (H':=[aE (sl cC q.vv.1 q.vars),aE (sl cE q.kv.1 q.aV),aE (rp 0 us.1),aE (sl dH us.1 cn),aE (bG q),aE (u8),aE (qh)]) rfl ?_
 have RB:qi q.vars q.aV=if(ec q.vars q.aV).1≠0 then []else kQ q.vars q.aV:=rfl
 refine St.rg ?_;refine St.dS (.mk rfl) rfl (fun b1=> ?_);refine St.ao ?_;refine St.alloc dR rfl (fun b3=> ?_);refine St.nn (St.seq (St.sr ?_));refine St.ee (Ev.an (.mk rfl) fV trivial (by exact dX)) ?_;refine St.ee (Ev.gA gL (lI q) KM (.cons (.mk rfl) .nil)) ?_;refine St.alloc dR rfl (fun b4=> ?_);refine St.sA (.mk rfl) (.mk rfl) aR ?_;refine St.nn (St.sr ?_);refine St.ee (Ev.aD (.mk rfl) cW) ?_;refine St.ee (Ev.l0 (.mk rfl) bf) ?_;refine St.ee Ev.kz ?_;refine St.nn ?_;refine St.cond _ rfl (fun uE=> ?_) (fun uE=> ?_)
 ·skip
  have hb:(ec q.vars q.aV).1≠0:=by simpa using uE
  rw[if_pos hb]at RB;refine St.seq ?_;refine St.lr [b3] mixed (fun np ns=> ?_);refine SW.dd 0 rfl (fun _=>Ev.an (.mk rfl) bC trivial (by exact aR)) ?_;refine SW.dd 1 rfl (fun _=>Ev.assign (.mk rfl)) ?_;refine SW.ar (i:=2) (by kernel_rfl) rfl ?_;refine St.sA (.mk rfl) (.mk rfl) aR ?_;refine St.nn ?_;refine SW.go ?_;refine SW.done (by kernel_rfl) ?_;refine St.a7 (St.ae (St.a8 ?_));refine St.rT [_,_] [] Tryz.results5 ⟨rfl,⟨⟨_,_,_,_,rfl,c4.mem,.inl ⟨⟨_,bC⟩,aR,rfl⟩⟩,trivial⟩⟩ ?_
  rw[RB];rfl
 ·skip
  have hb:¬(ec q.vars q.aV).1≠0:=by simpa using uE
  rw[if_neg hb]at RB;obtain⟨Bf,hq⟩:=la (Decidable.not_not.1 hb)
  have rV:=jT hq
  have ZG:=hq.LM
  have ZH:=hq.aV
  refine St.skip (St.a7 (St.sr ?_));refine St.ao ?_;refine St.nn (St.seq (St.sr ?_));refine St.ee (Ev.aD (.mk rfl) cN) ?_;refine St.ee (Ev.l0 (.mk rfl) cM) ?_;refine St.ee (Ev.bA (.mk rfl) cM) ?_;refine St.mv ?_;refine St.nn (St.block ?_);refine St.ic 9 1 ?_;refine St.bI (.slice none 0 0) (show _=((q.vars.take 0).map dY).length from rfl) (show _=rows dH ((q.vars.take 0).map dY)from rfl) ?_;refine St.pH (ι:=Nat) (κ:=Value) (fun k z T=>(19,iv k)::(5,z)::T) (fun k z=>[row z 9 1 ((q.vars.take k).map dY).length (rows dH ((q.vars.take k).map dY)),aZ b1 (.cells [q.vv.1,q.kv.1].toArray 25 (0,0)),aZ b3 (.cells [iv 0,iv 0].toArray 28 (0,0)),aE (sl cC q.vv.1 q.vars),aE (sl cE q.kv.1 q.aV),aE (u8),aE (rp 0 us.1),aE (sl dH us.1 cn)]) (fun k z=>k≤q.vars.length∧z.oneCell'=true) (fun k z=>q.vars.length-k) 0 (.slice none 0 0) (aG.cons 1 rfl (aG.cons 2 rfl (aG.cons 3 rfl (aG.cons 17 rfl (aG.cons 18 rfl aG.nil))))) ⟨Nat.zero_le _,rfl⟩ ?_;rintro k z ⟨hk,hz⟩;refine St.sr ?_;refine St.ee Ev.ez ?_;refine St.nn (St.seq ?_);refine St.cond _ rfl (fun qc=> ?_) (fun qc=> ?_)
  ·try simp only[aA]at qc
   obtain⟨va,HG⟩:=aY (show k<q.vars.length by omega);obtain⟨B1,oI⟩:=rV va (List.mem_of_getElem? HG);obtain⟨pQ,Zg,_⟩:=hq.var va (List.mem_of_getElem? HG)
   have vj:=qj va.kind
   have Zh:((q.vars.take k).map dY).length≤4:=by rw[List.length_map,List.length_take];omega
   refine St.skip (St.a7 (St.seq (St.block (St.sr ?_))));refine St.ee (Ev.aa (k:=k) (.mk rfl) (.mk rfl) cM cv (by omega) (by omega)) ?_;refine St.ee (Ev.iH (.mk rfl) HG gP trivial cv fw.eq) ?_;refine St.alloc pM rfl (fun b7=> ?_);refine St.sA (.mk rfl) (.mk rfl) cv ?_ (h1:=(by simp only[List.all_cons,List.all_nil,Bool.and_true,Bool.and_eq_true];exact⟨rfl,rfl,rfl⟩));refine St.nn ?_;refine St.ek [row z 9 1 ((q.vars.take k).map dY).length (rows dH ((q.vars.take k).map dY))] mixed (fun np ns=> ?_);refine SW.dd 0 rfl (fun _=>Ev.move (.mk rfl)) ?_;refine SW.dd 1 rfl (fun _=>Ev.aD (.mk rfl) fm) ?_;refine SW.dd 2 rfl (fun _=>Ev.cY (.mk rfl) cZ trivial (by rfl)) ?_;refine SW.dd 3 rfl (fun _=>Ev.fH (.mk rfl) (.mk rfl) (by first|omega|(simp only[List.length_append,List.length_cons,List.length_nil];omega))) ?_;refine SW.dd 5 rfl (fun _=>Ev.aD (.mk rfl) db) ?_;refine SW.dd 6 rfl (fun _=>Ev.cY (.mk rfl) bf trivial (by rfl)) ?_;refine SW.dd 10 rfl (fun _=>Ev.aD (.mk rfl) fL) ?_;refine SW.dd 11 rfl (fun _=>Ev.cY (.mk rfl) cZ trivial (by rfl)) ?_;refine SW.ar (i:=4) (by kernel_rfl) rfl ?_;refine St.cS rfl (.cons (.mk rfl) (.cons (.mk rfl) (.cons (.mk rfl) (.cons (.mk rfl) (.cons (.mk rfl) .nil))))) kT tt LF rfl rfl (by simp[Value.cells]) rfl rfl (fun R9=> ?_);refine St.bI (.slice (some ⟨R9,0,none⟩) 5 5) (show _=5 from rfl) (show _=rows dH [[],[42],[],[39],[46]]from rfl) ?_;refine St.nn ?_;refine SW.go ?_;refine SW.ar (i:=7) (by kernel_rfl) rfl ?_;refine St.ee (Ev.dm (k:=va.kind.toNat) (.mk rfl) (.mk rfl) kT tt (by omega) (by omega)) ?_;refine St.nn ?_;refine SW.go ?_;refine SW.ar (i:=8) (by kernel_rfl) rfl ?_;refine St.ee (Ev.jn (.mk rfl) cZ trivial (by omega) (zx (Kg pQ Zg))) ?_;refine St.nn ?_;refine SW.go ?_;refine SW.dd 9 rfl (fun _=>Ev.fH (.mk rfl) (.mk rfl) (by first|omega|(simp only[List.length_append,List.length_cons,List.length_nil];omega))) ?_;refine SW.dd 12 rfl (fun _=>Ev.fH (.mk rfl) (.mk rfl) (by first|omega|(simp only[List.length_append,List.length_cons,List.length_nil];omega))) ?_;refine SW.slot 35 (sv (dY va)) rfl rfl ?_;refine SW.ar (i:=13) (by kernel_rfl) rfl ?_;refine St.cS rfl (.cons (.mk rfl) .nil) kT tt LF rfl rfl (by simp[Value.cells]) rfl rfl (fun Bg=> ?_);refine St.nn ?_;refine SW.go ?_;refine SW.ar (i:=14) (by kernel_rfl) rfl ?_;refine St.cT (.mk rfl) (.mk rfl) kT tt LF XN (by simp[Value.oneCell',Value.cells]) (by omega) (by omega) rfl rfl rfl rfl (fun v37 Zi=> ?_);refine St.bI v37 (show _=((q.vars.take (k+1)).map dY).length by rw[c9 dY HG];exact eR) (show _=rows dH ((q.vars.take (k+1)).map dY) by rw[c9 dY HG];exact qg _ _) ?_;refine St.e7 v37 (fun Ak _=> ?_);refine St.nn ?_;refine SW.go ?_;refine SW.dd 15 rfl (fun _=>Ev.assign (.mk rfl)) ?_;refine SW.done (by kernel_rfl) ?_;refine St.aW (St.a7 (St.rg ?_));refine St.ee Ev.a0 ?_;refine St.mv ?_;refine St.nn ?_;refine St.ly (k+1) v37 ⟨by omega,Ak⟩
  ·try simp only[aA]at qc
   rw[List.take_of_length_le (show q.vars.length≤k by omega)];refine St.exit (St.aJ (St.aJ (St.bO (St.a7 (St.seq (St.sr ?_))))));refine St.ee (Ev.aD (.mk rfl) dz) ?_;refine St.ee (Ev.l0 (.mk rfl) dw) ?_;refine St.ee (Ev.bA (.mk rfl) dw) ?_;refine St.mv ?_;refine St.nn (St.block ?_);refine St.bI z (show _=(q.vars.map dY++(q.aV.take 0).map (fF q.vars)).length by rw[List.take_zero,List.map_nil,List.append_nil]) (show _=rows dH (q.vars.map dY++(q.aV.take 0).map (fF q.vars)) by rw[List.take_zero,List.map_nil,List.append_nil]) ?_;refine St.pH (ι:=Nat) (κ:=Value) (fun j z2 T=>(42,iv j)::(5,z2)::T) (fun j z2=>[row z2 9 1 (q.vars.map dY++(q.aV.take j).map (fF q.vars)).length (rows dH (q.vars.map dY++(q.aV.take j).map (fF q.vars))),aZ b1 (.cells [q.vv.1,q.kv.1].toArray 25 (0,0)),aZ b3 (.cells [iv 0,iv 0].toArray 28 (0,0)),aE (sl cC q.vv.1 q.vars),aE (sl cE q.kv.1 q.aV),aE (u8),aE (rp 0 us.1),aE (sl dH us.1 cn)]) (fun j z2=>j≤q.aV.length∧z2.oneCell'=true) (fun j z2=>q.aV.length-j) 0 z (aG.cons 1 rfl (aG.cons 2 rfl (aG.cons 3 rfl (aG.cons 40 rfl (aG.cons 41 rfl aG.nil))))) ⟨Nat.zero_le _,hz⟩ ?_;rintro j z2 ⟨hj,We⟩;refine St.sr ?_;refine St.ee Ev.ez ?_;refine St.nn (St.seq ?_);refine St.cond _ rfl (fun HH=> ?_) (fun HH=> ?_)
   ·try simp only[aA]at HH
    obtain⟨l,hl⟩:=aY (show j<q.aV.length by omega);obtain⟨g1,g5,a1,a2,b1,b2,_⟩:=hq.link l (List.mem_of_getElem? hl)
    have XO:=ld (vs:=q.vars) (show l.a.toNat<q.vars.length by omega)
    have XP:=ld (vs:=q.vars) (show l.b.toNat<q.vars.length by omega)
    have LR:=(rV _ (List.mem_of_getElem? XO)).1
    have Ik:=(rV _ (List.mem_of_getElem? XP)).1
    have AU:=pc l.kind.toNat
    have Tt:cn[l.kind.toNat]?=some (cn.getD l.kind.toNat []):=by rw[List.getD_eq_getElem?_getD,List.getElem?_eq_getElem (show l.kind.toNat<cn.length by show _<6;omega)];rfl
    have XQ:cn.length=6:=rfl
    have Zh:(q.vars.map dY++(q.aV.take j).map (fF q.vars)).length≤12:=by rw[List.length_append,List.length_map,List.length_map,List.length_take];omega
    refine St.skip (St.a7 (St.seq (St.block (St.sr ?_))));refine St.ee (Ev.aa (k:=j) (.mk rfl) (.mk rfl) dw gj (by omega) (by omega)) ?_;refine St.ee (Ev.iH (.mk rfl) hl tq trivial gj fw.eq) ?_;refine St.alloc B2 rfl (fun b9=> ?_);refine St.sA (.mk rfl) (.mk rfl) gj ?_ (h1:=(by simp only[List.all_cons,List.all_nil,Bool.and_true,Bool.and_eq_true];exact⟨rfl,rfl,rfl⟩));refine St.nn ?_;refine St.ek [row z2 9 1 (q.vars.map dY++(q.aV.take j).map (fF q.vars)).length (rows dH (q.vars.map dY++(q.aV.take j).map (fF q.vars)))] mixed (fun np ns=> ?_);refine SW.dd 0 rfl (fun _=>Ev.move (.mk rfl)) ?_;refine SW.dd 1 rfl (fun _=>Ev.aD (.mk rfl) cN) ?_;refine SW.dd 2 rfl (fun _=>Ev.cY (.mk rfl) cM trivial (by rfl)) ?_;refine SW.dd 3 rfl (fun _=>Ev.aD (.mk rfl) hG) ?_;refine SW.dd 4 rfl (fun _=>Ev.cY (.mk rfl) bf trivial (by rfl)) ?_;refine SW.dd 5 rfl (fun _=>Ev.aa (k:=l.a.toNat) (.mk rfl) (.mk rfl) cM cv (by omega) (by omega)) ?_;refine SW.dd 6 rfl (fun _=>Ev.eY (.mk rfl) (by omega) fm) ?_;refine SW.dd 7 rfl (fun _=>Ev.jA (.mk rfl) XO cZ trivial rfl) ?_;refine SW.dd 8 rfl (fun _=>Ev.Br (.mk rfl) kT trivial) ?_;refine SW.dd 9 rfl (fun _=>Ev.aD (.mk rfl) mV) ?_;refine SW.dd 10 rfl (fun _=>Ev.cY (.mk rfl) bf trivial (by rfl)) ?_;refine SW.dd 11 rfl (fun _=>Ev.aa (k:=l.kind.toNat) (.mk rfl) (.mk rfl) kT tt (by omega) (by omega)) ?_;refine SW.dd 12 rfl (fun _=>Ev.jA (.mk rfl) Tt cZ trivial rfl) ?_;refine SW.dd 13 rfl (fun _=>Ev.fH (.mk rfl) (.mk rfl) (by first|omega|(simp only[List.length_append,List.length_cons,List.length_nil];omega))) ?_;refine SW.dd 14 rfl (fun _=>Ev.aD (.mk rfl) cN) ?_;refine SW.dd 15 rfl (fun _=>Ev.cY (.mk rfl) cM trivial (by rfl)) ?_;refine SW.dd 16 rfl (fun _=>Ev.aD (.mk rfl) hJ) ?_;refine SW.dd 17 rfl (fun _=>Ev.cY (.mk rfl) bf trivial (by rfl)) ?_;refine SW.dd 18 rfl (fun _=>Ev.aa (k:=l.b.toNat) (.mk rfl) (.mk rfl) cM cv (by omega) (by omega)) ?_;refine SW.dd 19 rfl (fun _=>Ev.eY (.mk rfl) (by omega) fm) ?_;refine SW.dd 20 rfl (fun _=>Ev.jA (.mk rfl) XP cZ trivial rfl) ?_;refine SW.dd 21 rfl (fun _=>Ev.fH (.mk rfl) (.mk rfl) (by first|omega|(simp only[List.length_append,List.length_cons,List.length_nil];omega))) ?_;refine SW.slot 67 (sv (fF q.vars l)) rfl rfl ?_;refine SW.ar (i:=22) (by kernel_rfl) rfl ?_;refine St.cS rfl (.cons (.mk rfl) .nil) kT tt LF rfl rfl (by simp[Value.cells]) rfl rfl (fun b68=> ?_);refine St.nn ?_;refine SW.go ?_;refine SW.ar (i:=23) (by kernel_rfl) rfl ?_;refine St.cT (.mk rfl) (.mk rfl) kT tt LF XN (by simp[Value.oneCell',Value.cells]) (by omega) (by omega) rfl rfl rfl rfl (fun v69 Zj=> ?_);refine St.bI v69 (show _=(q.vars.map dY++(q.aV.take (j+1)).map (fF q.vars)).length by rw[c9 (fF q.vars) hl,←List.append_assoc];exact eR) (show _=rows dH (q.vars.map dY++(q.aV.take (j+1)).map (fF q.vars)) by rw[c9 (fF q.vars) hl,←List.append_assoc];exact qg _ _) ?_;refine St.e7 v69 (fun Zk _=> ?_);refine St.nn ?_;refine SW.go ?_;refine SW.dd 24 rfl (fun _=>Ev.assign (.mk rfl)) ?_;refine SW.done (by kernel_rfl) ?_;refine St.aW (St.a7 (St.rg ?_));refine St.ee Ev.a0 ?_;refine St.mv ?_;refine St.nn ?_;refine St.ly (j+1) v69 ⟨by omega,Zk⟩
   ·try simp only[aA]at HH
    rw[List.take_of_length_le (show q.aV.length≤j by omega)]
    have hit:=oP hq
    have AR:=Dx hq
    refine St.exit (St.aJ (St.aJ (St.bO (St.a7 (St.seq ?_)))));refine St.aM z2 dH (cU q.vars q.aV) rfl rfl (fun s hs=>by have:=hit.1 s hs;show s.length≤140737488351232;omega) ?_;refine St.rg ?_;refine St.mv ?_;refine St.ee (Ev.gA gL (BH z2 (cU q.vars q.aV) [32] (by have e:(Lib.join (cU q.vars q.aV) [32]).length≤10000:=AR;omega) (by omega)) Tq (.cons (.mk rfl) (.cons (.mk rfl) .nil))) ?_;refine St.ee (Ev.build (ps:=[]) (aQ.nil) (fun w=>fK w)) ?_;refine St.ao ?_;refine St.sA (.mk rfl) (.mk rfl) aR ?_;refine St.nn (St.ae ?_);refine St.rT [_,_] [] Tryz.results5 ⟨rfl,⟨⟨_,_,_,_,rfl,c4.mem,.inl ⟨⟨_,bC⟩,aR,rfl⟩⟩,trivial⟩⟩ ?_
    rw[RB,Bf];rfl
abbrev e0:eZ:= .mk sE []
abbrev t0:eZ:= .mk sT []
abbrev aP (a b:eZ):eZ:= .mk [] [a,b]
abbrev aO (i:Int):fS:= .mk 2 [] i S0 []
abbrev aC (a b:fS):fS:= .mk 4 [] 0 S0 [a,b]
abbrev aX (s:eZ)(t:fS):fS:= .mk 3 [] 0 s [t]
abbrev bF (n:ax)(s:eZ):fS:= .mk 1 n 0 s []
abbrev p0:eZ:=aP e0 t0
abbrev Nz (q c:ax):fS:=aC (bF q (aP p0 t0)) (aX e0 (aC (aC (bF c (aP t0 (aP t0 t0))) (aC (aO 2) (aO 0))) (aC (aO 1) (aO 0))))
abbrev Tu:ax:=[110,111,116]
def j5 (q c:ax)(no:Bool):fS:=aX p0 (aX p0 (if no then aC (bF Tu (aP t0 t0)) (Nz q c)else Nz q c))
set_option maxHeartbeats 2000000 in
theorem hN (q cc:ax)(no:Bool)(hq:iK q)(KO:iK cc):eI Tryz.prog 38 #[sv q,sv cc,.bool no] ([].map aE) (fun v H'=>H'=[aE (isTerm (j5 q cc no) v)]):=by
 refine eI.body (args:=[sv q,sv cc,.bool no]) 51 Tryz.func38 rfl Tryz.ntmps38 rfl (fun c=> ?_);refine St.cast (H':=[]) rfl ?_;refine St.sr ?_;refine St.alloc qD rfl (fun b6=> ?_);refine St.nn (St.sr ?_);refine St.ag (iX [101] (by decide)) AZ (.cons (.mk rfl) .nil) rfl ?_;rintro v11 _ rfl;refine St.aq ?_;refine St.ah e0 v11 (fun xe Jr=> ?_);obtain⟨Dy,O0,O1⟩:=Jr;subst Dy;refine St.ag (iX [116] (by decide)) AZ (.cons (.mk rfl) .nil) rfl ?_;rintro v12 _ rfl;refine St.aq ?_;refine St.ah t0 v12 (fun xt O2=> ?_);obtain⟨Dz,O3,O4⟩:=O2;subst Dz;refine St.alloc iP rfl (fun b7=> ?_);refine St.alloc iP rfl (fun b8=> ?_);refine St.sA (.mk rfl) (.mk rfl) bB ?_ (h1:=(by simp only[List.all_cons,List.all_nil,Bool.and_true,Bool.and_eq_true];exact⟨rfl,xe.av.2⟩));refine St.sA (.mk rfl) (.mk rfl) bB ?_ (h1:=(by simp only[List.all_cons,List.all_nil,Bool.and_true,Bool.and_eq_true];exact⟨rfl,xt.av.2⟩));refine St.nn (St.sr ?_);refine St.ee (Ev.an (.mk rfl) bb trivial (by exact bB)) ?_;refine St.ee (Ev.an (.mk rfl) bb trivial (by exact bB)) ?_;refine St.ag (dT (aK xe) (aK xt) e0 t0) l2 (.cons (.mk rfl) (.cons (.mk rfl) .nil)) rfl ?_;rintro FW _ rfl;refine St.aq ?_;refine St.ah p0 FW (fun xp O5=> ?_);obtain⟨E0,O6,O7⟩:=O5;subst E0;refine St.alloc iP rfl (fun b9=> ?_);refine St.sA (.mk rfl) (.mk rfl) bB ?_ (h1:=(by simp only[List.all_cons,List.all_nil,Bool.and_true,Bool.and_eq_true];exact⟨rfl,xp.av.2⟩));refine St.nn (St.seq ?_);refine St.SF 23 24 16 [10] (⟨16,[],fun u=>bZ u ((sv q))⟩::⟨17,[],fun u=>bZ u ((aK xp))⟩::⟨18,[],fun u=>bZ u ((aK xt))⟩::⟨19,[1,2],fun u=>ah (aP p0 t0) u⟩::⟨20,[0,3],fun u=>isTerm (bF q (aP p0 t0)) u⟩::⟨21,[],fun u=>bZ u ((aK xe))⟩::⟨22,[],fun u=>bZ u ((sv cc))⟩::⟨23,[],fun u=>bZ u ((aK xt))⟩::⟨24,[],fun u=>bZ u ((aK xt))⟩::⟨25,[],fun u=>bZ u ((aK xt))⟩::⟨26,[8,9],fun u=>ah (aP t0 t0) u⟩::⟨27,[7,10],fun u=>ah (aP t0 (aP t0 t0)) u⟩::⟨28,[6,11],fun u=>isTerm (bF cc (aP t0 (aP t0 t0))) u⟩::⟨29,[],fun u=>isTerm (aO 2) u⟩::⟨30,[],fun u=>isTerm (aO 0) u⟩::⟨31,[13,14],fun u=>isTerm (aC (aO 2) (aO 0)) u⟩::⟨32,[12,15],fun u=>isTerm (aC (bF cc (aP t0 (aP t0 t0))) (aC (aO 2) (aO 0))) u⟩::⟨33,[],fun u=>isTerm (aO 1) u⟩::⟨34,[],fun u=>isTerm (aO 0) u⟩::⟨35,[17,18],fun u=>isTerm (aC (aO 1) (aO 0)) u⟩::⟨36,[16,19],fun u=>isTerm (aC (aC (bF cc (aP t0 (aP t0 t0))) (aC (aO 2) (aO 0))) (aC (aO 1) (aO 0))) u⟩::⟨37,[5,20],fun u=>isTerm (aX e0 (aC (aC (bF cc (aP t0 (aP t0 t0))) (aC (aO 2) (aO 0))) (aC (aO 1) (aO 0)))) u⟩::⟨38,[4,21],fun u=>isTerm (aC (bF q (aP p0 t0)) (aX e0 (aC (aC (bF cc (aP t0 (aP t0 t0))) (aC (aO 2) (aO 0))) (aC (aO 1) (aO 0))))) u⟩::⟨10,[],fun u=>bZ u u⟩::[]) ((16,[])::(17,[])::(18,[])::(19,[1,2])::(20,[0,3])::(21,[])::(22,[])::(23,[])::(24,[])::(25,[])::(26,[8,9])::(27,[7,10])::(28,[6,11])::(29,[])::(30,[])::(31,[13,14])::(32,[12,15])::(33,[])::(34,[])::(35,[17,18])::(36,[16,19])::(37,[5,20])::(38,[4,21])::(10,[])::[]) [23,22] rfl rfl qD rfl (by kernel_rfl) rfl rfl mixed (by kernel_rfl) (by kernel_rfl) (by rfl) (fun e=>[(10,e 23),(38,e 22)]) (fun e=>[aE (bZ (e 23) (e 23)),aE (isTerm (aC (bF q (aP p0 t0)) (aX e0 (aC (aC (bF cc (aP t0 (aP t0 t0))) (aC (aO 2) (aO 0))) (aC (aO 1) (aO 0))))) (e 22))]) (fun _=>rfl) (fun _=>rfl) ?_ (fun e iC Tv=> ?_)
 ·refine ab.c0 (fun c e ai=> ?_) ?_
  ·refine St.aC ?_
   refine St.mv ?_;refine St.fact (bZ ((sv q)) ((sv q))) (fun _ _ _=>rfl) ?_;refine St.nn ?_;exact St.aI _ rfl _ rfl
  refine ab.c0 (fun c e ai=> ?_) ?_
  ·refine St.aC ?_
   refine St.ee (Ev.an (.mk rfl) bb trivial (by exact bB)) ?_;refine St.fact (bZ ((aK xp)) ((aK xp))) (fun _ _ _=>rfl) ?_;refine St.nn ?_;exact St.aI _ rfl _ rfl
  refine ab.c0 (fun c e ai=> ?_) ?_
  ·refine St.aC ?_
   refine St.ee (Ev.an (.mk rfl) bb trivial (by exact bB)) ?_;refine St.fact (bZ ((aK xt)) ((aK xt))) (fun _ _ _=>rfl) ?_;refine St.nn ?_;exact St.aI _ rfl _ rfl
  refine ab.cc (fun e=>[(17,e 1),(18,e 2)]) (fun e=>[aE (bZ (e 1) ((aK xp))),aE (bZ (e 2) ((aK xt)))]) (fun c e ai=> ?_) ?_
  ·refine St.cI ?_
   refine St.bH (P:=Tryz.prog) 17 (e 1) ((aK xp)) rfl ?_;refine St.bH (P:=Tryz.prog) 18 (e 2) ((aK xt)) rfl ?_;refine St.ag (dT (aK xp) (aK xt) p0 t0) l2 (.cons (.mk rfl) (.cons (.mk rfl) .nil)) rfl ?_;rintro v19 _ rfl;refine St.aq ?_;refine St.nn ?_;exact St.aI _ rfl _ rfl
  refine ab.cc (fun e=>[(16,e 0),(19,e 3)]) (fun e=>[aE (bZ (e 0) ((sv q))),aE (ah (aP p0 t0) (e 3))]) (fun c e ai=> ?_) ?_
  ·refine St.cI ?_
   refine St.bH (P:=Tryz.prog) 16 (e 0) ((sv q)) rfl ?_;refine St.ag (ca q hq (e 3) (aP p0 t0)) jc (.cons (.mk rfl) (.cons (.mk rfl) .nil)) rfl ?_;rintro v20 _ rfl;refine St.aq ?_;refine St.nn ?_;exact St.aI _ rfl _ rfl
  refine ab.c0 (fun c e ai=> ?_) ?_
  ·refine St.aC ?_
   refine St.ee (Ev.an (.mk rfl) bb trivial (by exact bB)) ?_;refine St.fact (bZ ((aK xe)) ((aK xe))) (fun _ _ _=>rfl) ?_;refine St.nn ?_;exact St.aI _ rfl _ rfl
  refine ab.c0 (fun c e ai=> ?_) ?_
  ·refine St.aC ?_
   refine St.mv ?_;refine St.fact (bZ ((sv cc)) ((sv cc))) (fun _ _ _=>rfl) ?_;refine St.nn ?_;exact St.aI _ rfl _ rfl
  refine ab.c0 (fun c e ai=> ?_) ?_
  ·refine St.aC ?_
   refine St.ee (Ev.an (.mk rfl) bb trivial (by exact bB)) ?_;refine St.fact (bZ ((aK xt)) ((aK xt))) (fun _ _ _=>rfl) ?_;refine St.nn ?_;exact St.aI _ rfl _ rfl
  refine ab.c0 (fun c e ai=> ?_) ?_
  ·refine St.aC ?_
   refine St.ee (Ev.an (.mk rfl) bb trivial (by exact bB)) ?_;refine St.fact (bZ ((aK xt)) ((aK xt))) (fun _ _ _=>rfl) ?_;refine St.nn ?_;exact St.aI _ rfl _ rfl
  refine ab.c0 (fun c e ai=> ?_) ?_
  ·refine St.aC ?_
   refine St.ee (Ev.an (.mk rfl) bb trivial (by exact bB)) ?_;refine St.fact (bZ ((aK xt)) ((aK xt))) (fun _ _ _=>rfl) ?_;refine St.nn ?_;exact St.aI _ rfl _ rfl
  refine ab.cc (fun e=>[(24,e 8),(25,e 9)]) (fun e=>[aE (bZ (e 8) ((aK xt))),aE (bZ (e 9) ((aK xt)))]) (fun c e ai=> ?_) ?_
  ·refine St.cI ?_
   refine St.bH (P:=Tryz.prog) 24 (e 8) ((aK xt)) rfl ?_;refine St.bH (P:=Tryz.prog) 25 (e 9) ((aK xt)) rfl ?_;refine St.ag (dT (aK xt) (aK xt) t0 t0) l2 (.cons (.mk rfl) (.cons (.mk rfl) .nil)) rfl ?_;rintro fg _ rfl;refine St.aq ?_;refine St.nn ?_;exact St.aI _ rfl _ rfl
  refine ab.cc (fun e=>[(23,e 7),(26,e 10)]) (fun e=>[aE (bZ (e 7) ((aK xt))),aE (ah (aP t0 t0) (e 10))]) (fun c e ai=> ?_) ?_
  ·refine St.cI ?_
   refine St.bH (P:=Tryz.prog) 23 (e 7) ((aK xt)) rfl ?_;refine St.ag (dT (aK xt) (e 10) t0 (aP t0 t0)) l2 (.cons (.mk rfl) (.cons (.mk rfl) .nil)) rfl ?_;rintro v27 _ rfl;refine St.aq ?_;refine St.nn ?_;exact St.aI _ rfl _ rfl
  refine ab.cc (fun e=>[(22,e 6),(27,e 11)]) (fun e=>[aE (bZ (e 6) ((sv cc))),aE (ah (aP t0 (aP t0 t0)) (e 11))]) (fun c e ai=> ?_) ?_
  ·refine St.cI ?_
   refine St.bH (P:=Tryz.prog) 22 (e 6) ((sv cc)) rfl ?_;refine St.ag (ca cc KO (e 11) (aP t0 (aP t0 t0))) jc (.cons (.mk rfl) (.cons (.mk rfl) .nil)) rfl ?_;rintro v28 _ rfl;refine St.aq ?_;refine St.nn ?_;exact St.aI _ rfl _ rfl
  refine ab.c0 (fun c e ai=> ?_) ?_
  ·refine St.aC ?_
   refine St.ag (bc 2 (by unfold aj;decide)) iu (.cons (.mk rfl) .nil) rfl ?_;rintro Zl _ rfl;refine St.aq ?_;refine St.nn ?_;exact St.aI _ rfl _ rfl
  refine ab.c0 (fun c e ai=> ?_) ?_
  ·refine St.aC ?_
   refine St.ag (bc 0 (by unfold aj;decide)) iu (.cons (.mk rfl) .nil) rfl ?_;rintro v30 _ rfl;refine St.aq ?_;refine St.nn ?_;exact St.aI _ rfl _ rfl
  refine ab.cc (fun e=>[(29,e 13),(30,e 14)]) (fun e=>[aE (isTerm (aO 2) (e 13)),aE (isTerm (aO 0) (e 14))]) (fun c e ai=> ?_) ?_
  ·refine St.cI ?_
   refine St.ag (cx (e 13) (e 14) (aO 2) (aO 0)) kF (.cons (.mk rfl) (.cons (.mk rfl) .nil)) rfl ?_;rintro v31 _ rfl;refine St.aq ?_;refine St.nn ?_;exact St.aI _ rfl _ rfl
  refine ab.cc (fun e=>[(28,e 12),(31,e 15)]) (fun e=>[aE (isTerm (bF cc (aP t0 (aP t0 t0))) (e 12)),aE (isTerm (aC (aO 2) (aO 0)) (e 15))]) (fun c e ai=> ?_) ?_
  ·refine St.cI ?_
   refine St.ag (cx (e 12) (e 15) (bF cc (aP t0 (aP t0 t0))) (aC (aO 2) (aO 0))) kF (.cons (.mk rfl) (.cons (.mk rfl) .nil)) rfl ?_;rintro zz _ rfl;refine St.aq ?_;refine St.nn ?_;exact St.aI _ rfl _ rfl
  refine ab.c0 (fun c e ai=> ?_) ?_
  ·refine St.aC ?_
   refine St.ag (bc 1 (by unfold aj;decide)) iu (.cons (.mk rfl) .nil) rfl ?_;rintro v33 _ rfl;refine St.aq ?_;refine St.nn ?_;exact St.aI _ rfl _ rfl
  refine ab.c0 (fun c e ai=> ?_) ?_
  ·refine St.aC ?_
   refine St.ag (bc 0 (by unfold aj;decide)) iu (.cons (.mk rfl) .nil) rfl ?_;rintro Zm _ rfl;refine St.aq ?_;refine St.nn ?_;exact St.aI _ rfl _ rfl
  refine ab.cc (fun e=>[(33,e 17),(34,e 18)]) (fun e=>[aE (isTerm (aO 1) (e 17)),aE (isTerm (aO 0) (e 18))]) (fun c e ai=> ?_) ?_
  ·refine St.cI ?_
   refine St.ag (cx (e 17) (e 18) (aO 1) (aO 0)) kF (.cons (.mk rfl) (.cons (.mk rfl) .nil)) rfl ?_;rintro v35 _ rfl;refine St.aq ?_;refine St.nn ?_;exact St.aI _ rfl _ rfl
  refine ab.cc (fun e=>[(32,e 16),(35,e 19)]) (fun e=>[aE (isTerm (aC (bF cc (aP t0 (aP t0 t0))) (aC (aO 2) (aO 0))) (e 16)),aE (isTerm (aC (aO 1) (aO 0)) (e 19))]) (fun c e ai=> ?_) ?_
  ·refine St.cI ?_
   refine St.ag (cx (e 16) (e 19) (aC (bF cc (aP t0 (aP t0 t0))) (aC (aO 2) (aO 0))) (aC (aO 1) (aO 0))) kF (.cons (.mk rfl) (.cons (.mk rfl) .nil)) rfl ?_;rintro v36 _ rfl;refine St.aq ?_;refine St.nn ?_;exact St.aI _ rfl _ rfl
  refine ab.cc (fun e=>[(21,e 5),(36,e 20)]) (fun e=>[aE (bZ (e 5) ((aK xe))),aE (isTerm (aC (aC (bF cc (aP t0 (aP t0 t0))) (aC (aO 2) (aO 0))) (aC (aO 1) (aO 0))) (e 20))]) (fun c e ai=> ?_) ?_
  ·refine St.cI ?_
   refine St.bH (P:=Tryz.prog) 21 (e 5) ((aK xe)) rfl ?_;refine St.ag (cQ (aK xe) (e 20) e0 (aC (aC (bF cc (aP t0 (aP t0 t0))) (aC (aO 2) (aO 0))) (aC (aO 1) (aO 0)))) iw (.cons (.mk rfl) (.cons (.mk rfl) .nil)) rfl ?_;rintro v37 _ rfl;refine St.aq ?_;refine St.nn ?_;exact St.aI _ rfl _ rfl
  refine ab.cc (fun e=>[(20,e 4),(37,e 21)]) (fun e=>[aE (isTerm (bF q (aP p0 t0)) (e 4)),aE (isTerm (aX e0 (aC (aC (bF cc (aP t0 (aP t0 t0))) (aC (aO 2) (aO 0))) (aC (aO 1) (aO 0)))) (e 21))]) (fun c e ai=> ?_) ?_
  ·refine St.cI ?_
   refine St.ag (cx (e 4) (e 21) (bF q (aP p0 t0)) (aX e0 (aC (aC (bF cc (aP t0 (aP t0 t0))) (aC (aO 2) (aO 0))) (aC (aO 1) (aO 0))))) kF (.cons (.mk rfl) (.cons (.mk rfl) .nil)) rfl ?_;rintro v38 _ rfl;refine St.aq ?_;refine St.nn ?_;exact St.aI _ rfl _ rfl
  refine ab.c0 (fun c e ai=> ?_) ?_
  ·refine St.aC ?_
   refine St.alloc qD rfl (fun iC=> ?_);refine St.fact (bZ (.pointer (some ⟨iC,0,none⟩)) (.pointer (some ⟨iC,0,none⟩))) (fun _ _ _=>rfl) ?_;refine St.nn ?_;exact St.aI _ rfl _ rfl
  exact ab.nil
 refine St.cI ?_;refine St.slot 10 _ rfl Tv ?_;refine St.isTerm (aC (bF q (aP p0 t0)) (aX e0 (aC (aC (bF cc (aP t0 (aP t0 t0))) (aC (aO 2) (aO 0))) (aC (aO 1) (aO 0))))) (e 22) (fun xm FT=> ?_);obtain⟨Tw,Zn,Zo⟩:=FT;rw[Tw];refine St.sA (.mk rfl) (.mk rfl) dI ?_ (h1:=(by simp only[List.all_cons,List.all_nil,Bool.and_true,Bool.and_eq_true];exact⟨rfl,rfl,rfl,rfl,xm.type.av.2,xm.av.2⟩));refine St.nn (St.seq (St.sr ?_));refine St.mv ?_;refine St.nn ?_;refine St.cond _ rfl (fun pZ=> ?_) (fun pZ=> ?_)
 ·skip
  refine St.IK 6 40 [] (⟨40,[],fun u=>bZ u ((aK xt))⟩::⟨41,[],fun u=>bZ u ((aK xt))⟩::⟨42,[0,1],fun u=>ah (aP t0 t0) u⟩::⟨43,[2],fun u=>isTerm (bF [110,111,116] (aP t0 t0)) u⟩::⟨44,[],fun u=>bZ u ((bT xm))⟩::⟨45,[3,4],fun u=>isTerm (aC (bF [110,111,116] (aP t0 t0)) (aC (bF q (aP p0 t0)) (aX e0 (aC (aC (bF cc (aP t0 (aP t0 t0))) (aC (aO 2) (aO 0))) (aC (aO 1) (aO 0)))))) u⟩::[]) ((40,[])::(41,[])::(42,[0,1])::(43,[2])::(44,[])::(45,[3,4])::[]) [5] rfl rfl mixed (by kernel_rfl) (by kernel_rfl) (by rfl) (fun e=>[(45,e 5)]) (fun e=>[aE (isTerm (aC (bF [110,111,116] (aP t0 t0)) (aC (bF q (aP p0 t0)) (aX e0 (aC (aC (bF cc (aP t0 (aP t0 t0))) (aC (aO 2) (aO 0))) (aC (aO 1) (aO 0)))))) (e 5))]) (fun _=>rfl) (fun _=>rfl) ?_ (fun e=> ?_)
  ·refine ab.c0 (fun c e ai=> ?_) ?_
   ·refine St.aC ?_
    refine St.ee (Ev.an (.mk rfl) bb trivial (by exact bB)) ?_;refine St.fact (bZ ((aK xt)) ((aK xt))) (fun _ _ _=>rfl) ?_;refine St.nn ?_;exact St.aI _ rfl _ rfl
   refine ab.c0 (fun c e ai=> ?_) ?_
   ·refine St.aC ?_
    refine St.ee (Ev.an (.mk rfl) bb trivial (by exact bB)) ?_;refine St.fact (bZ ((aK xt)) ((aK xt))) (fun _ _ _=>rfl) ?_;refine St.nn ?_;exact St.aI _ rfl _ rfl
   refine ab.cc (fun e=>[(40,e 0),(41,e 1)]) (fun e=>[aE (bZ (e 0) ((aK xt))),aE (bZ (e 1) ((aK xt)))]) (fun c e ai=> ?_) ?_
   ·refine St.cI ?_
    refine St.bH (P:=Tryz.prog) 40 (e 0) ((aK xt)) rfl ?_;refine St.bH (P:=Tryz.prog) 41 (e 1) ((aK xt)) rfl ?_;refine St.ag (dT (aK xt) (aK xt) t0 t0) l2 (.cons (.mk rfl) (.cons (.mk rfl) .nil)) rfl ?_;rintro v42 _ rfl;refine St.aq ?_;refine St.nn ?_;exact St.aI _ rfl _ rfl
   refine ab.cc (fun e=>[(42,e 2)]) (fun e=>[aE (ah (aP t0 t0) (e 2))]) (fun c e ai=> ?_) ?_
   ·refine St.aq ?_
    refine St.ag (ca [110,111,116] (by decide) (e 2) (aP t0 t0)) jc (.cons (.mk rfl) (.cons (.mk rfl) .nil)) rfl ?_;rintro XI _ rfl;refine St.aq ?_;refine St.nn ?_;exact St.aI _ rfl _ rfl
   refine ab.c0 (fun c e ai=> ?_) ?_
   ·refine St.aC ?_
    refine St.ee (Ev.an (.mk rfl) fl trivial (by exact dI)) ?_;refine St.fact (bZ ((bT xm)) ((bT xm))) (fun _ _ _=>rfl) ?_;refine St.nn ?_;exact St.aI _ rfl _ rfl
   refine ab.cc (fun e=>[(43,e 3),(44,e 4)]) (fun e=>[aE (isTerm (bF [110,111,116] (aP t0 t0)) (e 3)),aE (bZ (e 4) ((bT xm)))]) (fun c e ai=> ?_) ?_
   ·refine St.cI ?_
    refine St.bH (P:=Tryz.prog) 44 (e 4) ((bT xm)) rfl ?_;refine St.ag (cx (e 3) (bT xm) (bF [110,111,116] (aP t0 t0)) (aC (bF q (aP p0 t0)) (aX e0 (aC (aC (bF cc (aP t0 (aP t0 t0))) (aC (aO 2) (aO 0))) (aC (aO 1) (aO 0)))))) kF (.cons (.mk rfl) (.cons (.mk rfl) .nil)) rfl ?_;rintro v45 _ rfl;refine St.aq ?_;refine St.nn ?_;exact St.aI _ rfl _ rfl
   exact ab.nil
  refine St.aq ?_;refine St.isTerm (aC (bF [110,111,116] (aP t0 t0)) (aC (bF q (aP p0 t0)) (aX e0 (aC (aC (bF cc (aP t0 (aP t0 t0))) (aC (aO 2) (aO 0))) (aC (aO 1) (aO 0)))))) (e 5) (fun xn Zp=> ?_);obtain⟨Tx,Zq,Zr⟩:=Zp;rw[Tx];refine St.sA (.mk rfl) (.mk rfl) dI ?_ (h1:=(by simp only[List.all_cons,List.all_nil,Bool.and_true,Bool.and_eq_true];exact⟨rfl,rfl,rfl,rfl,xn.type.av.2,xn.av.2⟩));refine St.nn (St.seq ?_);refine St.IK 5 46 [] (⟨46,[],fun u=>bZ u ((aK xp))⟩::⟨47,[],fun u=>bZ u ((aK xp))⟩::⟨48,[],fun u=>bZ u ((bT xn))⟩::⟨49,[1,2],fun u=>isTerm (aX p0 (aC (bF [110,111,116] (aP t0 t0)) (aC (bF q (aP p0 t0)) (aX e0 (aC (aC (bF cc (aP t0 (aP t0 t0))) (aC (aO 2) (aO 0))) (aC (aO 1) (aO 0))))))) u⟩::⟨50,[0,3],fun u=>isTerm (aX p0 (aX p0 (aC (bF [110,111,116] (aP t0 t0)) (aC (bF q (aP p0 t0)) (aX e0 (aC (aC (bF cc (aP t0 (aP t0 t0))) (aC (aO 2) (aO 0))) (aC (aO 1) (aO 0)))))))) u⟩::[]) ((46,[])::(47,[])::(48,[])::(49,[1,2])::(50,[0,3])::[]) [4] rfl rfl mixed (by kernel_rfl) (by kernel_rfl) (by rfl) (fun e=>[(50,e 4)]) (fun e=>[aE (isTerm (aX p0 (aX p0 (aC (bF [110,111,116] (aP t0 t0)) (aC (bF q (aP p0 t0)) (aX e0 (aC (aC (bF cc (aP t0 (aP t0 t0))) (aC (aO 2) (aO 0))) (aC (aO 1) (aO 0)))))))) (e 4))]) (fun _=>rfl) (fun _=>rfl) ?_ (fun e=> ?_)
  ·refine ab.c0 (fun c e ai=> ?_) ?_
   ·refine St.aC ?_
    refine St.ee (Ev.an (.mk rfl) bb trivial (by exact bB)) ?_;refine St.fact (bZ ((aK xp)) ((aK xp))) (fun _ _ _=>rfl) ?_;refine St.nn ?_;exact St.aI _ rfl _ rfl
   refine ab.c0 (fun c e ai=> ?_) ?_
   ·refine St.aC ?_
    refine St.ee (Ev.an (.mk rfl) bb trivial (by exact bB)) ?_;refine St.fact (bZ ((aK xp)) ((aK xp))) (fun _ _ _=>rfl) ?_;refine St.nn ?_;exact St.aI _ rfl _ rfl
   refine ab.c0 (fun c e ai=> ?_) ?_
   ·refine St.aC ?_
    refine St.ee (Ev.an (.mk rfl) fl trivial (by exact dI)) ?_;refine St.fact (bZ ((bT xn)) ((bT xn))) (fun _ _ _=>rfl) ?_;refine St.nn ?_;exact St.aI _ rfl _ rfl
   refine ab.cc (fun e=>[(47,e 1),(48,e 2)]) (fun e=>[aE (bZ (e 1) ((aK xp))),aE (bZ (e 2) ((bT xn)))]) (fun c e ai=> ?_) ?_
   ·refine St.cI ?_
    refine St.bH (P:=Tryz.prog) 47 (e 1) ((aK xp)) rfl ?_;refine St.bH (P:=Tryz.prog) 48 (e 2) ((bT xn)) rfl ?_;refine St.ag (cQ (aK xp) (bT xn) p0 (aC (bF [110,111,116] (aP t0 t0)) (aC (bF q (aP p0 t0)) (aX e0 (aC (aC (bF cc (aP t0 (aP t0 t0))) (aC (aO 2) (aO 0))) (aC (aO 1) (aO 0))))))) iw (.cons (.mk rfl) (.cons (.mk rfl) .nil)) rfl ?_;rintro v49 _ rfl;refine St.aq ?_;refine St.nn ?_;exact St.aI _ rfl _ rfl
   refine ab.cc (fun e=>[(46,e 0),(49,e 3)]) (fun e=>[aE (bZ (e 0) ((aK xp))),aE (isTerm (aX p0 (aC (bF [110,111,116] (aP t0 t0)) (aC (bF q (aP p0 t0)) (aX e0 (aC (aC (bF cc (aP t0 (aP t0 t0))) (aC (aO 2) (aO 0))) (aC (aO 1) (aO 0))))))) (e 3))]) (fun c e ai=> ?_) ?_
   ·refine St.cI ?_
    refine St.bH (P:=Tryz.prog) 46 (e 0) ((aK xp)) rfl ?_;refine St.ag (cQ (aK xp) (e 3) p0 (aX p0 (aC (bF [110,111,116] (aP t0 t0)) (aC (bF q (aP p0 t0)) (aX e0 (aC (aC (bF cc (aP t0 (aP t0 t0))) (aC (aO 2) (aO 0))) (aC (aO 1) (aO 0)))))))) iw (.cons (.mk rfl) (.cons (.mk rfl) .nil)) rfl ?_;rintro XR _ rfl;refine St.aq ?_;refine St.nn ?_;exact St.aI _ rfl _ rfl
   exact ab.nil
  refine St.aq ?_;refine St.isTerm (aX p0 (aX p0 (aC (bF [110,111,116] (aP t0 t0)) (aC (bF q (aP p0 t0)) (aX e0 (aC (aC (bF cc (aP t0 (aP t0 t0))) (aC (aO 2) (aO 0))) (aC (aO 1) (aO 0)))))))) (e 4) (fun xr Kh=> ?_);obtain⟨yk,Ki,Kj⟩:=Kh;rw[yk];refine St.sA (.mk rfl) (.mk rfl) dI ?_ (h1:=(by simp only[List.all_cons,List.all_nil,Bool.and_true,Bool.and_eq_true];exact⟨rfl,rfl,rfl,rfl,xr.type.av.2,xr.av.2⟩));refine St.nn (St.ae ?_)
  have hq:(aX p0 (aX p0 (aC (bF [110,111,116] (aP t0 t0)) (aC (bF q (aP p0 t0)) (aX e0 (aC (aC (bF cc (aP t0 (aP t0 t0))) (aC (aO 2) (aO 0))) (aC (aO 1) (aO 0))))))))=j5 q cc no:=by rw[pZ];rfl
  rw[hq];refine St.rT [_] [aE (isTerm (j5 q cc no) (bT xr))] Tryz.results38 ⟨⟨_,_,_,_,rfl,c4.mem,.inl ⟨⟨_,fl⟩,dI,rfl⟩⟩,trivial⟩ ?_;rfl
 ·skip
  refine St.skip (St.a7 (St.seq ?_));refine St.IK 5 46 [] (⟨46,[],fun u=>bZ u ((aK xp))⟩::⟨47,[],fun u=>bZ u ((aK xp))⟩::⟨48,[],fun u=>bZ u ((bT xm))⟩::⟨49,[1,2],fun u=>isTerm (aX p0 (aC (bF q (aP p0 t0)) (aX e0 (aC (aC (bF cc (aP t0 (aP t0 t0))) (aC (aO 2) (aO 0))) (aC (aO 1) (aO 0)))))) u⟩::⟨50,[0,3],fun u=>isTerm (aX p0 (aX p0 (aC (bF q (aP p0 t0)) (aX e0 (aC (aC (bF cc (aP t0 (aP t0 t0))) (aC (aO 2) (aO 0))) (aC (aO 1) (aO 0))))))) u⟩::[]) ((46,[])::(47,[])::(48,[])::(49,[1,2])::(50,[0,3])::[]) [4] rfl rfl mixed (by kernel_rfl) (by kernel_rfl) (by rfl) (fun e=>[(50,e 4)]) (fun e=>[aE (isTerm (aX p0 (aX p0 (aC (bF q (aP p0 t0)) (aX e0 (aC (aC (bF cc (aP t0 (aP t0 t0))) (aC (aO 2) (aO 0))) (aC (aO 1) (aO 0))))))) (e 4))]) (fun _=>rfl) (fun _=>rfl) ?_ (fun e=> ?_)
  ·refine ab.c0 (fun c e ai=> ?_) ?_
   ·refine St.aC ?_
    refine St.ee (Ev.an (.mk rfl) bb trivial (by exact bB)) ?_;refine St.fact (bZ ((aK xp)) ((aK xp))) (fun _ _ _=>rfl) ?_;refine St.nn ?_;exact St.aI _ rfl _ rfl
   refine ab.c0 (fun c e ai=> ?_) ?_
   ·refine St.aC ?_
    refine St.ee (Ev.an (.mk rfl) bb trivial (by exact bB)) ?_;refine St.fact (bZ ((aK xp)) ((aK xp))) (fun _ _ _=>rfl) ?_;refine St.nn ?_;exact St.aI _ rfl _ rfl
   refine ab.c0 (fun c e ai=> ?_) ?_
   ·refine St.aC ?_
    refine St.ee (Ev.an (.mk rfl) fl trivial (by exact dI)) ?_;refine St.fact (bZ ((bT xm)) ((bT xm))) (fun _ _ _=>rfl) ?_;refine St.nn ?_;exact St.aI _ rfl _ rfl
   refine ab.cc (fun e=>[(47,e 1),(48,e 2)]) (fun e=>[aE (bZ (e 1) ((aK xp))),aE (bZ (e 2) ((bT xm)))]) (fun c e ai=> ?_) ?_
   ·refine St.cI ?_
    refine St.bH (P:=Tryz.prog) 47 (e 1) ((aK xp)) rfl ?_;refine St.bH (P:=Tryz.prog) 48 (e 2) ((bT xm)) rfl ?_;refine St.ag (cQ (aK xp) (bT xm) p0 (aC (bF q (aP p0 t0)) (aX e0 (aC (aC (bF cc (aP t0 (aP t0 t0))) (aC (aO 2) (aO 0))) (aC (aO 1) (aO 0)))))) iw (.cons (.mk rfl) (.cons (.mk rfl) .nil)) rfl ?_;rintro v49 _ rfl;refine St.aq ?_;refine St.nn ?_;exact St.aI _ rfl _ rfl
   refine ab.cc (fun e=>[(46,e 0),(49,e 3)]) (fun e=>[aE (bZ (e 0) ((aK xp))),aE (isTerm (aX p0 (aC (bF q (aP p0 t0)) (aX e0 (aC (aC (bF cc (aP t0 (aP t0 t0))) (aC (aO 2) (aO 0))) (aC (aO 1) (aO 0)))))) (e 3))]) (fun c e ai=> ?_) ?_
   ·refine St.cI ?_
    refine St.bH (P:=Tryz.prog) 46 (e 0) ((aK xp)) rfl ?_;refine St.ag (cQ (aK xp) (e 3) p0 (aX p0 (aC (bF q (aP p0 t0)) (aX e0 (aC (aC (bF cc (aP t0 (aP t0 t0))) (aC (aO 2) (aO 0))) (aC (aO 1) (aO 0))))))) iw (.cons (.mk rfl) (.cons (.mk rfl) .nil)) rfl ?_;rintro XR _ rfl;refine St.aq ?_;refine St.nn ?_;exact St.aI _ rfl _ rfl
   exact ab.nil
  refine St.aq ?_;refine St.isTerm (aX p0 (aX p0 (aC (bF q (aP p0 t0)) (aX e0 (aC (aC (bF cc (aP t0 (aP t0 t0))) (aC (aO 2) (aO 0))) (aC (aO 1) (aO 0))))))) (e 4) (fun xr Kh=> ?_);obtain⟨yk,Ki,Kj⟩:=Kh;rw[yk];refine St.sA (.mk rfl) (.mk rfl) dI ?_ (h1:=(by simp only[List.all_cons,List.all_nil,Bool.and_true,Bool.and_eq_true];exact⟨rfl,rfl,rfl,rfl,xr.type.av.2,xr.av.2⟩));refine St.nn (St.ae ?_)
  have hq:(aX p0 (aX p0 (aC (bF q (aP p0 t0)) (aX e0 (aC (aC (bF cc (aP t0 (aP t0 t0))) (aC (aO 2) (aO 0))) (aC (aO 1) (aO 0)))))))=j5 q cc no:=by rw[pZ];rfl
  rw[hq];refine St.rT [_] [aE (isTerm (j5 q cc no) (bT xr))] Tryz.results38 ⟨⟨_,_,_,_,rfl,c4.mem,.inl ⟨⟨_,fl⟩,dI,rfl⟩⟩,trivial⟩ ?_;rfl
end Go.Proofs.YtoioijgdggkabaaGreatDoor
