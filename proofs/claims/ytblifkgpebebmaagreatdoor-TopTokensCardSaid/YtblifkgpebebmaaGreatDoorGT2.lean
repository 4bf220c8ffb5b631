/-
  Laws of walks through programs, and facts on grammars, trees and queries.
  Conditions: none.
-/
import Derived.Test.YtblifkgpebebmaaGreatDoorGT1
import Derived.Lib.LaidU8
import Derived.LaidMore
import Derived.Lay
import Derived.Stop.Joined
import Derived.Deep.DeepHandedRow
import Derived.Lib.Mul64
import Derived.Shelf.Spec.BitsCarry
import Derived.Laws.IdiomStrings
import Derived.Stop.IfaceNil
import Derived.Below
import Derived.Lib.ValidU
import Derived.Lib.RuneCount
import Derived.Lib.IndexAny
import Derived.Lib.TrimUEq
import Derived.Test.YtblifkgpebebmaaGreatDoorChecked
import Derived.Laws.Small
import Derived.Lib.Join
import Derived.Laws.Slices
import Derived.Laws.Strings2
import Derived.Laws.RangeAny
import Derived.Shelf.Strings.OnBuilder
import Derived.Shelf.Unicode.DecodeAny
import Derived.Shelf.Strings.IndexAnyAll
import Derived.Lib.OthersKept
import Derived.Shelf.Small.Utf8
import Derived.Laws.Cover4
import Derived.Scope
import Derived.Handy
import Derived.Shelf.RegionOpen
import Derived.Shelf.RegionOpenPlain
import Derived.Shelf.Utf8.RuneCount
import Derived.Shelf.Unicode.ValidAny
set_option maxHeartbeats 16000000
set_option maxRecDepth 20000
set_option linter.unusedVariables false
set_option linter.unusedSimpArgs false
namespace Go.J
open Go Go.ChangeShapes Go.WideShapes Go.ChangeAt Go.RowKit Go.Deep
section
variable {H:Type}{enc:TypeId×Value→H}{P:Program}{W:World}{α:Type}
end
theorem EJ {P : Program} {W : World} {g3 g4 T3 T4 T5 TS : Nat} {fs : Array Field} (n3 : P.globalNamed "unicode/utf8.first" = some g3) (n4 : P.globalNamed "unicode/utf8.acceptRanges" = some g4)
 (y3:(P.globals[g3]?).map (·.type)=some T3) (y4:(P.globals[g4]?).map (·.type)=some T4) (t3:P.underlying T3=some (.array 256 T5)) (t5:P.underlying T5=some (.int .u8)) (t4:P.underlying T4=some (.array 16 TS)) (ts:P.underlying TS=some (.struct fs))
 (hf:∀(i:Nat) (f:Field),fs[i]?=some f→P.underlying f.type=some (.int .u8)∧f.offset=i∧P.cellsOf f.type=1) (hfs:fs.size=2) (c5:P.cellsOf T5=1) (c3:P.cellsOf T3=256) (cs:P.cellsOf TS=2)
 {l : List (String × DataW Unit)} (h : laidMetH P l W) (hp : (laidMetH P l W) = laidMet P l W) (m3 : ("unicode/utf8.first", Lib.firstData) ∈ l) (m4 : ("unicode/utf8.acceptRanges", Lib.acceptData) ∈ l) : Lib.Utf8Tabs g3 g4 W := by
 rw[hp]at h
 have h3:=Lib.laidMet.reads h m3
 have h4:=Lib.laidMet.reads h m4
 refine⟨λc hc=> ?_,λi hi=> ?_⟩
 ·obtain⟨g,t,cs,fuel,p,hg,Nc,LZ,hd⟩:=h3
  obtain rfl:=Option.some.inj (n3.symm.trans hg);obtain rfl:=Option.some.inj (y3.symm.trans Nc)
  have kq:=Lib.cells_of_tab t3 t5 c5 c3 hd
  have:=World.var?_cell hg LZ c
  rw[this,←N8,kq]
  simp[Lib.firstTab,hc]
 ·obtain⟨g,t,cells,fuel,p,hg,Nc,LZ,hd⟩:=h4
  obtain rfl:=Option.some.inj (n4.symm.trans hg);obtain rfl:=Option.some.inj (y4.symm.trans Nc);obtain⟨ak0,d,q,hdi,he⟩:=Lib.array_elem t4 hd i hi
  simp only[List.getElem?_map,List.getElem?_range hi,Option.map_some,Option.some.injEq]at hdi
  subst hdi;rw[cs]at he
  have kq:=Lib.ints_of_struct ts hf (by rw[cs,hfs]) he
  have e0:=congrArg (·[0]?) kq
  have e1:=congrArg (·[1]?) kq
  simp only[List.getElem?_take,List.getElem?_drop]at e0 e1
  constructor
  ·rw[World.var?_cell hg LZ (2*i),←N8]
   simpa[Nat.mul_comm]using e0
  ·rw[World.var?_cell hg LZ (2*i+1),←N8]
   simpa[Nat.mul_comm]using e1
theorem xp {W w:World}(h:∀(k:Nat) (o:Obj),W.heap[k]?=some o→w.heap[k]?=some o){g o:Nat}{v:Value}(hc:W.cell? ⟨g,o,none⟩=some v):w.cell? ⟨g,o,none⟩=some v:=by
 obtain⟨_,C,e,fr,hb,hv⟩:=j6 hc
 rw[bh (h _ _ hb)];exact hv
theorem CU {W w:World}{g3 g4:Nat}(h:Lib.Utf8Tabs g3 g4 W)(hw:∀(k:Nat) (o:Obj),W.heap[k]?=some o→w.heap[k]?=some o):Lib.Utf8Tabs g3 g4 w:=
 ⟨λc hc=>xp hw (h.1 c hc),λi hi=>⟨xp hw (h.2 i hi).1,xp hw (h.2 i hi).2⟩⟩
end Go.J
namespace Go.J
open Go
section
variable {α:Type}
theorem A9 {p:α→Bool}{s:List α}{k:Nat}{d:α}(h:(s.take k).all p=true)(hk:p (s.getD k d)=true):(s.take (k+1)).all p=true:=by
 by_cases hl:k<s.length
 ·rw[JO hl,List.all_append,h]
  rw[ak,bO hl]at hk
  simpa using hk
 ·rw[fZ (by omega)];rwa[fZ (by omega)]at h
theorem rH {p:α→Bool}{s:List α}{k:Nat}{x:α}(h:(s.take k).all p=true)(hx:s[k]?=some x)(hk:p x=true):(s.take (k+1)).all p=true:=by
 obtain⟨hl,rfl⟩:=eD.1 hx;rw[JO hl,List.all_append,h]
 simpa using hk
theorem CV {p:α→Bool}{s:List α}{k:Nat}{d:α}(hk:k<s.length)(h:p (s.getD k d)=false):s.all p=false:=by
 rw[ak,bO hk]at h;rw[List.all_eq_false];exact⟨s[k],gm hk,by simpa using h⟩
theorem EK {p:α→Bool}{s:List α}{k:Nat}(h:(s.take k).all p=true)(hk:s.length≤k):s.all p=true:=by rwa[fZ hk]at h
theorem aE {s:List α}{k:Nat}(h:k<s.length):∃x,s[k]?=some x:=⟨_,bO h⟩
theorem an {s:List α}{k:Nat}{x:α}(h:s[k]?=some x):s.drop k=x::s.drop (k+1):=by
 obtain⟨hl,rfl⟩:=eD.1 h;exact List.drop_eq_getElem_cons hl
theorem ae {s:List α}{k:Nat}{x:α}(h:s[k]?=some x):k<s.length:=(eD.1 h).1
theorem ai {s:List α}{k:Nat}{x:α}(h:s[k]?=some x):s.take (k+1)=s.take k++ [x]:=by
 obtain⟨hl,rfl⟩:=eD.1 h;exact JO hl
end
theorem be {a b:Bool}(h:a=b):H4 [Value.bool a]= .bool b:=by rw[h];rfl
theorem ie {a b:Int}(h:a=b):H4 [iv a]=iv b:=by rw[h];rfl
def ix {β:Type}(p:β→Bool)(l:List β):Int:=match l.findIdx? p with|some i=>(i:Int)|none=> -1
theorem EL {β:Type}{p:β→Bool}{l:List β}{k:Nat}{x:β}(h:(l.take k).all (λy=> !p y)=true)(hx:l[k]?=some x)(hp:p x=true):ix p l=k:=by
 obtain⟨hl,rfl⟩:=eD.1 hx
 have:l.findIdx? p=some k:=by
  rw[List.findIdx?_eq_some_iff_getElem];refine⟨hl,hp,λj hj=> ?_⟩;rw[eO]at h
  have h1:=h l[j] (by rw[List.mem_take_iff_getElem];exact⟨j,by omega,rfl⟩)
  simpa using h1
 simp only[ix,this]
theorem JW {β:Type}{p:β→Bool}{l:List β}{k:Nat}(h:(l.take k).all (λy=> !p y)=true)(hk:l.length≤k):ix p l= -1:=by
 rw[fZ hk,eO]at h
 have:l.findIdx? p=none:=by
  rw[List.findIdx?_eq_none_iff];intro x hx
  simpa using h x hx
 simp only[ix,this]
theorem Nd {β:Type}(p:β→Bool)(l:List β):(ix p l= -1∧∀x∈l,p x=false)∨∃(k:Nat) (x:β),l[k]?=some x∧p x=true∧ix p l=k∧∀(j:Nat) (y:β),j<k→l[j]?=some y→p y=false:=by
 unfold ix
 cases h:l.findIdx? p with
 |none=>left;exact⟨rfl,by simpa using List.findIdx?_eq_none_iff.1 h⟩
 |some k=>
  right
  obtain⟨hl,hp,hj⟩:=List.findIdx?_eq_some_iff_getElem.1 h;refine⟨k,l[k],bO hl,hp,rfl,λj y Xy hy=> ?_⟩;obtain⟨Y0,rfl⟩:=eD.1 hy
  simpa using hj j Xy
theorem BA {β:Type}(p:β→Bool)(l:List β):decide (0≤ix p l)=l.any p:=by
 rcases Nd p l with⟨h1,h2⟩|⟨k,x,h1,h2,h3,_⟩
 ·rw[h1];symm;simp[List.any_eq_false];exact h2
 ·rw[h3]
  have:l.any p=true:=xN.2 ⟨x,ab h1,h2⟩
  rw[this];simp
def fv (f:Int×Int):Value:= .agg #[iv f.1,iv f.2]
theorem fe {a b:Int}{f:Int×Int}(h:f=(a,b)):H4 [.agg #[iv a,iv b]]=fv f:=by rw[h];rfl
def low (c:UInt8):Bool:=decide ((97:Int)≤c.toNat)&&decide ((c.toNat:Int)≤122)
def digit (c:UInt8):Bool:=decide ((48:Int)≤c.toNat)&&decide ((c.toNat:Int)≤57)
def nj (c:UInt8):Bool:=low c||digit c||decide ((c.toNat:Int)=95)||decide ((c.toNat:Int)=45)
def isName (s:bI):Bool:=decide (0<s.length)&&decide (s.length≤30)&&low (s.getD 0 0)&&s.all nj
theorem EM {s:bI}(h:((s.length:Int)=0∨30<(s.length:Int))∨((s.getD 0 0).toNat:Int)<97∨122<((s.getD 0 0).toNat:Int)):isName s=false:=by
 simp only[isName,low,Bool.and_eq_false_iff,decide_eq_false_iff_not]
 left;omega
theorem EN {s:bI}{k:Nat}(hk:k<s.length)(h:nj (s.getD k 0)=false):isName s=false:=by
 simp only[isName,CV hk h,Bool.and_false]
theorem EO {s:bI}(h0:0<s.length)(h1:s.length≤30)(h2:low (s.getD 0 0)=true)(h:s.all nj=true):isName s=true:=by
 simp only[isName,h2,h,Bool.and_true,Bool.and_eq_true,decide_eq_true_eq]
 exact⟨h0,h1⟩
abbrev uv (n:Nat):Value:= .int .u64 (n:Int)
abbrev wv (n:Nat):Value:= .agg #[uv (n/18446744073709551616),uv (n%18446744073709551616)]
section
variable {P:Program}{n:Nat}{F:Fr}{A:World→Prop}{ty:TypeId}{x y:Operand}{t u:TypeId}{a b:Nat}
theorem abY {i:Int}:IntKind.u64.wrap i=i%18446744073709551616:=by
 simp only[IntKind.wrap,IntKind.bits,IntKind.signed];simp
theorem nk (m:Nat):IntKind.u64.wrap (m:Int)=((m%18446744073709551616:Nat):Int):=by rw[abY];omega
theorem Ev.Y2 {k:IntKind}{j:Int}(c m:Nat)(hm:2^c=m)(hx:aZ F x (uv a))(hy:aZ F y (.int k j))(h:j=c∧c≤64):Ev P n F A (.binOp .shr t x y u) ty (uv (a/m)):=by
 subst hm;obtain⟨rfl,hc⟩:=h
 have:=Ev.shr (P:=P) (n:=n) (A:=A) (ty:=ty) (t:=t) (u:=u) hx hy (by omega)
 have e:(a:Int).fdiv (2^(min (c:Int).toNat IntKind.u64.bits))=((a/2^c:Nat):Int):=by
  have e1:min (c:Int).toNat IntKind.u64.bits=c:=by
   have:IntKind.u64.bits=64:=rfl
   rw[this,Dv];omega
  rw[e1,Int.fdiv_eq_ediv_of_nonneg _ (Int.le_of_lt (Int.pow_pos (by omega)))]
  simp
 rw[e]at this;exact this
theorem Ev.ahQ {k:IntKind}{j:Int}(c m:Nat)(hm:2^c=m)(hx:aZ F x (uv a))(hy:aZ F y (.int k j))(h:j=c∧c≤64):Ev P n F A (.binOp .shl t x y u) ty (uv (a*m%18446744073709551616)):=by
 subst hm;obtain⟨rfl,hc⟩:=h
 have:=Ev.ahE (P:=P) (n:=n) (A:=A) (ty:=ty) (t:=t) (u:=u) hx hy (by omega)
 have e:(a:Int)*2^(min (c:Int).toNat IntKind.u64.bits)=((a*2^c:Nat):Int):=by
  have e1:min (c:Int).toNat IntKind.u64.bits=c:=by
   have:IntKind.u64.bits=64:=rfl
   rw[this,Dv];omega
  rw[e1];simp
 rw[e,nk]at this;exact this
theorem Nf (c:Nat)(h:a<18446744073709551616)(hc:c≤64):bits .and .u64 (a:Int) ((2^c-1:Nat):Int)=((a%2^c:Nat):Int):=by
 have hb:2^c-1<2^64:=by have:=xQ (n:=2) (by omega) hc;have:=Nat.pow_pos (n:=c) (a:=2) (by omega);omega
 have e:(BitVec.ofInt IntKind.u64.bits (a:Int)&&&BitVec.ofInt IntKind.u64.bits ((2^c-1:Nat):Int)).toNat=a%2^c:=by
  show(BitVec.ofInt 64 (a:Int)&&&BitVec.ofInt 64 ((2^c-1:Nat):Int)).toNat=_
  rw[BitVec.toNat_and,LN,LN,LO,LO,lX h,lX hb,Nat.and_two_pow_sub_one_eq_mod]
 simp only[bits,e]
 rw[nk,lX (uG (Nat.mod_le a _) h)]
theorem Ev.abZ (c m:Nat)(hm:2^c=m)(hx:aZ F x (uv a))(hy:aZ F y (uv b))(h:a<18446744073709551616∧b=2^c-1∧c≤64):Ev P n F A (.binOp .and t x y u) ty (uv (a%m)):= .of_run λa' w ha _=>by
 subst hm;obtain⟨h1,rfl,h3⟩:=h
 simp only[execOp,hx.eval ha,hy.eval ha];simp only[go_sem,Nf c h1 h3];simp
theorem Ev.Y3 (m:Nat){i:Int}{s d:TypeId}(hx:aZ F x (iv i))(hs:(P.underlying s).isSome=true)(hd:P.underlying d=some (.int .u64))(h:i=m∧m<18446744073709551616):Ev P n F A (.convert s d x) ty (uv m):=by
 obtain⟨rfl,h⟩:=h
 have:=Ev.sS (P:=P) (n:=n) (A:=A) (ty:=ty) hx hs hd
 rwa[nk,lX h]at this
theorem Ev.Ng {k:IntKind}{s d:TypeId}(hx:aZ F x (.int k (a:Int)))(hs:(P.underlying s).isSome=true)(hd:P.underlying d=some (.int .i64))(h:a<9223372036854775808):Ev P n F A (.convert s d x) ty (iv a):=by
 have:=Ev.sS (P:=P) (n:=n) (A:=A) (ty:=ty) hx hs hd
 rwa[sR (by omega)]at this
end
section
variable {P:Program}{n:Nat}{F:Fr}{A:World→Prop}{ty:TypeId}{x y:Operand}{t:TypeId}
end
section
variable {P:Program}{n:Nat}{F:Fr}{A:World→Prop}{c:Ctx}{H R:List ao}{T:Act→World→Prop}{v v':Value}
theorem St.rI (b:Nat){e:TypeId}{L:List Value}(L':List Value)[tk:lY b H (.cells L.toArray e (0,0)) R](h:L=L')(hT:St n F (Mm c (aX b (.cells L'.toArray e (0,0))::R)) T):St n F (Mm c H) T:=by
 subst h
 refine hT.pQ λw hw=> ?_
 obtain⟨ρ,hm⟩:=hw.out;exact Mm.mk (hm.perm tk.perm)
end
end Go.J
namespace Go.J
open Go Go.RowKit
section
variable {P:Program}{n:Nat}{F:Fr}{A:World→Prop}{c:Ctx}{H R:List ao}{ty t e:TypeId}{x y:Operand}{Q:Exit→Act→World→Prop}{ops:Array Oper}{rest:List Oper}{pos:String}{after:Array Edge}
theorem Ev.HF {b k N:Nat}{i:Int}{kd:IntKind}(hx:aZ F x (.pointer (some ⟨b,0,none⟩)))(hy:aZ F y (.int kd i))(ht:P.underlying t=some (.array N e))(hs:(P.info? e).map (·.size)=some 1)
 (hi:i=k) (hk:k<N):Ev P n F A (.indexAddr t x y) ty (.pointer (some ⟨b,k,none⟩)):= .of_run λa w ha hw=>by
 obtain⟨inf,nb,gQ⟩:=dG.1 hs;subst hi
 simp[execOp,hx.eval ha,hy.eval ha,Instr.indexAt,Instr.sureAddr,asIntOf,run_underlying ht,sizeOf,typeInfo,nb,gQ,hk,Addr.add_lit]
theorem St.JX {b off:Nat}{L:List Value}{v:Value}(L':List Value)[tk:lY b H (.cells L.toArray e (0,0)) R](hx:aZ F x (.pointer (some ⟨b,off,none⟩)))(hy:aZ F y v)(hL:L.set off v=L')(hs:(P.info? t).map (·.size)=some 1)(h1:v.oneCell'=true)
 (xU:off<L.length) (h:St n F (Mm c (aX b (.cells L'.toArray e (0,0))::R)) (wpList P ops Q rest)):
 St n F (Mm c H) (wpList P ops Q ({dst:=none,op:= .store t x y,type:=ty,pos:=pos,after:=after,guard:=none}::rest)):=by
 haveI:E6 L off v L':=⟨hL⟩
 exact St.cO hx hy hs h1 (Nat.ble_eq_true_of_le xU) h
end
theorem HG {P:Program}{t e:TypeId}{N size:Nat}{Z cs:Array Value}{parts:Array (Nat×Value)}{w:World}(ht:P.underlying t=some (.array N e))(hz:(P.info? t).bind (λi=>i.zero.map Value.cells)=some Z)(hs:(P.info? e).map (·.size)=some size)
 (hf:Instr.fill (λi=>some (i*size,size)) Z parts.toList=some cs):(Instr.build t parts).run P w= .ok (.agg cs) w:=by
 obtain⟨i,hi,hz'⟩:=oT.1 hz;obtain⟨zv,Xi,rfl⟩:=dG.1 hz';obtain⟨j,hj,hjs⟩:=dG.1 hs;subst hjs
 simp[Instr.build,zeroValue,typeInfo,hi,Xi,run_underlying ht,sizeOf,hj,hf]
def df.of (X:World→Prop):df:=⟨λρ=>∀w,(∀k o,ρ k=some o→w.heap[k]?=some o)→X w,λ_ _ h k w hw=>k w λb o hb=>hw b o (h b o hb)⟩
theorem xT.nq {P:Program}{f:FuncId}{args:Array Value}{X:World→Prop}{post:Value→List ao→Prop}(h:∀w,X w→Calls P f args w λe w'=>∃v,e= .returned v∧post v []∧Below w.heap.size w w'):
 xT P f args ([df.of X].map aF) post:=by
 intro w ρ hs
 have hx:X w:=dm.1 (hs.dK (aF (df.of X)) (aU ..)) w hs.fits
 refine(h w hx).mono ?_;rintro e w' ⟨v,rfl,hp,hb⟩;refine⟨v,[],rfl,hp,Mm.mk (ρ:=ρ) ⟨hb.os,⟨hb.tape,λh=>h.elim⟩,hb.output,hb.size,λk hk _=>hb.block k hk,λk o hk=> ?_,Ro.le_refl _,λ_ _ _=>rfl,λ_ h=>by simp at h,λ_ h=>by simp at h,.nil⟩⟩;rw[hb.block k (hs.xS hk)];exact hs.fits k o hk
theorem iz.nq {P:Program}{f:FuncId}{args:Array Value}{X:World→Prop}{v:Value}(h:∀w,X w→Calls P f args w λe w'=>e= .returned v∧Below w.heap.size w w'):iz P f args [df.of X] v:=
 xT.nq λw hw=>(h w hw).mono λ_ _ ⟨h1,h2⟩=>⟨v,h1,rfl,h2⟩
end Go.J
namespace Go.J
open Go Go.ChangeShapes Go.WideShapes Go.ChangeAt Go.RowKit Go.Deep
section
variable {H:Type}{enc:TypeId×Value→H}{P:Program}{W:World}
theorem Nh {nm:String}{g T e n:Nat}{L:List Nat}(hg:P.globalNamed nm=some g)(hy:(P.globals[g]?).map (·.type)=some T)(ht:P.underlying T=some (.array n e))(he:P.underlying e=some (.int .u8))(hc:P.cellsOf e=1)(hcT:P.cellsOf T=n)
 (h:Lib.VarReads P W nm (Lib.tabData .u8 (L.map λx:Nat=>(x:Int)))):∀w:World,(∀k o,J.all W k=some o→w.heap[k]?=some o)→∀j,j<L.length→w.cell? ⟨g,j,none⟩=some (.int .u8 (L.getD j 0)):=by
 obtain⟨g',t,cs,fuel,p,hg',Nc,LZ,hd⟩:=h;obtain rfl:=Option.some.inj (hg.symm.trans hg');obtain rfl:=Option.some.inj (hy.symm.trans Nc)
 have kq:=Lib.cells_of_tab ht he hc hcT hd
 intro w hw j hj
 have h0:=World.var?_cell hg LZ j
 rw[←N8,kq]at h0
 have h0:W.cell? ⟨g,j,none⟩=some (.int .u8 (L.getD j 0)):=by
  rw[h0,bE,bE,bO hj,ak,bO hj];rfl
 obtain⟨_,C,e',fr,hb,hv⟩:=j6 h0
 rw[bh (hw _ _ hb)];exact hv
end
end Go.J
namespace Go.J
open Go Go.Lib
def wJ:bI:=[32,9,10,40,41,91,93,44,59]
def gq (b:UInt8):Bool:=wJ.contains b
theorem La {b:UInt8}:gq b=true↔b.toNat=32∨b.toNat=9∨b.toNat=10∨b.toNat=40∨b.toNat=41∨b.toNat=91∨b.toNat=93∨b.toNat=44∨b.toNat=59:=by
 unfold gq wJ
 simp only[List.contains_cons,List.contains_nil,Bool.or_false,Bool.or_eq_true,beq_iff_eq,←UInt8.toNat_inj]
 exact Iff.rfl
theorem HH {b:UInt8}(h:128≤b.toNat):gq b=false:=by
 cases hb:gq b with
 |false=>rfl
 |true=>have:=La.1 hb;omega
def more (b:Nat):Nat:=if 194≤b∧b≤223 then 1 else if 224≤b∧b≤239 then 2 else if 240≤b∧b≤244 then 3 else 0
def loB (b:Nat):Nat:=if b=224 then 160 else if b=240 then 144 else 128
def hiB (b:Nat):Nat:=if b=237 then 159 else if b=244 then 143 else 191
def bt (s:bI)(i:Nat):Nat:=(s.getD i 0).toNat
def sa (b:Nat):Bool:=decide (128≤b∧more b=0)
def gu (s:bI)(p k:Nat):Bool:=decide (p+1+k<s.length∧(if k=0 then loB (bt s p)else 128)≤bt s (p+1+k)∧bt s (p+1+k)≤(if k=0 then hiB (bt s p)else 191))
def Y4 (s:bI)(p:Nat):Option Nat:=
 if gq (s.getD p 0)then none else if sa (bt s p)then none else if(List.range (more (bt s p))).all (gu s p)then some (more (bt s p)+1)else none
theorem pH (s:bI)(i:Nat):bt s i<256:=(s.getD i 0).toNat_lt
theorem qR (s:bI)(p:Nat):decodeL (s.drop p)=decodeN (s.length-p) (bt s p) (bt s (p+1)) (bt s (p+2)) (bt s (p+3)):=by
 rw[decodeL_N,lT,getD_dropU,getD_dropU,getD_dropU,getD_dropU,jK];rfl
def C2 (n b0 b1:Nat):Prop:=194≤b0∧b0≤223∧1<n∧128≤b1∧b1≤191
def C3 (n b0 b1 b2:Nat):Prop:=224≤b0∧b0≤239∧1<n∧128≤b1∧b1≤191∧(b0=224→160≤b1)∧(b0=237→b1≤159)∧2<n∧128≤b2∧b2≤191
def C4 (n b0 b1 b2 b3:Nat):Prop:=240≤b0∧b0≤244∧1<n∧128≤b1∧b1≤191∧(b0=240→144≤b1)∧(b0=244→b1≤143)∧2<n∧128≤b2∧b2≤191∧3<n∧128≤b3∧b3≤191
theorem uP {n b0 b1 b2 b3:Nat}(h0:b0<256)(h1:b1<256)(h2:b2<256)(h3:b3<256):
 (b0<128∧decodeN n b0 b1 b2 b3=(b0,1))∨(128≤b0∧¬C2 n b0 b1∧¬C3 n b0 b1 b2∧¬C4 n b0 b1 b2 b3∧decodeN n b0 b1 b2 b3=(65533,1))∨
 (C2 n b0 b1∧∃r,128≤r∧decodeN n b0 b1 b2 b3=(r,2))∨(C3 n b0 b1 b2∧∃r,128≤r∧decodeN n b0 b1 b2 b3=(r,3))∨(C4 n b0 b1 b2 b3∧∃r,128≤r∧decodeN n b0 b1 b2 b3=(r,4)):=by
 unfold C2 C3 C4 decodeN
 by_cases q0:b0<128
 ·rw[aB q0];exact .inl ⟨q0,rfl⟩
 ·rw[aA q0]
  right
  by_cases q1:b0/32=6∧(1<n∧b1/64=2)
  ·rw[aB q1]
   by_cases q2:b0%32*64+b1%64≥128
   ·rw[aB q2];exact .inr (.inl ⟨by omega,_,q2,rfl⟩)
   ·rw[aA q2];exact .inl ⟨by omega,by omega,by omega,by omega,rfl⟩
  ·rw[aA q1]
   by_cases q3:b0/16=14∧(1<n∧b1/64=2)∧(2<n∧b2/64=2)
   ·rw[aB q3]
    by_cases q4:b0%16*4096+b1%64*64+b2%64≥2048∧(b0%16*4096+b1%64*64+b2%64<55296∨(57344≤b0%16*4096+b1%64*64+b2%64∧b0%16*4096+b1%64*64+b2%64≤1114111))
    ·rw[aB q4];exact .inr (.inr (.inl ⟨by omega,_,by omega,rfl⟩))
    ·rw[aA q4];exact .inl ⟨by omega,by omega,by omega,by omega,rfl⟩
   ·rw[aA q3]
    by_cases q5:b0/8=30∧(1<n∧b1/64=2)∧(2<n∧b2/64=2)∧(3<n∧b3/64=2)
    ·rw[aB q5]
     by_cases q6:b0%8*262144+b1%64*4096+b2%64*64+b3%64≥65536∧(b0%8*262144+b1%64*4096+b2%64*64+b3%64<55296∨(57344≤b0%8*262144+b1%64*4096+b2%64*64+b3%64∧b0%8*262144+b1%64*4096+b2%64*64+b3%64≤1114111))
     ·rw[aB q6];exact .inr (.inr (.inr ⟨by omega,_,by omega,rfl⟩))
     ·rw[aA q6];exact .inl ⟨by omega,by omega,by omega,by omega,rfl⟩
    ·rw[aA q5];exact .inl ⟨by omega,by omega,by omega,by omega,rfl⟩
theorem Ni (b:Nat):(b=224∧loB b=160)∨(b=240∧loB b=144)∨(b≠224∧b≠240∧loB b=128):=by
 unfold loB;split
 ·exact .inl ⟨by assumption,rfl⟩
 ·split
  ·exact .inr (.inl ⟨by assumption,rfl⟩)
  ·exact .inr (.inr ⟨by assumption,by assumption,rfl⟩)
theorem Nj (b:Nat):(b=237∧hiB b=159)∨(b=244∧hiB b=143)∨(b≠237∧b≠244∧hiB b=191):=by
 unfold hiB;split
 ·exact .inl ⟨by assumption,rfl⟩
 ·split
  ·exact .inr (.inl ⟨by assumption,rfl⟩)
  ·exact .inr (.inr ⟨by assumption,by assumption,rfl⟩)
theorem Lc (b:Nat):(more b=1∧194≤b∧b≤223)∨(more b=2∧224≤b∧b≤239)∨(more b=3∧240≤b∧b≤244)∨(more b=0∧(b<194∨244<b)):=by
 unfold more
 split
 ·exact .inl ⟨rfl,by assumption⟩
 ·split
  ·exact .inr (.inl ⟨rfl,by assumption⟩)
  ·split
   ·exact .inr (.inr (.inl ⟨rfl,by assumption⟩))
   ·exact .inr (.inr (.inr ⟨rfl,by omega⟩))
theorem BB {s:bI}{p:Nat}:gu s p 0=true↔p+1<s.length∧loB (bt s p)≤bt s (p+1)∧bt s (p+1)≤hiB (bt s p):=by
 unfold gu;rw[aB rfl,aB rfl,fS]
theorem JY {s:bI}{p:Nat}:gu s p 1=true↔p+2<s.length∧128≤bt s (p+2)∧bt s (p+2)≤191:=by
 unfold gu;rw[aA (by decide),aA (by decide),fS]
theorem W9 {s:bI}{p:Nat}:gu s p 2=true↔p+3<s.length∧128≤bt s (p+3)∧bt s (p+3)≤191:=by
 unfold gu;rw[aA (by decide),aA (by decide),fS]
theorem oZ {s:bI}{p m:Nat}(hs:gq (s.getD p 0)=false)(hm:more (bt s p)=m)(hb:¬(128≤bt s p∧m=0)):Y4 s p=if(List.range m).all (gu s p)then some (m+1)else none:=by
 unfold Y4
 have h1:sa (bt s p)=false:=by unfold sa;rw[hm];exact eL hb
 rw[hs,h1,hm];rfl
theorem Sv {s:bI}{p:Nat}(hp:p<s.length)(hs:gq (s.getD p 0)=false):
 Y4 s p=if(decodeL (s.drop p)).1=65533∧(decodeL (s.drop p)).2=1 then none else some (decodeL (s.drop p)).2:=by
 rw[qR]
 have hlo:=Ni (bt s p)
 have hhi:=Nj (bt s p)
 have Y5:=Lc (bt s p)
 have r1:(List.range 1).all (gu s p)=gu s p 0:=by simp[List.range_succ]
 have r2:(List.range 2).all (gu s p)=(gu s p 0&&gu s p 1):=by simp[List.range_succ]
 have r3:(List.range 3).all (gu s p)=(gu s p 0&&gu s p 1&&gu s p 2):=by simp[List.range_succ,Bool.and_assoc]
 rcases uP (n:=s.length-p) (pH s p) (pH s (p+1)) (pH s (p+2)) (pH s (p+3))with⟨h1,h2⟩|⟨h1,n2,n3,n4,h2⟩|⟨h1,r,hr,h2⟩|⟨h1,r,hr,h2⟩|⟨h1,r,hr,h2⟩<;>rw[h2]
 ·rw[aA (by simp only;omega),oZ hs (m:=0) (by omega) (by omega)];rfl
 ·rw[aB (by simp)]
  unfold C2 at n2;unfold C3 at n3;unfold C4 at n4
  rcases Y5 with⟨hm,hq⟩|⟨hm,hq⟩|⟨hm,hq⟩|⟨hm,hq⟩
  ·rw[oZ hs hm (by omega),r1,aA (by rw[BB];omega)]
  ·rw[oZ hs hm (by omega),r2,aA (by rw[wF,BB,JY];omega)]
  ·rw[oZ hs hm (by omega),r3,aA (by rw[wF,wF,BB,JY,W9];omega)]
  ·unfold Y4
   rw[hs,show sa (bt s p)=true by unfold sa;exact dH ⟨h1,hm⟩];rfl
 ·unfold C2 at h1
  rw[aA (by simp),oZ hs (m:=1) (by omega) (by omega),r1,if_pos (by rw[BB];omega)]
 ·unfold C3 at h1
  rw[aA (by simp),oZ hs (m:=2) (by omega) (by omega),r2,if_pos (by rw[Bool.and_eq_true,BB,JY];omega)]
 ·unfold C4 at h1
  rw[aA (by simp),oZ hs (m:=3) (by omega) (by omega),r3,if_pos (by rw[Bool.and_eq_true,Bool.and_eq_true,BB,JY,W9];omega)]
theorem jl {s:bI}{p:Nat}(hp:p<s.length):1≤(decodeL (s.drop p)).2∧p+(decodeL (s.drop p)).2≤s.length∧
 ((bt s p<128∧decodeL (s.drop p)=(bt s p,1))∨(128≤(decodeL (s.drop p)).1∧∀j,j<(decodeL (s.drop p)).2→128≤bt s (p+j))):=by
 rw[qR]
 have e0:bt s (p+0)=bt s p:=rfl
 have h4:∀w,(w=1∨(w=2∧128≤bt s (p+1))∨(w=3∧128≤bt s (p+1)∧128≤bt s (p+2))∨(w=4∧128≤bt s (p+1)∧128≤bt s (p+2)∧128≤bt s (p+3)))→128≤bt s p→∀j,j<w→128≤bt s (p+j):=by
  intro w h h0 j hj
  have:j=0∨j=1∨j=2∨j=3:=by omega
  rcases this with rfl|rfl|rfl|rfl
  ·exact h0
  ·omega
  ·omega
  ·omega
 rcases uP (n:=s.length-p) (pH s p) (pH s (p+1)) (pH s (p+2)) (pH s (p+3))with⟨h1,h2⟩|⟨h1,n2,n3,n4,h2⟩|⟨h1,r,hr,h2⟩|⟨h1,r,hr,h2⟩|⟨h1,r,hr,h2⟩<;>rw[h2]
 ·exact⟨aW _,(show p+1≤s.length by omega),.inl ⟨h1,rfl⟩⟩
 ·exact⟨aW _,(show p+1≤s.length by omega),.inr ⟨(show 128≤65533 by decide),h4 1 (.inl rfl) h1⟩⟩
 ·unfold C2 at h1
  exact⟨(show 1≤2 by decide),(show p+2≤s.length by omega),.inr ⟨hr,h4 2 (by omega) (by omega)⟩⟩
 ·unfold C3 at h1
  exact⟨(show 1≤3 by decide),(show p+3≤s.length by omega),.inr ⟨hr,h4 3 (by omega) (by omega)⟩⟩
 ·unfold C4 at h1
  exact⟨(show 1≤4 by decide),(show p+4≤s.length by omega),.inr ⟨hr,h4 4 (by omega) (by omega)⟩⟩
theorem HI {s:bI}{p:Nat}(hp:p<s.length)(hs:gq (s.getD p 0)=false):(s.drop p).any gq=(s.drop (p+(decodeL (s.drop p)).2)).any gq:=by
 obtain⟨h1,h2,h3⟩:=jl hp
 have h3:(decodeL (s.drop p)).2=1∨∀j,j<(decodeL (s.drop p)).2→128≤bt s (p+j):=h3.imp (λq=>by rw[q.2]) (λq=>q.2)
 generalize (decodeL (s.drop p)).2=w at*
 have e:s.drop p=(s.drop p).take w++s.drop (p+w):=by rw[←List.drop_drop,sO]
 rw[e,List.any_append]
 have:((s.drop p).take w).any gq=false:=by
  rw[List.any_eq_false];intro x hx;obtain⟨j,hj,rfl⟩:=Dx.1 hx;rw[e9,lT]at hj;rw[List.getElem_take,List.getElem_drop]
  have hgd:s[p+j]'(by omega)=s.getD (p+j) 0:=by rw[ak,bO (by omega)];rfl
  rw[hgd]
  rcases h3 with q|q
  ·obtain rfl:j=0:=by omega
   rw[jK,hs];decide
  ·rw[HH (q j (by omega))];decide
 rw[this,Bool.false_or]
def Ld (s:bI):Nat→Nat→Option Nat
 |0,_=>some 0
 |f+1,p=>if p<s.length then match Y4 s p with
  |none=>none
  |some w=>(Ld s f (p+w)).map (· +1)
  else some 0
theorem JZ (s:bI):∀(f p:Nat),s.length-p≤f→Ld s f p=if validGoD f (s.drop p)&& !(s.drop p).any gq then some (runeCountFrom ⟨s.toArray⟩ f p)else none
 |0,p,h=>by
  rw[fX (by omega)]
  simp[Ld,validGoD,runeCountFrom]
 |f+1,p,h=>by
  by_cases hp:p<s.length
  ·have hd:s.drop p≠ []:=by intro e;have:=congrArg List.length e;rw[lT,List.length_nil]at this;omega
   have hx:s[p]?=some (s.getD p 0):=uK 0 hp
   rw[Ld,aB hp]
   cases hs:gq (s.getD p 0)with
   |true=>
    have h1:Y4 s p=none:=by unfold Y4;rw[hs];rfl
    have h2:(s.drop p).any gq=true:=by rw[an hx,List.any_cons,hs];rfl
    rw[h1,h2];simp
   |false=>
    rw[Sv hp hs,validGoD,aA hd];obtain⟨w1,w2,w3⟩:=jl hp
    by_cases hb:(decodeL (s.drop p)).1=65533∧(decodeL (s.drop p)).2=1
    ·rw[aB hb,aB hb];rfl
    ·rw[aA hb,aA hb,HI hp hs,List.drop_drop]
     have ih:=JZ s f (p+(decodeL (s.drop p)).2) (by omega)
     show Option.map _ _=_
     rw[ih,runeCountFrom]
     have gQ:p<(⟨s.toArray⟩:ByteArray).size:=by show p<s.toArray.size;simpa using hp
     rw[aB gQ]
     have EP:=decodeL_drop ⟨s.toArray⟩ p
     simp only at EP
     rw[←EP]
     split
     ·simp[Nat.add_comm]
     ·rfl
  ·rw[Ld,aA hp,fX (by omega)]
   have gQ:¬p<(⟨s.toArray⟩:ByteArray).size:=by show ¬p<s.toArray.size;simpa using hp
   simp[validGoD,runeCountFrom,gQ]
def WA:Option Nat→Bool
 |some n=>decide (1≤n∧n≤30)
 |none=>false
def isWord (s:bI):Bool:=WA (Ld s s.length 0)
theorem Le (s:bI):isWord s=(decide (1≤runeCountL s)&&decide (runeCountL s≤30)&&validD s&& !s.any gq):=by
 unfold isWord;rw[JZ s s.length 0 (by omega),List.drop_zero]
 have:runeCountFrom ⟨s.toArray⟩ s.length 0=runeCountL s:=by unfold runeCountL runeCount;congr 1
 rw[this];unfold validD
 cases validGoD s.length s<;>cases s.any gq<;>simp[WA]
end Go.J
namespace Go.J
open Go
section
variable {P:Program}{n:Nat}{F:Fr}{A:World→Prop}{c:Ctx}{H R:List ao}{ty:TypeId}{x y:Operand}{v:Value}{Q:Exit→Act→World→Prop}{ops:Array Oper}{rest:List Oper}
 {pos:String} {after:Array Edge} {t e:TypeId} {m k:Nat} {cs:List Value}
theorem Ev.mN {b o cap size:Nat}{i:Int}{kd:IntKind}(hv:v= .slice (some ⟨b,o,none⟩) m cap)(hx:aZ F x v)(hy:aZ F y (.int kd i))(ht:P.underlying t=some (.slice e))(hs:(P.info? e).map (·.size)=some size)
 (hi:i=k) (hk:k<m):Ev P n F A (.indexAddr t x y) ty (dR v size k 0):= .of_run λa w ha _=>by
 subst hv;obtain⟨inf,nb,gQ⟩:=dG.1 hs;subst hi
 simp[execOp,hx.eval ha,hy.eval ha,Instr.indexAt,asIntOf,run_underlying ht,sizeOf,typeInfo,nb,gQ,hk,dS,Addr.add_lit]
theorem CW {size off:Nat}{u:Value}{ρ:Ro}{w:World}(jc:eQ c (row v e size m cs::R) ρ w)(hk:k<m)(xU:off<size):∃b u0,dR v size k off= .pointer (some ⟨b,k*size+off,none⟩)∧v.ownBlock=some b∧
 w.cell? ⟨b,k*size+off,none⟩=some u0∧w.frozen? ⟨b,k*size+off,none⟩=false∧eQ c (row v e size m (cs.set (k*size+off) u)::R) ρ (w.setCell ⟨b,k*size+off,none⟩ u):=by
 have hr:=dZ.1 (jc.dK _ (aU ..))
 have iX:k*size+off<cs.length:=by
  rw[hr.1]
  have:(k+1)*size≤m*size:=gO _ hk
  rw[lW]at this;omega
 obtain⟨b,h2,h3,h4,h5⟩:=jN hr hk (bO iX);refine⟨b,_,h2,h4,h3,h5,?_⟩;refine jc.alter rfl ⟨rfl,aW _⟩ rfl (by simp) (λj hj fP=> ?_) (dZ.2 ?_) (λb' jZ=>by rw[dV]at jZ⊢;exact .inl jZ)
 ·rw[dV,h4]at fP
  simp only[World.setCell,Array.getElem?_modify]
  rw[aA (λe=>fP (by rw[e]))]
 ·obtain⟨hl,h6⟩:=hr
  refine⟨by rw[cG];exact hl,?_⟩
  rcases h6 with⟨rfl,rfl⟩|⟨g,cap,cur,rfl,H8,hg,kV,kS,kq,nS⟩
  ·omega
  ·simp only[Value.ownBlock,Option.some.injEq]at h4
   subst h4;refine .inr ⟨_,cap,_,rfl,H8,mc hg,kV,kS,by simp[kq],?_⟩;rw[←nS,Array.toList_setIfInBounds,List.take_set]
theorem St.Lf {u1 u2:Value}[tk:ko v H e 2 m cs R](hx:aZ F x (dR v 2 k 0))(hy:aZ F y (.agg #[u1,u2]))(hs:(P.info? t).map (·.size)=some 2)(h1:u1.oneCell'=true)(h2:u2.oneCell'=true)
 (hk:k<m) (h:St n F (Mm c (row v e 2 m ((cs.set (k*2) u1).set (k*2+1) u2)::R)) (wpList P ops Q rest)):
 St n F (Mm c H) (wpList P ops Q ({dst:=none,op:= .store t x y,type:=ty,pos:=pos,after:=after,guard:=none}::rest)):=by
 refine St.oU (K:=λu' H'=>H'=row v e 2 m ((cs.set (k*2) u1).set (k*2+1) u2)::R) ?_ ?_
 ·intro a w ρ ha hm
  have Gi:=hm.perm tk.perm
  obtain⟨b,z1,p1,q1,c1,f1,H9⟩:=CW (off:=0) (u:=u1) Gi hk (by omega);obtain⟨b',z2,p2,q2,c2,f2,pa⟩:=CW (off:=1) (u:=u2) H9 hk (by omega)
  rw[q1]at q2;cases q2
  rw[p1]at hx;obtain⟨i,hi,gQ⟩:=dG.1 hs;refine⟨.skip,(w.setCell ⟨b,k*2+0,none⟩ u1).setCell ⟨b,k*2+1,none⟩ u2,ρ,_,?_,⟨_,.inr ⟨rfl,rfl⟩,rfl⟩,pa⟩
  simp only[Nat.add_zero]at hx c1 f1 c2 f2⊢
  simp[execOp,hx.eval ha,hy.eval ha,Instr.storeAt,Instr.sureAddr,storeVar,sizeOf,typeInfo,hi,gQ,bT,storeCells,run_store P w _ u1 _ h1,run_store P _ _ u2 _ h2,c1,f1,c2,f2,Addr.add_zero',Addr.add_lit]
 ·rintro _ _ rfl
  exact h
abbrev Gm (α:Type):=aY×List α×Nat
def gR (α:Type):Rp (Gm α):=⟨2,by decide,λx=>[x.1.1,iv (x.2.2:Nat)],λ_=>True,λ_=>rfl,λx u h=>by
 simp at h;rcases h with rfl|rfl
 ·exact x.1.2
 ·rfl⟩
end
def gT (ds:List df):df:=⟨λρ=>∀d∈ds,d.f ρ,λ_ _ h k d hd=>d.mono _ _ h (k d hd)⟩
theorem dA.all {P:Program}{f:FuncId}{args:Array Value}{ds:List df}{v:Value}(h:dA P f args ds v):dA P f args [gT ds] v:=by
 intro w ρ st
 have hf:∀d∈ds,d.f ρ:=dm.1 (st.dK (aF (gT ds)) (by simp))
 have e:kT (ds.map aF)=kT ([gT ds].map aF):=by
  funext b
  apply propext
  constructor
  ·intro h;exact absurd h (iG ds b)
  ·intro h;exact absurd h (iG [gT ds] b)
 have uQ:eQ ⟨w,ρ,kT ([gT ds].map aF),True⟩ [] ρ w:=eQ.drop st
 have st2:Start (ds.map aF) ρ w:=by
  have:=uQ.E4 ds hf
  rw[fj]at this;unfold Start;rw[e];exact this
 have:=h w ρ st2
 rw[e]at this;exact this
theorem dA.pQ {P:Program}{f:FuncId}{args:Array Value}{ds Sw:List df}{v:Value}(h:dA P f args ds v)(hi:∀ρ,(∀d∈Sw,d.f ρ)→∀d∈ds,d.f ρ):dA P f args Sw v:=by
 intro w ρ st
 have hf:∀d∈Sw,d.f ρ:=λd hd=>dm.1 (st.dK (aF d) (dq hd))
 have e:kT (ds.map aF)=kT (Sw.map aF):=by
  funext b
  apply propext
  exact⟨λh=>absurd h (iG ds b),λh=>absurd h (iG Sw b)⟩
 have uQ:eQ ⟨w,ρ,kT (Sw.map aF),True⟩ [] ρ w:=by
  have:∀(l:List df),eQ ⟨w,ρ,kT (Sw.map aF),True⟩ (l.map aF) ρ w→eQ ⟨w,ρ,kT (Sw.map aF),True⟩ [] ρ w:=by
   intro l
   induction l with
   |nil=>exact λh=>h
   |cons d l ih=>exact λh=>ih h.drop
  exact this Sw st
 have st2:Start (ds.map aF) ρ w:=by
  have:=uQ.E4 ds (hi ρ hf)
  rw[fj]at this;unfold Start;rw[e];exact this
 have:=h w ρ st2
 rw[e]at this;exact this
theorem gp.gT {c:Ctx}{L R:List ao}{ds:List df}(h:gp c L R ds):gp c L R [J.gT ds]:=λρ w hm d hd=>by
 rw[bJ.1 hd]
 exact λd' nY=>h ρ w hm d' nY
theorem cw.gT {c:Ctx}{H:List ao}{ds:List df}(h:cw c H ds):cw c H [J.gT ds]:=λρ w hm d hd=>by
 rw[bJ.1 hd]
 exact λd' nY=>h ρ w hm d' nY
theorem St.cast {n:Nat}{F:Fr}{c:Ctx}{H H':List ao}{T:Act→World→Prop}(h:H=H')(k:St n F (Mm c H') T):St n F (Mm c H) T:=by rw[h];exact k
section
variable {n:Nat}{F:Fr}{c:Ctx}{H R:List ao}{T:Act→World→Prop}{α:Type}
def aI (f:α→df)(xs:List α):df:=⟨λρ=>∀x∈xs,(f x).f ρ,λρ mY h k x hx=>(f x).mono _ _ h (k x hx)⟩
theorem St.cL (f:α→df)(xs:List α){x:α}[hd:uI (aI f xs) H](hx:x∈xs)(k:St n F (Mm c (aF (f x)::H)) T):St n F (Mm c H) T:=
 St.eT (f x) [aI f xs] (λρ h=>h _ (aU ..) x hx) k
theorem St.e8 (f:α→df)(k:St n F (Mm c (aF (aI f [])::H)) T):St n F (Mm c H) T:=
 St.fact (aI f []) (λρ _ _=>λx hx=>by cases hx) k
theorem St.Nk (f:α→df){xs:List α}{x:α}[hd:uI (aI f xs) H][hx:uI (f x) H](k:St n F (Mm c (aF (aI f (xs++ [x]))::H)) T):St n F (Mm c H) T:=
 St.eT (aI f (xs++ [x])) [aI f xs,f x] (λρ h y hy=>by
  rcases ba.1 hy with hy|hy
  ·exact h _ (aU ..) y hy
  ·rw[bJ.1 hy];exact h _ (cE _ (aU ..))) k
theorem St.ER (f:α→df){xs:List α}{x:α}[hd:uI (aI f xs) H][hx:uI (f x) H](k:St n F (Mm c (aF (aI f (x::xs))::H)) T):St n F (Mm c H) T:=
 St.eT (aI f (x::xs)) [aI f xs,f x] (λρ h y hy=>by
  rcases cD.1 hy with rfl|hy
  ·exact h _ (cE _ (aU ..))
  ·exact h _ (aU ..) y hy) k
end
abbrev xq (s:bI):Prop:=s.length≤140737488351232
structure xu where
 name:bI
 pv:aY
 parents:List Int
structure j8 where
 name:bI
 Dk:Int
 value:Int
structure dL where
 cT:Int
 tqo:Int
structure dW where
 type:Int
 lv:aY
 ah:List dL
structure cU where
 nv:aY
 nodes:List dW
inductive fK where
 |mk (base:bI) (av:aY) (args:List fK)
inductive dM where
 |mk (kind:Int) (name:bI) (index:Int) (type:fK) (av:aY) (args:List dM)
inductive cM where
 |mk (rule lex:Int) (kv:aY) (kids:List cM)
def fK.base:fK→bI| .mk b _ _=>b
def fK.av:fK→aY| .mk _ v _=>v
def fK.args:fK→List fK| .mk _ _ l=>l
def dM.kind:dM→Int| .mk k _ _ _ _ _=>k
def dM.name:dM→bI| .mk _ s _ _ _ _=>s
def dM.index:dM→Int| .mk _ _ i _ _ _=>i
def dM.type:dM→fK| .mk _ _ _ t _ _=>t
def dM.av:dM→aY| .mk _ _ _ _ v _=>v
def dM.args:dM→List dM| .mk _ _ _ _ _ l=>l
def cM.rule:cM→Int| .mk r _ _ _=>r
def cM.lex:cM→Int| .mk _ l _ _=>l
def cM.kv:cM→aY| .mk _ _ v _=>v
def cM.kids:cM→List cM| .mk _ _ _ l=>l
structure dC where
 name:bI
 graph:cU
 kids:Int
 weight:Int
 er:dM
structure fN where
 word:bI
 graph:cU
 weight:Int
 er:dM
structure ja where
 tv:aY
 types:List xu
 fv:aY
 bb:List j8
 rv:aY
 rules:List dC
 xv:aY
 aN:List fN
 start:cU
def qS:Rp xu:=⟨2,by decide,λx=>[sv x.name,x.pv.1],λx=>xq x.name,λ_=>rfl,λx u h=>by simp at h;rcases h with rfl|rfl;rfl;exact x.pv.2⟩
def gZ:Rp j8:=⟨3,by decide,λx=>[sv x.name,iv x.Dk,iv x.value],λx=>xq x.name∧bP x.Dk∧bP x.value,λ_=>rfl,λx u h=>by simp at h;rcases h with rfl|rfl|rfl<;>rfl⟩
def aq:Rp dL:=⟨2,by decide,λx=>[iv x.cT,iv x.tqo],λx=>bP x.cT∧bP x.tqo,λ_=>rfl,λx u h=>by simp at h;rcases h with rfl|rfl<;>rfl⟩
def bW:Rp dW:=⟨2,by decide,λx=>[iv x.type,x.lv.1],λx=>bP x.type,λ_=>rfl,λx u h=>by simp at h;rcases h with rfl|rfl;rfl;exact x.lv.2⟩
def nH:Rp fK:=⟨2,by decide,λx=>[sv x.base,x.av.1],λx=>xq x.base,λ_=>rfl,λx u h=>by simp at h;rcases h with rfl|rfl;rfl;exact x.av.2⟩
abbrev Nl (x:dM):List Value:=[iv x.kind,sv x.name,iv x.index,sv x.type.base,x.type.av.1,x.av.1]
theorem bL {u:Value}{L:List Value}(h:u.oneCell'=true)(k:∀v∈L,v.oneCell'=true):∀v∈u::L,v.oneCell'=true:=λv hv=>by
 rcases cD.1 hv with rfl|hv
 ·exact h
 ·exact k v hv
theorem Sy:∀v∈([]:List Value),v.oneCell'=true:=λv hv=>by cases hv
theorem uR (x:dM):∀u∈Nl x,u.oneCell'=true:=bL rfl (bL rfl (bL rfl (bL rfl (bL x.type.av.2 (bL x.av.2 Sy)))))
def pI:Rp dM:=⟨6,by decide,Nl,λx=>bP x.kind∧xq x.name∧bP x.index∧xq x.type.base,λ_=>rfl,λx u h=>uR x u h⟩
abbrev Nn (x:cM):List Value:=[iv x.rule,iv x.lex,x.kv.1]
def cJ:Rp cM:=⟨3,by decide,Nn,λx=>bP x.rule∧bP x.lex,λ_=>rfl,λx u h=>by simp at h;rcases h with rfl|rfl|rfl;rfl;rfl;exact x.kv.2⟩
abbrev xx (x:dC):List Value:=[sv x.name,x.graph.nv.1,iv x.kids,iv x.weight,iv x.er.kind,sv x.er.name,iv x.er.index,sv x.er.type.base,x.er.type.av.1,x.er.av.1]
def cY:Rp dC:=⟨10,by decide,xx,λx=>xq x.name∧bP x.kids∧bP x.weight∧pI.wf x.er,λ_=>rfl,λx u h=>bL rfl (bL x.graph.nv.2 (bL rfl (bL rfl (uR x.er)))) u h⟩
abbrev ab0 (x:fN):List Value:=[sv x.word,x.graph.nv.1,iv x.weight,iv x.er.kind,sv x.er.name,iv x.er.index,sv x.er.type.base,x.er.type.av.1,x.er.av.1]
def eF:Rp fN:=⟨9,by decide,ab0,λx=>xq x.word∧bP x.weight∧pI.wf x.er,λ_=>rfl,λx u h=>bL rfl (bL x.graph.nv.2 (bL rfl (uR x.er))) u h⟩
instance (x:xu):iY qS x [sv x.name,x.pv.1]:=⟨rfl⟩
instance (x:j8):iY gZ x [sv x.name,iv x.Dk,iv x.value]:=⟨rfl⟩
instance (x:dL):iY aq x [iv x.cT,iv x.tqo]:=⟨rfl⟩
instance (x:dW):iY bW x [iv x.type,x.lv.1]:=⟨rfl⟩
instance (x:fK):iY nH x [sv x.base,x.av.1]:=⟨rfl⟩
instance (x:dM):iY pI x (Nl x):=⟨rfl⟩
instance (x:cM):iY cJ x (Nn x):=⟨rfl⟩
instance (x:dC):iY cY x (xx x):=⟨rfl⟩
instance (x:fN):iY eF x (ab0 x):=⟨rfl⟩
abbrev lh (g:ja):List Value:=[g.tv.1,g.fv.1,g.rv.1,g.xv.1,g.start.nv.1]
inductive sb (ρ:Ro):fK→Prop
 |mk {x:fK} (h:(sl nH x.av.1 x.args).f ρ) (k:∀y∈x.args,sb ρ y):sb ρ x
inductive pj (ρ:Ro):dM→Prop
 |mk {x:dM} (ht:sb ρ x.type) (h:(sl pI x.av.1 x.args).f ρ) (k:∀y∈x.args,pj ρ y):pj ρ x
inductive oa (ρ:Ro):cM→Prop
 |mk {x:cM} (h:(sl cJ x.kv.1 x.kids).f ρ) (k:∀y∈x.kids,oa ρ y):oa ρ x
theorem sb.mono {ρ mY:Ro}(h:∀k o,ρ k=some o→mY k=some o){x:fK}(hx:sb ρ x):sb mY x:=by
 induction hx with
 |mk h1 _ ih=>exact .mk ((sl _ _ _).mono _ _ h h1) ih
theorem pj.mono {ρ mY:Ro}(h:∀k o,ρ k=some o→mY k=some o){x:dM}(hx:pj ρ x):pj mY x:=by
 induction hx with
 |mk ht h1 _ ih=>exact .mk (ht.mono h) ((sl _ _ _).mono _ _ h h1) ih
theorem oa.mono {ρ mY:Ro}(h:∀k o,ρ k=some o→mY k=some o){x:cM}(hx:oa ρ x):oa mY x:=by
 induction hx with
 |mk h1 _ ih=>exact .mk ((sl _ _ _).mono _ _ h h1) ih
def eu (x:fK):df:=⟨λρ=>sb ρ x,λ_ _ h k=>k.mono h⟩
def iK (x:dM):df:=⟨λρ=>pj ρ x,λ_ _ h k=>k.mono h⟩
def bM (x:cM):df:=⟨λρ=>oa ρ x,λ_ _ h k=>k.mono h⟩
def xy (x:xu):df:=sl aL x.pv.1 x.parents
def bX (x:dW):df:=sl aq x.lv.1 x.ah
def jm (g:cU):List df:=[sl bW g.nv.1 g.nodes,aI bX g.nodes]
def aG (g:cU):df:=gT (jm g)
def Np (x:dC):List df:=[aG x.graph,iK x.er]
def cK (x:dC):df:=gT (Np x)
def Y6 (x:fN):List df:=[aG x.graph,iK x.er]
def eB (x:fN):df:=gT (Y6 x)
def WB (tv fv:aY)(ts:List xu)(fs:List j8):List df:=[sl qS tv.1 ts,aI xy ts,sl gZ fv.1 fs]
def Lg (g:ja):List df:=[sl qS g.tv.1 g.types,aI xy g.types,sl gZ g.fv.1 g.bb,sl cY g.rv.1 g.rules,aI cK g.rules,sl eF g.xv.1 g.aN,aI eB g.aN,aG g.start]
def kW (g:ja):df:=gT (Lg g)
section
variable {n:Nat}{F:Fr}{c:Ctx}{H R:List ao}{T:Act→World→Prop}
theorem St.sc (x:fK)[hd:uI (eu x) H](k:St n F (Mm c (aF (sl nH x.av.1 x.args)::aF (aI eu x.args)::H)) T):St n F (Mm c H) T:=
 St.j7 (ι:=Unit) (eu x) (λ_=>[sl nH x.av.1 x.args,aI eu x.args]) (λρ h=>⟨(),λe he=>by
  cases h with
  |mk h k=>
   simp only[List.mem_cons,List.not_mem_nil,or_false]at he
   rcases he with rfl|rfl
   ·exact h
   ·exact k⟩) λ_=>k
theorem St.ES (x:dM)[hd:uI (iK x) H](k:St n F (Mm c (aF (eu x.type)::aF (sl pI x.av.1 x.args)::aF (aI iK x.args)::H)) T):St n F (Mm c H) T:=
 St.j7 (ι:=Unit) (iK x) (λ_=>[eu x.type,sl pI x.av.1 x.args,aI iK x.args]) (λρ h=>⟨(),λe he=>by
  cases h with
  |mk ht h k=>
   simp only[List.mem_cons,List.not_mem_nil,or_false]at he
   rcases he with rfl|rfl|rfl
   ·exact ht
   ·exact h
   ·exact k⟩) λ_=>k
theorem St.xz (x:cM)[hd:uI (bM x) H](k:St n F (Mm c (aF (sl cJ x.kv.1 x.kids)::aF (aI bM x.kids)::H)) T):St n F (Mm c H) T:=
 St.j7 (ι:=Unit) (bM x) (λ_=>[sl cJ x.kv.1 x.kids,aI bM x.kids]) (λρ h=>⟨(),λe he=>by
  cases h with
  |mk h k=>
   simp only[List.mem_cons,List.not_mem_nil,or_false]at he
   rcases he with rfl|rfl
   ·exact h
   ·exact k⟩) λ_=>k
theorem St.Ja (L:List df)[hd:uI (gT L) H](k:St n F (Mm c (L.map aF++H)) T):St n F (Mm c H) T:=
 St.j7 (gT L) (λ_:Unit=>L) (λρ h=>⟨(),h⟩) λ_=>k
end
end Go.J
namespace Go.Proofs.YtblifkgpebebmaaGreatDoor
open Go Go.J Tryz
inductive iy where
 |mk (base:bI) (args:List iy)
inductive lM where
 |mk (kind:Int) (name:bI) (index:Int) (type:iy) (args:List lM)
inductive nu where
 |mk (rule lex:Int) (kids:List nu)
mutual
def dU:fK→iy
 | .mk b _ l=> .mk b (Jb l)
def Jb:List fK→List iy
 | []=>[]
 |x::l=>dU x::Jb l
end
mutual
def di:dM→lM
 | .mk k s i t _ l=> .mk k s i (dU t) (CX l)
def CX:List dM→List lM
 | []=>[]
 |x::l=>di x::CX l
end
mutual
def dN:cM→nu
 | .mk r x _ l=> .mk r x (CY l)
def CY:List cM→List nu
 | []=>[]
 |x::l=>dN x::CY l
end
theorem uS:∀l:List fK,Jb l=l.map dU
 | []=>rfl
 |x::l=>by rw[Jb,uS l];rfl
theorem rh:∀l:List dM,CX l=l.map di
 | []=>rfl
 |x::l=>by rw[CX,rh l];rfl
theorem y5:∀l:List cM,CY l=l.map dN
 | []=>rfl
 |x::l=>by rw[CY,y5 l];rfl
def iy.base:iy→bI| .mk b _=>b
def iy.args:iy→List iy| .mk _ l=>l
def lM.kind:lM→Int| .mk k _ _ _ _=>k
def lM.name:lM→bI| .mk _ s _ _ _=>s
def lM.index:lM→Int| .mk _ _ i _ _=>i
def lM.type:lM→iy| .mk _ _ _ t _=>t
def lM.args:lM→List lM| .mk _ _ _ _ l=>l
def nu.rule:nu→Int| .mk r _ _=>r
def nu.lex:nu→Int| .mk _ l _=>l
def nu.kids:nu→List nu| .mk _ _ l=>l
theorem qT (x:fK):(dU x).base=x.base:=by cases x;rfl
theorem jn (x:fK):(dU x).args=x.args.map dU:=by cases x;exact uS _
theorem ri (x:dM):(di x).args=x.args.map di:=by cases x;exact rh _
abbrev dz:=bI×List Int
abbrev oO:=bI×Int×Int
abbrev My:=Int×List (Int×Int)
abbrev dF:=List My
structure CZ where
 name:bI
 graph:dF
 kids:Int
 weight:Int
 er:lM
structure HJ where
 word:bI
 graph:dF
 weight:Int
 er:lM
structure ob where
 types:List dz
 bb:List oO
 rules:List CZ
 aN:List HJ
 start:dF
def cS (x:xu):dz:=(x.name,x.parents)
def fi (x:j8):oO:=(x.name,x.Dk,x.value)
def eR (x:dL):Int×Int:=(x.cT,x.tqo)
def lN (x:dW):My:=(x.type,x.ah.map eR)
def ar (g:cU):dF:=g.nodes.map lN
def mi (x:dC):CZ:=⟨x.name,ar x.graph,x.kids,x.weight,di x.er⟩
def rJ (x:fN):HJ:=⟨x.word,ar x.graph,x.weight,di x.er⟩
def gG (g:ja):ob:=⟨g.types.map cS,g.bb.map fi,g.rules.map mi,g.aN.map rJ,ar g.start⟩
def qo (i:Int):Int→List Int→Int×Int
 |_,[]=>(0,0)
 |last,p::ps=>if p<0∨i≤p then(3,i)else if p≤last then(13,i)else qo i p ps
def kX:List bI→Nat→List dz→Int×Int
 |_,_,[]=>(0,0)
 |known,i,t::ts=>if isName t.1=false then(10,i)else if t.1∈known then(7,i)else if decide (i=0)≠decide (t.2.length=0)then(5,i)
  else if(qo i (-1) t.2).1≠0 then qo i (-1) t.2 else kX (known++ [t.1]) (i+1) ts
def AA (l:List dz):Int×Int:=if l.length=0∨60<l.length then(2,-1)else kX [] 0 l
def Nr (U:List Nat)(i:Nat)(ps:List Int):Nat:=ps.foldl (λu p=>u|||U.getD p.toNat 0) (2^i)
def mj:List Nat→List dz→List Nat
 |U,[]=>U
 |U,t::l=>mj (U++ [Nr U U.length t.2]) l
def AB (l:List dz):List Nat:=mj [] l
def fw (l:List dz)(i j:Nat):Bool:=((AB l).getD i 0).testBit j
def comm (l:List dz)(a b:Nat):List Nat:=(List.range l.length).filter λi=>fw l i a&&fw l i b
def jO (l:List dz)(a b:Nat):Bool:=match comm l a b with
 | []=>false
 |m::r=>r.any λi=> !fw l i m
def vk (l:List dz):Option Nat:=(List.range l.length).find? λb=>(List.range b).any λa=>jO l a b
def lj (n:Int):List bI→Nat→List oO→Int×Int
 |_,_,[]=>(0,0)
 |known,i,f::fs=>if isName f.1=false then(10,i)else if f.1∈known then(7,i)else if f.2.1<0∨n≤f.2.1∨f.2.2<0∨n≤f.2.2 then(3,i)else lj n (known++ [f.1]) (i+1) fs
def ij (ts:List dz)(fs:List oO):Int×Int:=
 if 40<fs.length then(2,-1)else if(AA ts).1≠0 then AA ts else match vk ts with
  |some b=>(16,b)
  |none=>lj ts.length [] 0 fs
def AD (nf nn i:Int):Int→List (Int×Int)→Int×Int
 |_,[]=>(0,0)
 |last,x::xs=>if x.1<0∨nf≤x.1∨x.2<0∨nn≤x.2 then(3,i)else if x.1≤last then(13,i)else AD nf nn i x.1 xs
def eC (nt nf nn:Int):Nat→dF→Int×Int
 |_,[]=>(0,0)
 |i,x::xs=>if x.1<0∨nt≤x.1 then(3,i)else if(AD nf nn i (-1) x.2).1≠0 then AD nf nn i (-1) x.2 else eC nt nf nn (i+1) xs
def eU (nt nf:Int)(g:dF):Int×Int:=if g.length=0∨60<g.length then(2,-2)else eC nt nf g.length 0 g
def gH:My:=(0,[])
def ft0:oO:=([],0,0)
def Jc (ts:List dz)(fs:List oO)(g:dF)(t:Int)(x:Int×Int):Bool:=
 !fw ts t.toNat (fs.getD x.1.toNat ft0).2.1.toNat|| !fw ts (g.getD x.2.toNat gH).1.toNat (fs.getD x.1.toNat ft0).2.2.toNat
def sd (ts:List dz)(fs:List oO)(g:dF)(i:Nat):Bool:=(g.getD i gH).2.any (Jc ts fs g (g.getD i gH).1)
def lu (ts:List dz)(fs:List oO)(g:dF):Option Nat:=(List.range g.length).find? (sd ts fs g)
def ET (i:Nat)(M:List Bool)(x:Int×Int):List Bool:=if M.getD i false then M.set x.2.toNat true else M
def WC (g:dF)(M:List Bool)(i:Nat):List Bool:=(g.getD i gH).2.foldl (ET i) M
def pass (g:dF)(M:List Bool):List Bool:=(List.range g.length).foldl (WC g) M
def dp (g:dF):Nat→List Bool
 |0=>(List.replicate g.length false).set 0 true
 |k+1=>pass g (dp g k)
def oc:List Bool→Int
 | []=> -1
 |b::l=>if b=false then 0 else if oc l<0 then-1 else oc l+1
def unr (g:dF):Int:=oc (dp g g.length)
def ca (ts:List dz)(fs:List oO)(g:dF):Int×Int:=
 if(eU ts.length fs.length g).1≠0 then eU ts.length fs.length g else match lu ts fs g with
  |some i=>(12,i)
  |none=>if 0≤unr g then(5,unr g)else(0,0)
def qp (g:dF)(k:Int):Int:=match(g.getD 0 gH).2.find? λx=>x.1==k with
 |some x=>x.2
 |none=> -1
def ml (g:dF)(kids:Int):Bool:=(List.range 4).all λk=>decide (0≤qp g k)==decide ((k:Int)≤kids)
abbrev sE:bI:=[101]
abbrev sT:bI:=[116]
def ik (b:bI)(m:Nat):Bool:=(decide (b=sE)||decide (b=sT))&&decide (m=0)||decide (b=[])&&decide (m=2)
mutual
def lB:iy→Nat→Nat→Nat×Int
 | .mk b l,d,n=>if 200<n+1∨40<d then(n+1,1)else if ik b l.length=false then(n+1,5)else kr l (d+1) (n+1)
def kr:List iy→Nat→Nat→Nat×Int
 | [],_,n=>(n,0)
 |x::l,d,n=>if(lB x d n).2≠0 then lB x d n else kr l d (lB x d n).1
end
def uT (s:iy):Int:=(lB s 1 0).2
def pJ (s:iy):Bool:=decide (s.base=[])&&decide (s.args.length=0)
mutual
def ku:iy→iy→Bool
 | .mk a l,.mk b m=>decide (a=b)&&decide (l.length=m.length)&&nI l m
def nI:List iy→List iy→Bool
 |x::l,y::m=>ku x y&&nI l m
 |_,_=>true
end
def jP (kind:Int)(name:bI)(index:Int)(type:iy)(m:Nat)(bd:Nat):Int:=
 if kind=1 then(if index≠0∨m≠0 then 5 else if isName name=false then 10 else if uT type≠0 then 12 else 0)
 else if kind=2 then(if name≠ []∨pJ type=false∨m≠0 then 5 else if index<0∨(bd:Int)≤index then 15 else 0)
 else if kind=3 then(if name≠ []∨index≠0∨m≠1 then 5 else if uT type≠0 then 12 else 0)
 else if kind=4 then(if name≠ []∨index≠0∨pJ type=false∨m≠2 then 5 else 0)
 else 4
mutual
def lO:lM→Nat→Nat→Nat→Nat×Int×Int
 | .mk k s i t l,d,bd,n=>if 200<n+1∨40<d then(n+1,1,n)else if jP k s i t l.length bd≠0 then(n+1,jP k s i t l.length bd,n)else nJ l (d+1) (if k=3 then bd+1 else bd) (n+1)
def nJ:List lM→Nat→Nat→Nat→Nat×Int×Int
 | [],_,_,n=>(n,0,0)
 |x::l,d,bd,n=>if(lO x d bd n).2.1≠0 then lO x d bd n else nJ l d bd (lO x d bd n).1
end
def HK:Option iy→Option iy→Option iy
 |some (.mk _ [a,b]),some x=>if ku a x then some b else none
 |_,_=>none
mutual
def wK:lM→List iy→Option iy
 | .mk k _ i t l,c=>if k=1 then some t else if k=2 then c[c.length-1-i.toNat]? else if k=3 then(mm l (c++ [t])).map λb=> .mk [] [t,b]else HK (mm l c) (Ca l c)
def mm:List lM→List iy→Option iy
 |x::_,c=>wK x c
 | [],_=>none
def Ca:List lM→List iy→Option iy
 |_::l,c=>mm l c
 | [],_=>none
end
def pk (t:lM):Int×Int:=if(lO t 1 0 0).2.1≠0 then(lO t 1 0 0).2 else if(wK t []).isNone then(12,-1)else(0,0)
def pK (ts:List dz)(fs:List oO)(r:CZ):Int:=
 if r.kids<1∨3<r.kids∨r.weight<0∨1000000<r.weight then 3 else if(ca ts fs r.graph).1≠0 then(ca ts fs r.graph).1 else if ml r.graph r.kids=false then 5 else(pk r.er).1
def wL (ts:List dz)(fs:List oO)(x:HJ):Int:=
 if isWord x.word=false then 10 else if x.weight<0∨1000000<x.weight then 3 else if(ca ts fs x.graph).1≠0 then(ca ts fs x.graph).1 else(pk x.er).1
def j0 (ts:List dz)(fs:List oO):List bI→Nat→List CZ→Int×Int
 |_,_,[]=>(0,0)
 |known,i,r::rs=>if isName r.name=false then(10,i)else if r.name∈known then(7,i)else if pK ts fs r≠0 then(pK ts fs r,i)else j0 ts fs (known++ [r.name]) (i+1) rs
def j2 (ts:List dz)(fs:List oO):Nat→List HJ→Int×Int
 |_,[]=>(0,0)
 |i,x::xs=>if wL ts fs x≠0 then(wL ts fs x,i)else j2 ts fs (i+1) xs
def lC (g:ob):Int×Int:=
 if(ij g.types g.bb).1≠0 then ij g.types g.bb else if g.bb.length≤3 then(9,-1)else if 40<g.rules.length∨100<g.aN.length then(2,-1)
 else if(j0 g.types g.bb [] 0 g.rules).1≠0 then j0 g.types g.bb [] 0 g.rules else if(j2 g.types g.bb 0 g.aN).1≠0 then j2 g.types g.bb 0 g.aN
 else if(ca g.types g.bb g.start).1≠0 then((ca g.types g.bb g.start).1,-1)else(0,0)
end Go.Proofs.YtblifkgpebebmaaGreatDoor
namespace Go.J
open Go
def eqD (u v:Value):df:=⟨λ_=>u=v,λ_ _ _ h=>h⟩
structure Jd where
 slot:Nat
 EU:List Nat
 K:Value→df
instance:Inhabited Jd:=⟨⟨0,[],λu=>eqD u u⟩⟩
def Y7 (bs:List Jd)(e:Nat→Value)(ds:List Nat):Fr:=ds.map λj=>((bs.getD j default).slot,e j)
def Y8 (bs:List Jd)(e:Nat→Value)(ds:List Nat):List ao:=ds.map λj=>aF ((bs.getD j default).K (e j))
def Je (c:Ctx)(H:List ao)(slot:Nat)(K:Value→df)(a:Act)(w:World):Prop:=a.defers=[]∧∃u,a.tmps[slot]?=some u∧Mm c (aF (K u)::H) w
section
variable {P:Program}{ops:Array Oper}{Q:Exit→Act→World→Prop}{n:Nat}{F:Fr}{c:Ctx}{H R:List ao}
theorem eQ.tail {c:Ctx}{L H:List ao}{ρ:Ro}{w:World}(h:eQ c (L++H) ρ w):eQ c H ρ w:=by
 induction L with
 |nil=>exact h
 |cons E L ih=>exact ih (eQ.drop h)
def Hop (P:Program)(ops:Array Oper)(Q:Exit→Act→World→Prop)(n:Nat)(F:Fr)(dr:Prop)(H:List ao)(bs:List Jd)(b:Jd)(o:Oper):Prop:=
 ∀(c:Ctx) (e:Nat→Value),(¬dr→¬c.dr)→St n (Y7 bs e b.EU++F) (Mm c (Y8 bs e b.EU++H)) (wpList P ops (Exit.then (Je c H b.slot b.K) Q) [o])
theorem Hop.mk {dr:Prop}{bs:List Jd}{slot:Nat}{EU:List Nat}{K:Value→df}{o:Oper}(Ff:(Nat→Value)→Fr)(L:(Nat→Value)→List ao)(h1:∀e,Y7 bs e EU=Ff e)(h2:∀e,Y8 bs e EU=L e)
 (k:∀(c:Ctx) (e:Nat→Value),(¬dr→¬c.dr)→St n (Ff e++F) (Mm c (L e++H)) (wpList P ops (Exit.then (Je c H slot K) Q) [o])):Hop P ops Q n F dr H bs ⟨slot,EU,K⟩ o:=λc e hd=>by
 show St n (Y7 bs e EU++F) (Mm c (Y8 bs e EU++H)) _
 rw[h1,h2];exact k c e hd
def Cb (P:Program)(ops:Array Oper)(Q:Exit→Act→World→Prop)(n:Nat)(F:Fr)(dr:Prop)(H:List ao)(bs:List Jd):List Jd→List Oper→Prop
 | [],[]=>True
 |b::l,o::m=>Hop P ops Q n F dr H bs b o∧Cb P ops Q n F dr H bs l m
 |_,_=>False
theorem Cb.nil {dr:Prop}{bs:List Jd}:Cb P ops Q n F dr H bs [] []:=trivial
theorem Cb.cons {dr:Prop}{bs l:List Jd}{b:Jd}{o:Oper}{m:List Oper}(h:Hop P ops Q n F dr H bs b o)(k:Cb P ops Q n F dr H bs l m):Cb P ops Q n F dr H bs (b::l) (o::m):=⟨h,k⟩
theorem Cb.at_ {dr:Prop}{bs:List Jd}:∀{l:List Jd} {m:List Oper},Cb P ops Q n F dr H bs l m→l.length=m.length∧∀(i:Nat) (b:Jd) (o:Oper),l[i]?=some b→m[i]?=some o→Hop P ops Q n F dr H bs b o
 | [],[],_=>⟨rfl,λi b o h=>by simp at h⟩
 | [],_::_,h=>h.elim
 |_::_,[],h=>h.elim
 |b::l,o::m,h=>by
  obtain⟨h1,h2⟩:=Cb.at_ h.2;refine⟨by simp[h1],λi b' o' hb ho=> ?_⟩
  cases i with
  |zero=>simp at hb ho;subst hb ho;exact h.1
  |succ i=>exact h2 i b' o' (by simpa using hb) (by simpa using ho)
def Cc (acc:List Nat)(o:Oper):Nat:=o.after.toList.foldl (λu e=>if Region.binds .any e then u|||(2^e.on|||acc.getD e.on 0)else u) 0
def fc:List Oper→List Nat→List Nat
 | [],acc=>acc
 |o::l,acc=>fc l (acc++ [Cc acc o])
theorem HL (acc:List Nat)(o:Oper){j:Nat}(h:(Cc acc o).testBit j=true):∃e∈o.after,Region.binds .any e=true∧(e.on=j∨(acc.getD e.on 0).testBit j=true):=by
 have key:∀(l:List Edge) (u:Nat),(l.foldl (λu e=>if Region.binds .any e then u|||(2^e.on|||acc.getD e.on 0)else u) u).testBit j=true→u.testBit j=true∨∃e∈l,Region.binds .any e=true∧(e.on=j∨(acc.getD e.on 0).testBit j=true):=by
  intro l
  induction l with
  |nil=>intro u h;exact .inl h
  |cons e l ih=>
   intro u h;rw[List.foldl_cons]at h
   rcases ih _ h with h1|⟨e',he,h1⟩
   ·split at h1
    ·rename_i hb
     rw[Nat.testBit_or,Nat.testBit_or,Bool.or_eq_true,Bool.or_eq_true,Nat.testBit_two_pow,fS]at h1
     rcases h1 with h1|h1
     ·exact .inl h1
     ·exact .inr ⟨e,aU ..,hb,h1⟩
    ·exact .inl h1
   ·exact .inr ⟨e',cE _ he,h1⟩
 rcases key _ _ h with h1|⟨e,he,h1⟩
 ·rw[Nat.zero_testBit]at h1;cases h1
 ·exact⟨e,by simpa using he,h1⟩
theorem od:∀(l m:List Oper) (acc:List Nat),fc (l++m) acc=fc m (fc l acc)
 | [],_,_=>rfl
 |o::l,m,acc=>by rw[r7,fc,fc,od l m]
theorem uU:∀(l:List Oper) (acc:List Nat),(fc l acc).length=acc.length+l.length
 | [],_=>rfl
 |o::l,acc=>by rw[fc,uU l];simp;omega
theorem uV:∀(l:List Oper) (acc:List Nat) (i:Nat),i<acc.length→(fc l acc)[i]?=acc[i]?
 | [],_,_,_=>rfl
 |o::l,acc,i,h=>by rw[fc,uV l _ i (by simp;omega),pd h]
theorem Ns {l:List Oper}{i:Nat}{o:Oper}(h:l[i]?=some o):(fc l []).getD i 0=Cc (fc (l.take i) []) o:=by
 have hi:=(eD.1 h).1
 have e:fc l []=fc (l.drop (i+1)) (fc (l.take i) []++ [Cc (fc (l.take i) []) o]):=by
  conv=>lhs;rw[←sO i l]
  rw[od,List.drop_eq_getElem_cons hi,fc];rw[bO hi]at h;rw[Option.some.inj h]
 have hl:(fc (l.take i) []).length=i:=by rw[uU,e9];simp;omega
 rw[e,ak,uV _ _ _ (by simp[hl]),mW (by omega),hl,fJ];rfl
theorem HM {l:List Oper}{i j:Nat}(h:j<i)(hi:i≤l.length):(fc (l.take i) []).getD j 0=(fc l []).getD j 0:=by
 have e:fc l []=fc (l.drop i) (fc (l.take i) []):=by rw[←od,sO]
 rw[e,ak,ak,uV (l.drop i) (fc (l.take i) []) j (by rw[uU,e9];simp;omega)]
def Nt (l:List Oper)(m:Nat):Bool:=
 ((List.range l.length).all λi=>match l[i]? with
  |some o=>(o.after.all λe=>Nat.ble (e.on+1) i)&&(Nat.ble i m||o.after.any λe=>Region.binds .any e&&e.on==i-1)
  |none=>false)&&(Nat.ble l.length m||(fc l []).getD m 0==2^m-1)
theorem HO {l:List Oper}{m i:Nat}{o:Oper}(h:Nt l m=true)(ho:l[i]?=some o):∀e∈o.after,e.on<i:=by
 have hi:=(eD.1 ho).1
 simp only[Nt,Bool.and_eq_true]at h
 have h1:=eO.1 h.1 i (cy.2 hi)
 simp only[ho,Bool.and_eq_true]at h1
 intro e he;exact eX ((Array.all_eq_true_iff_forall_mem.1 h1.1) e he)
def Jf (l:List Oper)(listed:Array Bool):Prop:=∀i o,l[i]?=some o→listed.getD i false=true→∀e∈o.after,Region.binds .any e=true→listed.getD e.on false=true
theorem Jf.all {l:List Oper}{m:Nat}{listed:Array Bool}(hB:Nt l m=true)(hc:Jf l listed):∀(i:Nat) (o:Oper),l[i]?=some o→(∀e∈o.after,Region.binds .any e=true→listed.getD e.on false=true)→∀j,((fc l []).getD i 0).testBit j=true→listed.getD j false=true:=by
 intro i
 induction i using Nat.strongRecOn with
 |ind i ih=>
  intro o ho ig j hj
  have hi:=(eD.1 ho).1
  rw[Ns ho]at hj;obtain⟨e,he,hb,h1⟩:=HL _ _ hj
  have iX:=HO hB ho e he
  have hl:=ig e he hb
  rcases h1 with rfl|h1
  ·exact hl
  ·rw[HM iX (by omega)]at h1
   have hoe:l[e.on]?=some l[e.on]:=bO (by omega)
   exact ih e.on iX _ hoe (hc _ _ hoe hl) j h1
theorem St.Cd {T:Act→World→Prop}{a b d e f:ao}(h:St n F (Mm c (a::b::d::e::f::R)) T):St n F (Mm c ([a,b,d,e,f]++R)) T:=h
theorem St.ab1 {T:Act→World→Prop}{a b d e f g:ao}(h:St n F (Mm c (a::b::d::e::f::g::R)) T):St n F (Mm c ([a,b,d,e,f,g]++R)) T:=h
end
end Go.J
namespace Go.J
open Go Go.Proofs.YtblifkgpebebmaaGreatDoor
abbrev se (x:fK):Value:= .agg #[sv x.base,x.av.1]
abbrev vm (x:dM):Value:= .agg #[iv x.kind,sv x.name,iv x.index,sv x.type.base,x.type.av.1,x.av.1]
abbrev ny (x:cM):Value:= .agg #[iv x.rule,iv x.lex,x.kv.1]
abbrev au (x:cU):Value:= .agg #[x.nv.1]
abbrev WD (x:dC):Value:= .agg #[sv x.name,x.graph.nv.1,iv x.kids,iv x.weight,iv x.er.kind,sv x.er.name,iv x.er.index,sv x.er.type.base,x.er.type.av.1,x.er.av.1]
abbrev ab2 (x:fN):Value:= .agg #[sv x.word,x.graph.nv.1,iv x.weight,iv x.er.kind,sv x.er.name,iv x.er.index,sv x.er.type.base,x.er.type.av.1,x.er.av.1]
abbrev kC (g:ja):Value:= .agg #[g.tv.1,g.fv.1,g.rv.1,g.xv.1,g.start.nv.1]
def cF (g:dF)(u:Value):df:=⟨λρ=>∃x:cU,u=au x∧ar x=g∧(aG x).f ρ,λ_ _ h ⟨x,a,b,c⟩=>⟨x,a,b,(aG x).mono _ _ h c⟩⟩
section
variable {n:Nat}{F:Fr}{c:Ctx}{H R:List ao}{T:Act→World→Prop}
theorem St.ab3 {ι:Sort _}(d:df)[hd:uI d H](p:ι→Prop)(L:ι→List df)(h:∀ρ,d.f ρ→∃x,p x∧∀e∈L x,e.f ρ)(k:∀x,p x→St n F (Mm c ((L x).map aF++H)) T):St n F (Mm c H) T:=by
 intro a w ha hw;obtain⟨ρ,hm⟩:=hw.out;obtain⟨x,hp,hx⟩:=h ρ (dm.1 (hm.dK _ hd.mem));exact k x hp a w ha (Mm.mk (hm.E4 (L x) hx))
theorem St.cF (g:dF)(u:Value)[hd:uI (J.cF g u) H](k:∀x:cU,u=au x∧ar x=g→St n F (Mm c (aF (aG x)::H)) T):St n F (Mm c H) T:=
 St.ab3 (J.cF g u) _ (λx=>[aG x]) (λρ ⟨x,a,b,c⟩=>⟨x,⟨a,b⟩,λe he=>by rw[bJ.1 he];exact c⟩) k
theorem St.EV (b:bI)(u:Value)(hu:u.oneCell'=true)(l:List fK)[h1:uI (sl nH u l) H][h2:uI (aI eu l) H](k:St n F (Mm c (aF (eu (.mk b ⟨u,hu⟩ l))::H)) T):St n F (Mm c H) T:=
 St.eT (eu (.mk b ⟨u,hu⟩ l)) [sl nH u l,aI eu l] (λρ h=> .mk (h _ (aU ..)) (h _ (cE _ (aU ..)))) k
end
abbrev bK:aY:=⟨.slice none 0 0,rfl⟩
end Go.J
namespace Go.J
open Go Go.ChangeShapes Go.WideShapes Go.ChangeAt Go.RowKit Go.Deep Go.Proofs.YtblifkgpebebmaaGreatDoor
section
variable {H:Type}{enc:TypeId×Value→H}{P:Program}{W:World}{α:Type}
abbrev Tr (enc:TypeId×Value→H)(P:Program)(W:World)(n:Nat)(t:TypeId)(cs:List Value)(y:DataW H×List MemPlace):Prop:=DataW.trod enc P W 0 (λ_=>true) true n t cs=some y
theorem HP {t:TypeId}{fs:Array Field}{ps:List (DataW H)}(ht:P.underlying t=some (.struct fs))(h:nT ((DataW.agg ps).weights P t)=true):nT (DataW.weightsEach P (fs.toList.map (·.type)) ps)=true:=by
 simpa only[DataW.weights,ht]using h
theorem fT {t:TypeId}{fs:Array Field}{n:Nat}{cs:List Value}{y:DataW H×List MemPlace}(ht:P.underlying t=some (.struct fs))(h:Tr enc P W n t cs y)(hw:nT (y.1.weights P t)=true):
 ∃m,n=m+1∧∀(i:Nat) (f:Field),fs[i]?=some f→∃z,Tr enc P W m f.type ((cs.drop f.offset).take (P.cellsOf f.type)) z∧nT (z.1.weights P f.type)=true:=by
 obtain⟨xs,m,hn,hy,_,hl,hf⟩:=DataW.trod_struct ht h;subst hy;refine⟨m,hn,λi f hi=> ?_⟩
 have h1:=hf i f hi
 have hif:i<fs.size:=(pP.1 hi).1
 have h2:xs[i]?=some (xs[i]'(by omega)):=bO (by omega)
 refine⟨xs[i]'(by omega),h1.trans h2,?_⟩;refine sW (HP ht hw) (j:=i) (t:=f.type) (d:=(xs[i]'(by omega)).1) ?_ ?_
 ·rw[bE,N8,hi];rfl
 ·rw[bE,h2];rfl
theorem bz {fs:Array Field}{m:Nat}{cs:List Value}(hp:∀(i:Nat) (f:Field),fs[i]?=some f→∃z,Tr enc P W m f.type ((cs.drop f.offset).take (P.cellsOf f.type)) z∧nT (z.1.weights P f.type)=true)
 (i:Nat) {f:Field} {t:TypeId} {o k:Nat} (hi:fs[i]?=some f) (ht:f.type=t) (ho:f.offset=o) (hk:P.cellsOf t=k):∃z,Tr enc P W m t ((cs.drop o).take k) z∧nT (z.1.weights P t)=true:=by
 subst ht ho hk;exact hp i f hi
theorem Lh (R:Rp α){t e:TypeId}{LV:List Value}{d:DataW H}{p:List MemPlace}{fuel:Nat}(ht:P.underlying t=some (.slice e))(hc:P.cellsOf e=R.size)
 (lA:∀(n:Nat),n<fuel→∀(cs:List Value) (y:DataW H×List MemPlace),cs.length=R.size→Tr enc P W n e cs y→nT (y.1.weights P e)=true→∃x:α,cs=R.cells x∧R.wf x)
 (pZ:nT (d.weights P t)=true) (hf:Tr enc P W fuel t LV (d,p)):∃(v:Value) (xs:List α),LV=[v]∧v.oneCell'=true∧(sl R v xs).f (J.all W)∧((d= .nil∧xs=[])∨∃es sp,d= .slice es sp∧es.length=xs.length):=by
 rcases DataW.trod_slice ht hf with⟨kq,NR⟩|⟨a,len,cap,elems,rest,n,hn,kq,NR,_,hl,hm,hlen,he,_,_⟩
 ·exact⟨.slice none 0 0,[],kq,rfl,uN _ _,.inl ⟨by simpa using (Prod.mk.inj NR).1,rfl⟩⟩
 ·refine⟨.slice (some a) len cap,?_⟩
  rw[kq]
  suffices hs:∃xs:List α,(sl R (.slice (some a) len cap) xs).f (J.all W)∧((d= .nil∧xs=[])∨∃es sp,d= .slice es sp∧es.length=xs.length) by
   obtain⟨xs,h1,h2⟩:=hs;exact⟨xs,rfl,rfl,h1,h2⟩
  rcases Nat.eq_zero_or_pos len with hz|nc
  ·refine⟨[],⟨_,cap,by rw[hz];rfl,aR _,hm,(λx hx=>by cases hx),.inl rfl⟩,.inr ⟨_,_,(Prod.mk.inj NR).1,by rw[aQ,hlen,hz];rfl⟩⟩
  have each:∀i,i<len→∃x:α,R.wf x∧∀k u,k<R.size→(R.cells x)[k]?=some u→W.cell? ((a.add (i*R.size)).add k)=some u:=λi hi=>by
   have h0:=he i hi
   rw[bO (show i<elems.length by omega)]at h0;obtain⟨cs,h1,h2⟩:=oT.1 h0;rw[hc]at h1;obtain⟨_,h4,h5⟩:=World.cells?_some h1;obtain⟨x,rfl,hw⟩:=lA n (by omega) cs _ h4 h2 (B7 ht (by rw[(Prod.mk.inj NR).1]at pZ;exact pZ) (.inl (dq (gm (show i<elems.length by omega)))));exact⟨x,hw,λk u hk hu=>by rw[h5 k hk,hu]⟩
  obtain⟨x0,wi⟩:=each 0 (by omega)
  haveI:Inhabited α:=⟨x0⟩
  obtain⟨X,hX⟩:=choose_lt (α:=α) each
  have wI:((List.range len).map X).length=len:=by simp
  obtain⟨b,off,spot⟩:=a
  have Xu:∃u,(R.cells (X 0))[0]?=some u:=by
   have:=R.len (X 0)
   have:=R.pos
   exact⟨_,bO (by omega)⟩
  obtain⟨u0,Xu⟩:=Xu
  have LW:=(hX 0 (by omega)).2 0 u0 R.pos Xu
  rw[Nat.zero_mul,Deep.add_add]at LW;obtain⟨hs,C,e',fr,hb,_⟩:=j6 LW
  have NS:spot=none:=by simpa[Addr.add]using hs
  subst NS
  have hb:W.heap[b]?=some (.cells C e' fr):=by simpa[Addr.add]using hb
  refine⟨(List.range len).map X,⟨some ⟨b,off,none⟩,cap,by rw[wI],by rw[wI];exact hl,hm,?_,.inr ⟨b,off,C,e',fr,rfl,hb,?_⟩⟩,.inr ⟨_,_,(Prod.mk.inj NR).1,by simp[hlen]⟩⟩
  ·intro x Mx
   obtain⟨i,hi,rfl⟩:=ct.1 Mx;exact(hX i (cy.1 hi)).1
  ·intro j u hj
   obtain⟨i,k,x,h1,h2,h3,h4⟩:=CQ _ _ _ hj
   have qQ:i<((List.range len).map X).length:=(eD.1 h1).1
   rw[wI]at qQ
   have Gg:x=X i:=by simpa[qQ]using h1.symm
   subst Gg
   have:=(hX i qQ).2 k u h2 h4
   rw[Deep.add_add,←h3]at this;obtain⟨_,C',e'',fr',jZ,mh⟩:=j6 this
   have jZ:W.heap[b]?=some (.cells C' e'' fr'):=by
    by_cases h0:j=0
    ·subst h0;simpa[Addr.add]using jZ
    ·simpa[Addr.add,h0]using jZ
   have mh:C'[off+j]?=some u:=by
    by_cases h0:j=0
    ·subst h0;simpa[Addr.add]using mh
    ·simpa[Addr.add,h0]using mh
   rw[hb]at jZ
   simp only[Option.some.injEq,Obj.cells.injEq]at jZ
   rw[jZ.1];exact mh
def Rp.with {α:Type}(R:Rp α)(p:α→Prop):Rp α:=⟨R.size,R.pos,R.cells,λx=>R.wf x∧p x,R.len,R.one⟩
theorem Sz {R:Rp α}{p:α→Prop}{v:Value}{xs:List α}{ρ:Ro}(h:(sl (R.with p) v xs).f ρ):(sl R v xs).f ρ∧∀x∈xs,p x:=by
 obtain⟨a,cap,h1,h2,h3,h4,h5⟩:=h;exact⟨⟨a,cap,h1,h2,h3,λx hx=>(h4 x hx).1,h5⟩,λx hx=>(h4 x hx).2⟩
theorem Li {t e:TypeId}{es sp:List (DataW H)}(ht:P.underlying t=some (.slice e))(h:nT ((DataW.slice es sp).weights P t)=true):es.length*P.bytesOf e≤140737488351232:=by
 simp only[nT,DataW.weights,ht,List.all_cons,Bool.and_eq_true,decide_eq_true_eq]at h
 have h1:=h.1
 have h2:es.length*P.bytesOf e≤(es.length+sp.length)*P.bytesOf e:=gO _ (by omega)
 unfold reachBytes at h1;omega
theorem jQ (R:Rp α)(p:α→Prop){t e:TypeId}{LV:List Value}{y:DataW H×List MemPlace}{fuel:Nat}(ht:P.underlying t=some (.slice e))(hc:P.cellsOf e=R.size)
 (lA:∀(n:Nat),n<fuel→∀(cs:List Value) (y:DataW H×List MemPlace),cs.length=R.size→Tr enc P W n e cs y→nT (y.1.weights P e)=true→∃x:α,cs=R.cells x∧R.wf x∧p x)
 (hf:Tr enc P W fuel t LV y) (pZ:nT (y.1.weights P t)=true):∃(v:aY) (xs:List α),LV=[v.1]∧(sl R v.1 xs).f (J.all W)∧(∀x∈xs,p x)∧xs.length*P.bytesOf e≤140737488351232:=by
 obtain⟨v,xs,h1,h2,h3,h4⟩:=Lh (R.with p) (d:=y.1) (p:=y.2) ht hc (λn hn cs y hl hy hw=>by
  obtain⟨x,a,b⟩:=lA n hn cs y hl hy hw
  exact⟨x,a,b⟩) pZ hf
 obtain⟨h5,h6⟩:=Sz h3;refine⟨⟨v,h2⟩,xs,h1,h5,h6,?_⟩
 rcases h4 with⟨_,rfl⟩|⟨es,sp,he,hl⟩
 ·simp
 ·rw[he]at pZ
  rw[←hl];exact Li ht pZ
theorem lx {e:TypeId}(he:P.underlying e=some (.int .i64)){n:Nat}{cs:List Value}{y:DataW H×List MemPlace}(h:Tr enc P W n e cs y):∃x:Int,cs=[iv x]∧bP x:=by
 obtain⟨z,rfl,_,hw⟩:=DataW.trod_int he h;exact⟨z,rfl,wf_i64 hw⟩
theorem uW {e:TypeId}(he:P.underlying e=some .string){n:Nat}{cs:List Value}{y:DataW H×List MemPlace}(h:Tr enc P W n e cs y)(JU:nT (y.1.weights P e)=true):∃x:bI,cs=[sv x]∧xq x:=by
 obtain⟨s,rfl,hy,hw⟩:=DataW.trod_string he h;refine⟨s.data.toList,by rw[W7],?_⟩;subst hy
 simp only[nT,DataW.weights,reachBytes,List.all_cons,List.all_nil,Bool.and_true]at JU
 exact eS JU
end
end Go.J
namespace Go.J
open Go Go.ChangeShapes Go.WideShapes Go.ChangeAt Go.RowKit Go.Deep
section
variable {H:Type}{enc:TypeId×Value→H}{P:Program}{W:World}{α:Type}
end
end Go.J
namespace Go.Proofs.YtblifkgpebebmaaGreatDoor
open Go Go.J Go.ChangeShapes Go.WideShapes Go.ChangeAt Go.RowKit Go.Deep
theorem ab4 {α:Type}{l:List α}(h:l.length=1):∃a0,l=[a0]:=match l,h with
 | [a0],_=>⟨a0,rfl⟩
theorem EW {α:Type}{l:List α}(h:l.length=2):∃a0 a1,l=[a0,a1]:=match l,h with
 | [a0,a1],_=>⟨a0,a1,rfl⟩
theorem ab5 {α:Type}{l:List α}(h:l.length=3):∃a0 a1 a2,l=[a0,a1,a2]:=match l,h with
 | [a0,a1,a2],_=>⟨a0,a1,a2,rfl⟩
theorem ab6 {α:Type}{l:List α}(h:l.length=5):∃a0 a1 a2 a3 a4,l=[a0,a1,a2,a3,a4]:=match l,h with
 | [a0,a1,a2,a3,a4],_=>⟨a0,a1,a2,a3,a4,rfl⟩
theorem ab7 {α:Type}{l:List α}(h:l.length=6):∃a0 a1 a2 a3 a4 a5,l=[a0,a1,a2,a3,a4,a5]:=match l,h with
 | [a0,a1,a2,a3,a4,a5],_=>⟨a0,a1,a2,a3,a4,a5,rfl⟩
theorem ab8 {α:Type}{l:List α}(h:l.length=9):∃a0 a1 a2 a3 a4 a5 a6 a7 a8,l=[a0,a1,a2,a3,a4,a5,a6,a7,a8]:=match l,h with
 | [a0,a1,a2,a3,a4,a5,a6,a7,a8],_=>⟨a0,a1,a2,a3,a4,a5,a6,a7,a8,rfl⟩
theorem Y9 {α:Type}{l:List α}(h:l.length=10):∃a0 a1 a2 a3 a4 a5 a6 a7 a8 a9,l=[a0,a1,a2,a3,a4,a5,a6,a7,a8,a9]:=match l,h with
 | [a0,a1,a2,a3,a4,a5,a6,a7,a8,a9],_=>⟨a0,a1,a2,a3,a4,a5,a6,a7,a8,a9,rfl⟩
theorem ly:Tryz.prog.cellsOf 3=1:=by kernel_rfl
theorem pn:Tryz.prog.cellsOf 9=1:=by kernel_rfl
theorem T0:Tryz.prog.cellsOf 22=1:=by kernel_rfl
theorem T1:Tryz.prog.cellsOf 23=1:=by kernel_rfl
theorem T6:Tryz.prog.cellsOf 25=2:=by kernel_rfl
theorem T7:Tryz.prog.cellsOf 26=1:=by kernel_rfl
theorem T8:Tryz.prog.cellsOf 27=1:=by kernel_rfl
theorem T9:Tryz.prog.cellsOf 28=1:=by kernel_rfl
theorem Ce:Tryz.prog.cellsOf 30=1:=by kernel_rfl
theorem TA:Tryz.prog.cellsOf 32=5:=by kernel_rfl
theorem TB:Tryz.prog.cellsOf 58=1:=by kernel_rfl
theorem Nu:Tryz.prog.cellsOf 103=1:=by kernel_rfl
theorem EX:Tryz.prog.cellsOf 105=2:=by kernel_rfl
theorem Nv:Tryz.prog.cellsOf 106=1:=by kernel_rfl
theorem y7:Tryz.prog.cellsOf 108=6:=by kernel_rfl
theorem Nw:Tryz.prog.cellsOf 110=10:=by kernel_rfl
theorem Nx:Tryz.prog.cellsOf 115=9:=by kernel_rfl
theorem Ny:Tryz.prog.cellsOf 135=3:=by kernel_rfl
theorem Nz:Tryz.prog.cellsOf 156=2:=by kernel_rfl
theorem O0:Tryz.prog.cellsOf 161=1:=by kernel_rfl
theorem O1:Tryz.prog.cellsOf 163=2:=by kernel_rfl
theorem O2:Tryz.prog.cellsOf 165=2:=by kernel_rfl
section
variable {H:Type}{enc:TypeId×Value→H}{W:World}
theorem TC:∀(n:Nat) (cs:List Value) (y:DataW H×List MemPlace),cs.length=2→Tr enc Tryz.prog W n 165 cs y→nT (y.1.weights Tryz.prog 165)=true→∃x:dL,cs=aq.cells x∧aq.wf x∧True:=by
 intro n;intro cs y hl h hw;obtain⟨c0,c1,rfl⟩:=EW hl;obtain⟨m,rfl,hp⟩:=fT Tryz.underlying165 h hw;obtain⟨z0,t0,w0⟩:=bz hp 0 rfl rfl rfl ly
 have t0:Tr enc Tryz.prog W m 3 [c0] z0:=t0
 obtain⟨x0,e0,k0⟩:=lx Tryz.underlying3 t0;obtain⟨z1,t1,w1⟩:=bz hp 1 rfl rfl rfl ly
 have t1:Tr enc Tryz.prog W m 3 [c1] z1:=t1
 obtain⟨x1,e1,k1⟩:=lx Tryz.underlying3 t1
 simp only[List.cons.injEq,and_true]at e0
 subst e0
 simp only[List.cons.injEq,and_true]at e1
 subst e1;exact⟨⟨x0,x1⟩,rfl,⟨k0,k1⟩,trivial⟩
theorem TD:∀(n:Nat) (cs:List Value) (y:DataW H×List MemPlace),cs.length=2→Tr enc Tryz.prog W n 163 cs y→nT (y.1.weights Tryz.prog 163)=true→∃x:dW,cs=bW.cells x∧bW.wf x∧(bX x).f (J.all W):=by
 intro n;intro cs y hl h hw;obtain⟨c0,c1,rfl⟩:=EW hl;obtain⟨m,rfl,hp⟩:=fT Tryz.underlying163 h hw;obtain⟨z0,t0,w0⟩:=bz hp 0 rfl rfl rfl ly
 have t0:Tr enc Tryz.prog W m 3 [c0] z0:=t0
 obtain⟨x0,e0,k0⟩:=lx Tryz.underlying3 t0;obtain⟨z1,t1,w1⟩:=bz hp 1 rfl rfl rfl O0
 have t1:Tr enc Tryz.prog W m 161 [c1] z1:=t1
 obtain⟨x1,l1,e1,f1,k1,s1⟩:=jQ aq (λ_=>True) Tryz.underlying161 O2 (λn _=>TC n) t1 w1
 simp only[List.cons.injEq,and_true]at e0
 subst e0
 simp only[List.cons.injEq,and_true]at e1
 subst e1;exact⟨⟨x0,x1,l1⟩,rfl,k0,f1⟩
theorem y8:∀(n:Nat) (cs:List Value) (y:DataW H×List MemPlace),cs.length=1→Tr enc Tryz.prog W n 30 cs y→nT (y.1.weights Tryz.prog 30)=true→∃x:cU,cs=[x.nv.1]∧(aG x).f (J.all W):=by
 intro n;intro cs y hl h hw;obtain⟨c0,rfl⟩:=ab4 hl;obtain⟨m,rfl,hp⟩:=fT Tryz.underlying30 h hw;obtain⟨z0,t0,w0⟩:=bz hp 0 rfl rfl rfl T9
 have t0:Tr enc Tryz.prog W m 28 [c0] z0:=t0
 obtain⟨x0,l0,e0,f0,k0,s0⟩:=jQ bW (λx=>(bX x).f (J.all W)) Tryz.underlying28 O1 (λn _=>TD n) t0 w0
 simp only[List.cons.injEq,and_true]at e0
 subst e0
 exact⟨⟨x0,l0⟩,rfl,λd hd=>by
  simp only[jm,List.mem_cons,List.not_mem_nil,or_false]at hd
  rcases hd with rfl|rfl
  ·exact f0
  ·exact k0⟩
theorem ab9:∀(n:Nat) (cs:List Value) (y:DataW H×List MemPlace),cs.length=2→Tr enc Tryz.prog W n 156 cs y→nT (y.1.weights Tryz.prog 156)=true→∃x:xu,cs=qS.cells x∧qS.wf x∧(xy x).f (J.all W):=by
 intro n;intro cs y hl h hw;obtain⟨c0,c1,rfl⟩:=EW hl;obtain⟨m,rfl,hp⟩:=fT Tryz.underlying156 h hw;obtain⟨z0,t0,w0⟩:=bz hp 0 rfl rfl rfl pn
 have t0:Tr enc Tryz.prog W m 9 [c0] z0:=t0
 obtain⟨x0,e0,k0⟩:=uW Tryz.underlying9 t0 w0;obtain⟨z1,t1,w1⟩:=bz hp 1 rfl rfl rfl TB
 have t1:Tr enc Tryz.prog W m 58 [c1] z1:=t1
 obtain⟨x1,l1,e1,f1,k1,s1⟩:=jQ aL (λ_=>True) Tryz.underlying58 ly (λn _ cs y hl h _=>by obtain⟨x,e,w⟩:=lx Tryz.underlying3 h;exact⟨x,e,w,trivial⟩) t1 w1
 simp only[List.cons.injEq,and_true]at e0
 subst e0
 simp only[List.cons.injEq,and_true]at e1
 subst e1;exact⟨⟨x0,x1,l1⟩,rfl,k0,f1⟩
theorem TE:∀(n:Nat) (cs:List Value) (y:DataW H×List MemPlace),cs.length=3→Tr enc Tryz.prog W n 135 cs y→nT (y.1.weights Tryz.prog 135)=true→∃x:j8,cs=gZ.cells x∧gZ.wf x∧True:=by
 intro n;intro cs y hl h hw;obtain⟨c0,c1,c2,rfl⟩:=ab5 hl;obtain⟨m,rfl,hp⟩:=fT Tryz.underlying135 h hw;obtain⟨z0,t0,w0⟩:=bz hp 0 rfl rfl rfl pn
 have t0:Tr enc Tryz.prog W m 9 [c0] z0:=t0
 obtain⟨x0,e0,k0⟩:=uW Tryz.underlying9 t0 w0;obtain⟨z1,t1,w1⟩:=bz hp 1 rfl rfl rfl ly
 have t1:Tr enc Tryz.prog W m 3 [c1] z1:=t1
 obtain⟨x1,e1,k1⟩:=lx Tryz.underlying3 t1;obtain⟨z2,t2,w2⟩:=bz hp 2 rfl rfl rfl ly
 have t2:Tr enc Tryz.prog W m 3 [c2] z2:=t2
 obtain⟨x2,e2,k2⟩:=lx Tryz.underlying3 t2
 simp only[List.cons.injEq,and_true]at e0
 subst e0
 simp only[List.cons.injEq,and_true]at e1
 subst e1
 simp only[List.cons.injEq,and_true]at e2
 subst e2;exact⟨⟨x0,x1,x2⟩,rfl,⟨k0,k1,k2⟩,trivial⟩
theorem YA:∀(n:Nat) (cs:List Value) (y:DataW H×List MemPlace),cs.length=2→Tr enc Tryz.prog W n 105 cs y→nT (y.1.weights Tryz.prog 105)=true→∃x:fK,cs=nH.cells x∧nH.wf x∧sb (J.all W) x:=by
 intro n
 induction n using Nat.strongRecOn with
 |_ n ih=>
 intro cs y hl h hw;obtain⟨c0,c1,rfl⟩:=EW hl;obtain⟨m,rfl,hp⟩:=fT Tryz.underlying105 h hw;obtain⟨z0,t0,w0⟩:=bz hp 0 rfl rfl rfl pn
 have t0:Tr enc Tryz.prog W m 9 [c0] z0:=t0
 obtain⟨x0,e0,k0⟩:=uW Tryz.underlying9 t0 w0;obtain⟨z1,t1,w1⟩:=bz hp 1 rfl rfl rfl Nu
 have t1:Tr enc Tryz.prog W m 103 [c1] z1:=t1
 obtain⟨x1,l1,e1,f1,k1,s1⟩:=jQ nH (sb (J.all W)) Tryz.underlying103 EX (λk hk=>ih k (by omega)) t1 w1
 simp only[List.cons.injEq,and_true]at e0
 subst e0
 simp only[List.cons.injEq,and_true]at e1
 subst e1;exact⟨.mk x0 x1 l1,rfl,k0,.mk f1 k1⟩
theorem Jg:∀(n:Nat) (cs:List Value) (y:DataW H×List MemPlace),cs.length=6→Tr enc Tryz.prog W n 108 cs y→nT (y.1.weights Tryz.prog 108)=true→∃x:dM,cs=pI.cells x∧pI.wf x∧pj (J.all W) x:=by
 intro n
 induction n using Nat.strongRecOn with
 |_ n ih=>
 intro cs y hl h hw;obtain⟨c0,c1,c2,c3,c4,c5,rfl⟩:=ab7 hl;obtain⟨m,rfl,hp⟩:=fT Tryz.underlying108 h hw;obtain⟨z0,t0,w0⟩:=bz hp 0 rfl rfl rfl ly
 have t0:Tr enc Tryz.prog W m 3 [c0] z0:=t0
 obtain⟨x0,e0,k0⟩:=lx Tryz.underlying3 t0;obtain⟨z1,t1,w1⟩:=bz hp 1 rfl rfl rfl pn
 have t1:Tr enc Tryz.prog W m 9 [c1] z1:=t1
 obtain⟨x1,e1,k1⟩:=uW Tryz.underlying9 t1 w1;obtain⟨z2,t2,w2⟩:=bz hp 2 rfl rfl rfl ly
 have t2:Tr enc Tryz.prog W m 3 [c2] z2:=t2
 obtain⟨x2,e2,k2⟩:=lx Tryz.underlying3 t2;obtain⟨z3,t3,w3⟩:=bz hp 3 rfl rfl rfl EX
 have t3:Tr enc Tryz.prog W m 105 [c3,c4] z3:=t3
 obtain⟨x3,e3,k3,q3⟩:=YA _ _ _ rfl t3 w3;obtain⟨z4,t4,w4⟩:=bz hp 4 rfl rfl rfl Nv
 have t4:Tr enc Tryz.prog W m 106 [c5] z4:=t4
 obtain⟨x4,l4,e4,f4,k4,s4⟩:=jQ pI (pj (J.all W)) Tryz.underlying106 y7 (λk hk=>ih k (by omega)) t4 w4
 simp only[List.cons.injEq,and_true]at e0
 subst e0
 simp only[List.cons.injEq,and_true]at e1
 subst e1
 simp only[List.cons.injEq,and_true]at e2
 subst e2
 cases e3
 simp only[List.cons.injEq,and_true]at e4
 subst e4;exact⟨.mk x0 x1 x2 x3 x4 l4,rfl,⟨k0,k1,k2,k3⟩,.mk q3 f4 k4⟩
theorem TF:∀(n:Nat) (cs:List Value) (y:DataW H×List MemPlace),cs.length=10→Tr enc Tryz.prog W n 110 cs y→nT (y.1.weights Tryz.prog 110)=true→∃x:dC,cs=cY.cells x∧cY.wf x∧(cK x).f (J.all W):=by
 intro n;intro cs y hl h hw;obtain⟨c0,c1,c2,c3,c4,c5,c6,c7,c8,c9,rfl⟩:=Y9 hl;obtain⟨m,rfl,hp⟩:=fT Tryz.underlying110 h hw;obtain⟨z0,t0,w0⟩:=bz hp 0 rfl rfl rfl pn
 have t0:Tr enc Tryz.prog W m 9 [c0] z0:=t0
 obtain⟨x0,e0,k0⟩:=uW Tryz.underlying9 t0 w0;obtain⟨z1,t1,w1⟩:=bz hp 1 rfl rfl rfl Ce
 have t1:Tr enc Tryz.prog W m 30 [c1] z1:=t1
 obtain⟨x1,e1,q1⟩:=y8 _ _ _ rfl t1 w1;obtain⟨z2,t2,w2⟩:=bz hp 2 rfl rfl rfl ly
 have t2:Tr enc Tryz.prog W m 3 [c2] z2:=t2
 obtain⟨x2,e2,k2⟩:=lx Tryz.underlying3 t2;obtain⟨z3,t3,w3⟩:=bz hp 3 rfl rfl rfl ly
 have t3:Tr enc Tryz.prog W m 3 [c3] z3:=t3
 obtain⟨x3,e3,k3⟩:=lx Tryz.underlying3 t3;obtain⟨z4,t4,w4⟩:=bz hp 4 rfl rfl rfl y7
 have t4:Tr enc Tryz.prog W m 108 [c4,c5,c6,c7,c8,c9] z4:=t4
 obtain⟨x4,e4,k4,q4⟩:=Jg _ _ _ rfl t4 w4
 simp only[List.cons.injEq,and_true]at e0
 subst e0
 cases e1
 simp only[List.cons.injEq,and_true]at e2
 subst e2
 simp only[List.cons.injEq,and_true]at e3
 subst e3
 cases e4
 exact⟨⟨x0,x1,x2,x3,x4⟩,rfl,⟨k0,k2,k3,k4⟩,λd hd=>by
  simp only[Np,List.mem_cons,List.not_mem_nil,or_false]at hd
  rcases hd with rfl|rfl
  ·exact q1
  ·exact q4⟩
theorem YB:∀(n:Nat) (cs:List Value) (y:DataW H×List MemPlace),cs.length=9→Tr enc Tryz.prog W n 115 cs y→nT (y.1.weights Tryz.prog 115)=true→∃x:fN,cs=eF.cells x∧eF.wf x∧(eB x).f (J.all W):=by
 intro n;intro cs y hl h hw;obtain⟨c0,c1,c2,c3,c4,c5,c6,c7,c8,rfl⟩:=ab8 hl;obtain⟨m,rfl,hp⟩:=fT Tryz.underlying115 h hw;obtain⟨z0,t0,w0⟩:=bz hp 0 rfl rfl rfl pn
 have t0:Tr enc Tryz.prog W m 9 [c0] z0:=t0
 obtain⟨x0,e0,k0⟩:=uW Tryz.underlying9 t0 w0;obtain⟨z1,t1,w1⟩:=bz hp 1 rfl rfl rfl Ce
 have t1:Tr enc Tryz.prog W m 30 [c1] z1:=t1
 obtain⟨x1,e1,q1⟩:=y8 _ _ _ rfl t1 w1;obtain⟨z2,t2,w2⟩:=bz hp 2 rfl rfl rfl ly
 have t2:Tr enc Tryz.prog W m 3 [c2] z2:=t2
 obtain⟨x2,e2,k2⟩:=lx Tryz.underlying3 t2;obtain⟨z3,t3,w3⟩:=bz hp 3 rfl rfl rfl y7
 have t3:Tr enc Tryz.prog W m 108 [c3,c4,c5,c6,c7,c8] z3:=t3
 obtain⟨x3,e3,k3,q3⟩:=Jg _ _ _ rfl t3 w3
 simp only[List.cons.injEq,and_true]at e0
 subst e0
 cases e1
 simp only[List.cons.injEq,and_true]at e2
 subst e2
 cases e3
 exact⟨⟨x0,x1,x2,x3⟩,rfl,⟨k0,k2,k3⟩,λd hd=>by
  simp only[Y6,List.mem_cons,List.not_mem_nil,or_false]at hd
  rcases hd with rfl|rfl
  ·exact q1
  ·exact q3⟩
theorem TG:∀(n:Nat) (cs:List Value) (y:DataW H×List MemPlace),cs.length=2→Tr enc Tryz.prog W n 25 cs y→nT (y.1.weights Tryz.prog 25)=true→∃(tv:aY) (ts:List xu) (fv:aY) (fs:List j8),cs=[tv.1,fv.1]∧∀d∈WB tv fv ts fs,d.f (J.all W):=by
 intro n;intro cs y hl h hw;obtain⟨c0,c1,rfl⟩:=EW hl;obtain⟨m,rfl,hp⟩:=fT Tryz.underlying25 h hw;obtain⟨z0,t0,w0⟩:=bz hp 0 rfl rfl rfl T0
 have t0:Tr enc Tryz.prog W m 22 [c0] z0:=t0
 obtain⟨x0,l0,e0,f0,k0,s0⟩:=jQ qS (λx=>(xy x).f (J.all W)) Tryz.underlying22 Nz (λn _=>ab9 n) t0 w0;obtain⟨z1,t1,w1⟩:=bz hp 1 rfl rfl rfl T1
 have t1:Tr enc Tryz.prog W m 23 [c1] z1:=t1
 obtain⟨x1,l1,e1,f1,k1,s1⟩:=jQ gZ (λ_=>True) Tryz.underlying23 Ny (λn _=>TE n) t1 w1
 simp only[List.cons.injEq,and_true]at e0
 subst e0
 simp only[List.cons.injEq,and_true]at e1
 subst e1
 exact⟨x0,l0,x1,l1,rfl,λd hd=>by
  simp only[WB,List.mem_cons,List.not_mem_nil,or_false]at hd
  rcases hd with rfl|rfl|rfl
  ·exact f0
  ·exact k0
  ·exact f1⟩
theorem YC:∀(n:Nat) (cs:List Value) (y:DataW H×List MemPlace),cs.length=5→Tr enc Tryz.prog W n 32 cs y→nT (y.1.weights Tryz.prog 32)=true→∃x:ja,cs=lh x∧(kW x).f (J.all W):=by
 intro n cs y hl h hw;obtain⟨c0,c1,c2,c3,c4,rfl⟩:=ab6 hl;obtain⟨m,rfl,hp⟩:=fT Tryz.underlying32 h hw;obtain⟨z0,t0,w0⟩:=bz hp 0 rfl rfl rfl T6
 have t0:Tr enc Tryz.prog W m 25 [c0,c1] z0:=t0
 obtain⟨tv,ts,fv,fs,e0,q0⟩:=TG _ _ _ rfl t0 w0;obtain⟨z1,t1,w1⟩:=bz hp 1 rfl rfl rfl T7
 have t1:Tr enc Tryz.prog W m 26 [c2] z1:=t1
 obtain⟨x1,l1,e1,f1,k1,_⟩:=jQ cY (λx=>(cK x).f (J.all W)) Tryz.underlying26 Nw (λn _=>TF n) t1 w1;obtain⟨z2,t2,w2⟩:=bz hp 2 rfl rfl rfl T8
 have t2:Tr enc Tryz.prog W m 27 [c3] z2:=t2
 obtain⟨x2,l2,e2,f2,k2,_⟩:=jQ eF (λx=>(eB x).f (J.all W)) Tryz.underlying27 Nx (λn _=>YB n) t2 w2;obtain⟨z3,t3,w3⟩:=bz hp 3 rfl rfl rfl Ce
 have t3:Tr enc Tryz.prog W m 30 [c4] z3:=t3
 obtain⟨x3,e3,q3⟩:=y8 _ _ _ rfl t3 w3
 simp only[List.cons.injEq,and_true]at e0 e1 e2 e3
 obtain⟨rfl,rfl⟩:=e0;subst e1 e2 e3;refine⟨⟨tv,ts,fv,fs,x1,l1,x2,l2,x3⟩,rfl,λd hd=> ?_⟩
 have h0:=q0 _ (aU ..)
 have h1:=q0 _ (cE _ (aU ..))
 have h2:=q0 _ (cE _ (cE _ (aU ..)))
 simp only[Lg,List.mem_cons,List.not_mem_nil,or_false]at hd
 rcases hd with rfl|rfl|rfl|rfl|rfl|rfl|rfl|rfl
 ·exact h0
 ·exact h1
 ·exact h2
 ·exact f1
 ·exact k1
 ·exact f2
 ·exact k2
 ·exact q3
theorem O3 {v:Value}{d:DataW H}{p:List MemPlace}{NT:Nat}(hv:Value.okWide Tryz.prog W .any NT 32 v)(hw:nT (d.weights Tryz.prog 32)=true)(h:DataW.Trod enc Tryz.prog W 0 (λ_=>true) true 32 v d p):∃x:ja,v=kC x∧(kW x).f (J.all W):=by
 obtain⟨cs,rfl,hc⟩:=okWide_struct Tryz.underlying32 hv;obtain⟨fuel,hf⟩:=h;obtain⟨x,e,q⟩:=YC fuel cs.toList (d,p) (by rw[Array.length_toList,hc,TA]) hf hw;exact⟨x,congrArg Value.agg (Array.toList_inj.1 e),q⟩
end
end Go.Proofs.YtblifkgpebebmaaGreatDoor
namespace Go.J
open Go Go.Lib
def EY (v:Nat):Nat:=if v<128 then 1 else if v<2048 then 2 else if v<65536 then 3 else 4
def Cf (d:Nat×Nat):Bool:=decide (d.1=65533∧d.2≤1)
def wM (v:Int):Bool:=decide (0≤v∧v≤1114111∧(v<55296∨57343<v))
theorem Cg (v:Nat):1≤EY v∧EY v≤4:=by
 unfold EY
 repeat' split
 all_goals omega
theorem Jh {r w:Nat}(h:(r<128∧w=1)∨(128≤r∧r<2048∧w=2)∨(2048≤r∧r<65536∧w=3∧(r<55296∨57343<r))∨(65536≤r∧r≤1114111∧w=4)):Cf (r,w)=false∧w=EY r∧wM r=true:=by
 refine⟨eL (by show ¬(r=65533∧w≤1);omega),?_,dH (by omega)⟩;unfold EY
 repeat' split
 all_goals omega
theorem Ji {n b0 b1 b2 b3:Nat}:decodeN n b0 b1 b2 b3=(65533,1)∨(Cf (decodeN n b0 b1 b2 b3)=false∧(decodeN n b0 b1 b2 b3).2=EY (decodeN n b0 b1 b2 b3).1∧wM ((decodeN n b0 b1 b2 b3).1:Int)=true):=by
 unfold decodeN
 by_cases q0:b0<128
 ·rw[aB q0];exact .inr (Jh (by omega))
 ·rw[aA q0]
  by_cases q1:b0/32=6∧(1<n∧b1/64=2)
  ·rw[aB q1]
   by_cases q2:b0%32*64+b1%64≥128
   ·rw[aB q2];exact .inr (Jh (by omega))
   ·rw[aA q2];exact .inl rfl
  ·rw[aA q1]
   by_cases q3:b0/16=14∧(1<n∧b1/64=2)∧(2<n∧b2/64=2)
   ·rw[aB q3]
    by_cases q4:b0%16*4096+b1%64*64+b2%64≥2048∧(b0%16*4096+b1%64*64+b2%64<55296∨(57344≤b0%16*4096+b1%64*64+b2%64∧b0%16*4096+b1%64*64+b2%64≤1114111))
    ·rw[aB q4];exact .inr (Jh (by omega))
    ·rw[aA q4];exact .inl rfl
   ·rw[aA q3]
    by_cases q5:b0/8=30∧(1<n∧b1/64=2)∧(2<n∧b2/64=2)∧(3<n∧b3/64=2)
    ·rw[aB q5]
     by_cases q6:b0%8*262144+b1%64*4096+b2%64*64+b3%64≥65536∧(b0%8*262144+b1%64*4096+b2%64*64+b3%64<55296∨(57344≤b0%8*262144+b1%64*4096+b2%64*64+b3%64∧b0%8*262144+b1%64*4096+b2%64*64+b3%64≤1114111))
     ·rw[aB q6];exact .inr (Jh (by omega))
     ·rw[aA q6];exact .inl rfl
    ·rw[aA q5];exact .inl rfl
theorem Lj {n m b0 b1 b2 b3 c1 c2 c3:Nat}(hn:n≤m)(e1:1<n→c1=b1)(e2:2<n→c2=b2)(e3:3<n→c3=b3)(h:decodeN n b0 b1 b2 b3≠(65533,1)):decodeN m b0 c1 c2 c3=decodeN n b0 b1 b2 b3:=by
 unfold decodeN at h⊢
 by_cases q0:b0<128
 ·rw[aB q0,aB q0]
 ·rw[aA q0]at h⊢
  rw[aA q0]
  by_cases q1:b0/32=6∧(1<n∧b1/64=2)
  ·obtain rfl:=e1 q1.2.1
   rw[aB q1,aB ⟨q1.1,by omega,q1.2.2⟩]
  ·rw[aA q1]at h⊢
   by_cases q3:b0/16=14∧(1<n∧b1/64=2)∧(2<n∧b2/64=2)
   ·obtain rfl:=e1 q3.2.1.1
    obtain rfl:=e2 q3.2.2.1;rw[aB q3,aA (by omega),aB ⟨q3.1,⟨by omega,q3.2.1.2⟩,by omega,q3.2.2.2⟩]
   ·rw[aA q3]at h⊢
    by_cases q5:b0/8=30∧(1<n∧b1/64=2)∧(2<n∧b2/64=2)∧(3<n∧b3/64=2)
    ·obtain rfl:=e1 q5.2.1.1
     obtain rfl:=e2 q5.2.2.1.1;obtain rfl:=e3 q5.2.2.2.1;rw[aB q5,aA (by omega),aA (by omega),aB ⟨q5.1,⟨by omega,q5.2.1.2⟩,⟨by omega,q5.2.2.1.2⟩,by omega,q5.2.2.2.2⟩]
    ·rw[aA q5]at h
     exact absurd rfl h
def TH (s:bI):Option Nat:=if Cf (decodeL s)then none else some (decodeL s).1
theorem y9 {s:bI}{v:Nat}(hs:0<s.length)(h:TH s=some v):(decodeL s).2=EY v∧(decodeL s).1=v∧wM v=true∧EY v≤s.length:=by
 unfold TH at h
 have hb:=jl (s:=s) (p:=0) hs
 rw[List.drop_zero,gP]at hb;rw[decodeL_N]at h hb⊢
 split at h
 ·cases h
 ·rename_i Ch
  obtain rfl:=Option.some.inj h
  rcases Ji (n:=s.length) (b0:=(s.getD 0 0).toNat) (b1:=(s.getD 1 0).toNat) (b2:=(s.getD 2 0).toNat) (b3:=(s.getD 3 0).toNat)with e|⟨_,h2,h3⟩
  ·rw[e]at Ch;exact absurd rfl Ch
  ·exact⟨h2,rfl,h3,by rw[←h2];exact hb.2.1⟩
theorem TI {s:bI}{v:Nat}(t:bI)(hs:0<s.length)(h:TH s=some v):TH (s++t)=some v:=by
 have g:∀i,i<s.length→((s++t).getD i 0).toNat=(s.getD i 0).toNat:=λi hi=>by
  rw[ak,pd hi,←ak]
 unfold TH at h⊢;rw[decodeL_N]at h⊢;rw[g 0 hs,Lj (n:=s.length) (b1:=(s.getD 1 0).toNat) (b2:=(s.getD 2 0).toNat) (b3:=(s.getD 3 0).toNat) (by rw[bA];omega) (g 1) (g 2) (g 3)]
 ·exact h
 ·intro e;rw[e]at h;cases h
inductive yA:bI→List Nat→Prop
 |nil:yA [] []
 |cons {s:bI} {v:Nat} {l:List Nat}:0<s.length→TH s=some v→yA (s.drop (EY v)) l→yA s (v::l)
def gg:List Nat→Nat
 | []=>0
 |v::l=>EY v+gg l
theorem sf (a b:List Nat):gg (a++b)=gg a+gg b:=by
 induction a with
 |nil=>simp[gg]
 |cons x a ih=>rw[r7,gg,gg,ih];omega
theorem yB (a:List Nat):a.length≤gg a∧gg a≤4*a.length:=by
 induction a with
 |nil=>exact⟨aW _,aW _⟩
 |cons x a ih=>have:=Cg x;rw[gg,dy];omega
theorem Lk {l:List Nat}{i v:Nat}(h:l[i]?=some v):gg (l.take (i+1))=gg (l.take i)+EY v:=by
 rw[List.take_add_one,sf,h];rfl
theorem oe (l:List Nat)(i:Nat):gg (l.take i)≤gg l:=by
 have:=sf (l.take i) (l.drop i)
 rw[sO]at this;omega
theorem BC {l:List Nat}{i j:Nat}(h:i≤j):gg (l.take i)≤gg (l.take j):=by
 have:=oe (l.take j) i
 rw[List.take_take,ji h]at this;exact this
theorem yA.len {s:bI}{l:List Nat}(h:yA s l):s.length=gg l:=by
 induction h with
 |nil=>rfl
 |cons h0 h1 _ ih=>have:=(y9 h0 h1).2.2.2;rw[lT]at ih;rw[gg];omega
theorem yA.wM {s:bI}{l:List Nat}(h:yA s l):∀v∈l,wM v=true:=by
 induction h with
 |nil=>intro v hv;cases hv
 |cons h0 h1 _ ih=>
  intro v hv
  rcases cD.1 hv with rfl|hv
  ·exact(y9 h0 h1).2.2.1
  ·exact ih v hv
theorem yA.app {a b:bI}{l m:List Nat}(h:yA a l)(hb:yA b m):yA (a++b) (l++m):=by
 induction h with
 |nil=>exact hb
 |cons h0 h1 _ ih=>
  refine .cons (by rw[bA];omega) (TI b h0 h1) ?_;rw[List.drop_append_of_le_length (y9 h0 h1).2.2.2];exact ih
def wN (s:bI):Nat→Nat→List Nat×Option Nat
 |0,_=>([],none)
 |f+1,i=>if s.length≤i then([],none)else if Cf (decodeL (s.drop i))then([],some i)else
  ((decodeL (s.drop i)).1::(wN s f (i+(decodeL (s.drop i)).2)).1,(wN s f (i+(decodeL (s.drop i)).2)).2)
theorem Jj (s:bI):∀(f i:Nat),s.length-i≤f→(wN s f i).2=none→yA (s.drop i) (wN s f i).1
 |0,i,hf,_=>by rw[fX (by omega)];exact .nil
 |f+1,i,hf,h=>by
  rw[wN]at h⊢
  by_cases hi:s.length≤i
  ·rw[aB hi,fX hi];exact .nil
  ·rw[aA hi]at h⊢
   cases hb:Cf (decodeL (s.drop i))with
   |true=>rw[hb,aB rfl]at h;cases h
   |false=>
    rw[hb,aA (by decide)]at h;rw[aA (by decide)]
    have hd:=jl (s:=s) (p:=i) (by omega)
    have h1:TH (s.drop i)=some (decodeL (s.drop i)).1:=by unfold TH;rw[hb];rfl
    have h0:0<(s.drop i).length:=by rw[lT];omega
    refine .cons h0 h1 ?_;rw[←(y9 h0 h1).1,List.drop_drop];exact Jj s f _ (by omega) h
theorem TJ {t:bI}{l:List Nat}(h:yA t l):∀(s:bI) (f i:Nat),s.drop i=t→l.length≤f→i≤s.length→wN s f i=(l,none):=by
 induction h with
 |nil=>
  intro s f i hs hf hi
  have:s.length≤i:=by have:=congrArg List.length hs;rw[lT,List.length_nil]at this;omega
  cases f with
  |zero=>rfl
  |succ f=>rw[wN,aB this]
 | @cons t v l h0 h1 _ ih=>
  intro s f i hs hf hi
  obtain⟨f,rfl⟩:∃g,f=g+1:=⟨f-1,by rw[dy]at hf;omega⟩
  have hw:=y9 h0 h1
  have hl:t.length=s.length-i:=by rw[←hs,lT]
  have hb:Cf (decodeL t)=false:=by
   unfold TH at h1
   cases hb:Cf (decodeL t)with
   |false=>rfl
   |true=>rw[hb,aB rfl]at h1;cases h1
  rw[wN,aA (by omega),hs,hb,aA (by decide),hw.1,hw.2.1,ih s f (i+EY v) (by rw[←List.drop_drop,hs]) (by rw[dy]at hf;omega) (by omega)]
def jo (s:bI):List Nat×Int×Int:=if 4000<s.length then([],1,-1)else match(wN s s.length 0).2 with
 |some i=>([],5,(i:Int))
 |none=>((wN s s.length 0).1,0,0)
theorem Ci {s:bI}(h:(jo s).2.1=0):s.length≤4000∧(jo s).2=(0,0)∧yA s (jo s).1:=by
 unfold jo at h⊢
 by_cases h0:4000<s.length
 ·rw[aB h0]at h;cases h
 ·rw[aA h0]at h⊢
  have:=Jj s s.length 0 (by omega)
  cases e:(wN s s.length 0).2 with
  |some i=>rw[e]at h;cases h
  |none=>exact⟨by omega,rfl,this e⟩
theorem O4 {s:bI}{l:List Nat}(h:yA s l)(h0:s.length≤4000):jo s=(l,0,0):=by
 unfold jo
 have:=yB l
 rw[aA (by omega),TJ h s s.length 0 rfl (by rw[h.len];omega) (aR _)]
def O5 (p:Int):List Int→Bool
 |a::b::r=>decide (a≤p∧p≤b)||O5 p r
 |_=>false
def cls (p:Nat):Nat:=
 if p=9∨p=10∨p=13∨p=32∨p=160 then 5 else if p=46∨p=33∨p=63 then 6 else if O5 p [48,57]then 4 else if O5 p [768,879]then 3 else
 if O5 p [65,90,97,122,192,214,216,246,248,591,913,929,931,937,945,969,1040,1103,7688,7689]then 2 else 1
def wdB (c:Nat)(r:List Nat):Bool:=decide ((cls c=2∨cls c=3)∨((c=45∨c=39)∧r.head?.map cls=some 2))
def Dl:List Nat→Nat
 | []=>0
 |c::r=>if wdB c r then Dl r+1 else 0
def dgB (c:Nat)(r:List Nat):Bool:=decide (cls c=4∨((c=46∨c=44)∧r.head?.map cls=some 4))
def Dm:List Nat→Nat
 | []=>0
 |c::r=>if dgB c r then Dm r+1 else 0
theorem HQ:∀r,Dl r≤r.length
 | []=>aW _
 |c::r=>by have:=HQ r;rw[Dl,dy];split<;>omega
theorem HR:∀r,Dm r≤r.length
 | []=>aW _
 |c::r=>by have:=HR r;rw[Dm,dy];split<;>omega
def jF (c:Nat)(r:List Nat):Nat×Nat:=if cls c=2 then(1,Dl r+1)else if cls c=4 then(2,Dm r+1)else if cls c=6 then(3,1)else(4,1)
theorem Jk (c:Nat)(r:List Nat):1≤(jF c r).2∧(jF c r).2≤r.length+1:=by
 have h1:=HQ r
 have h2:=HR r
 unfold jF
 repeat' split
 all_goals (dsimp only;omega)
def nK:Nat→Nat→List Nat→List (Nat×Nat×Nat)
 |0,_,_=>[]
 |_+1,_,[]=>[]
 |f+1,i,c::r=>if cls c=5 then nK f (i+1) r else((jF c r).1,i,i+(jF c r).2)::nK f (i+(jF c r).2) (r.drop ((jF c r).2-1))
def YD (s:bI)(l:List Nat)(t:Nat×Nat×Nat):Nat×Nat×Nat×bI:=(t.1,gg (l.take t.2.1),gg (l.take t.2.2),(s.take (gg (l.take t.2.2))).drop (gg (l.take t.2.1)))
def gU (s:bI):List (Nat×Nat×Nat×bI)×Int×Int:=
 if(jo s).2.1≠0 then([],(jo s).2)else if 300<(nK (jo s).1.length 0 (jo s).1).length then([],2,-1)else((nK (jo s).1.length 0 (jo s).1).map (YD s (jo s).1),0,0)
def BD (w:bI):Nat:=((gU w).1.getD 0 (0,0,0,[])).1
def Cj (w:bI):Bool:=decide ((gU w).2=(0,0)∧(gU w).1.length=1∧((gU w).1.getD 0 (0,0,0,[])).2.2.2=w)
def og (i:Nat)(w:bI):List bI:=if 0<i∧BD w≠3 then [[32]]else []
def eY:Nat→List bI→List bI×Int×Int
 |_,[]=>([],0,0)
 |i,w::r=>if(gU w).2.1=1 then([],1,(i:Int))else if Cj w then(og i w++w::(eY (i+1) r).1,(eY (i+1) r).2)else([],5,(i:Int))
def fx (ws:List bI):bI×Int×Int:=
 if 300<ws.length then([],2,-1)else if(eY 0 ws).2.1≠0 then([],(eY 0 ws).2)else if 4000<(eY 0 ws).1.flatten.length then([],1,-1)else((eY 0 ws).1.flatten,0,0)
theorem wj:∀(f i:Nat) (l:List Nat),∀t∈nK f i l,i≤t.2.1
 |0,_,_,t,ht=>by cases ht
 |_+1,_,[],t,ht=>by cases ht
 |f+1,i,c::r,t,ht=>by
  rw[nK]at ht
  split at ht
  ·have:=wj f (i+1) r t ht;omega
  ·rcases cD.1 ht with rfl|ht
   ·exact aW _
   ·have:=wj f _ _ t ht;omega
theorem O6 {w:bI}{a b:Nat}(h:(w.take b).drop a=w)(hw:0<w.length):a=0∧w.length≤b:=by
 have:=congrArg List.length h
 rw[lT,e9]at this;omega
theorem EZ {w:bI}(h:Cj w=true):∃c r,yA w (c::r)∧cls c≠5∧jF c r=(BD w,r.length+1):=by
 obtain⟨h1,h2,h3⟩:=eS h
 have hk:BD w=((gU w).1.getD 0 (0,0,0,[])).1:=rfl
 have hd:(jo w).2.1=0:=by
  apply Classical.byContradiction
  intro hd;unfold gU at h2
  rw[aB hd]at h2;cases h2
 obtain⟨_,_,hl⟩:=Ci hd;unfold gU at h2 h3 hk;rw[aA (by rw[hd];decide)]at h2 h3 hk
 generalize (jo w).1=l at*
 by_cases YE:300<(nK l.length 0 l).length
 ·rw[aB YE]at h2;cases h2
 ·rw[aA YE]at h2 h3 hk
  dsimp only at h2 h3 hk
  rw[aQ]at h2;obtain⟨t,ht⟩:=List.length_eq_one_iff.1 h2
  have hge:=wj l.length 0 l
  cases l with
  |nil=>cases h2
  |cons c r=>
   have hlen:=hl.len
   have hwd:=Cg c
   rw[gg]at hlen;rw[ht]at h3 hk
   have h3:(w.take (gg ((c::r).take t.2.2))).drop (gg ((c::r).take t.2.1))=w:=h3
   have hk:BD w=t.1:=hk
   obtain⟨ha,hb⟩:=O6 h3 (by omega);rw[dy,nK]at ht
   by_cases h5:cls c=5
   ·rw[aB h5]at ht
    have:=wj r.length 1 r t (by rw[show(1:Nat)=0+1 from rfl,ht];exact aU ..)
    have:=BC (l:=c::r) this
    rw[List.take_succ_cons,gg]at this;omega
   ·rw[aA h5]at ht
    obtain rfl:=(List.cons.inj ht).1
    have hle:=Jk c r
    refine⟨c,r,hl,h5,Prod.ext hk.symm ?_⟩
    show(jF c r).2=r.length+1
    have hb:w.length≤gg ((c::r).take (0+(jF c r).2)):=hb
    rw[gP]at hb
    have hs:=sf ((c::r).take (jF c r).2) ((c::r).drop (jF c r).2)
    rw[sO,gg]at hs
    have hn:=(yB ((c::r).drop (jF c r).2)).1
    rw[lT,dy]at hn;omega
def Safe:List Nat→Prop
 | []=>True
 |c::r=>cls c=5∨(cls c=6∧∀d,r.head?=some d→cls d=5∨cls d=6)
theorem Safe.head {l:List Nat}(h:Safe l):∀d,l.head?=some d→cls d=5∨cls d=6:=by
 cases l with
 |nil=>intro d hd;cases hd
 |cons c r=>
  intro d hd;obtain rfl:=Option.some.inj hd;exact h.imp_right And.left
theorem O7 {l:List Nat}(h:Safe l):Dl l=0:=by
 cases l with
 |nil=>rfl
 |cons c r=>
  have hc:=h.head c rfl
  rw[Dl,aA];unfold wdB;rw[fS];rintro ((h|h)|⟨rfl|rfl,_⟩)
  ·omega
  ·omega
  ·revert hc;decide
  ·revert hc;decide
theorem O8 {l:List Nat}(h:Safe l):Dm l=0:=by
 cases l with
 |nil=>rfl
 |cons c r=>
  have hc:=h.head c rfl
  rw[Dm,aA];unfold dgB;rw[fS];rintro (h|⟨rfl|rfl,h2⟩)
  ·omega
  ·rcases h with h|⟨_,h⟩
   ·revert h;decide
   ·cases r with
    |nil=>cases h2
    |cons d r=>
     have:=h d rfl
     have h2:cls d=4:=Option.some.inj h2
     omega
  ·revert hc;decide
theorem Jl {l:List Nat}(hl:Safe l):∀r,Dl r=r.length→Dl (r++l)=r.length
 | [],_=>O7 hl
 |c::r,h=>by
  rw[Dl,dy]at h
  have hle:=HQ r
  split at h
  ·rename_i hb
   rw[r7,Dl,aB,Jl hl r (by omega),dy];unfold wdB at hb⊢;rw[fS]at hb⊢
   cases r with
   |nil=>exact hb.imp_right λq=>absurd q.2 (by simp)
   |cons d r=>exact hb
  ·omega
theorem Jm {l:List Nat}(hl:Safe l):∀r,Dm r=r.length→Dm (r++l)=r.length
 | [],_=>O8 hl
 |c::r,h=>by
  rw[Dm,dy]at h
  have hle:=HR r
  split at h
  ·rename_i hb
   rw[r7,Dm,aB,Jm hl r (by omega),dy];unfold dgB at hb⊢;rw[fS]at hb⊢
   cases r with
   |nil=>exact hb.imp_right λq=>absurd q.2 (by simp)
   |cons d r=>exact hb
  ·omega
theorem TK {c k:Nat}{r l:List Nat}(hl:Safe l)(h:jF c r=(k,r.length+1)):jF c (r++l)=(k,r.length+1):=by
 unfold jF at h⊢
 by_cases h2:cls c=2
 ·rw[aB h2]at h⊢
  have:=(Prod.mk.inj h).2
  rw[Jl hl r (by omega),(Prod.mk.inj h).1]
 ·rw[aA h2]at h⊢
  by_cases h4:cls c=4
  ·rw[aB h4]at h⊢
   have:=(Prod.mk.inj h).2
   rw[Jm hl r (by omega),(Prod.mk.inj h).1]
  ·rw[aA h4]at h⊢
   exact h
theorem O9 {c:Nat}{r:List Nat}(h:jF c r=(3,r.length+1)):r=[]∧cls c=6:=by
 unfold jF at h
 split at h
 ·cases (Prod.mk.inj h).1
 ·split at h
  ·cases (Prod.mk.inj h).1
  ·split at h
   ·rename_i h6
    have:=(Prod.mk.inj h).2
    exact⟨List.length_eq_zero_iff.1 (by omega),h6⟩
   ·cases (Prod.mk.inj h).1
theorem BE {c k f i:Nat}{r l:List Nat}(h5:cls c≠5)(h:jF c r=(k,r.length+1))(hl:Safe l):nK (f+1) i (c::(r++l))=(k,i,i+(r.length+1))::nK f (i+(r.length+1)) l:=by
 rw[nK,aA h5,TK hl h]
 dsimp only
 rw[Nat.add_sub_cancel,List.drop_left' rfl]
def OA (s:bI)(l:List Nat)(t:Nat×Nat×Nat):bI:=(s.take (gg (l.take t.2.2))).drop (gg (l.take t.2.1))
theorem Jn {p w q:bI}{lp lw lq:List Nat}{k:Nat}(hp:yA p lp)(hw:yA w lw):OA (p++(w++q)) (lp++(lw++lq)) (k,lp.length,lp.length+lw.length)=w:=by
 unfold OA
 dsimp only
 rw[List.take_left' rfl,←cg,←bA,List.take_left' rfl,sf,←hp.len,←hw.len,←cg,←bA,List.take_left' rfl,List.drop_left' rfl]
theorem BF:∀(ws:List bI) (i:Nat),0<i→(eY i ws).2.1=0→∃l,yA (eY i ws).1.flatten l∧Safe l∧
 ∀p lp f,yA p lp→l.length≤f→(nK f lp.length l).map (OA (p++(eY i ws).1.flatten) (lp++l))=ws
 | [],i,_,_=>⟨[],.nil,trivial,λp lp f _ _=>by cases f<;>rfl⟩
 |w::ws,i,hi,h=>by
  rw[eY]at h⊢
  by_cases h1:(gU w).2.1=1
  ·rw[aB h1]at h;cases h
  ·rw[aA h1]at h⊢
   cases ho:Cj w with
   |false=>rw[ho,aA (by decide)]at h;cases h
   |true=>
    rw[ho,aB rfl]at h;rw[aB rfl];obtain⟨l,hl,hs,hc⟩:=BF ws (i+1) (by omega) h;obtain⟨c,r,hw,h5,ht⟩:=EZ ho
    dsimp only
    have Ck:(og i w++w::(eY (i+1) ws).1).flatten=(og i w).flatten++(w++(eY (i+1) ws).1.flatten):=by rw[List.flatten_append,List.flatten_cons]
    rw[Ck]
    generalize (eY (i+1) ws).1.flatten=q at*
    have OB:∀p lp f,yA p lp→(c::r).length+l.length≤f→(nK f lp.length (c::(r++l))).map (OA (p++(w++q)) (lp++((c::r)++l)))=w::ws:=by
     intro p lp f hp hf;rw[dy]at hf
     obtain⟨f,rfl⟩:∃g,f=g+1:=⟨f-1,by omega⟩
     rw[BE h5 ht hs,eW]
     congr 1
     ·exact Jn hp hw
     ·have:=hc (p++w) (lp++(c::r)) f (hp.app hw) (by omega)
      rw[bA,dy,cg,cg]at this;exact this
    by_cases hk:BD w=3
    ·have YF:(og i w).flatten=[]:=by unfold og;rw[aA (λe=>e.2 hk)];rfl
     rw[YF,Av];rw[hk]at ht;obtain⟨rfl,h6⟩:=O9 ht;refine⟨_,hw.app hl,.inr ⟨h6,hs.head⟩,λp lp f hp hf=>OB p lp f hp (by rw[bA]at hf;exact hf)⟩
    ·have YF:(og i w).flatten=[32]:=by unfold og;rw[aB ⟨hi,hk⟩];rfl
     rw[YF]
     have WE:yA [32] [32]:= .cons (by decide) rfl .nil
     refine⟨_,WE.app (hw.app hl),.inl rfl,λp lp f hp hf=> ?_⟩;rw[bA,bA]at hf
     have hf:1+((c::r).length+l.length)≤f:=hf
     obtain⟨f,rfl⟩:∃g,f=g+1:=⟨f-1,by omega⟩
     have:=OB (p++ [32]) (lp++ [32]) f (hp.app WE) (by omega)
     rw[bA,cg,cg]at this;exact this
theorem OC {ws:List bI}{s:bI}(h:fx ws=(s,0,0)):(gU s).2=(0,0)∧(gU s).1.map (λt=>t.2.2.2)=ws:=by
 unfold fx at h
 split at h
 ·cases h
 ·rename_i YE
  split at h
  ·rename_i fP
   have:=congrArg (λx=>x.2.1) h
   exact absurd this fP
  ·rename_i h0
   split at h
   ·cases h
   ·rename_i h4
    obtain rfl:=(Prod.mk.inj h).1
    have h0:(eY 0 ws).2.1=0:=by rcases Decidable.em ((eY 0 ws).2.1=0)with e|e;exact e;exact absurd e h0
    have key:∃l,yA (eY 0 ws).1.flatten l∧(nK l.length 0 l).map (OA (eY 0 ws).1.flatten l)=ws:=by
     cases ws with
     |nil=>exact⟨[],.nil,rfl⟩
     |cons w ws=>
      rw[eY]at h0⊢
      by_cases h1:(gU w).2.1=1
      ·rw[aB h1]at h0;cases h0
      ·rw[aA h1]at h0⊢
       cases ho:Cj w with
       |false=>rw[ho,aA (by decide)]at h0;cases h0
       |true=>
        rw[ho,aB rfl]at h0;rw[aB rfl];obtain⟨l,hl,hs,hc⟩:=BF ws (0+1) (by omega) h0;obtain⟨c,r,hw,h5,ht⟩:=EZ ho
        dsimp only
        have Ck:(og 0 w++w::(eY (0+1) ws).1).flatten=w++(eY (0+1) ws).1.flatten:=by
         have:og 0 w=[]:=by unfold og;rw[aA (λe=>absurd e.1 (by decide))]
         rw[this,Av,List.flatten_cons]
        rw[Ck]
        generalize (eY (0+1) ws).1.flatten=q at*
        refine⟨_,hw.app hl,?_⟩;rw[bA,dy,Nat.add_right_comm,r7,BE h5 ht hs,eW]
        congr 1
        ·have:=Jn (q:=q) (lq:=l) (k:=BD w) .nil hw
         exact this
        ·have:=hc w (c::r) (r.length+l.length) hw (by omega)
         rw[gP];exact this
    obtain⟨l,hl,hc⟩:=key
    have hd:=O4 hl (by omega)
    unfold gU;rw[hd]
    dsimp only
    have hlen:=congrArg List.length hc
    rw[aQ]at hlen;rw[aA (by decide),aA (by omega)];refine⟨rfl,?_⟩;rw[kh];exact hc
theorem HS:fx [[101,118,101,114,121],[100,111,103]]=([101,118,101,114,121,32,100,111,103],0,0):=by decide+kernel
theorem BG:((gU [101,118,101,114,121,32,100,111,103]).1.length,(gU [101,118,101,114,121,32,100,111,103]).2)=(2,0,0):=by decide+kernel
end Go.J
namespace Go.Proofs.YtblifkgpebebmaaGreatDoor
open Go Go.J Tryz
structure Nq where
 no:Nat
 leaf:Bool
 label:bI
 up:Int
 fin:Nat
 frm:Nat
 tqo:Nat
def YG:Nq:=⟨0,false,[],0,0,0,0⟩
def tm0:lM:= .mk 0 [] 0 (.mk [] []) []
def SC:HJ:=⟨[],[],0,tm0⟩
def nz:CZ:=⟨[],[],0,0,tm0⟩
mutual
def WG:nu→Nat
 | .mk _ _ l=>1+WH l
def WH:List nu→Nat
 | []=>0
 |x::l=>WG x+WH l
end
mutual
def YH:nu→Nat
 | .mk r _ l=>(if r<0 then 1 else 0)+YI l
def YI:List nu→Nat
 | []=>0
 |x::l=>YH x+YI l
end
def ahR (g:ob)(r x:Int):bI:=if r<0 then(g.aN.getD x.toNat SC).word else(g.rules.getD r.toNat nz).name
mutual
def TL (g:ob):nu→Nat→Int→Nat→List Nq
 | .mk r x l,k,up,w=>⟨k,decide (r<0),ahR g r x,up,k+(1+WH l),w,w+((if r<0 then 1 else 0)+YI l)⟩::Mz g l (k+1) k (w+(if r<0 then 1 else 0))
def Mz (g:ob):List nu→Nat→Int→Nat→List Nq
 | [],_,_,_=>[]
 |x::l,k,up,w=>TL g x k up w++Mz g l (k+WG x) up (w+YH x)
end
mutual
def BH (nr nl:Nat):nu→Prop
 | .mk r x l=>(-1≤r∧r<nr)∧(r<0→l=[]∧0≤x∧x<nl)∧(0≤r→l≠ [])∧BI nr nl l
def BI (nr nl:Nat):List nu→Prop
 | []=>True
 |x::l=>BH nr nl x∧BI nr nl l
end
mutual
theorem wm (g:ob):∀(t:nu) (k:Nat) (up:Int) (w:Nat),(TL g t k up w).length=WG t
 | .mk r x l,k,up,w=>by rw[TL,dy,Jo g l,WG];omega
theorem Jo (g:ob):∀(l:List nu) (k:Nat) (up:Int) (w:Nat),(Mz g l k up w).length=WH l
 | [],_,_,_=>by rw[Mz,WH];rfl
 |x::l,k,up,w=>by rw[Mz,bA,wm g x,Jo g l,WH]
end
mutual
theorem Jp {nr nl:Nat}:∀t:nu,BH nr nl t→0<YH t
 | .mk r x l,h=>by
  rw[BH]at h;rw[YH]
  by_cases hr:r<0
  ·rw[aB hr];omega
  ·have:=TM l h.2.2.2 (h.2.2.1 (by omega));omega
theorem TM {nr nl:Nat}:∀l:List nu,BI nr nl l→l≠ []→0<YI l
 | [],_,h=>absurd rfl h
 |x::l,h,_=>by
  rw[BI]at h
  have:=Jp x h.1
  rw[YI];omega
end
def Jq (x y:Nq):Prop:=x.no<y.no∧((y.no<x.fin∧x.frm≤y.frm∧y.tqo≤x.tqo)∨(x.fin≤y.no∧x.tqo≤y.frm))
def acA (k m w n:Nat)(x:Nq):Prop:=k≤x.no∧x.no<x.fin∧x.fin≤k+m∧w≤x.frm∧x.frm<x.tqo∧x.tqo≤w+n
mutual
theorem OD {nr nl:Nat}(g:ob):∀(t:nu) (k:Nat) (up:Int) (w:Nat),BH nr nl t→(TL g t k up w).Pairwise Jq∧∀x∈TL g t k up w,acA k (WG t) w (YH t) x
 | .mk r x l,k,up,w,h=>by
  have hp:=Jp _ h
  rw[BH]at h;obtain⟨h1,h2⟩:=OE g l (k+1) k (w+(if r<0 then 1 else 0)) h.2.2.2;rw[TL,WG];rw[YH]at hp⊢;refine⟨ib.2 ⟨λy hy=> ?_,h1⟩,λy hy=> ?_⟩
  ·obtain⟨a1,a2,a3,a4,a5,a6⟩:=h2 y hy
   refine⟨?_,Or.inl ⟨?_,?_,?_⟩⟩<;>dsimp only<;>omega
  ·rcases cD.1 hy with rfl|hy
   ·refine⟨?_,?_,?_,?_,?_,?_⟩<;>dsimp only<;>omega
   ·obtain⟨a1,a2,a3,a4,a5,a6⟩:=h2 y hy
    refine⟨?_,?_,?_,?_,?_,?_⟩<;>omega
theorem OE {nr nl:Nat}(g:ob):∀(l:List nu) (k:Nat) (up:Int) (w:Nat),BI nr nl l→(Mz g l k up w).Pairwise Jq∧∀x∈Mz g l k up w,acA k (WH l) w (YI l) x
 | [],_,_,_,_=>by rw[Mz];exact⟨List.Pairwise.nil,λx hx=>by cases hx⟩
 |t::l,k,up,w,h=>by
  rw[BI]at h;obtain⟨h1,h2⟩:=OD g t k up w h.1;obtain⟨h3,h4⟩:=OE g l (k+WG t) up (w+YH t) h.2;rw[Mz,WH,YI];refine⟨rB.2 ⟨h1,h3,λx hx y hy=> ?_⟩,λy hy=> ?_⟩
  ·obtain⟨a1,a2,a3,a4,a5,a6⟩:=h2 x hx
   obtain⟨b1,b2,b3,b4,b5,b6⟩:=h4 y hy;exact⟨by omega,Or.inr ⟨by omega,by omega⟩⟩
  ·rcases ba.1 hy with hy|hy
   ·obtain⟨a1,a2,a3,a4,a5,a6⟩:=h2 y hy
    refine⟨?_,?_,?_,?_,?_,?_⟩<;>omega
   ·obtain⟨b1,b2,b3,b4,b5,b6⟩:=h4 y hy
    refine⟨?_,?_,?_,?_,?_,?_⟩<;>omega
end
mutual
theorem OG (g:ob):∀(t:nu) (k:Nat) (up:Int) (w i:Nat) (x:Nq),(TL g t k up w)[i]?=some x→x.no=k+i
 | .mk r y l,k,up,w,i,x,h=>by
  rw[TL]at h
  cases i with
  |zero=>rw[List.getElem?_cons_zero]at h;cases h;rfl
  |succ i=>rw[Dw]at h;have:=OH g l _ _ _ i x h;omega
theorem OH (g:ob):∀(l:List nu) (k:Nat) (up:Int) (w i:Nat) (x:Nq),(Mz g l k up w)[i]?=some x→x.no=k+i
 | [],_,_,_,_,_,h=>by rw[Mz]at h;simp at h
 |t::l,k,up,w,i,x,h=>by
  rw[Mz]at h
  rcases e7 i (WG t)with hi|hi
  ·rw[pd (by rw[wm];exact hi)]at h
   exact OG g t k up w i x h
  ·rw[mW (by rw[wm];exact hi),wm]at h
   have:=OH g l _ _ _ _ x h
   omega
end
structure BJ (L:List Nq):Prop where
 ahead:L.Pairwise Jq
 no:∀(i:Nat) (x:Nq),L[i]?=some x→x.no=i
 words:∀x∈L,x.frm<x.tqo∧x.no<x.fin
theorem BJ.of {nr nl:Nat}(g:ob){t:nu}(h:BH nr nl t):BJ (TL g t 0 (-1) 0):=by
 obtain⟨h1,h2⟩:=OD g t 0 (-1) 0 h;exact⟨h1,λi x hx=>by have:=OG g t 0 (-1) 0 i x hx;omega,λx hx=>by obtain⟨a1,a2,a3,a4,a5,a6⟩:=h2 x hx;exact⟨a5,a2⟩⟩
theorem getD_some {L:List Nq}{i:Nat}(h:i<L.length):L[i]?=some (L.getD i YG):=by
 rw[ak,bO h];rfl
theorem BJ.lt {L:List Nq}(h:BJ L){i j:Nat}(WI:i<j)(hj:j<L.length):Jq (L.getD i YG) (L.getD j YG)∧(L.getD i YG).no=i∧(L.getD j YG).no=j:=by
 have h1:=getD_some (show i<L.length by omega)
 have h2:=getD_some hj
 refine⟨?_,h.no _ _ h1,h.no _ _ h2⟩
 have:=List.pairwise_iff_getElem.1 h.ahead i j (by omega) hj WI
 rw[bO (show i<L.length by omega)]at h1;rw[bO hj]at h2
 injection h1 with h1;injection h2 with h2
 rw[←h1,←h2];exact this
theorem BJ.one {L:List Nq}(h:BJ L){i:Nat}(hi:i<L.length):(L.getD i YG).frm<(L.getD i YG).tqo:=(h.words _ (ab (getD_some hi))).1
end Go.Proofs.YtblifkgpebebmaaGreatDoor
namespace Go.J
open Go
abbrev ints (l:List Nat):List Int:=l.map (λi:Nat=>(i:Int))
section
variable {P:Program}{n:Nat}{F:Fr}{A:World→Prop}{x y:Operand}{ty:TypeId}
end
section
variable {P:Program}{n:Nat}{F:Fr}{A:World→Prop}{c:Ctx}{H R:List ao}{ty:TypeId}{x y:Operand}{v:Value}{Q:Exit→Act→World→Prop}{ops:Array Oper}{rest:List Oper}
 {pos:String} {after:Array Edge} {t e:TypeId}
theorem TN {b off:Nat}{L:List Value}{u:Value}{ρ:Ro}{w:World}(jc:eQ c (aX b (.cells L.toArray e (0,0))::R) ρ w)(ho:off<L.length):w.cell? ⟨b,off,none⟩=some L[off]∧w.frozen? ⟨b,off,none⟩=false∧
 eQ c (aX b (.cells (L.set off u).toArray e (0,0))::R) ρ (w.setCell ⟨b,off,none⟩ u):=by
 have hb:=ep.1 (jc.dK _ (aU ..))
 refine⟨by rw[bh hb];simp,by simp[World.frozen?,hb],?_⟩;refine jc.alter rfl ⟨rfl,aW _⟩ rfl (by simp) (λk hk fP=> ?_) (ep.2 ?_) (λb' jZ=>by rw[gY]at jZ⊢;exact .inl jZ)
 ·rw[gY]at fP
  simp only[World.setCell,Array.getElem?_modify]
  rw[aA (λe=>fP (by rw[e]))]
 ·rw[mc hb];simp
end
section
variable {P:Program}{n:Nat}{F:Fr}{c:Ctx}{H R:List ao}{ty:TypeId}{x y:Operand}{t e:TypeId}
theorem Ev.gh {b off:Nat}{dd:TypeDesc}{fr:Nat×Nat}{L L':List Value}[hb:Az b H (.cells L.toArray e fr)](m:Nat)(hx:aZ F x (.pointer (some ⟨b,off,none⟩)))(ht:P.underlying t=some dd)(jv:(match dd with| .struct _| .array _ _=>True|_=>False))
 (hs:(P.info? t).map (·.size)=some m) (hL:(L.drop off).take m=L') (hl:L'.length=m):Ev P n F (Mm c H) (.load t x) ty (.agg L'.toArray):= .of_run λa w ha hw=>by
 obtain⟨ρ,hm⟩:=hw.out
 have h1:=ep.1 (hm.dK _ hb.mem)
 have h4:=de (P:=P) (w:=w) (b:=b) (off:=off) (L:=L') ht jv (by rw[hl];exact hs) (λj u hj=>by
  rw[bh h1];rw[←hL,rA]at hj
  split at hj
  ·rw[Ao]at hj;simpa using hj
  ·cases hj)
 simp[execOp,hx.eval ha,Instr.loadAt,Instr.sureAddr,h4]
end
theorem fK.ind {p:fK→Prop}(h:∀x,(∀y∈x.args,p y)→p x)(x:fK):p x:=
 fK.rec (motive_1:=p) (motive_2:=λl=>∀y∈l,p y) (λb v l ih=>h (.mk b v l) ih) (λy hy=>by cases hy) (λa l ha hl y hy=>by
  rcases cD.1 hy with rfl|hy
  ·exact ha
  ·exact hl y hy) x
theorem dM.ind {p:dM→Prop}(h:∀x,(∀y∈x.args,p y)→p x)(x:dM):p x:=
 dM.rec (motive_1:=p) (motive_2:=λl=>∀y∈l,p y) (λk s i t v l ih=>h (.mk k s i t v l) ih) (λy hy=>by cases hy) (λa l ha hl y hy=>by
  rcases cD.1 hy with rfl|hy
  ·exact ha
  ·exact hl y hy) x
theorem cM.ind {p:cM→Prop}(h:∀x,(∀y∈x.kids,p y)→p x)(x:cM):p x:=
 cM.rec (motive_1:=p) (motive_2:=λl=>∀y∈l,p y) (λr i v l ih=>h (.mk r i v l) ih) (λy hy=>by cases hy) (λa l ha hl y hy=>by
  rcases cD.1 hy with rfl|hy
  ·exact ha
  ·exact hl y hy) x
end Go.J
namespace Go.J
open Go Go.Proofs Go.Proofs.YtblifkgpebebmaaGreatDoor
section
variable {P:Program}{n:Nat}{F:Fr}{A:World→Prop}{c:Ctx}{H R:List ao}{ty:TypeId}{x y:Operand}{v:Value}{Q:Exit→Act→World→Prop}{ops:Array Oper}{rest:List Oper}{d size:Nat}
 {pos:String} {after:Array Edge} {t e:TypeId} {m k:Nat} {cs:List Value}
theorem Ev.j3 {off o i b o' cap:Nat}{s:TypeId}(hv:v= .slice (some ⟨b,o',none⟩) m cap)(hx:aZ F x (dR v size k off))(ho:bQ P s i=some o):Ev P n F A (.fieldAddr s x i) ty (dR v size k (off+o)):= .of_run λa w ha _=>by
 subst hv;rw[dS]at hx
 simp[execOp,hx.eval ha,ma ho,dS,Addr.add_lit,Nat.add_assoc]
end
section
variable {n:Nat}{F:Fr}{c:Ctx}{R:List ao}{T:Act→World→Prop}
theorem St.ahS {a b d e f g h i:ao}(k:St n F (Mm c (a::b::d::e::f::g::h::i::R)) T):St n F (Mm c ([a,b,d,e,f,g,h,i]++R)) T:=k
end
end Go.J
namespace Go.J
open Go.RowKit
open Go
theorem xT.Cl {P:Program}{f:FuncId}{args:Array Value}{ds:List df}{post:Value→List ao→Prop}(h:∀w (ρ:Ro),(∀k o,ρ k=some o→w.heap[k]?=some o)→(∀d∈ds,d.f ρ)→Calls P f args w λe w'=>∃v,e= .returned v∧post v []∧Below w.heap.size w w'):
 xT P f args (ds.map aF) post:=by
 intro w ρ hs;refine(h w ρ hs.fits λd hd=>dm.1 (hs.dK (aF d) (dq hd))).mono ?_;rintro e w' ⟨v,rfl,hp,hb⟩;refine⟨v,[],rfl,hp,Mm.mk (ρ:=ρ) ⟨hb.os,⟨hb.tape,λh=>h.elim⟩,hb.output,hb.size,λk hk _=>hb.block k hk,λk o hk=> ?_,Ro.le_refl _,λ_ _ _=>rfl,λ_ h=>by simp at h,λ_ h=>by simp at h,.nil⟩⟩;rw[hb.block k (hs.xS hk)];exact hs.fits k o hk
theorem iz.Cl {P:Program}{f:FuncId}{args:Array Value}{ds:List df}{v:Value}(h:∀w (ρ:Ro),(∀k o,ρ k=some o→w.heap[k]?=some o)→(∀d∈ds,d.f ρ)→Calls P f args w λe w'=>e= .returned v∧Below w.heap.size w w'):iz P f args ds v:=
 xT.Cl λw ρ h1 h2=>(h w ρ h1 h2).mono λ_ _ ⟨h1,h2⟩=>⟨v,h1,rfl,h2⟩
theorem TP {l:List bI}{k:Nat}{x:bI}(h:l[k]?=some x):(rows dY l)[k*1+0]?=some (sv x):=by
 have e:rows dY l=l.map λs=>sv s:=by
  show l.flatMap (λs=>[sv s])=_
  clear h
  induction l with
  |nil=>rfl
  |cons a l ih=>rw[mV,ih];rfl
 rw[e,fR,jK,bE,h];rfl
end Go.J
namespace Go.J
open Go
section
variable {P:Program}{n:Nat}{F:Fr}{c:Ctx}{A:World→Prop}{H R:List ao}{ty t:TypeId}{x lo hi:Operand}{s:bI}{Q:Exit→Act→World→Prop}{ops:Array Oper}{rest:List Oper}{d:Nat}{pos:String}{after:Array Edge}
theorem vn (s:bI)(l h:Nat):Value.string ((⟨s.toArray⟩:ByteArray).extract l h)=sv ((s.take h).drop l):=by
 unfold sv
 congr 1
 apply ByteArray.ext
 simp[ByteArray.data_extract,List.drop_take]
theorem yC (s:bI):(⟨s.toArray⟩:ByteArray).size=s.length:=by simp[ByteArray.size]
theorem Ev.TQ {i:Int}{k:IntKind}{l:Nat}(hx:aZ F x (sv s))(hlo:aZ F lo (.int k i))(ht:P.underlying t=some .string)(hi:i=l)(hl:l≤s.length):Ev P n F A (.slice t x (some lo) none none) ty (sv (s.drop l)):= .of_run λa w ha _=>by
 subst hi
 have:=run_slice_string_l (P:=P) w t ⟨s.toArray⟩ ht k l (by omega) (by rw[yC];omega)
 rw[Dv,vn,yC,jy]at this
 simp only[sv]at this⊢
 simp[execOp,hx.eval ha,hlo.eval ha,Instr.sliceAt,run_underlying ht,this,sv]
end
theorem Sq.slot {n:Nat}{F:Fr}{T:Act→Prop}{v:Value}(k:Nat)(v':Value)(hk:look F k=some v)(h:v=v')(hT:Sq n ((k,v')::F) T):Sq n F T:=by
 subst h
 refine λa ha=>hT a ⟨ha.size,ha.defers,λt u hu=> ?_⟩
 simp only[look]at hu
 cases hb:Nat.beq t k with
 |true=>
  have e:=ve hb
  subst e
  simp only[hb,cond_true,Option.some.injEq]at hu
  subst hu;exact ha.slot _ _ hk
 |false=>
  simp only[hb,cond_false]at hu
  exact ha.slot _ _ hu
theorem Ev.ahT {P:Program}{n:Nat}{F:Fr}{A:World→Prop}{ty:TypeId}{x:Operand}{a:Addr}(hx:aZ F x (.pointer (some a))):Ev P n F A (.nilCheck x) ty (.pointer (some a)):= .of_run λac w ha _=>by simp[execOp,hx.eval ha]
section
variable {P:Program}{n:Nat}{F F0:Fr}{A:World→Prop}{c:Ctx}{H R:List ao}{ty:TypeId}{x y:Operand}{v:Value}{Q:Exit→Act→World→Prop}{ops:Array Oper}{rest:List Oper}{d:Nat}{pos:String}{after:Array Edge}{op:Op}{t u e:TypeId}{i j:Int}{k:IntKind}
theorem St.ee (nX:Ev P n F A op ty v)(h:St n ((d,v)::F) A (wpList P ops Q rest))(hd:Nat.ble (d+1) n=true:=by rfl):St n F A (wpList P ops Q ({dst:=some d,op:=op,type:=ty,pos:=pos,after:=after,guard:=none}::rest)):=St.ev v nX hd h
theorem Sq.ee {T:Act→Prop}(nX:Ev P n F A op ty v)(h:Sq n ((d,v)::F) (wpQuiet P ops A T rest))(hd:Nat.ble (d+1) n=true:=by rfl):Sq n F (wpQuiet P ops A T ({dst:=some d,op:=op,type:=ty,pos:=pos,after:=after,guard:=none}::rest)):=Sq.ev v nX hd h
theorem St.sA {b m:Nat}{L L':List Value}[tk:lY b H (.cells L.toArray t (0,0)) R](hx:aZ F x (.pointer (some ⟨b,0,none⟩)))(hy:aZ F y (.agg L'.toArray))(hs:(P.info? e).map (·.size)=some m)(h:St n F (Mm c (aX b (.cells L'.toArray t (0,0))::R)) (wpList P ops Q rest))
 (hm:m=L'.length:=by rfl) (hl:L.length=L'.length:=by first|simp only[List.length_cons,List.length_nil]|rfl) (h1:L'.all (·.oneCell')=true:=by rfl):
 St n F (Mm c H) (wpList P ops Q ({dst:=none,op:= .store e x y,type:=ty,pos:=pos,after:=after,guard:=none}::rest)):=St.NH hx hy (by rw[hs,hm]) hl h1 h
theorem St.rT {fn:Func}{post:Value→List ao→Prop}{rl:List ResultVar}(vs:List Value)(H':List ao)(hr:fn.results=rl.toArray)(hv:Sj P F H rl vs)(hp:post (H4 vs) H')(hH:∀w,Mm c H w→Mm c H' w:=by exact λ_ hw=>hw.sub):
 St n F (Mm c H) (bodyPost P fn (λe w'=>∃v H',e= .returned v∧post v H'∧Mm c H' w') .ret):=St.LR vs H' hr hv hp hH
theorem St.rU {fn:Func}{post:Value→List ao→Prop}{rl:List ResultVar}(vs:List Value)(H':List ao)(hr:fn.results=rl.toArray)(hp:post (H4 vs) H')(hv:Sj P F H rl vs:=by first|exact⟨rfl,trivial⟩|exact⟨⟨_,_,_,_,rfl,Az.mem,.inl ⟨⟨_,alM⟩,Ea,rfl⟩⟩,trivial⟩)(hH:∀w,Mm c H w→Mm c H' w:=by exact λ_ hw=>hw.sub):
 St n F (Mm c H) (bodyPost P fn (λe w'=>∃v H',e= .returned v∧post v H'∧Mm c H' w') .ret):=St.LR vs H' hr hv hp hH
theorem St.sr {id:Nat}{l:List Oper}{y:Code}(h:St n F A (wpList P l.toArray (Exit.then (y.wp P Q) Q) l)):St n F A ((Code.seq (Code.region id l.toArray false) y).wp P Q):=St.seq (St.rg h)
theorem St.vo {ι κ:Type}{body:Code}(G:ι→κ→Fr→Fr)(Hf:ι→κ→List ao)(φ:ι→κ→Prop)(μ:ι→κ→Nat)(ic:ι)(CL:κ)(hk:aC F F0)(h0:φ ic CL)
 (round:∀x z,φ x z→St n (G x z F0) (Mm c (Hf x z)) (body.wp P (Exit.then (CK n G F0 φ μ c Hf (μ x z)) Q))) (hF:Sub (G ic CL F0) F:=by repeat(first|exact Sub.nil|refine Sub.cons (by first|rfl|exact congrArg (λz=>some (iv z)) (by first|omega|(dsimp only;omega))|exact congrArg (λz=>some (Value.bool z)) (by first|assumption|exact iZ (by assumption))) ?_)) (hH:∀w,Mm c H w→Mm c (Hf ic CL) w:=by exact λ_ hw=>hw.sub):
 St n F (Mm c H) ((Code.loop body).wp P Q):=St.Xj G Hf φ μ ic CL hk h0 hF hH round
theorem St.lH {ι:Type}{body:Code}(G:ι→Fr→Fr)(Hf:ι→List ao)(φ:ι→Prop)(μ:ι→Nat)(ic:ι)(hk:aC F F0)(h0:φ ic)
 (round:∀x,φ x→St n (G x F0) (Mm c (Hf x)) (body.wp P (Exit.then (vf n G F0 φ μ c Hf (μ x)) Q))) (hF:Sub (G ic F0) F:=by repeat(first|exact Sub.nil|refine Sub.cons (by first|rfl|exact congrArg (λz=>some (iv z)) (by first|omega|(dsimp only;omega))|exact congrArg (λz=>some (Value.bool z)) (by first|assumption|exact iZ (by assumption))) ?_)) (hH:∀w,Mm c H w→Mm c (Hf ic) w:=by exact λ_ hw=>hw.sub):
 St n F (Mm c H) ((Code.loop body).wp P Q):=St.E8 G Hf φ μ ic hk h0 hF hH round
theorem St.lS {ι:Type}{body:Code}(G:ι→Fr→Fr)(φ:ι→Prop)(μ:ι→Nat)(ic:ι)(hk:aC F F0)(h0:φ ic)
 (round:∀x,φ x→St n (G x F0) (Mm c H) (body.wp P (Exit.then (vf n G F0 φ μ c (λ_=>H) (μ x)) Q))) (hF:Sub (G ic F0) F:=by repeat(first|exact Sub.nil|refine Sub.cons (by first|rfl|exact congrArg (λz=>some (iv z)) (by first|omega|(dsimp only;omega))|exact congrArg (λz=>some (Value.bool z)) (by first|assumption|exact iZ (by assumption))) ?_)):
 St n F (Mm c H) ((Code.loop body).wp P Q):=St.abP G φ μ ic hk h0 hF round
theorem St.wo {ι κ:Type}{G:ι→κ→Fr→Fr}{Hf:ι→κ→List ao}{φ:ι→κ→Prop}{μ:ι→κ→Nat}{k:Nat}(y:ι)(z:κ)(H7:φ y z)(hm:μ y z<k:=by first|omega|(dsimp only;omega))(hF:Sub (G y z F0) F:=by repeat(first|exact Sub.nil|refine Sub.cons (by first|rfl|exact congrArg (λz=>some (iv z)) (by first|omega|(dsimp only;omega))|exact congrArg (λz=>some (Value.bool z)) (by first|assumption|exact iZ (by assumption))) ?_))(hA:∀w,Mm c H w→Mm c (Hf y z) w:=by exact λ_ hw=>hw.sub):
 St n F (Mm c H) (CK n G F0 φ μ c Hf k):=St.mf y z H7 hm hF hA
theorem St.aH {ι:Type}{G:ι→Fr→Fr}{Hf:ι→List ao}{φ:ι→Prop}{μ:ι→Nat}{k:Nat}(y:ι)(H7:φ y)(hm:μ y<k:=by first|omega|(dsimp only;omega))(hF:Sub (G y F0) F:=by repeat(first|exact Sub.nil|refine Sub.cons (by first|rfl|exact congrArg (λz=>some (iv z)) (by first|omega|(dsimp only;omega))|exact congrArg (λz=>some (Value.bool z)) (by first|assumption|exact iZ (by assumption))) ?_))(hA:∀w,Mm c H w→Mm c (Hf y) w:=by exact λ_ hw=>hw.sub):
 St n F (Mm c H) (vf n G F0 φ μ c Hf k):=St.xV y H7 hm hF hA
theorem St.aS {ι:Type}{G:ι→Fr→Fr}{φ:ι→Prop}{μ:ι→Nat}{k:Nat}{H':List ao}(y:ι)(H7:φ y)(hm:μ y<k:=by first|omega|(dsimp only;omega))(hF:Sub (G y F0) F:=by repeat(first|exact Sub.nil|refine Sub.cons (by first|rfl|exact congrArg (λz=>some (iv z)) (by first|omega|(dsimp only;omega))|exact congrArg (λz=>some (Value.bool z)) (by first|assumption|exact iZ (by assumption))) ?_))(hA:∀w,Mm c H w→Mm c H' w:=by exact λ_ hw=>hw.sub):
 St n F (Mm c H) (vf n G F0 φ μ c (λ_=>H') k):=St.NJ y H7 hm hF hA
theorem St.mE {ι:Type}{G:ι→Fr→Fr}{Hf:ι→List ao}{φ:ι→Prop}(y:ι)(H7:φ y)(hF:Sub (G y F0) F:=by repeat(first|exact Sub.nil|refine Sub.cons (by first|rfl|exact congrArg (λz=>some (iv z)) (by first|omega|(dsimp only;omega))|exact congrArg (λz=>some (Value.bool z)) (by first|assumption|exact iZ (by assumption))) ?_))(hA:∀w,Mm c H w→Mm c (Hf y) w:=by exact λ_ hw=>hw.sub):
 St n F (Mm c H) (Met n G F0 φ c Hf):=St.met y H7 hF hA
theorem Ev.l0 {b off:Nat}{fr:Nat×Nat}{d:TypeDesc}{u:Value}{L:List Value}[hb:Az b H (.cells L.toArray e fr)](hx:aZ F x (.pointer (some ⟨b,off,none⟩)))(ht:P.underlying t=some d)(jv:(match d with| .struct _| .array _ _=>False|_=>True):=by trivial)
 (hu:L[off]?=some u:=by rfl):Ev P n F (Mm c H) (.load t x) ty u:=Ev.kU hx ht jv hu
theorem Ev.o0 {p q:Bool}(hx:aZ F x (.bool p):=by exact .mk rfl)(hy:(!p)=true→aZ F y (.bool q):=by exact λhp=>aZ.gv rfl hp):Ev P n F A (.pick x (.const (.bool true)) y) ty (.bool (p||q)):=Ev.or hx hy
theorem Ev.n0 {p q:Bool}(hx:aZ F x (.bool p):=by exact .mk rfl)(hy:p=true→aZ F y (.bool q):=by exact λhp=>aZ.gv rfl hp):Ev P n F A (.pick x y (.const (.bool false))) ty (.bool (p&&q)):=Ev.and hx hy
theorem Ev.a0 (hx:aZ F x (iv i):=by exact .mk rfl)(hy:aZ F y (iv j):=by exact .mk rfl)(h: -9223372036854775808≤i+j∧i+j≤9223372036854775807:=by omega):Ev P n F A (.binOp .add t x y u) ty (iv (i+j)):=Ev.add hx hy h
theorem Ev.s0 (hx:aZ F x (iv i):=by exact .mk rfl)(hy:aZ F y (iv j):=by exact .mk rfl)(h: -9223372036854775808≤i-j∧i-j≤9223372036854775807:=by omega):Ev P n F A (.binOp .sub t x y u) ty (iv (i-j)):=Ev.sub hx hy h
theorem Ev.lt0 (hx:aZ F x (.int k i):=by exact .mk rfl)(hy:aZ F y (.int k j):=by exact .mk rfl):Ev P n F A (.binOp .lss t x y u) ty (.bool (decide (i<j))):=Ev.lss hx hy
theorem Ev.eq0 (hx:aZ F x (.int k i):=by exact .mk rfl)(hy:aZ F y (.int k j):=by exact .mk rfl):Ev P n F A (.binOp .eql t x y u) ty (.bool (decide (i=j))):=Ev.eql hx hy
theorem Ev.ne0 (hx:aZ F x (.int k i):=by exact .mk rfl)(hy:aZ F y (.int k j):=by exact .mk rfl):Ev P n F A (.binOp .neq t x y u) ty (.bool (!decide (i=j))):=Ev.neq hx hy
theorem Ev.gt0 (hx:aZ F x (.int k i):=by exact .mk rfl)(hy:aZ F y (.int k j):=by exact .mk rfl):Ev P n F A (.binOp .gtr t x y u) ty (.bool (decide (j<i))):=Ev.gtr hx hy
theorem Ev.ge0 (hx:aZ F x (.int k i):=by exact .mk rfl)(hy:aZ F y (.int k j):=by exact .mk rfl):Ev P n F A (.binOp .geq t x y u) ty (.bool (decide (j≤i))):=Ev.geq hx hy
theorem Ev.le0 (hx:aZ F x (.int k i):=by exact .mk rfl)(hy:aZ F y (.int k j):=by exact .mk rfl):Ev P n F A (.binOp .leq t x y u) ty (.bool (decide (i≤j))):=Ev.leq hx hy
theorem St.nn {K:Act→World→Prop}(h:St n F A K):St n F A (wpList P ops (Exit.then K Q) []):=h
theorem St.dup (d:df){T:Act→World→Prop}[hd:nZ [d] H](k:St n F (Mm c (aF d::H)) T):St n F (Mm c H) T:=St.eT d [d] (λρ h=>h _ (aU ..)) k
end
section
variable {P:Program}{ops:Array Oper}{Q:Exit→Act→World→Prop}{n:Nat}{F:Fr}{c:Ctx}{H Fp r r' C':List ao}{f:Nat}{listed:Array Bool}{d:Nat}{op:Op}{ty:TypeId}{pos:String}{after:Array Edge}{v:Value}
theorem SW.dd (i:Nat)(hi:ops[i]?=some {dst:=some d,op:=op,type:=ty,pos:=pos,after:=after,guard:=none})(nX:∀R,Ev P n F (Mm c (Fp++R)) op ty v)(h:SW P ops Q n ((d,v)::F) c Fp r f (listed.setIfInBounds i true))
 (hQ:NP Q:=by assumption) (hs:Region.noSelect ops=true:=by assumption) (hr:((Region.ready .any ops listed).contains i&&Region.free .any ops listed i)=true:=by decide+kernel) (hd:Nat.ble (d+1) n=true:=by rfl):SW P ops Q n F c Fp r (f+1) listed:=SW.defer i hQ hs hi nX hr hd h
end
end Go.J
namespace Go.Proofs
open Tryz
theorem WJ:type_of% @underlying0:=underlying0
theorem eN:type_of% @underlying3:=underlying3
theorem Eb:type_of% @underlying4:=underlying4
theorem Dn:type_of% @underlying5:=underlying5
theorem sK:type_of% @underlying9:=underlying9
theorem yD:type_of% @underlying22:=underlying22
theorem HT:type_of% @underlying23:=underlying23
theorem TR:type_of% @underlying27:=underlying27
theorem pS:type_of% @underlying28:=underlying28
theorem mO:type_of% @underlying30:=underlying30
theorem uX:type_of% @underlying33:=underlying33
theorem Ec:type_of% @underlying35:=underlying35
theorem HU:type_of% @underlying38:=underlying38
theorem Cm:type_of% @underlying44:=underlying44
theorem cI:type_of% @underlying58:=underlying58
theorem HV:type_of% @underlying69:=underlying69
theorem HW:type_of% @underlying71:=underlying71
theorem HX:type_of% @underlying84:=underlying84
theorem uY:type_of% @underlying98:=underlying98
theorem vp:type_of% @underlying100:=underlying100
theorem pL:type_of% @underlying102:=underlying102
theorem iP:type_of% @underlying103:=underlying103
theorem kz:type_of% @underlying105:=underlying105
theorem l3:type_of% @underlying106:=underlying106
theorem rK:type_of% @underlying108:=underlying108
theorem sg:type_of% @underlying110:=underlying110
theorem yE:type_of% @underlying115:=underlying115
theorem mn:type_of% @underlying118:=underlying118
theorem yF:type_of% @underlying138:=underlying138
theorem l5:type_of% @underlying157:=underlying157
theorem eA:type_of% @underlying161:=underlying161
theorem vq:type_of% @underlying163:=underlying163
theorem kG:type_of% @underlying165:=underlying165
theorem j9:type_of% @underlying171:=underlying171
theorem BK:type_of% @underlying177:=underlying177
theorem si:type_of% @underlying184:=underlying184
theorem o3:type_of% @underlying190:=underlying190
theorem ga:type_of% @underlying192:=underlying192
theorem sj:type_of% @underlying196:=underlying196
theorem yG:type_of% @underlying218:=underlying218
theorem BL:type_of% @underlying232:=underlying232
theorem yH:type_of% @underlying234:=underlying234
theorem BM:type_of% @underlying243:=underlying243
theorem vr:type_of% @underlying271:=underlying271
end Go.Proofs
namespace Go.J
open Go
class UT (P:Program)(t:TypeId)(d:outParam TypeDesc):Prop where h:P.underlying t=some d
class po (P:Program)(t:TypeId)(m:outParam Nat):Prop where h:(P.info? t).map (·.size)=some m
class fW (P:Program)(s i:Nat)(o:outParam Nat):Prop where h:bQ P s i=some o
class uA (P:Program)(t:TypeId)(Z:outParam (Array Value)):Prop where h:(P.info? t).bind (λi=>i.zero.map Value.cells)=some Z
class oh (v:Value):Prop where h:v.oneCell'=true
instance oh.sub (u:aY):oh u.1:=⟨u.2⟩
instance oh.int (k:IntKind)(i:Int):oh (.int k i):=⟨rfl⟩
instance oh.bool (b:Bool):oh (.bool b):=⟨rfl⟩
instance oh.str (s:ByteArray):oh (.string s):=⟨rfl⟩
instance oh.sv (s:bI):oh (sv s):=⟨rfl⟩
instance oh.sl (a:Option Addr)(m c:Nat):oh (.slice a m c):=⟨rfl⟩
instance oh.ptr (a:Option Addr):oh (.pointer a):=⟨rfl⟩
instance oh.map (a:Option Nat):oh (.map a):=⟨rfl⟩
instance oh.fn (f:Fn)(a c:Array Value):oh (.func f a c):=⟨rfl⟩
class Ll (L:List Value):Prop where h:L.all (·.oneCell')=true
instance Ll.nil:Ll []:=⟨rfl⟩
instance Ll.cons (v:Value)(L:List Value)[a:oh v][b:Ll L]:Ll (v::L):=⟨by rw[List.all_cons,a.h,b.h];rfl⟩
section
variable {P:Program}{n:Nat}{F F0:Fr}{A:World→Prop}{c:Ctx}{H R:List ao}{ty:TypeId}{x y:Operand}{v:Value}{Q:Exit→Act→World→Prop}{ops:Array Oper}{rest:List Oper}{d:Nat}{pos:String}{after:Array Edge}{op:Op}{t u e s:TypeId}{i j:Int}{k:IntKind}
variable {b off:Nat}{L:List Value}{fr:Nat×Nat}{dd:TypeDesc}{α:Type}{Rr:Rp α}{xs:List α}
theorem Ev.g0 [hb:Az b H (.cells L.toArray e fr)][ut:UT P t dd](hx:aZ F x (.pointer (some ⟨b,off,none⟩)))(jv:(match dd with| .struct _| .array _ _=>False|_=>True):=by exact True.intro)(hu:L[off]?=some v:=by rfl):Ev P n F (Mm c H) (.load t x) ty v:=Ev.kU hx ut.h (by cases dd<;>exact jv) hu
theorem Ev.gA [hb:Az b H (.cells L.toArray e fr)][ut:UT P t dd]{m:Nat}[sz:po P t m](hx:aZ F x (.pointer (some ⟨b,0,none⟩)))(jv:(match dd with| .struct _| .array _ _=>True|_=>False):=by exact True.intro)(hm:m=L.length:=by rfl):Ev P n F (Mm c H) (.load t x) ty (.agg L.toArray):=Ev.Xh hx ut.h (by cases dd<;>exact jv) (by rw[sz.h,hm])
theorem Ev.gF {o q:Nat}[fo:fW P s q o](hx:aZ F x (.pointer (some ⟨b,off,none⟩))):Ev P n F A (.fieldAddr s x q) ty (.pointer (some ⟨b,off+o,none⟩)):=Ev.Xg hx fo.h
theorem Ev.gF0 {o q:Nat}[fo:fW P s q o](hx:aZ F x (.pointer (some ⟨b,0,none⟩))):Ev P n F A (.fieldAddr s x q) ty (.pointer (some ⟨b,o,none⟩)):=Ev.dB hx fo.h
theorem Ev.gE {o q m:Nat}[hd:sQ v H α Rr xs][fo:fW P s q o](hx:aZ F x (dR v Rr.size m off))(hk:m<xs.length:=by omega):Ev P n F (Mm c H) (.fieldAddr s x q) ty (dR v Rr.size m (off+o)):=Ev.JR hx hk fo.h
theorem Ev.gR {o q m k sz:Nat}{cs:List Value}[hr:wH v H e sz m cs][fo:fW P s q o](hx:aZ F x (dR v sz k off))(hk:k<m:=by omega):Ev P n F (Mm c H) (.fieldAddr s x q) ty (dR v sz k (off+o)):=Ev.Xl hx hk fo.h
theorem Ev.gL [hd:sQ v H α Rr xs][ut:UT P t (.slice e)](hx:aZ F x v):Ev P n F (Mm c H) (.call {callee:= .builtin .len,args:= #[x],argTypes:= #[t]}) ty (iv xs.length):=Ev.fm hx ut.h
theorem Ev.gM {sz m:Nat}{cs:List Value}[hr:wH v H e sz m cs][ut:UT P t (.slice s)](hx:aZ F x v):Ev P n F (Mm c H) (.call {callee:= .builtin .len,args:= #[x],argTypes:= #[t]}) ty (iv m):=Ev.Xk hx ut.h
theorem Ev.gS {s:bI}[ut:UT P t .string](hx:aZ F x (sv s)):Ev P n F A (.call {callee:= .builtin .len,args:= #[x],argTypes:= #[t]}) ty (iv s.length):=Ev.NF hx ut.h
theorem Ev.g1 {m:Nat}{z:α}[hd:sQ v H α Rr xs][ut:UT P t dd]{u:Value}(hx:aZ F x (dR v Rr.size m off))(hk:xs[m]?=some z:=by assumption)(jv:(match dd with| .struct _| .array _ _=>False|_=>True):=by exact True.intro)(hu:(Rr.cells z)[off]?=some u:=by rfl):Ev P n F (Mm c H) (.load t x) ty u:=Ev.ld1 hx hk ut.h (by cases dd<;>exact jv) hu
theorem Ev.gI {m:Nat}{kd:IntKind}[hd:sQ v H α Rr xs][ut:UT P t (.slice e)]{z:Nat}[sz:po P e z](hx:aZ F x v)(hy:aZ F y (.int kd (m:Nat)))(hz:z=Rr.size:=by rfl)(hk:m<xs.length:=by omega):Ev P n F (Mm c H) (.indexAddr t x y) ty (dR v Rr.size m 0):=Ev.cZ hx hy ut.h (by rw[sz.h,hz]) rfl hk
theorem Ev.gJ {m q sz:Nat}{kd:IntKind}{cs:List Value}[hr:wH v H s sz m cs][ut:UT P t (.slice e)]{z:Nat}[szc:po P e z](hx:aZ F x v)(hy:aZ F y (.int kd (q:Nat)))(hz:z=sz:=by rfl)(he:s=e:=by rfl)(hk:q<m:=by omega):Ev P n F (Mm c H) (.indexAddr t x y) ty (dR v sz q 0):=by
 subst he;exact Ev.dT hx hy ut.h (by rw[szc.h,hz]) rfl hk
theorem Ev.gC {u:Value}[hc:rG b H u][ut:UT P t dd](hx:aZ F x (.pointer (some ⟨b,0,none⟩)))(jv:(match dd with| .struct _| .array _ _=>False|_=>True):=by exact True.intro):Ev P n F (Mm c H) (.load t x) ty u:=Ev.EC hx ut.h (by cases dd<;>exact jv)
theorem Ev.iM (h:Ev P n F A (.move x) ty v):Ev P n F A (.move x) ty v:=h
theorem Ev.iA (h:Ev P n F A (.assign x) ty v):Ev P n F A (.assign x) ty v:=h
theorem Ev.iF {q:Nat}(h:Ev P n F A (.fieldAddr s x q) ty v):Ev P n F A (.fieldAddr s x q) ty v:=h
theorem Ev.iL (h:Ev P n F A (.load t x) ty v):Ev P n F A (.load t x) ty v:=h
theorem Ev.iB {o:BinOp}(h:Ev P n F A (.binOp o t x y u) ty v):Ev P n F A (.binOp o t x y u) ty v:=h
theorem Ev.iC {bu:Builtin}{az:Array Operand}{pG:Array TypeId}(h:Ev P n F A (.call {callee:= .builtin bu,args:=az,argTypes:=pG}) ty v):Ev P n F A (.call {callee:= .builtin bu,args:=az,argTypes:=pG}) ty v:=h
theorem Ev.iI (h:Ev P n F A (.indexAddr t x y) ty v):Ev P n F A (.indexAddr t x y) ty v:=h
theorem Ev.go (h:Ev P n F A op ty v:=by
 first
 |with_reducible apply Ev.iM
  exact Ev.move (.mk rfl)
 |with_reducible apply Ev.iA
  exact Ev.assign (.mk rfl)
 |with_reducible apply Ev.iF
  first
  |exact Ev.gF0 (.mk rfl)
  |exact Ev.gE (.mk rfl)
  |exact Ev.gF (.mk rfl)
  |exact Ev.gR (.mk rfl)
 |with_reducible apply Ev.iL
  first
  |exact Ev.g0 (.mk rfl)
  |exact Ev.gA (.mk rfl)
  |exact Ev.g1 (.mk rfl)
  |exact Ev.gC (.mk rfl)
 |with_reducible apply Ev.iB
  first
  |exact Ev.lt0
  |exact Ev.a0
  |exact Ev.eq0
  |exact Ev.ne0
  |exact Ev.gt0
  |exact Ev.ge0
  |exact Ev.le0
  |exact Ev.s0
  |exact Ev.ND (.mk rfl) (.mk rfl)
  |exact Ev.W4 (.mk rfl) (.mk rfl)
 |with_reducible apply Ev.iC
  first
  |exact Ev.gL (.mk rfl)
  |exact Ev.gM (.mk rfl)
  |exact Ev.gS (.mk rfl)
 |with_reducible apply Ev.iI
  first
  |exact Ev.gI (.mk rfl) (.mk rfl)
  |exact Ev.gJ (.mk rfl) (.mk rfl)
 |exact Ev.extract (.mk rfl) rfl
 |exact Ev.not (.mk rfl)
 |exact Ev.o0
 |exact Ev.n0
 |exact Ev.ahT (.mk rfl)):Ev P n F A op ty v:=h
theorem St.oo {b m:Nat}{L L':List Value}[tk:lY b H (.cells L.toArray t (0,0)) R][sz:po P e m](hx:aZ F x (.pointer (some ⟨b,0,none⟩)))(hy:aZ F y (.agg L'.toArray))[o:Ll L'](h:St n F (Mm c (aX b (.cells L'.toArray t (0,0))::R)) (wpList P ops Q rest))
 (hm:m=L'.length:=by rfl) (hl:L.length=L'.length:=by first|simp only[List.length_cons,List.length_nil]|rfl):
 St n F (Mm c H) (wpList P ops Q ({dst:=none,op:= .store e x y,type:=ty,pos:=pos,after:=after,guard:=none}::rest)):=St.NH hx hy (by rw[sz.h,hm]) hl o.h h
theorem St.al {Z:Array Value}[zc:uA P t Z](h:∀b,St n ((d,.pointer (some ⟨b,0,none⟩))::F) (Mm c (aX b (.cells Z t (0,0))::H)) (wpList P ops Q rest))(hd:Nat.ble (d+1) n=true:=by rfl):
 St n F (Mm c H) (wpList P ops Q ({dst:=some d,op:= .alloc t,type:=ty,pos:=pos,after:=after,guard:=none}::rest)):=St.alloc zc.h hd h
theorem F1 {p q:Prop}(h:p→q:=by
 first
 |with_reducible exact St.nil
 |with_reducible exact St.Dz
 |with_reducible exact St.seq
 |with_reducible exact St.rg
 |with_reducible exact St.block
 |with_reducible exact St.skip
 |with_reducible exact St.LQ
 |with_reducible exact St.ahA
 |with_reducible exact St.NA
 |with_reducible exact St.Xa
 |with_reducible exact St.exit
 |with_reducible exact St.LP
 |with_reducible exact St.Xb
 |with_reducible exact Sq.nil
 |with_reducible exact Sq.tail
 |exact λh=>St.ee Ev.go h
 |exact λh=>Sq.ee Ev.go h
 |exact λh=>St.oo (.mk rfl) (.mk rfl) h
 |exact St.Si rfl):p→q:=h
theorem go {p q:Prop}(hp:p)(h:p→q:=by exact F1):q:=h hp
theorem F2 {p q r:Prop}(b:q→r:=by exact F1)(a:p→q:=by exact F1):p→r:=λh=>b (a h)
theorem F3 {p q r:Prop}(b:q→r:=by exact F1)(a:p→q:=by exact F2):p→r:=λh=>b (a h)
theorem F4 {p q r:Prop}(b:q→r:=by exact F2)(a:p→q:=by exact F2):p→r:=λh=>b (a h)
theorem F5 {p q r:Prop}(b:q→r:=by exact F2)(a:p→q:=by exact F3):p→r:=λh=>b (a h)
theorem F6 {p q r:Prop}(b:q→r:=by exact F3)(a:p→q:=by exact F3):p→r:=λh=>b (a h)
theorem F7 {p q r:Prop}(b:q→r:=by exact F3)(a:p→q:=by exact F4):p→r:=λh=>b (a h)
theorem F8 {p q r:Prop}(b:q→r:=by exact F4)(a:p→q:=by exact F4):p→r:=λh=>b (a h)
theorem F9 {p q r:Prop}(b:q→r:=by exact F4)(a:p→q:=by exact F5):p→r:=λh=>b (a h)
theorem F10 {p q r:Prop}(b:q→r:=by exact F5)(a:p→q:=by exact F5):p→r:=λh=>b (a h)
theorem F11 {p q r:Prop}(b:q→r:=by exact F5)(a:p→q:=by exact F6):p→r:=λh=>b (a h)
theorem F12 {p q r:Prop}(b:q→r:=by exact F6)(a:p→q:=by exact F6):p→r:=λh=>b (a h)
theorem F13 {p q r:Prop}(b:q→r:=by exact F6)(a:p→q:=by exact F7):p→r:=λh=>b (a h)
theorem F14 {p q r:Prop}(b:q→r:=by exact F7)(a:p→q:=by exact F7):p→r:=λh=>b (a h)
theorem F15 {p q r:Prop}(b:q→r:=by exact F7)(a:p→q:=by exact F8):p→r:=λh=>b (a h)
theorem F16 {p q r:Prop}(b:q→r:=by exact F8)(a:p→q:=by exact F8):p→r:=λh=>b (a h)
theorem F17 {p q r:Prop}(b:q→r:=by exact F8)(a:p→q:=by exact F9):p→r:=λh=>b (a h)
theorem F18 {p q r:Prop}(b:q→r:=by exact F9)(a:p→q:=by exact F9):p→r:=λh=>b (a h)
theorem F19 {p q r:Prop}(b:q→r:=by exact F9)(a:p→q:=by exact F10):p→r:=λh=>b (a h)
theorem F20 {p q r:Prop}(b:q→r:=by exact F10)(a:p→q:=by exact F10):p→r:=λh=>b (a h)
theorem F21 {p q r:Prop}(b:q→r:=by exact F10)(a:p→q:=by exact F11):p→r:=λh=>b (a h)
theorem F22 {p q r:Prop}(b:q→r:=by exact F11)(a:p→q:=by exact F11):p→r:=λh=>b (a h)
theorem F23 {p q r:Prop}(b:q→r:=by exact F11)(a:p→q:=by exact F12):p→r:=λh=>b (a h)
theorem F24 {p q r:Prop}(b:q→r:=by exact F12)(a:p→q:=by exact F12):p→r:=λh=>b (a h)
theorem F25 {p q r:Prop}(b:q→r:=by exact F12)(a:p→q:=by exact F13):p→r:=λh=>b (a h)
theorem F26 {p q r:Prop}(b:q→r:=by exact F13)(a:p→q:=by exact F13):p→r:=λh=>b (a h)
theorem F27 {p q r:Prop}(b:q→r:=by exact F13)(a:p→q:=by exact F14):p→r:=λh=>b (a h)
theorem F28 {p q r:Prop}(b:q→r:=by exact F14)(a:p→q:=by exact F14):p→r:=λh=>b (a h)
theorem F29 {p q r:Prop}(b:q→r:=by exact F14)(a:p→q:=by exact F15):p→r:=λh=>b (a h)
theorem F30 {p q r:Prop}(b:q→r:=by exact F15)(a:p→q:=by exact F15):p→r:=λh=>b (a h)
theorem g2 {p q:Prop}(hp:p)(h:p→q:=by exact F2):q:=h hp
theorem g3 {p q:Prop}(hp:p)(h:p→q:=by exact F3):q:=h hp
theorem g4 {p q:Prop}(hp:p)(h:p→q:=by exact F4):q:=h hp
theorem g5 {p q:Prop}(hp:p)(h:p→q:=by exact F5):q:=h hp
theorem g6 {p q:Prop}(hp:p)(h:p→q:=by exact F6):q:=h hp
theorem g7 {p q:Prop}(hp:p)(h:p→q:=by exact F7):q:=h hp
theorem g8 {p q:Prop}(hp:p)(h:p→q:=by exact F8):q:=h hp
theorem g9 {p q:Prop}(hp:p)(h:p→q:=by exact F9):q:=h hp
theorem g10 {p q:Prop}(hp:p)(h:p→q:=by exact F10):q:=h hp
theorem g11 {p q:Prop}(hp:p)(h:p→q:=by exact F11):q:=h hp
theorem g12 {p q:Prop}(hp:p)(h:p→q:=by exact F12):q:=h hp
theorem g13 {p q:Prop}(hp:p)(h:p→q:=by exact F13):q:=h hp
theorem g14 {p q:Prop}(hp:p)(h:p→q:=by exact F14):q:=h hp
theorem g15 {p q:Prop}(hp:p)(h:p→q:=by exact F15):q:=h hp
theorem g16 {p q:Prop}(hp:p)(h:p→q:=by exact F16):q:=h hp
theorem g17 {p q:Prop}(hp:p)(h:p→q:=by exact F17):q:=h hp
theorem g18 {p q:Prop}(hp:p)(h:p→q:=by exact F18):q:=h hp
theorem g19 {p q:Prop}(hp:p)(h:p→q:=by exact F19):q:=h hp
theorem g20 {p q:Prop}(hp:p)(h:p→q:=by exact F20):q:=h hp
theorem g21 {p q:Prop}(hp:p)(h:p→q:=by exact F21):q:=h hp
theorem g22 {p q:Prop}(hp:p)(h:p→q:=by exact F22):q:=h hp
theorem g23 {p q:Prop}(hp:p)(h:p→q:=by exact F23):q:=h hp
theorem g24 {p q:Prop}(hp:p)(h:p→q:=by exact F24):q:=h hp
theorem g25 {p q:Prop}(hp:p)(h:p→q:=by exact F25):q:=h hp
theorem g26 {p q:Prop}(hp:p)(h:p→q:=by exact F26):q:=h hp
theorem g27 {p q:Prop}(hp:p)(h:p→q:=by exact F27):q:=h hp
theorem g28 {p q:Prop}(hp:p)(h:p→q:=by exact F28):q:=h hp
theorem g29 {p q:Prop}(hp:p)(h:p→q:=by exact F29):q:=h hp
theorem g30 {p q:Prop}(hp:p)(h:p→q:=by exact F30):q:=h hp
theorem bF.bB {F:Fr}{x0:Operand}{v0:Value}(h0:vl F x0=some v0):bF F [x0] [v0]:= .cons (.mk h0) .nil
theorem bF.bH {F:Fr}{x0 x1:Operand}{v0 v1:Value}(h0:vl F x0=some v0)(h1:vl F x1=some v1):bF F [x0,x1] [v0,v1]:= .cons (.mk h0) (.cons (.mk h1) .nil)
theorem bF.eZ {F:Fr}{x0 x1 x2:Operand}{v0 v1 v2:Value}(h0:vl F x0=some v0)(h1:vl F x1=some v1)(h2:vl F x2=some v2):bF F [x0,x1,x2] [v0,v1,v2]:= .cons (.mk h0) (.cons (.mk h1) (.cons (.mk h2) .nil))
theorem bF.om {F:Fr}{x0 x1 x2 x3:Operand}{v0 v1 v2 v3:Value}(h0:vl F x0=some v0)(h1:vl F x1=some v1)(h2:vl F x2=some v2)(h3:vl F x3=some v3):bF F [x0,x1,x2,x3] [v0,v1,v2,v3]:= .cons (.mk h0) (.cons (.mk h1) (.cons (.mk h2) (.cons (.mk h3) .nil)))
theorem bF.ahU {F:Fr}{x0 x1 x2 x3 x4:Operand}{v0 v1 v2 v3 v4:Value}(h0:vl F x0=some v0)(h1:vl F x1=some v1)(h2:vl F x2=some v2)(h3:vl F x3=some v3)(h4:vl F x4=some v4):bF F [x0,x1,x2,x3,x4] [v0,v1,v2,v3,v4]:= .cons (.mk h0) (.cons (.mk h1) (.cons (.mk h2) (.cons (.mk h3) (.cons (.mk h4) .nil))))
theorem bF.alN {F:Fr}{x0 x1 x2 x3 x4 x5:Operand}{v0 v1 v2 v3 v4 v5:Value}(h0:vl F x0=some v0)(h1:vl F x1=some v1)(h2:vl F x2=some v2)(h3:vl F x3=some v3)(h4:vl F x4=some v4)(h5:vl F x5=some v5):bF F [x0,x1,x2,x3,x4,x5] [v0,v1,v2,v3,v4,v5]:= .cons (.mk h0) (.cons (.mk h1) (.cons (.mk h2) (.cons (.mk h3) (.cons (.mk h4) (.cons (.mk h5) .nil)))))
theorem bF.acB {F:Fr}{x0 x1 x2 x3 x4 x5 x6:Operand}{v0 v1 v2 v3 v4 v5 v6:Value}(h0:vl F x0=some v0)(h1:vl F x1=some v1)(h2:vl F x2=some v2)(h3:vl F x3=some v3)(h4:vl F x4=some v4)(h5:vl F x5=some v5)(h6:vl F x6=some v6):bF F [x0,x1,x2,x3,x4,x5,x6] [v0,v1,v2,v3,v4,v5,v6]:= .cons (.mk h0) (.cons (.mk h1) (.cons (.mk h2) (.cons (.mk h3) (.cons (.mk h4) (.cons (.mk h5) (.cons (.mk h6) .nil))))))
theorem bF.ahV {F:Fr}{x0 x1 x2 x3 x4 x5 x6 x7:Operand}{v0 v1 v2 v3 v4 v5 v6 v7:Value}(h0:vl F x0=some v0)(h1:vl F x1=some v1)(h2:vl F x2=some v2)(h3:vl F x3=some v3)(h4:vl F x4=some v4)(h5:vl F x5=some v5)(h6:vl F x6=some v6)(h7:vl F x7=some v7):bF F [x0,x1,x2,x3,x4,x5,x6,x7] [v0,v1,v2,v3,v4,v5,v6,v7]:= .cons (.mk h0) (.cons (.mk h1) (.cons (.mk h2) (.cons (.mk h3) (.cons (.mk h4) (.cons (.mk h5) (.cons (.mk h6) (.cons (.mk h7) .nil)))))))
theorem St.rV {fn:Func}{post:Value→List ao→Prop}{rl:List ResultVar}(vs:List Value)(H':List ao)(hp:post (H4 vs) H')(hr:fn.results=rl.toArray:=by rfl)(hv:Sj P F H rl vs:=by
 repeat(first
 |exact trivial
 |refine⟨rfl,?_⟩
 |refine⟨⟨_,_,_,_,rfl,Az.mem,.inl ⟨⟨_,UT.h⟩,po.h,rfl⟩⟩,?_⟩
 |refine⟨⟨_,_,_,_,rfl,Az.mem,.inr ⟨by rw[UT.h];trivial,rfl⟩⟩,?_⟩)) (hH:∀w,Mm c H w→Mm c H' w:=by exact λ_ hw=>hw.sub):
 St n F (Mm c H) (bodyPost P fn (λe w'=>∃v H',e= .returned v∧post v H'∧Mm c H' w') .ret):=St.LR vs H' hr hv hp hH
end
section
variable {P:Program}{ops:Array Oper}{Q:Exit→Act→World→Prop}{n:Nat}{F:Fr}{c:Ctx}{H Fp r r' C':List ao}{f:Nat}{listed:Array Bool}{d:Nat}{op:Op}{ty:TypeId}{pos:String}{after:Array Edge}{v:Value}
theorem SW.gd (i:Nat)(h:SW P ops Q n ((d,v)::F) c Fp r f (listed.setIfInBounds i true))(hr:((Region.ready .any ops listed).contains i&&Region.free .any ops listed i)=true:=by decide+kernel)(hi:ops[i]?=some {dst:=some d,op:=op,type:=ty,pos:=pos,after:=after,guard:=none}:=by rfl)(nX:∀R,Ev P n F (Mm c (Fp++R)) op ty v:=by exact λ_=>Ev.go)
 (hQ:NP Q:=by assumption) (hs:Region.noSelect ops=true:=by assumption) (hd:Nat.ble (d+1) n=true:=by rfl):SW P ops Q n F c Fp r (f+1) listed:=SW.defer i hQ hs hi nX hr hd h
theorem SW.me (h:SW P ops Q n F c Fp r f listed):SW P ops Q n F c Fp r f listed:=h
theorem SW.ck (i:Nat)(h:SW P ops Q n F c Fp r f listed)(hr:((Region.ready .any ops listed).contains i&&Region.free .any ops listed i)=true:=by decide+kernel):SW P ops Q n F c Fp r f listed:=h
theorem SW.dn [ap:App Fp r C'](h:St n F (Mm c C') (Q .normal))(hr:Region.ready .any ops listed=[]:=by decide+kernel):SW P ops Q n F c Fp r f listed:=SW.done hr h
theorem SW.t1 (i:Nat){o:Oper}[ap:App Fp r C'](h:St n F (Mm c C') (wpList P ops (Exit.then (KW P ops Q n c Fp f (listed.setIfInBounds i true)) Q) [o]))(hr:Region.ready .any ops listed=[i]:=by decide+kernel)(ho:ops[i]?=some o:=by rfl):SW P ops Q n F c Fp r (f+1) listed:=SW.abV hr ho h
theorem SW.t2 (i j:Nat){o o':Oper}[ap:App Fp r C'](h:St n F (Mm c C') (wpList P ops (Exit.then (KW P ops Q n c Fp f (listed.setIfInBounds i true)) Q) [o]))(h':St n F (Mm c C') (wpList P ops (Exit.then (KW P ops Q n c Fp f (listed.setIfInBounds j true)) Q) [o']))
 (hr:Region.ready .any ops listed=[i,j]:=by decide+kernel) (ho:ops[i]?=some o:=by rfl) (ho':ops[j]?=some o':=by rfl):SW P ops Q n F c Fp r (f+1) listed:=SW.abW hr ho ho' h h'
end
end Go.J
namespace Go.Proofs
open J Tryz
instance:type_of%(UT.mk vp):=⟨vp⟩
instance:type_of%(UT.mk pL):=⟨pL⟩
instance:type_of%(UT.mk iP):=⟨iP⟩
instance:type_of%(UT.mk kz):=⟨kz⟩
instance:type_of%(UT.mk l3):=⟨l3⟩
instance:type_of%(UT.mk rK):=⟨rK⟩
instance:type_of%(UT.mk sg):=⟨sg⟩
instance:type_of%(UT.mk yE):=⟨yE⟩
instance:type_of%(UT.mk mn):=⟨mn⟩
instance:type_of%(UT.mk underlying120):=⟨underlying120⟩
instance:type_of%(UT.mk underlying125):=⟨underlying125⟩
instance:type_of%(UT.mk yF):=⟨yF⟩
instance:type_of%(UT.mk eA):=⟨eA⟩
instance:type_of%(UT.mk vq):=⟨vq⟩
instance:type_of%(UT.mk kG):=⟨kG⟩
instance:type_of%(UT.mk underlying169):=⟨underlying169⟩
instance:type_of%(UT.mk underlying170):=⟨underlying170⟩
instance:type_of%(UT.mk j9):=⟨j9⟩
instance:type_of%(UT.mk underlying172):=⟨underlying172⟩
instance:type_of%(UT.mk underlying174):=⟨underlying174⟩
instance:type_of%(UT.mk BK):=⟨BK⟩
instance:type_of%(UT.mk underlying183):=⟨underlying183⟩
instance:type_of%(UT.mk si):=⟨si⟩
instance:type_of%(UT.mk o3):=⟨o3⟩
instance:type_of%(UT.mk ga):=⟨ga⟩
instance:type_of%(UT.mk sj):=⟨sj⟩
instance:type_of%(UT.mk underlying200):=⟨underlying200⟩
instance:type_of%(UT.mk yD):=⟨yD⟩
instance:type_of%(UT.mk underlying225):=⟨underlying225⟩
instance:type_of%(UT.mk HT):=⟨HT⟩
instance:type_of%(UT.mk BL):=⟨BL⟩
instance:type_of%(UT.mk yH):=⟨yH⟩
instance:type_of%(UT.mk underlying239):=⟨underlying239⟩
instance:type_of%(UT.mk BM):=⟨BM⟩
instance:type_of%(UT.mk underlying25):=⟨underlying25⟩
instance:type_of%(UT.mk underlying26):=⟨underlying26⟩
instance:type_of%(UT.mk underlying260):=⟨underlying260⟩
instance:type_of%(UT.mk TR):=⟨TR⟩
instance:type_of%(UT.mk vr):=⟨vr⟩
instance:type_of%(UT.mk pS):=⟨pS⟩
instance:type_of%(UT.mk eN):=⟨eN⟩
instance:type_of%(UT.mk mO):=⟨mO⟩
instance:type_of%(UT.mk underlying32):=⟨underlying32⟩
instance:type_of%(UT.mk uX):=⟨uX⟩
instance:type_of%(UT.mk Ec):=⟨Ec⟩
instance:type_of%(UT.mk HU):=⟨HU⟩
instance:type_of%(UT.mk Eb):=⟨Eb⟩
instance:type_of%(UT.mk Cm):=⟨Cm⟩
instance:type_of%(UT.mk cI):=⟨cI⟩
instance:type_of%(UT.mk HV):=⟨HV⟩
instance:type_of%(UT.mk HW):=⟨HW⟩
instance:type_of%(UT.mk underlying87):=⟨underlying87⟩
instance:type_of%(UT.mk sK):=⟨sK⟩
instance:type_of%(UT.mk uY):=⟨uY⟩
end Go.Proofs
namespace Go.Proofs.YtblifkgpebebmaaGreatDoor
open Go Go.J Tryz
theorem mixed:Tryz.prog.follows .mixedOrders=true:=by kernel_rfl
theorem Jr:(Tryz.prog.info? 105).bind (λi=>i.zero.map Value.cells)=some #[.string ⟨#[]⟩,.slice none 0 0]:=by kernel_rfl
instance:type_of%(uA.mk Jr):=⟨Jr⟩
theorem WK (w:World):cu Tryz.prog 105 w= .ok #[(0,1),(1,1)] w:=by kernel_rfl
theorem gw:(Tryz.prog.info? 105).map (·.size)=some 2:=by kernel_rfl
instance:type_of%(po.mk gw):=⟨gw⟩
theorem OI:(Tryz.prog.info? 105).bind (·.zero)=some (Value.agg #[.string ⟨#[]⟩,.slice none 0 0]):=by kernel_rfl
theorem l6:(Tryz.prog.info? 108).map (·.size)=some 6:=by kernel_rfl
instance:type_of%(po.mk l6):=⟨l6⟩
theorem TT:(Tryz.prog.info? 30).bind (λi=>i.zero.map Value.cells)=some #[.slice none 0 0]:=by kernel_rfl
instance:type_of%(uA.mk TT):=⟨TT⟩
theorem kY:(Tryz.prog.info? 58).map (·.size)=some 1:=by kernel_rfl
theorem eJ:(Tryz.prog.info? 3).map (·.size)=some 1:=by kernel_rfl
instance:type_of%(po.mk eJ):=⟨eJ⟩
theorem acC (w:World):cu Tryz.prog 163 w= .ok #[(0,1),(1,1)] w:=by kernel_rfl
theorem OJ:(Tryz.prog.info? 163).bind (λi=>i.zero.map Value.cells)=some #[.int .i64 0,.slice none 0 0]:=by kernel_rfl
instance:type_of%(uA.mk OJ):=⟨OJ⟩
theorem jR:(Tryz.prog.info? 163).map (·.size)=some 2:=by kernel_rfl
instance:type_of%(po.mk jR):=⟨jR⟩
theorem sk:bQ Tryz.prog 163 1=some 1:=by kernel_rfl
instance:type_of%(fW.mk sk):=⟨sk⟩
theorem acD (w:World):cu Tryz.prog 165 w= .ok #[(0,1),(1,1)] w:=by kernel_rfl
theorem OK:(Tryz.prog.info? 165).bind (λi=>i.zero.map Value.cells)=some #[.int .i64 0,.int .i64 0]:=by kernel_rfl
instance:type_of%(uA.mk OK):=⟨OK⟩
theorem dE:(Tryz.prog.info? 165).map (·.size)=some 2:=by kernel_rfl
instance:type_of%(po.mk dE):=⟨dE⟩
theorem mA:(Tryz.prog.info? 165).bind (·.zero)=some (Value.agg #[.int .i64 0,.int .i64 0]):=by kernel_rfl
theorem sm:(Tryz.prog.info? 165).map (·.bytes)=some 16:=by kernel_rfl
theorem rL:(Tryz.prog.info? 161).map (·.size)=some 1:=by kernel_rfl
instance:type_of%(po.mk rL):=⟨rL⟩
theorem uZ:bQ Tryz.prog 30 0=some 0:=by kernel_rfl
instance:type_of%(fW.mk uZ):=⟨uZ⟩
theorem OM:(Tryz.prog.info? 163).bind (·.zero)=some (Value.agg #[.int .i64 0,.slice none 0 0]):=by kernel_rfl
theorem WL:(Tryz.prog.info? 163).map (·.bytes)=some 32:=by kernel_rfl
theorem ahW:(Tryz.prog.info? 28).map (·.size)=some 1:=by kernel_rfl
theorem jb:(Tryz.prog.info? 30).map (·.size)=some 1:=by kernel_rfl
instance:type_of%(po.mk jb):=⟨jb⟩
instance:uA Tryz.prog 25 #[.slice none 0 0,.slice none 0 0]:=⟨by kernel_rfl⟩
theorem TU:(Tryz.prog.info? 9).map (·.size)=some 1:=by kernel_rfl
instance:type_of%(po.mk TU):=⟨TU⟩
instance:uA Tryz.prog 156 #[.string ⟨#[]⟩,.slice none 0 0]:=⟨by kernel_rfl⟩
theorem Js:(Tryz.prog.info? 156).map (·.size)=some 2:=by kernel_rfl
instance:type_of%(po.mk Js):=⟨Js⟩
theorem jA:(Tryz.prog.info? 3).bind (·.zero)=some (Value.int .i64 0):=by kernel_rfl
instance:fW Tryz.prog 156 1 1:=⟨by kernel_rfl⟩
theorem ua:bQ Tryz.prog 25 0=some 0:=by kernel_rfl
instance:type_of%(fW.mk ua):=⟨ua⟩
theorem Cn:bQ Tryz.prog 25 1=some 1:=by kernel_rfl
instance:type_of%(fW.mk Cn):=⟨Cn⟩
theorem YJ:(Tryz.prog.info? 25).map (·.size)=some 2:=by kernel_rfl
instance:type_of%(po.mk YJ):=⟨YJ⟩
theorem HY:bQ Tryz.prog 32 2=some 3:=by kernel_rfl
instance:type_of%(fW.mk HY):=⟨HY⟩
instance:uA Tryz.prog 115 #[.string ⟨#[]⟩,.slice none 0 0,.int .i64 0,.int .i64 0,.string ⟨#[]⟩,.int .i64 0,.string ⟨#[]⟩,.slice none 0 0,.slice none 0 0]:=⟨by kernel_rfl⟩
theorem pq:(Tryz.prog.info? 115).map (·.size)=some 9:=by kernel_rfl
instance:type_of%(po.mk pq):=⟨pq⟩
theorem YK:(Tryz.prog.info? 9).bind (·.zero)=some (Value.string ⟨#[]⟩):=by kernel_rfl
instance:uA Tryz.prog 135 #[.string ⟨#[]⟩,.int .i64 0,.int .i64 0]:=⟨by kernel_rfl⟩
theorem Ed:(Tryz.prog.info? 135).map (·.size)=some 3:=by kernel_rfl
instance:type_of%(po.mk Ed):=⟨Ed⟩
instance:fW Tryz.prog 32 0 0:=⟨by kernel_rfl⟩
theorem ahX:(Tryz.prog.info? 58).bind (·.zero)=some (Value.slice none 0 0):=by kernel_rfl
instance:uA Tryz.prog 110 #[.string ⟨#[]⟩,.slice none 0 0,.int .i64 0,.int .i64 0,.int .i64 0,.string ⟨#[]⟩,.int .i64 0,.string ⟨#[]⟩,.slice none 0 0,.slice none 0 0]:=⟨by kernel_rfl⟩
theorem l7:(Tryz.prog.info? 110).map (·.size)=some 10:=by kernel_rfl
instance:type_of%(po.mk l7):=⟨l7⟩
instance:fW Tryz.prog 32 1 2:=⟨by kernel_rfl⟩
instance:fW Tryz.prog 32 3 4:=⟨by kernel_rfl⟩
instance:po Tryz.prog 32 5:=⟨by kernel_rfl⟩
theorem OO:(Tryz.prog.info? 35).bind (λi=>i.zero.map Value.cells)=some #[.int .i64 0,.int .i64 0]:=by kernel_rfl
instance:type_of%(uA.mk OO):=⟨OO⟩
theorem YL (w:World):cu Tryz.prog 35 w= .ok #[(0,1),(1,1)] w:=by kernel_rfl
instance:po Tryz.prog 35 2:=⟨by kernel_rfl⟩
theorem wq:bQ Tryz.prog 105 0=some 0:=by kernel_rfl
instance:type_of%(fW.mk wq):=⟨wq⟩
theorem lD:bQ Tryz.prog 105 1=some 1:=by kernel_rfl
instance:type_of%(fW.mk lD):=⟨lD⟩
theorem WM:aJ Tryz.prog 139:=⟨_,Tryz.func139,rfl,by kernel_rfl⟩
instance:uA Tryz.prog 3 #[.int .i64 0]:=⟨by kernel_rfl⟩
instance:uA Tryz.prog 260 #[.nilFunc]:=⟨by kernel_rfl⟩
theorem acF:(Tryz.prog.info? 260).map (·.size)=some 1:=by kernel_rfl
theorem WN:aJ Tryz.prog 140:=⟨_,Tryz.func140,rfl,by kernel_rfl⟩
theorem rM:aJ Tryz.prog 113:=⟨_,Tryz.func113,rfl,by kernel_rfl⟩
instance:fW Tryz.prog 108 0 0:=⟨by kernel_rfl⟩
theorem sq:bQ Tryz.prog 108 2=some 2:=by kernel_rfl
instance:type_of%(fW.mk sq):=⟨sq⟩
theorem qU:bQ Tryz.prog 108 4=some 5:=by kernel_rfl
instance:type_of%(fW.mk qU):=⟨qU⟩
instance:fW Tryz.prog 108 1 1:=⟨by kernel_rfl⟩
theorem TV:aJ Tryz.prog 46:=⟨_,Tryz.func46,rfl,by kernel_rfl⟩
theorem wu:bQ Tryz.prog 108 3=some 3:=by kernel_rfl
instance:type_of%(fW.mk wu):=⟨wu⟩
theorem WO:aJ Tryz.prog 114:=⟨_,Tryz.func114,rfl,by kernel_rfl⟩
theorem WQ:aJ Tryz.prog 115:=⟨_,Tryz.func115,rfl,by kernel_rfl⟩
theorem Jt:aJ Tryz.prog 112:=⟨_,Tryz.func112,rfl,by kernel_rfl⟩
instance:fW Tryz.prog 35 0 0:=⟨by kernel_rfl⟩
theorem acG:(Tryz.prog.info? 105).map (·.bytes)=some 40:=by kernel_rfl
theorem Ju:aJ Tryz.prog 116:=⟨_,Tryz.func116,rfl,by kernel_rfl⟩
instance:uA Tryz.prog 225 #[.nilFunc]:=⟨by kernel_rfl⟩
theorem acH:(Tryz.prog.info? 225).map (·.size)=some 1:=by kernel_rfl
theorem yI:aJ Tryz.prog 78:=⟨_,Tryz.func78,rfl,by kernel_rfl⟩
instance:fW Tryz.prog 156 0 0:=⟨by kernel_rfl⟩
theorem OP:(Tryz.prog.info? 100).bind (λi=>i.zero.map Value.cells)=some #[.slice none 0 0,.slice none 0 0]:=by kernel_rfl
instance:type_of%(uA.mk OP):=⟨OP⟩
theorem kH:(Tryz.prog.info? 157).map (·.size)=some 1:=by kernel_rfl
instance:type_of%(po.mk kH):=⟨kH⟩
theorem WS:(Tryz.prog.info? 157).bind (·.zero)=some (Value.int .u64 0):=by kernel_rfl
theorem WT:(Tryz.prog.info? 157).map (·.bytes)=some 8:=by kernel_rfl
theorem acI (w:World):cu Tryz.prog 100 w= .ok #[(0,1),(1,1)] w:=by kernel_rfl
theorem vt:(Tryz.prog.info? 100).map (·.size)=some 2:=by kernel_rfl
instance:type_of%(po.mk vt):=⟨vt⟩
instance:fW Tryz.prog 100 0 0:=⟨by kernel_rfl⟩
instance:fW Tryz.prog 100 1 1:=⟨by kernel_rfl⟩
theorem WU:aJ Tryz.prog 110:=⟨_,Tryz.func110,rfl,by kernel_rfl⟩
theorem ahY:aJ Tryz.prog 79:=⟨_,Tryz.func79,rfl,by kernel_rfl⟩
theorem YM:aJ Tryz.prog 45:=⟨_,Tryz.func45,rfl,by kernel_rfl⟩
theorem YN:aJ Tryz.prog 80:=⟨_,Tryz.func80,rfl,by kernel_rfl⟩
instance:fW Tryz.prog 135 0 0:=⟨by kernel_rfl⟩
theorem Co:bQ Tryz.prog 135 1=some 1:=by kernel_rfl
instance:type_of%(fW.mk Co):=⟨Co⟩
theorem Cp:bQ Tryz.prog 135 2=some 2:=by kernel_rfl
theorem Lm:aJ Tryz.prog 85:=⟨_,Tryz.func85,rfl,by kernel_rfl⟩
theorem ss:bQ Tryz.prog 163 0=some 0:=by kernel_rfl
instance:type_of%(fW.mk ss):=⟨ss⟩
theorem Cq:bQ Tryz.prog 165 0=some 0:=by kernel_rfl
instance:type_of%(fW.mk Cq):=⟨Cq⟩
theorem su:bQ Tryz.prog 165 1=some 1:=by kernel_rfl
instance:type_of%(fW.mk su):=⟨su⟩
theorem BN:(Tryz.prog.info? 4).map (·.size)=some 1:=by kernel_rfl
instance:type_of%(po.mk BN):=⟨BN⟩
theorem SD:(Tryz.prog.info? 4).bind (·.zero)=some (Value.bool false):=by kernel_rfl
theorem by4:(Tryz.prog.info? 4).map (·.bytes)=some 1:=by kernel_rfl
theorem wO:(Tryz.prog.info? 3).map (·.bytes)=some 8:=by kernel_rfl
theorem acJ:aJ Tryz.prog 117:=⟨_,Tryz.func117,rfl,by kernel_rfl⟩
theorem ahZ:aJ Tryz.prog 83:=⟨_,Tryz.func83,rfl,by kernel_rfl⟩
theorem acK:aJ Tryz.prog 84:=⟨_,Tryz.func84,rfl,by kernel_rfl⟩
theorem ah0:aJ Tryz.prog 86:=⟨_,Tryz.func86,rfl,by kernel_rfl⟩
theorem WV:aJ Tryz.prog 133:=⟨_,Tryz.func133,rfl,by kernel_rfl⟩
theorem pt:aJ Tryz.prog 100:=⟨_,Tryz.func100,rfl,by kernel_rfl⟩
theorem WW:aJ Tryz.prog 138:=⟨_,Tryz.func138,rfl,by kernel_rfl⟩
theorem acL:aJ Tryz.prog 137:=⟨_,Tryz.func137,rfl,by kernel_rfl⟩
theorem Jv:aJ Tryz.prog 111:=⟨_,Tryz.func111,rfl,by kernel_rfl⟩
theorem TW {u0:Value}(h0:u0.oneCell'=true)(w:World):(Instr.build 35 #[(0,u0)]).run Tryz.prog w= .ok (.agg #[u0,.int .i64 0]) w:=
 bU OO (YL w) (by simp[Instr.fill,J.bT,J.cells_one h0])
theorem OQ {u1:Value}(h1:u1.oneCell'=true)(w:World):(Instr.build 105 #[(1,u1)]).run Tryz.prog w= .ok (.agg #[.string ⟨#[]⟩,u1]) w:=
 bU Jr (WK w) (by simp[Instr.fill,J.bT,J.cells_one h1])
theorem x8 (w:World):(Instr.build 105 #[]).run Tryz.prog w= .ok (.agg #[.string ⟨#[]⟩,.slice none 0 0]) w:=
 bU Jr (WK w) (by simp[Instr.fill,J.bT])
theorem HZ {u0 u1:Value}(h0:u0.oneCell'=true)(h1:u1.oneCell'=true)(w:World):(Instr.build 100 #[(0,u0),(1,u1)]).run Tryz.prog w= .ok (.agg #[u0,u1]) w:=
 bU OP (acI w) (by simp[Instr.fill,J.bT,J.cells_one h0,J.cells_one h1])
theorem OS {u0:Value}(h0:u0.oneCell'=true)(w:World):(Instr.build 163 #[(0,u0)]).run Tryz.prog w= .ok (.agg #[u0,.slice none 0 0]) w:=
 bU OJ (acC w) (by simp[Instr.fill,J.bT,J.cells_one h0])
theorem rj {u0 u1:Value}(h0:u0.oneCell'=true)(h1:u1.oneCell'=true)(w:World):(Instr.build 165 #[(0,u0),(1,u1)]).run Tryz.prog w= .ok (.agg #[u0,u1]) w:=
 bU OK (acD w) (by simp[Instr.fill,J.bT,J.cells_one h0,J.cells_one h1])
theorem fB {u0 u1:Value}(h0:u0.oneCell'=true)(h1:u1.oneCell'=true)(w:World):(Instr.build 35 #[(0,u0),(1,u1)]).run Tryz.prog w= .ok (.agg #[u0,u1]) w:=
 bU OO (YL w) (by simp[Instr.fill,J.bT,J.cells_one h0,J.cells_one h1])
theorem fL (w:World):(Instr.build 35 #[]).run Tryz.prog w= .ok (.agg #[.int .i64 0,.int .i64 0]) w:=
 bU OO (YL w) (by simp[Instr.fill,J.bT])
theorem TX (b:bI)(v:aY)(l:List fK):dU (.mk b v l)= .mk b (l.map dU):=by rw[dU,uS]
theorem OT (k:Int)(s:bI)(i:Int)(t:fK)(v:aY)(l:List dM):di (.mk k s i t v l)= .mk k s i (dU t) (l.map di):=by rw[di,rh]
theorem Ee (r x:Int)(v:aY)(l:List cM):dN (.mk r x v l)= .mk r x (l.map dN):=by rw[dN,y5]
abbrev ub:fK:= .mk [] bK []
theorem OU {α:Type}{p:α→Prop}{x y:α}(hx:p x)(hy:p y):∀z∈[x,y],p z:=λz hz=>by
 simp only[List.mem_cons,List.not_mem_nil,or_false]at hz
 rcases hz with rfl|rfl
 ·exact hx
 ·exact hy
abbrev e0:iy:= .mk sE []
abbrev t0:iy:= .mk sT []
abbrev fn0 (a b:iy):iy:= .mk [] [a,b]
abbrev p0:iy:=fn0 e0 t0
theorem all_cons {α:Type}{p:α→Prop}{x:α}{l:List α}(h:p x)(k:∀y∈l,p y):∀y∈x::l,p y:=λy hy=>by
 rcases cD.1 hy with rfl|hy
 ·exact h
 ·exact k y hy
theorem all_nil {α:Type}{p:α→Prop}:∀y∈([]:List α),p y:=λy hy=>by cases hy
end Go.Proofs.YtblifkgpebebmaaGreatDoor
namespace Go.J
open Go
def pM:List Int→List Int→Bool
 | [],[]=>false
 | [],_::_=>true
 |_::_,[]=>false
 |a::x,b::y=>decide (a<b)||(decide (a=b)&&pM x y)
theorem oq:∀x:List Int,pM x x=false
 | []=>rfl
 |a::x=>by simp[pM,oq x]
theorem qV:∀{x y z:List Int},pM x y=true→pM y z=true→pM x z=true
 | [],[],_,h,_=>by simp[pM]at h
 | [],_::_,[],_,h=>by simp[pM]at h
 | [],_::_,_::_,_,_=>rfl
 |_::_,[],_,h,_=>by simp[pM]at h
 |_::_,_::_,[],_,h=>by simp[pM]at h
 |a::x,b::y,c::z,h,k=>by
  simp only[pM,Bool.or_eq_true,Bool.and_eq_true,decide_eq_true_eq]at h k⊢
  rcases h with h|⟨h,h'⟩
  ·left;rcases k with k|⟨k,_⟩<;>omega
  ·rcases k with k|⟨k,k'⟩
   ·left;omega
   ·right;exact⟨by omega,qV h' k'⟩
theorem x9:∀(x y:List Int),pM x y=true∨x=y∨pM y x=true
 | [],[]=> .inr (.inl rfl)
 | [],_::_=> .inl rfl
 |_::_,[]=> .inr (.inr rfl)
 |a::x,b::y=>by
  simp only[pM,Bool.or_eq_true,Bool.and_eq_true,decide_eq_true_eq,List.cons.injEq]
  rcases Int.lt_trichotomy a b with h|h|h
  ·exact .inl (.inl h)
  ·rcases x9 x y with k|k|k
   ·exact .inl (.inr ⟨h,k⟩)
   ·exact .inr (.inl ⟨h,k⟩)
   ·exact .inr (.inr (.inr ⟨h.symm,k⟩))
  ·exact .inr (.inr (.inl h))
section
variable (p:List Int)
def pre (L i:Nat):List Int:=(p.drop i).take L
variable {p}
end
section
variable {n:Nat}{key:Nat→List Int}{cf:Nat→Nat→Int}{l:List Nat}
end
section
variable {p:List Int}{L:Nat}{cf:Nat→Nat→Int}{l:List Nat}{rk:List Int}
end
section
variable {p:List Int}
theorem OV {a b:Nat}(ha:a≤p.length)(hb:b≤p.length)(h:p.drop a=p.drop b):a=b:=by
 have:=congrArg List.length h
 simp only[List.length_drop]at this
 omega
abbrev Sx (p:List Int)(l:List Nat):Prop:=l.Pairwise (λa b=>pM (p.drop a) (p.drop b)=true)
structure OW (p:List Int)(i:Nat)(A B:List Nat):Prop where
 perm:(A++B).Perm (List.range i)
 srt:Sx p (A++B)
 less:∀b∈B,pM (p.drop i) (p.drop b)=true
theorem OW.step {i a:Nat}{A B:List Nat}(h:OW p i (A++ [a]) B)(hl:pM (p.drop i) (p.drop a)=true):OW p i A (a::B):=
 ⟨by simpa using h.perm,by simpa using h.srt,λb hb=>by rcases cD.1 hb with rfl|hb;exact hl;exact h.less b hb⟩
theorem OW.done {i:Nat}{A B:List Nat}(h:OW p i A B)(hi:i<p.length)(hl:A=[]∨∃A' a,A=A'++ [a]∧pM (p.drop i) (p.drop a)=false):(A++i::B).Perm (List.range (i+1))∧Sx p (A++i::B):=by
 have EB:∀x∈A++B,x<i:=λx hx=>cy.1 (h.perm.mem_iff.1 hx)
 constructor
 ·rw[vc]
  exact rD.trans ((h.perm.cons i).trans (List.perm_append_singleton i _).symm)
 ·have hs:=rB.1 h.srt
  have hA:∀x∈A,pM (p.drop x) (p.drop i)=true:=by
   rcases hl with rfl|⟨A',a,rfl,hla⟩
   ·intro x hx;cases hx
   ·have last:pM (p.drop a) (p.drop i)=true:=by
     have hai:=EB a (by simp)
     rcases x9 (p.drop a) (p.drop i)with q|q|q
     ·exact q
     ·have:=OV (by omega) (by omega) q;omega
     ·rw[hla]at q;cases q
    intro x hx
    rcases ba.1 hx with hx|hx
    ·exact qV ((rB.1 hs.1).2.2 x hx a (Au _)) last
    ·rw[bJ.1 hx];exact last
  refine rB.2 ⟨hs.1,ib.2 ⟨h.less,hs.2.1⟩,?_⟩;intro x hx y hy
  rcases cD.1 hy with rfl|hy
  ·exact hA x hx
  ·exact hs.2.2 x hx y hy
end
section
variable {n:Nat}{cf:Nat→Nat→Int}{l:List Nat}
end
structure acM (l:List (List bI)):Prop where
 len:l.length≤100
 each:∀s∈l,0<s.length∧s.length≤12∧s.all isWord=true
theorem acM.nil:acM []:=⟨by simp,λs h=>by cases h⟩
def hz {β:Type}(q:List Nat):List Nat→List β→List β
 |x::pts,z::zs=>if(x::pts).take q.length=q then z::hz q pts zs else hz q pts zs
 |_,_=>[]
end Go.J
namespace Go.Proofs.YtblifkgpebebmaaGreatDoor
open Go Go.J Tryz
theorem wfI {l:List Int}(h:l.all (λx=>decide (-9223372036854775808≤x)&&decide (x≤9223372036854775807))=true):∀x∈l,aL.wf x:=λx hx=>by
 have:=eO.1 h x hx
 simp only[Bool.and_eq_true,decide_eq_true_eq]at this
 exact this
end Go.Proofs.YtblifkgpebebmaaGreatDoor
namespace Go.Proofs
open Go.Shelf
def Tryz.vu:Go.Shelf.Ren:=⟨λ|156=>18|165=>37|166=>38|169=>39|240=>73|241=>74|276=>107|277=>108|n=>n,λ|0=>0|3=>3|4=>4|9=>9|20=>20|31=>33|37=>84|5=>5|70=>83|72=>86|75=>89|80=>92|76=>90|127=>151|164=>214|n=>n,λ|n=>n⟩
theorem Tryz.Jw:Go.Proofs.Lays.n156 Tryz.prog Tryz.vu:={
 mixed:=by kernel_rfl
 f156:=Tryz.func18.trans (congrArg some (by kernel_rfl))
 f165:=Tryz.func37.trans (congrArg some (by kernel_rfl))
 f166:=Tryz.func38.trans (congrArg some (by kernel_rfl))
 f169:=Tryz.func39.trans (congrArg some (by kernel_rfl))
 f240:=Tryz.func73.trans (congrArg some (by kernel_rfl))
 f241:=Tryz.func74.trans (congrArg some (by kernel_rfl))
 f276:=Tryz.func107.trans (congrArg some (by kernel_rfl))
 f277:=Tryz.func108.trans (congrArg some (by kernel_rfl))
 t0:=WJ
 a0:=Tryz.isAgg0
 z0:=Tryz.sizeOf0
 v0:=Tryz.zeroValue0
 t3:=eN
 a3:=Tryz.isAgg3
 z3:=Tryz.sizeOf3
 v3:=Tryz.zeroValue3
 t4:=Eb
 a4:=Tryz.isAgg4
 z4:=Tryz.sizeOf4
 v4:=Tryz.zeroValue4
 t9:=sK
 a9:=Tryz.isAgg9
 z9:=Tryz.sizeOf9
 v9:=Tryz.zeroValue9
 t20:=Tryz.underlying20
 a20:=Tryz.isAgg20
 z20:=Tryz.sizeOf20
 v20:=Tryz.zeroValue20
 t31:=uX
 a31:=Tryz.isAgg33
 z31:=Tryz.sizeOf33
 v31:=Tryz.zeroValue33
 t37:=HX
 a37:=Tryz.isAgg84
 z37:=Tryz.sizeOf84
 v37:=Tryz.zeroValue84
 t70:=Tryz.underlying83
 a70:=Tryz.isAgg83
 z70:=Tryz.sizeOf83
 v70:=Tryz.zeroValue83
 t72:=Tryz.underlying86
 a72:=Tryz.isAgg86
 z72:=Tryz.sizeOf86
 v72:=Tryz.zeroValue86
 t75:=Tryz.underlying89
 a75:=Tryz.isAgg89
 z75:=Tryz.sizeOf89
 v75:=Tryz.zeroValue89
 t76:=Tryz.underlying90
 a76:=Tryz.isAgg90
 z76:=Tryz.sizeOf90
 v76:=Tryz.zeroValue90
 t127:=Tryz.underlying151
 a127:=Tryz.isAgg151
 z127:=Tryz.sizeOf151
 v127:=Tryz.zeroValue151
 t164:=Tryz.underlying214
 a164:=Tryz.isAgg214
 z164:=Tryz.sizeOf214
 v164:=Tryz.zeroValue214}
theorem Tryz.mo:Builder.Extra Tryz.prog Tryz.vu:={
 sizeBuilder:=by kernel_rfl
 liesBuilder:=by kernel_rfl
 t5:=Dn
 a5:=Tryz.isAgg5
 z5:=Tryz.sizeOf5
 v5:=Tryz.zeroValue5
 infoByte:=by kernel_rfl
 cellsByte:=by kernel_rfl
 sizeByte:=by kernel_rfl
 neB5:=by decide}
def Tryz.Ef:Go.Shelf.Ren:=⟨λ|197=>41|260=>75|n=>n,λ|0=>0|3=>3|4=>4|5=>5|9=>9|21=>21|46=>218|105=>93|119=>217|138=>220|139=>221|n=>n,λ|3=>0|4=>1|n=>n⟩
theorem Tryz.TY:Go.Proofs.Lays.n197 Tryz.prog Tryz.Ef:={
 mixed:=by kernel_rfl
 f197:=Tryz.func41.trans (congrArg some (by kernel_rfl))
 f260:=Tryz.func75.trans (congrArg some (by kernel_rfl))
 t0:=WJ
 a0:=Tryz.isAgg0
 z0:=Tryz.sizeOf0
 v0:=Tryz.zeroValue0
 t3:=eN
 a3:=Tryz.isAgg3
 z3:=Tryz.sizeOf3
 v3:=Tryz.zeroValue3
 t4:=Eb
 a4:=Tryz.isAgg4
 z4:=Tryz.sizeOf4
 v4:=Tryz.zeroValue4
 t5:=Dn
 a5:=Tryz.isAgg5
 z5:=Tryz.sizeOf5
 v5:=Tryz.zeroValue5
 t9:=sK
 a9:=Tryz.isAgg9
 z9:=Tryz.sizeOf9
 v9:=Tryz.zeroValue9
 t21:=Tryz.underlying21
 a21:=Tryz.isAgg21
 z21:=Tryz.sizeOf21
 v21:=Tryz.zeroValue21
 t46:=yG
 a46:=Tryz.isAgg218
 z46:=Tryz.sizeOf218
 v46:=Tryz.zeroValue218
 t105:=Tryz.underlying93
 a105:=Tryz.isAgg93
 z105:=Tryz.sizeOf93
 v105:=Tryz.zeroValue93
 t119:=Tryz.underlying217
 a119:=Tryz.isAgg217
 z119:=Tryz.sizeOf217
 t138:=Tryz.underlying220
 a138:=Tryz.isAgg220
 z138:=Tryz.sizeOf220
 v138:=Tryz.zeroValue220
 t139:=Tryz.underlying221
 a139:=Tryz.isAgg221
 z139:=Tryz.sizeOf221
 v139:=Tryz.zeroValue221
 g3:=by kernel_rfl
 g4:=by kernel_rfl}
end Go.Proofs
namespace Go.Proofs
open Go.Shelf Go.RowKit Go.Lib
variable {P:Program}{ρ:Ren}
theorem OX {r:Int}(h:128≤r):∃(n:Nat) (x:UInt8),(Utf8.encode r).size=n∧2≤n∧n≤4∧(Utf8.encode r).data.toList[n-1]?=some x∧128≤x.toNat:=by
 have key:∀c:Nat,128≤c→c<1114112→∃(n:Nat) (x:UInt8),(if c<0x80 then(⟨#[UInt8.ofNat c]⟩:ByteArray)else if c<0x800 then⟨#[UInt8.ofNat (0xC0+c/64),UInt8.ofNat (0x80+c%64)]⟩
  else if c<0x10000 then⟨#[UInt8.ofNat (0xE0+c/4096),UInt8.ofNat (0x80+c/64%64),UInt8.ofNat (0x80+c%64)]⟩
  else⟨#[UInt8.ofNat (0xF0+c/262144),UInt8.ofNat (0x80+c/4096%64),UInt8.ofNat (0x80+c/64%64),UInt8.ofNat (0x80+c%64)]⟩).size=n∧2≤n∧n≤4∧
  (if c<0x80 then(⟨#[UInt8.ofNat c]⟩:ByteArray)else if c<0x800 then⟨#[UInt8.ofNat (0xC0+c/64),UInt8.ofNat (0x80+c%64)]⟩
  else if c<0x10000 then⟨#[UInt8.ofNat (0xE0+c/4096),UInt8.ofNat (0x80+c/64%64),UInt8.ofNat (0x80+c%64)]⟩
  else⟨#[UInt8.ofNat (0xF0+c/262144),UInt8.ofNat (0x80+c/4096%64),UInt8.ofNat (0x80+c/64%64),UInt8.ofNat (0x80+c%64)]⟩).data.toList[n-1]?=some x∧128≤x.toNat:=by
  intro c h1 h2
  have hx:128≤(UInt8.ofNat (0x80+c%64)).toNat:=by simp[UInt8.toNat_ofNat'];omega
  rw[aA (by omega)]
  by_cases k:c<0x800
  ·rw[aB k];exact⟨2,_,rfl,by omega,by omega,rfl,hx⟩
  ·rw[aA k]
   by_cases k2:c<0x10000
   ·rw[aB k2];exact⟨3,_,rfl,by omega,by omega,rfl,hx⟩
   ·rw[aA k2];exact⟨4,_,rfl,by omega,by omega,rfl,hx⟩
 unfold Utf8.encode
 by_cases hv:Utf8.valid r=true
 ·simp only[hv,if_true]
  refine key r.toNat (by omega) ?_
  simp[Utf8.valid]at hv
  omega
 ·simp only[hv]
  exact key Utf8.runeError (by decide) (by decide)
theorem uc {w:World}{s d:TypeId}{k:IntKind}{r:Int}(hs:P.underlying s=some (.int k))(hd:P.underlying d=some .string):(convert s d (.int k r)).run P w= .ok (.string (Utf8.encode r)) w:=by
 simp[convert,run_underlying hs,run_underlying hd,Conv.intToString]
theorem Cr {w:World}{t:TypeId}{s:ByteArray}{i:Int}{k:Nat}{b:UInt8}(ht:P.underlying t=some .string)(hi:i=k)(hb:s.data.toList[k]?=some b):(Instr.index t (.string s) (.int .i64 i)).run P w= .ok (.int .u8 (b.toNat:Int)) w:=by
 subst hi
 have iX:k<s.size:=by have:=(eD.1 hb).1;rwa[←Lib.size_eq]at this
 have h1:s[k]?=some b:=by
  rw[ByteArray.getElem?_lt' _ _ iX]
  have:=(eD.1 hb).2
  simpa[ByteArray.getElem_eq_getElem_data]using this
 simp[Instr.index,asIntOf,run_underlying ht,h1]
theorem AE {l:List UInt8}{c:UInt8}(h:∀x∈l,x≠c):Lib.indexByte l c<0:=by
 have h1:=Lib.contains_iff_indexByte l c
 have h2:l.contains c=false:=by
  rw[Bool.eq_false_iff];intro h3;exact h c (List.contains_iff_mem.1 h3) rfl
 rw[h2]at h1
 have:=iT h1.symm
 omega
set_option maxRecDepth 1000000 in
theorem Any.yJ (L:Lays.n152 P ρ)(s:ByteArray)(r:Int)(w:World)(h0:128≤r)(h1:r≠65533)(hv:Lib.validRune r=true)(hs:∀(j:Nat) b,s.data.toList[j]?=some b→b.toNat<128)(gQ:s.size≤100):
 Calls P (ρ.f 152) #[.string s,.int .i32 r] w λe w'=>e= .returned (.int .i64 (-1))∧∃k,w'=w.drewN k:=by
 have t3:=L.t3;have a3:=L.a3;have z3:=L.z3;have v3:=L.v3
 have t4:=L.t4;have a4:=L.a4;have z4:=L.z4;have v4:=L.v4
 have t5:=L.t5;have a5:=L.a5;have z5:=L.z5;have v5:=L.v5
 have t9:=L.t9;have a9:=L.a9;have z9:=L.z9;have v9:=L.v9
 have t21:=L.t21;have a21:=L.a21;have z21:=L.z21;have v21:=L.v21
 have ah1:∀args w,(callFunc (ρ.f 137) args).run P w= .ok (.enter (ρ.f 137) args) w:=enters_of L.f137 (by kernel_rfl) rfl
 have ah2:∀args w,(callFunc (ρ.f 119) args).run P w= .ok (.enter (ρ.f 119) args) w:=enters_of L.f119 (by kernel_rfl) rfl
 have mixed:=L.mixed
 have d1:decide ((0:Int)≤r)=true:=dH (by omega)
 have d2:decide (r<128)=false:=eL (by omega)
 have d3:(r==(65533:Int))=false:=rZ.2 h1
 obtain⟨n,x,hn,SE,hn4,hx,WX⟩:=OX h0
 have hc:=λ(w:World)=>uc (P:=P) (w:=w) (r:=r) t21 t9
 generalize Utf8.encode r=rs at hn hx hc
 subst hn
 go_enter L.f152,Body.n152_ntmps ρ
 go_wp2_with (go_at_fn (ρ.f 119);refine(Any.utf8_ValidRune {L with} _ _).mono ?_;rintro e w' ⟨rfl,hw⟩;rw[hw,hv])
 subst hw;refine wp_scope_straight ?_
 go_wp2
 by_cases hl:rs.size-1<s.size
 ·have hi0:(0:Int)≤(rs.size:Int)-1:=by omega
  have NM:(rs.size:Int)-1<(s.size:Int):=by omega
  obtain⟨y,hy⟩:∃y:UInt8,s.data.toList[rs.size-1]?=some y:=⟨_,bO (by rw[←Lib.size_eq];exact hl)⟩
  have ak1:=hs _ _ hy
  refine wp_loop_rounds 1 ?_;rw[rounds_succ]
  go_wp2
  refine wp_scope_straight ?_
  have kx:∀w,(Instr.index (ρ.t 9) (.string rs) (.int .i64 ((rs.size:Int)-1))).run P w= .ok (.int .u8 (x.toNat:Int)) w:=λw=>Cr t9 (by omega) hx
  have ky:∀w,(Instr.index (ρ.t 9) (.string s) (.int .i64 ((rs.size:Int)-1))).run P w= .ok (.int .u8 (y.toNat:Int)) w:=λw=>Cr t9 (by omega) hy
  have fP:((y.toNat:Int)==(x.toNat:Int))=false:=rZ.2 (by omega)
  go_wp2
  go_region_o
  have ah1:∀args w,(callFunc (ρ.f 137) args).run P w= .ok (.enter (ρ.f 137) args) w:=enters_of L.f137 (by kernel_rfl) rfl
  have SB:IntKind.i64.wrap (rs.size:Int)=(rs.size:Int):=by
   simp only[IntKind.wrap,IntKind.bits,IntKind.signed]
   simp
   omega
  have s1:(0:Int)≤(rs.size:Int)-1+1:=by omega
  have s2:(rs.size:Int)-1+1≤(s.size:Int):=by omega
  have s3:(0:Int)≤(rs.size:Int):=by omega
  have s4:(rs.size:Int)≤(s.size:Int):=by omega
  obtain⟨z,hz⟩:∃z,Lib.indexByte (s.extract rs.size s.size).data.toList ((x.toNat:Int).toNat.toUInt8)=z:=⟨_,rfl⟩
  have hz0:z<0:=by
   rw[←hz]
   refine AE λb hb=> ?_
   have BO:b∈s.data.toList:=by
    have:(s.extract rs.size s.size).data.toList=(s.data.toList.drop rs.size).take (s.size-rs.size):=by simp
    rw[this]at hb;exact List.mem_of_mem_drop (xO hb)
   obtain⟨k,hk⟩:=Ap BO
   have h5:=hs k b hk
   intro e
   have h6:((x.toNat:Int)).toNat.toUInt8=x:=by simp
   rw[h6]at e;rw[e]at h5;omega
  go_wp2
  go_region_with_o (
   go_at_fn (ρ.f 137)
   refine(Any.strings_IndexByte {L with} _ _ _).mono ?_;rintro e w' ⟨rfl,hw⟩
   rw[hw,hz])
  go_wp2
  simp only[Exit.noGoto,Exit.inBlock,Exit.then]
  go_ret
  exact⟨rfl,2,rfl⟩
 ·have NM:decide ((rs.size:Int)-1<(s.size:Int))=false:=eL (by omega)
  refine wp_loop_rounds 1 ?_;rw[rounds_succ]
  go_wp2
  show Exit.inBlock 0 _ Exit.ret _ _
  go_ret
  exact⟨rfl,0,rfl⟩
set_option maxRecDepth 1000000 in
theorem Any.AF (L:Lays.n152 P ρ)(s:ByteArray)(r:Int)(w:World)(h0:128≤r)(h1:r≠65533)(hv:Lib.validRune r=false):
 Calls P (ρ.f 152) #[.string s,.int .i32 r] w λe w'=>e= .returned (.int .i64 (-1))∧∃k,w'=w.drewN k:=by
 have t3:=L.t3;have a3:=L.a3;have z3:=L.z3;have v3:=L.v3
 have t4:=L.t4;have a4:=L.a4;have z4:=L.z4;have v4:=L.v4
 have t5:=L.t5;have a5:=L.a5;have z5:=L.z5;have v5:=L.v5
 have t9:=L.t9;have a9:=L.a9;have z9:=L.z9;have v9:=L.v9
 have t21:=L.t21;have a21:=L.a21;have z21:=L.z21;have v21:=L.v21
 have ah2:∀args w,(callFunc (ρ.f 119) args).run P w= .ok (.enter (ρ.f 119) args) w:=enters_of L.f119 (by kernel_rfl) rfl
 have d1:decide ((0:Int)≤r)=true:=dH (by omega)
 have d2:decide (r<128)=false:=eL (by omega)
 have d3:(r==(65533:Int))=false:=rZ.2 h1
 go_enter L.f152,Body.n152_ntmps ρ
 go_wp2_with (go_at_fn (ρ.f 119);refine(Any.utf8_ValidRune {L with} _ _).mono ?_;rintro e w' ⟨rfl,hw⟩;rw[hw,hv])
 subst hw
 go_ret
 exact⟨rfl,0,rfl⟩
set_option maxRecDepth 1000000 in
theorem Any.wP (L:Lays.n152 P ρ)(s:ByteArray)(w:World)(hs:∀(j:Nat) b,s.data.toList[j]?=some b→b.toNat<128):
 Calls P (ρ.f 152) #[.string s,.int .i32 65533] w λe w'=>e= .returned (.int .i64 (-1))∧∃pos,w'=w.iter s pos:=by
 have HA:Aside (∀(j:Nat) b,s.data.toList[j]?=some b→b.toNat<128):=hs
 clear hs
 have t3:=L.t3;have a3:=L.a3;have z3:=L.z3;have v3:=L.v3
 have t4:=L.t4;have a4:=L.a4;have z4:=L.z4;have v4:=L.v4
 have t5:=L.t5;have a5:=L.a5;have z5:=L.z5;have v5:=L.v5
 have t9:=L.t9;have a9:=L.a9;have z9:=L.z9;have v9:=L.v9
 have t21:=L.t21;have a21:=L.a21;have z21:=L.z21;have v21:=L.v21
 go_enter L.f152,Body.n152_ntmps ρ
 go_wp2
 go_loopg [5,6] s.size (λg _ _ wx=>∃i:Nat,i+g=s.size∧wx=w.iter s i)
 case atStart=>exact⟨0,by omega,rfl⟩
 case round=>
  obtain⟨i,hig,rfl⟩:=hrel
  cases gk with
  |zero=>
   obtain rfl:i=s.size:=by omega
   have BP:=run_next_end (P:=P) w s s.size
   go_wp2
   go_ret
   exact⟨rfl,_,rfl⟩
  |succ g=>
   have hi:i<s.size:=by omega
   obtain⟨x,hx⟩:∃x:UInt8,s[i]'hi=x:=⟨_,rfl⟩
   have wI:s.data.toList[i]?=some x:=by rw[←hx];exact Lib.data_getElem? s i hi
   have WX:x.toNat<128:=HA.out i x wI
   have BP:=λty=>run_next_ascii (P:=P) w s i ty hi (by rw[hx];exact WX)
   rw[hx]at BP
   have fP:((x.toNat:Int)==(65533:Int))=false:=rZ.2 (by omega)
   go_wp2
   go_roundg g
   case measure=>omega
   case rel=>exact⟨i+1,by omega,rfl⟩
theorem Any.ud (L:Lays.n152 P ρ)(s:ByteArray)(r:Int)(w:World)(h0:128≤r)(hs:∀(j:Nat) b,s.data.toList[j]?=some b→b.toNat<128)(gQ:s.size≤100):
 Calls P (ρ.f 152) #[.string s,.int .i32 r] w λe w'=>e= .returned (.int .i64 (-1))∧Below w.heap.size w w':=by
 by_cases h1:r=65533
 ·subst h1
  refine(Any.wP L s w hs).mono ?_;rintro e w' ⟨rfl,pos,rfl⟩;exact⟨rfl,(Below.refl _ w).alloc (aW _) _⟩
 ·cases hv:Lib.validRune r with
  |true=>
   refine(Any.yJ L s r w h0 h1 hv hs gQ).mono ?_;rintro e w' ⟨rfl,k,rfl⟩;exact⟨rfl,rfl,rfl,rfl,aW _,λ_ _=>rfl⟩
  |false=>
   refine(Any.AF L s r w h0 h1 hv).mono ?_;rintro e w' ⟨rfl,k,rfl⟩;exact⟨rfl,rfl,rfl,rfl,aW _,λ_ _=>rfl⟩
theorem Eg {w:World}{k:Nat}{s:ByteArray}{p:Nat}{o:Obj}(h:w.heap[k]?=some o):(w.iterAt k s p).heap[k]?=some (.stringIter s p):=by
 have hk:=(pP.1 h).1
 show(w.heap.setIfInBounds k _)[k]?=_
 simp[hk]
theorem iterAt_size {w:World}{k:Nat}{s:ByteArray}{p:Nat}:(w.iterAt k s p).heap.size=w.heap.size:=by
 show(w.heap.setIfInBounds k _).size=_
 simp
theorem Ct {w wx:World}{k:Nat}{s:ByteArray}{p:Nat}(h:Below k w wx):Below k w (wx.iterAt k s p):=
 ⟨h.os,h.tape,h.output,by rw[iterAt_size];exact h.size,λj hj=>by
  show(wx.heap.setIfInBounds k _)[j]?=_
  rw[Array.getElem?_setIfInBounds_ne (by omega)]
  exact h.block j hj⟩
theorem Ha {s chars:List UInt8}{i n:Nat}(h:NoAny s chars i)(hc:∀(j:Nat) b,chars[j]?=some b→b.toNat<128)(hb:∀j,j<n→128≤J.bt s (i+j)):NoAny s chars (i+n):=by
 intro j b hj hjb
 by_cases k:j<i
 ·exact h j b k hjb
 ·have h1:=hb (j-i) (by omega)
  rw[show i+(j-i)=j by omega]at h1
  have h2:J.bt s j=b.toNat:=by unfold J.bt;rw[ak,hjb];rfl
  rw[h2]at h1;rw[Bool.eq_false_iff];intro h3;obtain⟨q,hq⟩:=Ap (List.contains_iff_mem.1 h3)
  have:=hc q b hq
  omega
theorem OY {B:Nat}{w w2 w3:World}(h:Below B w w2)(hB:B≤w2.heap.size)(k:Below w2.heap.size w2 w3):Below B w w3:=
 ⟨k.os.trans h.os,k.tape.trans h.tape,k.output.trans h.output,eH h.size k.size,λj hj=>(k.block j (by omega)).trans (h.block j hj)⟩
end Go.Proofs
namespace Go.Proofs
open Go.Shelf Go.RowKit Go.Lib
variable {P:Program}{ρ:Ren}
set_option maxRecDepth 1000000 in
theorem Any.rm (L:Lays.n153 P ρ)(s chars:ByteArray)(w:World)(h2:2≤chars.size)(Eh:chars.size≤100)(h8:s.size≤8)(OZ:∀(j:Nat) b,chars.data.toList[j]?=some b→b.toNat<128):
 Calls P (ρ.f 153) #[.string s,.string chars] w λe w'=>e= .returned (.int .i64 (Lib.indexAny s.data.toList chars.data.toList))∧Below w.heap.size w w':=by
 have HA:Aside (∀(j:Nat) b,chars.data.toList[j]?=some b→b.toNat<128):=OZ
 clear OZ
 have alO:chars.toList.isEmpty=false:=by
  rw[Lib.toList_data]
  cases h:chars.data.toList with
  |nil=>have:=Lib.size_eq chars;rw[h,List.length_nil]at this;omega
  |cons _ _=>rfl
 have hn1:((chars.size:Int)==1)=false:=rZ.2 (by omega)
 have h8z:decide ((8:Int)<(s.size:Int))=false:=eL (by omega)
 have t3:=L.t3;have a3:=L.a3;have z3:=L.z3;have v3:=L.v3
 have t4:=L.t4;have a4:=L.a4;have z4:=L.z4;have v4:=L.v4
 have t5:=L.t5;have a5:=L.a5;have z5:=L.z5;have v5:=L.v5
 have t9:=L.t9;have a9:=L.a9;have z9:=L.z9;have v9:=L.v9
 have t21:=L.t21;have a21:=L.a21;have z21:=L.z21;have v21:=L.v21
 have alP:∀args w,(callFunc (ρ.f 152) args).run P w= .ok (.enter (ρ.f 152) args) w:=enters_of L.f152 (by kernel_rfl) rfl
 have alQ:∀args w,(callFunc (ρ.f 226) args).run P w= .ok (.enter (ρ.f 226) args) w:=enters_of L.f226 (by kernel_rfl) rfl
 go_enter L.f153,Body.n153_ntmps ρ
 go_wp2_with (go_at_fn (ρ.f 226);refine(Any.strings_shouldUseASCIISet {L with} _ _).mono ?_;rintro e w' ⟨rfl,hw⟩;rw[hw,h8z])
 go_loopg [9,10] s.size (λg _ _ wx=>∃i:Nat,i+g=s.size∧wx.heap[w.heap.size]?=some (.stringIter s i)∧Below w.heap.size w wx∧Lib.NoAny s.data.toList chars.data.toList i)
 case atStart=>exact⟨0,by omega,World.iter_heap w s 0,(Below.refl _ w).alloc (aW _) _,Lib.NoAny.zero _ _⟩
 case round=>
  obtain⟨i,hig,hk,acN,A7⟩:=hrel
  have HN:Aside (Lib.NoAny s.data.toList chars.data.toList i):=A7
  clear A7
  have HB:Aside (Below w.heap.size w wr):=acN
  clear acN
  cases gk with
  |zero=>
   obtain rfl:i=s.size:=by omega
   have BP:=λty=>run_next_end_at (P:=P) wr w.heap.size s s.size ty hk (by omega)
   go_wp2
   go_ret
   exact⟨by rw[Lib.indexAny_none (by rw[←Lib.size_eq];exact HN.out)];rfl,HB.out⟩
  |succ g=>
   have hi:i<s.size:=by omega
   have qQ:i<s.data.toList.length:=by rw[←Lib.size_eq];exact hi
   have BP:=λty=>run_next_any_at (P:=P) wr w.heap.size s i ty hk hi
   obtain⟨b1,b2,b3⟩:=J.jl qQ
   have EP:=decodeL_drop s i
   have gQ:=Lib.size_eq s
   rw[EP]at b1 b2 b3
   obtain⟨r,wd,hd⟩:∃r wd,Utf8.decode s i=(r,wd):=⟨_,_,rfl⟩
   rw[hd]at BP b1 b2 b3
   simp only at BP b1 b2 b3
   obtain⟨w2,Gj⟩:∃w2,wr.iterAt w.heap.size s (i+wd)=w2:=⟨_,rfl⟩
   have rf:w2.heap[w.heap.size]?=some (.stringIter s (i+wd)):=Gj▸Eg hk
   have BO:Below w.heap.size w w2:=Gj▸Ct HB.out
   rw[Gj]at BP
   clear Gj EP hd
   have HK2:Aside (w2.heap[w.heap.size]?=some (.stringIter s (i+wd))):=rf
   have HB2:Aside (Below w.heap.size w w2):=BO
   clear rf BO
   rcases b3 with⟨c1,c2⟩|⟨c1,c2⟩
   ·obtain⟨x,wI⟩:∃x,s.data.toList[i]?=some x:=⟨_,bO qQ⟩
    have hbx:J.bt s.data.toList i=x.toNat:=by unfold J.bt;rw[ak,wI];rfl
    rw[hbx]at c1 c2;obtain⟨rfl,rfl⟩:=Prod.mk.inj c2
    have Hx:Aside (s.data.toList[i]?=some x):=wI
    clear wI hbx c2
    have Ln:=Lib.contains_iff_indexByte chars.data.toList x
    have WY:((x.toNat:Int)).toNat.toUInt8=x:=by simp
    cases pb:chars.data.toList.contains x
    ·rw[pb]at Ln
     have iX:¬((0:Int)≤Lib.indexByte chars.data.toList x):=iT Ln.symm
     clear Ln
     go_wp2_with (go_at_fn (ρ.f 152);refine(Any.strings_IndexRune_ascii {L with} _ _ _ (by omega) (by omega)).mono ?_;rintro e w' ⟨rfl,rfl⟩;rw[WY];dsimp only)
     go_wp2
     go_roundg g
     case measure=>omega
     case rel=>exact⟨i+1,by omega,HK2.out,HB2.out,HN.out.succ Hx.out pb⟩
    ·rw[pb]at Ln
     have hge:(0:Int)≤Lib.indexByte chars.data.toList x:=eS Ln.symm
     clear Ln
     go_wp2_with (go_at_fn (ρ.f 152);refine(Any.strings_IndexRune_ascii {L with} _ _ _ (by omega) (by omega)).mono ?_;rintro e w' ⟨rfl,rfl⟩;rw[WY];dsimp only)
     go_wp2
     go_ret
     exact⟨by rw[Lib.indexAny_hit HN.out Hx.out pb];rfl,HB2.out⟩
   ·have HC:Aside (∀j,j<wd→128≤J.bt s.data.toList (i+j)):=c2
    clear c2
    go_wp2_with (go_at_fn (ρ.f 152);refine(Any.ud {L with} _ _ _ (by omega) HA.out Eh).mono ?_;rintro e w3 ⟨rfl,WZ⟩;dsimp only)
    go_wp2
    go_roundg (s.size-(i+wd))
    case measure=>omega
    case rel=>exact⟨i+wd,by omega,by rw[WZ.block _ (pP.1 HK2.out).1];exact HK2.out,OY HB2.out HB2.out.size WZ,Ha HN.out HA.out HC.out⟩
theorem Any.Cu (L:Lays.n153 P ρ)(Hb:(P.info? (ρ.t 116)).map (λi=>(i.zero,i.size))=some (some (.agg (Array.replicate 256 (.bool false))),256))(s chars:ByteArray)(w:World)(h2:2≤chars.size)(Eh:chars.size≤100)(hs:s.size<4294967281)
 (Lo:∀(j:Nat) b,chars.data.toList[j]?=some b→b.toNat<128):
 Calls P (ρ.f 153) #[.string s,.string chars] w λe w'=>e= .returned (.int .i64 (Lib.indexAny s.data.toList chars.data.toList))∧Below w.heap.size w w':=by
 by_cases h8:s.size≤8
 ·exact Any.rm L s chars w h2 Eh h8 Lo
 ·refine(Any.strings_IndexAny_long L (zero_of_info Hb).1 (zero_of_info Hb).2 s chars w (by omega) (by omega) hs (by omega) Lo).mono ?_
  rintro e w' ⟨h3,h4⟩;refine⟨h3,?_⟩;rw[h4];exact((Below.refl _ _).alloc (aW _) _).alloc (by simp) _
theorem Any.wQ (L:Lays.n150 P ρ)(Hb:(P.info? (ρ.t 116)).map (λi=>(i.zero,i.size))=some (some (.agg (Array.replicate 256 (.bool false))),256))(s chars:ByteArray)(w:World)(h2:2≤chars.size)(Eh:chars.size≤100)(hs:s.size<4294967281)
 (Lo:∀(j:Nat) b,chars.data.toList[j]?=some b→b.toNat<128):
 Calls P (ρ.f 150) #[.string s,.string chars] w λe w'=>e= .returned (.bool (Lib.containsAny s.data.toList chars.data.toList))∧Below w.heap.size w w':=by
 have c:=Any.Cu {L with} Hb s chars w h2 Eh hs Lo
 have t3:=L.t3;have a3:=L.a3;have z3:=L.z3;have v3:=L.v3
 have t4:=L.t4;have a4:=L.a4;have z4:=L.z4;have v4:=L.v4
 have t9:=L.t9;have a9:=L.a9;have z9:=L.z9;have v9:=L.v9
 have alR:∀args w,(callFunc (ρ.f 153) args).run P w= .ok (.enter (ρ.f 153) args) w:=enters_of L.f153 (by kernel_rfl) rfl
 go_enter L.f150,Body.n150_ntmps ρ
 go_wp2_with (go_at_fn (ρ.f 153);refine c.mono ?_;rintro e w' ⟨rfl,hw⟩)
 go_ret
 exact⟨rfl,hw⟩
theorem ue (s:List UInt8):Lib.containsAny s J.wJ=s.any J.gq:=by
 rw[uF];unfold Lib.containsAny;rw[decide_eq_true_iff,xN]
 constructor
 ·have ah3:∀l:List UInt8,0≤Lib.indexAny l J.wJ→∃b,b∈l∧J.gq b=true:=by
   intro l
   induction l with
   |nil=>intro h;exact absurd h (by decide)
   |cons c l ih=>
    intro h;unfold Lib.indexAny at h
    have hge:=Lib.indexAny_ge J.wJ l
    split at h
    ·rename_i hcc
     exact⟨c,aU ..,by unfold J.gq;exact hcc⟩
    ·split at h
     ·omega
     ·rename_i he
      have fP:Lib.indexAny l J.wJ≠ -1:=λe=>he (by rw[e];rfl)
      obtain⟨b,hb,hc⟩:=ih (by omega);exact⟨b,cE _ hb,hc⟩
  exact ah3 s
 ·rintro ⟨b,hb,hc⟩
  rcases Int.lt_or_le (Lib.indexAny s J.wJ) 0 with h|h
  ·exfalso
   have key:∀l:List UInt8,Lib.indexAny l J.wJ<0→∀b∈l,J.gq b=false:=by
    intro l
    induction l with
    |nil=>intro _ b hb;cases hb
    |cons c l ih=>
     intro h b hb;unfold Lib.indexAny at h
     have hge:=Lib.indexAny_ge J.wJ l
     split at h
     ·omega
     ·rename_i hcc
      rcases cD.1 hb with rfl|hb
      ·unfold J.gq;simpa using hcc
      ·refine ih ?_ b hb
       split at h
       ·rename_i he;rw[beq_iff_eq]at he;omega
       ·rename_i he;omega
   rw[key s h b hb]at hc;cases hc
  ·exact h
end Go.Proofs
namespace Go.Proofs
open Go.Shelf
def Tryz.Ei:Go.Shelf.Ren:=⟨λ|195=>102|n=>n,λ|0=>0|3=>3|4=>4|9=>9|n=>n,λ|n=>n⟩
theorem Tryz.TZ:Go.Proofs.Lays.n195 Tryz.prog Tryz.Ei:={
 mixed:=by kernel_rfl
 f195:=Tryz.func102.trans (congrArg some (by kernel_rfl))
 t0:=WJ
 a0:=Tryz.isAgg0
 z0:=Tryz.sizeOf0
 v0:=Tryz.zeroValue0
 t3:=eN
 a3:=Tryz.isAgg3
 z3:=Tryz.sizeOf3
 v3:=Tryz.zeroValue3
 t4:=Eb
 a4:=Tryz.isAgg4
 z4:=Tryz.sizeOf4
 v4:=Tryz.zeroValue4
 t9:=sK
 a9:=Tryz.isAgg9
 z9:=Tryz.sizeOf9
 v9:=Tryz.zeroValue9}
def Tryz.pw:Go.Shelf.Ren:=⟨λ|196=>103|259=>134|n=>n,λ|0=>0|3=>3|4=>4|5=>5|9=>9|12=>12|46=>218|53=>157|119=>217|138=>220|139=>221|n=>n,λ|3=>0|4=>1|n=>n⟩
theorem Tryz.Ta:Go.Proofs.Lays.n196 Tryz.prog Tryz.pw:={
 mixed:=by kernel_rfl
 f196:=Tryz.func103.trans (congrArg some (by kernel_rfl))
 f259:=Tryz.func134.trans (congrArg some (by kernel_rfl))
 t0:=WJ
 a0:=Tryz.isAgg0
 z0:=Tryz.sizeOf0
 v0:=Tryz.zeroValue0
 t3:=eN
 a3:=Tryz.isAgg3
 z3:=Tryz.sizeOf3
 v3:=Tryz.zeroValue3
 t4:=Eb
 a4:=Tryz.isAgg4
 z4:=Tryz.sizeOf4
 v4:=Tryz.zeroValue4
 t5:=Dn
 a5:=Tryz.isAgg5
 z5:=Tryz.sizeOf5
 v5:=Tryz.zeroValue5
 t9:=sK
 a9:=Tryz.isAgg9
 z9:=Tryz.sizeOf9
 v9:=Tryz.zeroValue9
 t12:=Tryz.underlying12
 a12:=Tryz.isAgg12
 z12:=Tryz.sizeOf12
 v12:=Tryz.zeroValue12
 t46:=yG
 a46:=Tryz.isAgg218
 z46:=Tryz.sizeOf218
 v46:=Tryz.zeroValue218
 t53:=l5
 a53:=Tryz.isAgg157
 z53:=Tryz.sizeOf157
 v53:=Tryz.zeroValue157
 t119:=Tryz.underlying217
 a119:=Tryz.isAgg217
 z119:=Tryz.sizeOf217
 t138:=Tryz.underlying220
 a138:=Tryz.isAgg220
 z138:=Tryz.sizeOf220
 v138:=Tryz.zeroValue220
 t139:=Tryz.underlying221
 a139:=Tryz.isAgg221
 z139:=Tryz.sizeOf221
 v139:=Tryz.zeroValue221
 g3:=by kernel_rfl
 g4:=by kernel_rfl}
def Tryz.vw:Go.Shelf.Ren:=⟨λ|119=>176|137=>175|150=>104|152=>152|153=>135|217=>184|224=>177|225=>178|226=>153|227=>154|228=>155|266=>186|n=>n,λ|0=>0|3=>3|4=>4|5=>5|9=>9|21=>21|46=>218|116=>275|117=>276|124=>297|n=>n,λ|n=>n⟩
theorem Tryz.Tb:Go.Proofs.Lays.n150 Tryz.prog Tryz.vw:={
 mixed:=by kernel_rfl
 f119:=Tryz.func176.trans (congrArg some (by kernel_rfl))
 f137:=Tryz.func175.trans (congrArg some (by kernel_rfl))
 f150:=Tryz.func104.trans (congrArg some (by kernel_rfl))
 f152:=Tryz.func152.trans (congrArg some (by kernel_rfl))
 f153:=Tryz.func135.trans (congrArg some (by kernel_rfl))
 f217:=Tryz.func184.trans (congrArg some (by kernel_rfl))
 f224:=Tryz.func177.trans (congrArg some (by kernel_rfl))
 f225:=Tryz.func178.trans (congrArg some (by kernel_rfl))
 f226:=Tryz.func153.trans (congrArg some (by kernel_rfl))
 f227:=Tryz.func154.trans (congrArg some (by kernel_rfl))
 f228:=Tryz.func155.trans (congrArg some (by kernel_rfl))
 f266:=Tryz.func186.trans (congrArg some (by kernel_rfl))
 t0:=WJ
 a0:=Tryz.isAgg0
 z0:=Tryz.sizeOf0
 v0:=Tryz.zeroValue0
 t3:=eN
 a3:=Tryz.isAgg3
 z3:=Tryz.sizeOf3
 v3:=Tryz.zeroValue3
 t4:=Eb
 a4:=Tryz.isAgg4
 z4:=Tryz.sizeOf4
 v4:=Tryz.zeroValue4
 t5:=Dn
 a5:=Tryz.isAgg5
 z5:=Tryz.sizeOf5
 v5:=Tryz.zeroValue5
 t9:=sK
 a9:=Tryz.isAgg9
 z9:=Tryz.sizeOf9
 v9:=Tryz.zeroValue9
 t21:=Tryz.underlying21
 a21:=Tryz.isAgg21
 z21:=Tryz.sizeOf21
 v21:=Tryz.zeroValue21
 t46:=yG
 a46:=Tryz.isAgg218
 z46:=Tryz.sizeOf218
 v46:=Tryz.zeroValue218
 t116:=Tryz.underlying275
 a116:=Tryz.isAgg275
 z116:=Tryz.sizeOf275
 t117:=Tryz.underlying276
 a117:=Tryz.isAgg276
 z117:=Tryz.sizeOf276
 v117:=Tryz.zeroValue276
 t124:=Tryz.underlying297
 a124:=Tryz.isAgg297
 z124:=Tryz.sizeOf297
 v124:=Tryz.zeroValue297}
end Go.Proofs
namespace Go.Proofs.YtblifkgpebebmaaGreatDoor
open Go Go.J Tryz
theorem acO:aJ Tryz.prog 102:=⟨_,Tryz.func102,rfl,by kernel_rfl⟩
theorem acP:aJ Tryz.prog 103:=⟨_,Tryz.func103,rfl,by kernel_rfl⟩
theorem acQ:aJ Tryz.prog 104:=⟨_,Tryz.func104,rfl,by kernel_rfl⟩
def YO (w:World):Prop:=Lib.Utf8Tabs (Tryz.pw.g 3) (Tryz.pw.g 4) w
abbrev u8:df:=df.of YO
theorem YP:(Tryz.prog.info? (Tryz.vw.t 116)).map (λi=>(i.zero,i.size))=some (some (.agg (Array.replicate 256 (.bool false))),256):=by kernel_rfl
theorem Ej (s:bI):(⟨s.toArray⟩:ByteArray).size=s.length:=by simp[ByteArray.size]
theorem Tc (s:bI)(hs:s.length<9223372036854775807):iz Tryz.prog 102 #[sv s] [u8] (iv (Lib.runeCountL s)):=
 iz.nq λw _=>by
  refine(Any.utf8_RuneCountInString Tryz.TZ ⟨s.toArray⟩ w (by rw[Ej];exact hs)).mono ?_;rintro e w' ⟨rfl,pos,rfl⟩;exact⟨rfl,(RowKit.Below.refl _ w).alloc (aW _) _⟩
theorem Hc (s:bI)(hs:s.length<9223372036854775807):iz Tryz.prog 103 #[sv s] [u8] (.bool (Lib.validD s)):=
 iz.nq λw hw=>Any.utf8_ValidString Tryz.Ta ⟨s.toArray⟩ w (by rw[Ej];omega) hw
theorem Oa (s:bI)(hs:s.length<4294967281):iz Tryz.prog 104 #[sv s,sv wJ] [u8] (.bool (s.any gq)):=
 iz.nq λw _=>by
  have:=Any.wQ Tryz.Tb YP ⟨s.toArray⟩ ⟨wJ.toArray⟩ w (by decide) (by decide) (by rw[Ej];exact hs) (λj b h=>by
   have:∀b∈wJ,b.toNat<128:=by decide
   exact this b (ab h))
  rw[←ue];exact this
theorem YQ (s:bI):s.length≤4*Lib.runeCountL s:=by
 have key:∀(f p:Nat),s.length-p≤f→s.length-p≤4*Lib.runeCountFrom ⟨s.toArray⟩ f p:=by
  intro f
  induction f with
  |zero=>intro p h;omega
  |succ f ih=>
   intro p h
   by_cases hp:p<s.length
   ·have gQ:p<(⟨s.toArray⟩:ByteArray).size:=by rw[Ej];exact hp
    obtain⟨d1,d2,_⟩:=jl hp
    have EP:=Lib.decodeL_drop ⟨s.toArray⟩ p
    simp only at EP
    have hw:(Lib.decodeL (s.drop p)).2≤4:=by
     rw[qR]
     rcases uP (n:=s.length-p) (pH s p) (pH s (p+1)) (pH s (p+2)) (pH s (p+3))with⟨_,e⟩|⟨_,_,_,_,e⟩|⟨_,r,_,e⟩|⟨_,r,_,e⟩|⟨_,r,_,e⟩<;>rw[e]<;>simp
    have:=ih (p+(Lib.decodeL (s.drop p)).2) (by omega)
    rw[Lib.runeCountFrom,aB gQ,←EP];omega
   ·omega
 have:=key s.length 0 (by omega)
 have e:Lib.runeCountFrom ⟨s.toArray⟩ s.length 0=Lib.runeCountL s:=by unfold Lib.runeCountL Lib.runeCount;congr 1
 rw[e]at this;omega
theorem Ek (s:bI):(((decide ((1:Int)≤(Lib.runeCountL s:Int))&&decide ((Lib.runeCountL s:Int)≤30))&&Lib.validD s)&& !(s.any gq))=isWord s:=by
 rw[Le]
 have h1:decide ((1:Int)≤(Lib.runeCountL s:Int))=decide (1≤Lib.runeCountL s):=decide_eq_decide.2 (by omega)
 have h2:decide ((Lib.runeCountL s:Int)≤30)=decide (Lib.runeCountL s≤30):=decide_eq_decide.2 (by omega)
 rw[h1,h2]
theorem BQ (s:bI)(hs:s.length<9223372036854775807):iz Tryz.prog 67 #[sv s] [u8] (.bool (isWord s)):=by
 refine iz.body (args:=[sv s]) (ds:=[u8]) 21 Tryz.func67 rfl Tryz.ntmps67 rfl (λc lf=> ?_)
 change St _ _ (Mm c [aF u8]) _
 refine g8 ?_;refine St.ee (Ev.ni lf (Tc s hs) acO (.bB rfl)) ?_;refine g8 ?_;refine St.gt _ rfl rfl (λhg=>Ev.move (.mk rfl)) rfl ?_;refine St.gt _ rfl rfl (λhg=>Ev.leq (aZ.gv rfl hg) (.mk rfl)) rfl ?_;refine g2 ?_;refine St.gt _ rfl rfl (λhg=>Ev.move (.mk rfl)) rfl ?_;refine St.gt _ rfl rfl (λhg=>Ev.ni lf (Hc s hs) acP (.cons (aZ.gv rfl hg) .nil)) rfl ?_;refine g2 ?_;refine St.gt _ rfl rfl (λhg=>Ev.move (.mk rfl)) rfl ?_;refine St.gt _ rfl rfl (λhg=>Ev.ni lf (Oa s (by have hq:=YQ s;first|omega|(simp only[Bool.and_eq_true,decide_eq_true_eq]at hg;omega)|(simp at hg;omega)|(trace_state;omega))) acQ (.cons (aZ.gv rfl hg) (.bB rfl))) rfl ?_;refine St.gt _ rfl rfl (λhg=>Ev.not (aZ.gv rfl hg)) rfl ?_;refine g5 ?_;refine St.rV [_] [] ?_;exact be (by first|exact Ek s|(simp[Ek]))
instance:fW Tryz.prog 115 0 0:=⟨by kernel_rfl⟩
theorem acR:aJ Tryz.prog 67:=⟨_,Tryz.func67,rfl,by kernel_rfl⟩
theorem Cv:bQ Tryz.prog 115 2=some 2:=by kernel_rfl
instance:type_of%(fW.mk Cv):=⟨Cv⟩
instance:fW Tryz.prog 115 1 1:=⟨by kernel_rfl⟩
theorem YR:aJ Tryz.prog 49:=⟨_,Tryz.func49,rfl,by kernel_rfl⟩
instance:fW Tryz.prog 115 3 3:=⟨by kernel_rfl⟩
theorem acS:aJ Tryz.prog 82:=⟨_,Tryz.func82,rfl,by kernel_rfl⟩
theorem xA:bQ Tryz.prog 110 2=some 2:=by kernel_rfl
instance:type_of%(fW.mk xA):=⟨xA⟩
theorem xB:bQ Tryz.prog 110 3=some 3:=by kernel_rfl
instance:type_of%(fW.mk xB):=⟨xB⟩
instance:fW Tryz.prog 110 1 1:=⟨by kernel_rfl⟩
theorem ah4:aJ Tryz.prog 81:=⟨_,Tryz.func81,rfl,by kernel_rfl⟩
instance:fW Tryz.prog 110 4 4:=⟨by kernel_rfl⟩
theorem ah5:aJ Tryz.prog 43:=⟨_,Tryz.func43,rfl,by kernel_rfl⟩
theorem Hd:aJ Tryz.prog 44:=⟨_,Tryz.func44,rfl,by kernel_rfl⟩
instance:fW Tryz.prog 110 0 0:=⟨by kernel_rfl⟩
theorem ah6:aJ Tryz.prog 47:=⟨_,Tryz.func47,rfl,by kernel_rfl⟩
theorem ah7:aJ Tryz.prog 48:=⟨_,Tryz.func48,rfl,by kernel_rfl⟩
end Go.Proofs.YtblifkgpebebmaaGreatDoor
