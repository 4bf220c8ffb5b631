/-
  Laws of walks through programs, and facts on grammars, trees and queries.
  Conditions: none.
-/
import Derived.Test.YtblifkgpebebmaaGreatDoorGT2
import Derived.Lib.SliceRun
set_option maxHeartbeats 2000000
set_option maxRecDepth 20000
set_option linter.unusedVariables false
set_option linter.unusedSimpArgs false
namespace Go.Proofs.YtblifkgpebebmaaGreatDoor
open Go Go.J Tryz
theorem Wa:aJ Tryz.prog 156:=⟨_,Tryz.func156,rfl,by kernel_rfl⟩
instance:uA Tryz.prog 58 #[.slice none 0 0]:=⟨by kernel_rfl⟩
instance:uA Tryz.prog 87 #[.nilFunc]:=⟨by kernel_rfl⟩
theorem ah8:(Tryz.prog.info? 87).map (·.size)=some 1:=by kernel_rfl
theorem acT (w:World):cu Tryz.prog 30 w= .ok #[(0,1)] w:=by kernel_rfl
instance:fW Tryz.prog 245 1 2:=⟨by kernel_rfl⟩
instance:fW Tryz.prog 245 2 3:=⟨by kernel_rfl⟩
instance:fW Tryz.prog 245 3 4:=⟨by kernel_rfl⟩
theorem Ob:(Tryz.prog.info? 161).bind (·.zero)=some (Value.slice none 0 0):=by kernel_rfl
theorem acU:(Tryz.prog.info? 161).map (·.bytes)=some 24:=by kernel_rfl
theorem acV:(Tryz.prog.info? 243).map (·.size)=some 1:=by kernel_rfl
theorem acW:aJ Tryz.prog 174:=⟨_,Tryz.func174,rfl,by kernel_rfl⟩
theorem acX:(Tryz.prog.info? 270).bind (λi=>i.zero.map Value.cells)=some #[.int .i64 0,.int .i64 0]:=by kernel_rfl
theorem BR:(Tryz.prog.info? 270).map (·.size)=some 2:=by kernel_rfl
theorem Oc:(Tryz.prog.info? 270).bind (·.zero)=some (Value.agg #[.int .i64 0,.int .i64 0]):=by kernel_rfl
theorem El:aJ Tryz.prog 150:=⟨_,Tryz.func150,rfl,by kernel_rfl⟩
instance:fW Tryz.prog 245 0 0:=⟨by kernel_rfl⟩
theorem acY:(Tryz.prog.info? 270).map (·.bytes)=some 16:=by kernel_rfl
theorem acZ:aJ Tryz.prog 151:=⟨_,Tryz.func151,rfl,by kernel_rfl⟩
theorem Od:aJ Tryz.prog 136:=⟨_,Tryz.func136,rfl,by kernel_rfl⟩
theorem ac0 (w:World):cu Tryz.prog 245 w= .ok #[(0,2),(2,1),(3,1),(4,1)] w:=by kernel_rfl
theorem ac1:(Tryz.prog.info? 245).bind (λi=>i.zero.map Value.cells)=some #[.slice none 0 0,.slice none 0 0,.slice none 0 0,.slice none 0 0,.slice none 0 0]:=by kernel_rfl
theorem Wb:aJ Tryz.prog 128:=⟨_,Tryz.func128,rfl,by kernel_rfl⟩
theorem ac2:aJ Tryz.prog 129:=⟨_,Tryz.func129,rfl,by kernel_rfl⟩
theorem ac3:aJ Tryz.prog 130:=⟨_,Tryz.func130,rfl,by kernel_rfl⟩
theorem Td:aJ Tryz.prog 92:=⟨_,Tryz.func92,rfl,by kernel_rfl⟩
instance:fW Tryz.prog 183 0 0:=⟨by kernel_rfl⟩
theorem Cw:bQ Tryz.prog 183 1=some 1:=by kernel_rfl
instance:type_of%(fW.mk Cw):=⟨Cw⟩
instance:fW Tryz.prog 183 2 2:=⟨by kernel_rfl⟩
theorem sz5:(Tryz.prog.info? 5).map (·.size)=some 1:=by kernel_rfl
theorem zv5:(Tryz.prog.info? 5).bind (·.zero)=some (Value.int .u8 0):=by kernel_rfl
theorem xC:bQ Tryz.prog 183 3=some 3:=by kernel_rfl
instance:type_of%(fW.mk xC):=⟨xC⟩
theorem by5:(Tryz.prog.info? 5).map (·.bytes)=some 1:=by kernel_rfl
instance:fW Tryz.prog 177 1 1:=⟨by kernel_rfl⟩
instance:fW Tryz.prog 177 0 0:=⟨by kernel_rfl⟩
theorem Cx:bQ Tryz.prog 174 0=some 0:=by kernel_rfl
instance:type_of%(fW.mk Cx):=⟨Cx⟩
theorem Te:bQ Tryz.prog 174 1=some 1:=by kernel_rfl
theorem Jx:(Tryz.prog.info? 174).map (·.size)=some 6:=by kernel_rfl
instance:type_of%(po.mk Jx):=⟨Jx⟩
theorem ac4:aJ Tryz.prog 159:=⟨_,Tryz.func159,rfl,by kernel_rfl⟩
instance:fW Tryz.prog 174 2 2:=⟨by kernel_rfl⟩
instance:fW Tryz.prog 174 3 3:=⟨by kernel_rfl⟩
theorem Jy:(Tryz.prog.info? 234).map (·.size)=some 3:=by kernel_rfl
instance:type_of%(po.mk Jy):=⟨Jy⟩
theorem px:(Tryz.prog.info? 171).map (·.size)=some 1:=by kernel_rfl
theorem ac5:aJ Tryz.prog 157:=⟨_,Tryz.func157,rfl,by kernel_rfl⟩
theorem ac6:aJ Tryz.prog 158:=⟨_,Tryz.func158,rfl,by kernel_rfl⟩
instance:fW Tryz.prog 180 2 7:=⟨by kernel_rfl⟩
theorem ac7:aJ Tryz.prog 146:=⟨_,Tryz.func146,rfl,by kernel_rfl⟩
theorem ac8:aJ Tryz.prog 145:=⟨_,Tryz.func145,rfl,by kernel_rfl⟩
instance:fW Tryz.prog 180 3 13:=⟨by kernel_rfl⟩
theorem o4:(Tryz.prog.info? 186).map (·.size)=some 6:=by kernel_rfl
instance:type_of%(po.mk o4):=⟨o4⟩
theorem sx:bQ Tryz.prog 186 2=some 5:=by kernel_rfl
instance:type_of%(fW.mk sx):=⟨sx⟩
theorem ac9:aJ Tryz.prog 144:=⟨_,Tryz.func144,rfl,by kernel_rfl⟩
instance:fW Tryz.prog 200 0 0:=⟨by kernel_rfl⟩
instance:fW Tryz.prog 200 1 1:=⟨by kernel_rfl⟩
theorem Jz:(Tryz.prog.info? 183).map (·.size)=some 4:=by kernel_rfl
instance:type_of%(po.mk Jz):=⟨Jz⟩
theorem adA:aJ Tryz.prog 141:=⟨_,Tryz.func141,rfl,by kernel_rfl⟩
instance:fW Tryz.prog 180 5 16:=⟨by kernel_rfl⟩
theorem adB (w:World):cu Tryz.prog 186 w= .ok #[(0,4),(4,1),(5,1)] w:=by kernel_rfl
theorem Oe:(Tryz.prog.info? 186).bind (λi=>i.zero.map Value.cells)=some #[.int .i64 0,.int .i64 0,.int .i64 0,.slice none 0 0,.slice none 0 0,.slice none 0 0]:=by kernel_rfl
instance:type_of%(uA.mk Oe):=⟨Oe⟩
theorem Em:(Tryz.prog.info? 186).bind (·.zero)=some (Value.agg #[.int .i64 0,.int .i64 0,.int .i64 0,.slice none 0 0,.slice none 0 0,.slice none 0 0]):=by kernel_rfl
theorem Og:(Tryz.prog.info? 186).map (·.bytes)=some 96:=by kernel_rfl
theorem Oh:(Tryz.prog.info? 118).map (·.size)=some 1:=by kernel_rfl
instance:fW Tryz.prog 180 4 14:=⟨by kernel_rfl⟩
theorem BS:(Tryz.prog.info? 177).map (·.size)=some 2:=by kernel_rfl
instance:type_of%(po.mk BS):=⟨BS⟩
theorem adC:aJ Tryz.prog 142:=⟨_,Tryz.func142,rfl,by kernel_rfl⟩
theorem sy:bQ Tryz.prog 186 1=some 4:=by kernel_rfl
instance:type_of%(fW.mk sy):=⟨sy⟩
theorem vx:(Tryz.prog.info? 200).map (·.size)=some 3:=by kernel_rfl
instance:type_of%(po.mk vx):=⟨vx⟩
theorem K0:(Tryz.prog.info? 200).bind (·.zero)=some (Value.agg #[.int .i64 0,.int .i64 0,.slice none 0 0]):=by kernel_rfl
theorem Wc:(Tryz.prog.info? 200).map (·.bytes)=some 40:=by kernel_rfl
theorem Wd:(Tryz.prog.info? 184).map (·.size)=some 1:=by kernel_rfl
theorem adD:aJ Tryz.prog 143:=⟨_,Tryz.func143,rfl,by kernel_rfl⟩
theorem ah9:(Tryz.prog.info? 58).map (·.bytes)=some 24:=by kernel_rfl
theorem Oi:(Tryz.prog.info? 177).bind (λi=>i.zero.map Value.cells)=some #[.int .i64 0,.slice none 0 0]:=by kernel_rfl
instance:type_of%(uA.mk Oi):=⟨Oi⟩
theorem adE (w:World):cu Tryz.prog 177 w= .ok #[(0,1),(1,1)] w:=by kernel_rfl
theorem We:aJ Tryz.prog 121:=⟨_,Tryz.func121,rfl,by kernel_rfl⟩
theorem Oj:aJ Tryz.prog 120:=⟨_,Tryz.func120,rfl,by kernel_rfl⟩
instance:fW Tryz.prog 180 0 0:=⟨by kernel_rfl⟩
theorem Ol:aJ Tryz.prog 122:=⟨_,Tryz.func122,rfl,by kernel_rfl⟩
theorem Wf:aJ Tryz.prog 123:=⟨_,Tryz.func123,rfl,by kernel_rfl⟩
instance:fW Tryz.prog 180 1 5:=⟨by kernel_rfl⟩
theorem tA:bQ Tryz.prog 186 0=some 0:=by kernel_rfl
instance:type_of%(fW.mk tA):=⟨tA⟩
theorem K1:aJ Tryz.prog 124:=⟨_,Tryz.func124,rfl,by kernel_rfl⟩
theorem Om:aJ Tryz.prog 118:=⟨_,Tryz.func118,rfl,by kernel_rfl⟩
theorem Wg (w:World):cu Tryz.prog 183 w= .ok #[(0,1),(1,1),(2,1),(3,1)] w:=by kernel_rfl
theorem Wh:(Tryz.prog.info? 183).bind (λi=>i.zero.map Value.cells)=some #[.int .i64 0,.int .i64 0,.int .i64 0,.slice none 0 0]:=by kernel_rfl
theorem Wi (w:World):cu Tryz.prog 200 w= .ok #[(0,1),(1,1),(2,1)] w:=by kernel_rfl
theorem K3:(Tryz.prog.info? 200).bind (λi=>i.zero.map Value.cells)=some #[.int .i64 0,.int .i64 0,.slice none 0 0]:=by kernel_rfl
instance:type_of%(uA.mk K3):=⟨K3⟩
theorem adF:aJ Tryz.prog 106:=⟨_,Tryz.func106,rfl,by kernel_rfl⟩
theorem Oo:(Tryz.prog.info? 174).bind (λi=>i.zero.map Value.cells)=some #[.int .i64 0,.int .i64 0,.slice none 0 0,.slice none 0 0,.slice none 0 0,.slice none 0 0]:=by kernel_rfl
instance:type_of%(uA.mk Oo):=⟨Oo⟩
theorem adG (w:World):cu Tryz.prog 174 w= .ok #[(0,1),(1,1),(2,1),(3,1),(4,1),(5,1)] w:=by kernel_rfl
theorem Tf:(Tryz.prog.info? 30).bind (·.zero)=some (Value.agg #[.slice none 0 0]):=by kernel_rfl
theorem adH:(Tryz.prog.info? 30).map (·.bytes)=some 24:=by kernel_rfl
instance:uA Tryz.prog 234 #[.slice none 0 0,.slice none 0 0,.slice none 0 0]:=⟨by kernel_rfl⟩
theorem Wj:aJ Tryz.prog 119:=⟨_,Tryz.func119,rfl,by kernel_rfl⟩
theorem Wk:(Tryz.prog.info? 234).bind (·.zero)=some (Value.agg #[.slice none 0 0,.slice none 0 0,.slice none 0 0]):=by kernel_rfl
theorem adI:(Tryz.prog.info? 234).map (·.bytes)=some 72:=by kernel_rfl
theorem adJ:(Tryz.prog.info? 170).map (·.size)=some 1:=by kernel_rfl
instance:fW Tryz.prog 174 4 4:=⟨by kernel_rfl⟩
instance:fW Tryz.prog 174 5 5:=⟨by kernel_rfl⟩
theorem Wl:(Tryz.prog.info? 171).bind (·.zero)=some (Value.slice none 0 0):=by kernel_rfl
theorem adK:(Tryz.prog.info? 171).map (·.bytes)=some 24:=by kernel_rfl
theorem adL:(Tryz.prog.info? 172).map (·.size)=some 1:=by kernel_rfl
theorem Tg:aJ Tryz.prog 99:=⟨_,Tryz.func99,rfl,by kernel_rfl⟩
theorem adM:aJ Tryz.prog 173:=⟨_,Tryz.func173,rfl,by kernel_rfl⟩
theorem adN:aJ Tryz.prog 172:=⟨_,Tryz.func172,rfl,by kernel_rfl⟩
theorem adO:aJ Tryz.prog 171:=⟨_,Tryz.func171,rfl,by kernel_rfl⟩
theorem adP:aJ Tryz.prog 170:=⟨_,Tryz.func170,rfl,by kernel_rfl⟩
theorem adQ:aJ Tryz.prog 149:=⟨_,Tryz.func149,rfl,by kernel_rfl⟩
instance:fW Tryz.prog 120 0 0:=⟨by kernel_rfl⟩
theorem adR:aJ Tryz.prog 127:=⟨_,Tryz.func127,rfl,by kernel_rfl⟩
theorem adS:aJ Tryz.prog 126:=⟨_,Tryz.func126,rfl,by kernel_rfl⟩
theorem adT:aJ Tryz.prog 125:=⟨_,Tryz.func125,rfl,by kernel_rfl⟩
instance:fW Tryz.prog 200 2 2:=⟨by kernel_rfl⟩
theorem aiA:aJ Tryz.prog 90:=⟨_,Tryz.func90,rfl,by kernel_rfl⟩
theorem aiB:aJ Tryz.prog 91:=⟨_,Tryz.func91,rfl,by kernel_rfl⟩
theorem K4:(Tryz.prog.info? 120).bind (λi=>i.zero.map Value.cells)=some #[.slice none 0 0,.int .i64 0,.slice none 0 0]:=by kernel_rfl
instance:type_of%(uA.mk K4):=⟨K4⟩
theorem adU:aJ Tryz.prog 24:=⟨_,Tryz.func24,rfl,by kernel_rfl⟩
theorem Wm (w:World):cu Tryz.prog 120 w= .ok #[(0,1),(1,1),(2,1)] w:=by kernel_rfl
theorem Oq:(Tryz.prog.info? 120).map (·.size)=some 3:=by kernel_rfl
instance:type_of%(po.mk Oq):=⟨Oq⟩
theorem aiC:aJ Tryz.prog 87:=⟨_,Tryz.func87,rfl,by kernel_rfl⟩
theorem aiD:aJ Tryz.prog 88:=⟨_,Tryz.func88,rfl,by kernel_rfl⟩
theorem aiE:aJ Tryz.prog 89:=⟨_,Tryz.func89,rfl,by kernel_rfl⟩
theorem adV (w:World):cu Tryz.prog 180 w= .ok #[(0,5),(5,2),(7,6),(13,1),(14,2),(16,1)] w:=by kernel_rfl
theorem adW:(Tryz.prog.info? 180).bind (λi=>i.zero.map Value.cells)=some #[.slice none 0 0,.slice none 0 0,.slice none 0 0,.slice none 0 0,.slice none 0 0,.slice none 0 0,.slice none 0 0,.int .i64 0,.int .i64 0,.slice none 0 0,.slice none 0 0,.slice none 0 0,.slice none 0 0,.slice none 0 0,.int .i64 0,.slice none 0 0,.map none]:=by kernel_rfl
theorem Th:bQ Tryz.prog 120 1=some 1:=by kernel_rfl
instance:fW Tryz.prog 120 2 2:=⟨by kernel_rfl⟩
theorem Ti {u0:Value}(h0:u0.oneCell'=true)(w:World):(Instr.build 30 #[(0,u0)]).run Tryz.prog w= .ok (.agg #[u0]) w:=
 bU TT (acT w) (by simp[Instr.fill,J.bT,J.cells_one h0])
theorem yK {u0 u1:Value}(h0:u0.oneCell'=true)(h1:u1.oneCell'=true)(w:World):(Instr.build 270 #[(0,u0),(1,u1)]).run Tryz.prog w= .ok (.agg #[u0,u1]) w:=
 HG Tryz.underlying270 acX eJ (by simp[Instr.fill,J.bT,J.cells_one h0,J.cells_one h1])
theorem Ot {En Eo:Value}(w:World):(Instr.build 245 #[(0,.agg #[En,Eo])]).run Tryz.prog w= .ok (.agg #[En,Eo,.slice none 0 0,.slice none 0 0,.slice none 0 0]) w:=
 bU ac1 (ac0 w) (by simp[Instr.fill,J.bT])
theorem YT (w:World):(Instr.build 30 #[]).run Tryz.prog w= .ok (.agg #[.slice none 0 0]) w:=
 bU TT (acT w) (by simp[Instr.fill,J.bT])
theorem Ou {En Eo Ov Ow:Value}(w:World):(Instr.build 186 #[(0,.agg #[En,Eo,Ov,Ow])]).run Tryz.prog w= .ok (.agg #[En,Eo,Ov,Ow,.slice none 0 0,.slice none 0 0]) w:=
 bU Oe (adB w) (by simp[Instr.fill,J.bT])
theorem He {u0 u1:Value}(h0:u0.oneCell'=true)(h1:u1.oneCell'=true)(w:World):(Instr.build 177 #[(0,u0),(1,u1)]).run Tryz.prog w= .ok (.agg #[u0,u1]) w:=
 bU Oi (adE w) (by simp[Instr.fill,J.bT,J.cells_one h0,J.cells_one h1])
theorem tD {u0 u1 Ox:Value}(h0:u0.oneCell'=true)(h1:u1.oneCell'=true)(w:World):(Instr.build 183 #[(0,u0),(1,u1),(3,.agg #[Ox])]).run Tryz.prog w= .ok (.agg #[u0,u1,.int .i64 0,Ox]) w:=
 bU Wh (Wg w) (by simp[Instr.fill,J.bT,J.cells_one h0,J.cells_one h1])
theorem Hg {u0 u1:Value}(h0:u0.oneCell'=true)(h1:u1.oneCell'=true)(w:World):(Instr.build 200 #[(0,u0),(1,u1)]).run Tryz.prog w= .ok (.agg #[u0,u1,.slice none 0 0]) w:=
 bU K3 (Wi w) (by simp[Instr.fill,J.bT,J.cells_one h0,J.cells_one h1])
theorem yL {u0 u1 u2 Ox:Value}(h0:u0.oneCell'=true)(h1:u1.oneCell'=true)(h2:u2.oneCell'=true)(w:World):(Instr.build 183 #[(0,u0),(1,u1),(2,u2),(3,.agg #[Ox])]).run Tryz.prog w= .ok (.agg #[u0,u1,u2,Ox]) w:=
 bU Wh (Wg w) (by simp[Instr.fill,J.bT,J.cells_one h0,J.cells_one h1,J.cells_one h2])
theorem yM {u0 u2:Value}(h0:u0.oneCell'=true)(h2:u2.oneCell'=true)(w:World):(Instr.build 200 #[(0,u0),(2,u2)]).run Tryz.prog w= .ok (.agg #[u0,.int .i64 0,u2]) w:=
 bU K3 (Wi w) (by simp[Instr.fill,J.bT,J.cells_one h0,J.cells_one h2])
theorem Hh {u0 u1:Value}(h0:u0.oneCell'=true)(h1:u1.oneCell'=true)(w:World):(Instr.build 174 #[(0,u0),(1,u1)]).run Tryz.prog w= .ok (.agg #[u0,u1,.slice none 0 0,.slice none 0 0,.slice none 0 0,.slice none 0 0]) w:=
 bU Oo (adG w) (by simp[Instr.fill,J.bT,J.cells_one h0,J.cells_one h1])
theorem ug {En Eo Ov Ow adX adY adZ ad0 ad1 ad2 ad3 ad4 ad5 ad6 ad7 u5:Value}(h5:u5.oneCell'=true)(w:World):(Instr.build 180 #[(0,.agg #[En,Eo,Ov,Ow,adX]),(1,.agg #[adY,adZ]),(2,.agg #[ad0,ad1,ad2,ad3,ad4,ad5]),(4,.agg #[ad6,ad7]),(5,u5)]).run Tryz.prog w= .ok (.agg #[En,Eo,Ov,Ow,adX,adY,adZ,ad0,ad1,ad2,ad3,ad4,ad5,.slice none 0 0,ad6,ad7,u5]) w:=
 bU adW (adV w) (by simp[Instr.fill,J.bT,J.cells_one h5])
theorem Cy (w:World):(Instr.build 120 #[]).run Tryz.prog w= .ok (.agg #[.slice none 0 0,.int .i64 0,.slice none 0 0]) w:=
 bU K4 (Wm w) (by simp[Instr.fill,J.bT])
theorem Hi {u0 u1:Value}(h0:u0.oneCell'=true)(h1:u1.oneCell'=true)(w:World):(Instr.build 120 #[(0,u0),(1,u1)]).run Tryz.prog w= .ok (.agg #[u0,u1,.slice none 0 0]) w:=
 bU K4 (Wm w) (by simp[Instr.fill,J.bT,J.cells_one h0,J.cells_one h1])
end Go.Proofs.YtblifkgpebebmaaGreatDoor
namespace Go.J
open Go
def ax {α:Type}(f:α→List ao)(l:List α):List ao:=l.flatMap f
theorem gx {α:Type}(f:α→List ao)(a:α)(l:List α):ax f (a::l)=f a++ax f l:=rfl
theorem Tj {α:Type}(f:α→List ao)(l m:List α):ax f (l++m)=ax f l++ax f m:=Am
theorem mq {α:Type}(f:α→List ao):∀{l:List α} {i:Nat} {a:α},l[i]?=some a→(ax f l).Perm (f a++ax f (l.eraseIdx i))
 | [],_,_,h=>by cases h
 |b::l,0,a,h=>by
  obtain rfl:=Option.some.inj h;exact .refl _
 |b::l,i+1,a,h=>by
  rw[List.eraseIdx_cons_succ,gx,gx];refine((mq f (l:=l) h).append_left (f b)).trans ?_;rw[←cg,←cg];exact jJ.append_right _
theorem rp {α:Type}(f:α→List ao):∀{l:List α} {i:Nat} (a:α),i<l.length→(f a++ax f (l.eraseIdx i)).Perm (ax f (l.set i a))
 | [],_,_,h=>by cases h
 |b::l,0,a,_=> .refl _
 |b::l,i+1,a,h=>by
  rw[List.eraseIdx_cons_succ,vd,gx,gx];refine List.Perm.trans ?_ ((rp f (l:=l) a (Nat.lt_of_succ_lt_succ h)).append_left (f b));rw[←cg,←cg];exact jJ.append_right _
class iU (X X' H:List ao)(H':outParam (List ao)):Prop where
 eq:∃L,H=L++X∧H'=L++X'
instance (priority:=high) iU.here (X X':List ao):iU X X' X X':=⟨⟨[],rfl,rfl⟩⟩
instance iU.there (X X' H H':List ao)(E:ao)[h:iU X X' H H']:iU X X' (E::H) (E::H'):=⟨let⟨L,a,b⟩:=h.eq;⟨E::L,by rw[a];rfl,by rw[b];rfl⟩⟩
section
variable {n:Nat}{F:Fr}{c:Ctx}{H H' R:List ao}{T:Act→World→Prop}
theorem St.perm (hp:H.Perm H')(h:St n F (Mm c H') T):St n F (Mm c H) T:=h.pQ λ_ hw=>let⟨_,k⟩:=hw.out;Mm.mk (k.perm hp)
theorem St.tail (X X':List ao)(hp:X.Perm X')[t:iU X X' H H'](h:St n F (Mm c H') T):St n F (Mm c H) T:=by
 obtain⟨L,a,b⟩:=t.eq;refine St.perm ?_ h;rw[a,b];exact hp.append_left L
theorem St.mB (r X X':List ao)(hp:(r++X).Perm X')[tk:eE r H R][t:iU X X' R H'](h:St n F (Mm c H') T):St n F (Mm c H) T:=by
 obtain⟨L,a,b⟩:=t.eq;refine St.perm (tk.perm.trans ?_) h;rw[a,b,←cg];refine(jJ.append_right X).trans ?_;rw[cg];exact hp.append_left L
end
theorem fb.ax {α:Type}(f:α→List ao)(hf:∀a,fb (f a))(l:List α):fb (J.ax f l):=λE hE ρ mY w k=>by
 obtain⟨a,_,h⟩:=List.mem_flatMap.1 hE;exact hf a E h ρ mY w k
class yN (X H:List ao)(R:outParam (List ao→List ao)):Prop where
 eq:∃L,H=L++X∧∀Y,R Y=L++Y
instance (priority:=high) yN.here (X:List ao):yN X X (λY=>Y):=⟨⟨[],rfl,λ_=>rfl⟩⟩
instance yN.there (X H:List ao)(R:List ao→List ao)(E:ao)[h:yN X H R]:yN X (E::H) (λY=>E::R Y):=⟨let⟨L,a,b⟩:=h.eq;⟨E::L,by rw[a];rfl,λY=>by rw[b];rfl⟩⟩
instance (priority:=high) eE.tail {α β:Type}(f:α→List ao)(g:β→List ao)(l:List α)(m:List β):eE (ax f l++ax g m) (ax f l++ax g m) []:=⟨by rw[fj]⟩
instance eE.abH {α β:Type}(f:α→List ao)(g:β→List ao)(l:List α)(m:List β)(E:ao)(H R:List ao)[h:eE (ax f l++ax g m) H R]:eE (ax f l++ax g m) (E::H) (E::R):=
 ⟨(h.perm.cons E).trans rD.symm⟩
section
variable {P:Program}{n:Nat}{F:Fr}{c:Ctx}{H H1:List ao}{Q:Exit→Act→World→Prop}{ops:Array Oper}{rest:List Oper}{d:Nat}{ty:TypeId}{pos:String}{after:Array Edge}
theorem St.B3 {dr:Prop}{f:FuncId}{xs:List Operand}{pG:Array TypeId}{vs:List Value}{ds:List df}{L X:List ao}{R:List ao→List ao}{post:Value→List ao→List ao→Prop}(lf:c.dr→dr)
 (hc:H3 dr P f vs.toArray (ds.map aF++(L++X)) (λv H'=>∃L' X',H'=L'++X'∧post v L' X')) (nh:aJ P f) (hx:bF F xs vs) (hd:Nat.ble (d+1) n=true) [hds:nZ ds H] [tk:eE L H H1] [tf:yN X H1 R]
 (h:∀v L' X',post v L' X'→St n ((d,v)::F) (Mm c (L'++R X')) (wpList P ops Q rest)):
 St n F (Mm c H) (wpList P ops Q ({dst:=some d,op:= .call {callee:= .value (.func f),args:=xs.toArray,argTypes:=pG},type:=ty,pos:=pos,after:=after,guard:=none}::rest)):=by
 intro a w ha hw;obtain⟨K,e1,e2⟩:=tf.eq;refine gD rfl (iE (caps:=[]) nh (bF.cons (aZ.mk rfl) hx) ha w ?_)
 simp only[List.append_nil]
 have hp:(ds.map aF++H).Perm ((ds.map aF++(L++X))++K):=by
  rw[cg];refine List.Perm.append_left _ (tk.perm.trans ?_);rw[e1,cg];exact List.Perm.append_left L jJ
 obtain⟨_,k⟩:=(hw.ng (ds:=ds)).out;refine(Mm.B3 hc lf (Mm.mk (k.perm hp))).mono ?_;rintro e w' ⟨u,H',rfl,⟨L',X',rfl,hq⟩,hm⟩;refine⟨u,rfl,h u L' X' hq _ w' (ha.put (eX hd) u) ?_⟩;obtain⟨_,k2⟩:=hm.out;refine Mm.mk (k2.perm ?_);rw[e2,cg];exact List.Perm.append_left L' jJ
theorem St.pN {f:FuncId}{xs:List Operand}{pG:Array TypeId}{vs:List Value}{ds:List df}{L X:List ao}{R:List ao→List ao}{post:Value→List ao→List ao→Prop}
 (hc:dt P f vs.toArray (ds.map aF++(L++X)) (λv H'=>∃L' X',H'=L'++X'∧post v L' X')) (nh:aJ P f) (hx:bF F xs vs) (hd:Nat.ble (d+1) n=true) [hds:nZ ds H] [tk:eE L H H1] [tf:yN X H1 R]
 (h:∀v L' X',post v L' X'→St n ((d,v)::F) (Mm c (L'++R X')) (wpList P ops Q rest)):
 St n F (Mm c H) (wpList P ops Q ({dst:=some d,op:= .call {callee:= .value (.func f),args:=xs.toArray,argTypes:=pG},type:=ty,pos:=pos,after:=after,guard:=none}::rest)):=
 St.B3 (λ_=>trivial) hc nh hx hd h
end
section
variable {P:Program}{n:Nat}{F:Fr}{c:Ctx}{H:List ao}{ty t e:TypeId}{x:Operand}{v:Value}{m k:Nat}{α:Type}
theorem Ev.uh {R:Rp α}{l:List α}{g:α}{dd:TypeDesc}[hr:wH v H e R.size m (rows R l)](hx:aZ F x (dR v R.size k 0))(hg:l[k]?=some g)(ht:P.underlying t=some dd)(jv:(match dd with| .struct _| .array _ _=>True|_=>False))
 (hs:(P.info? t).map (·.size)=some R.size) (hk:k<m):Ev P n F (Mm c H) (.load t x) ty (.agg (R.cells g).toArray):= .of_run λa w ha hw=>by
 obtain⟨ρ,hm⟩:=hw.out
 have h0:(rows R l)[k*R.size+0]?=(R.cells g)[0]?:=db R l k 0 g hg R.pos
 have Tk:0<(R.cells g).length:=by rw[R.len];exact R.pos
 rw[bO Tk]at h0;obtain⟨b,e1,c1,o1,_⟩:=jN (hm.row hr) (off:=0) hk h0;rw[e1]at hx
 have h4:=de (P:=P) (w:=w) (b:=b) (off:=k*R.size+0) (L:=R.cells g) ht jv (by rw[hs,R.len]) (λj u hj=>by
  have LS:j<R.size:=by rw[←R.len g];exact(eD.1 hj).1
  have Hj:(rows R l)[k*R.size+j]?=some u:=by rw[db R l k j g hg LS,hj]
  obtain⟨b',e2,c2,o2,_⟩:=jN (hm.row hr) (off:=j) hk Hj
  rw[o1]at o2;cases o2
  simpa using c2)
 simp at hx h4
 simp[execOp,hx.eval ha,Instr.loadAt,Instr.sureAddr,h4]
theorem ui (R:Rp α):∀(l:List α) (k:Nat),(rows R l).take (k*R.size)=rows R (l.take k)
 | [],k=>by simp[rows]
 |a::l,0=>by simp[rows]
 |a::l,k+1=>by
  have e:(k+1)*R.size=(R.cells a).length+k*R.size:=by rw[R.len,lW];omega
  show(R.cells a++rows R l).take _=R.cells a++rows R (l.take k)
  rw[e,List.take_length_add_append,ui R l k]
theorem tE (R:Rp α)(l:List α)(a:α):(rows R (l++ [a])).take (l.length*R.size)=rows R l:=by rw[ui,List.take_left' rfl]
end
end Go.J
namespace Go.J
open Go Go.Proofs.YtblifkgpebebmaaGreatDoor
section
variable {P:Program}{n:Nat}{F:Fr}{c:Ctx}{H R:List ao}{ty t e:TypeId}{x y:Operand}{v:Value}{Q:Exit→Act→World→Prop}{ops:Array Oper}{rest:List Oper}{d:Nat}{pos:String}{after:Array Edge}{m k:Nat}{α:Type}
theorem Ev.Hk {Rr:Rp α}{xs:List α}{g:α}{dd:TypeDesc}{sz off:Nat}[hd:sQ v H α Rr xs](hx:aZ F x (dR v Rr.size k off))(hk:xs[k]?=some g)(ht:P.underlying t=some dd)(jv:(match dd with| .struct _| .array _ _=>True|_=>False))
 (hs:(P.info? t).map (·.size)=some sz) (gQ:off+sz≤Rr.size) (xU:off<Rr.size):Ev P n F (Mm c H) (.load t x) ty (.agg (((Rr.cells g).drop off).take sz).toArray):= .of_run λa w ha hw=>by
 obtain⟨ρ,hm⟩:=hw.out;obtain⟨b,o,h1,h2⟩:=CH hm hd hk (off:=off);rw[h1]at hx
 have h4:=de (P:=P) (w:=w) (b:=b) (off:=o) (L:=((Rr.cells g).drop off).take sz) ht jv (by rw[hs,e9,lT,Rr.len,ji (by omega)]) (λj u hj=>by
  have LS:j<sz:=by
   have:=(eD.1 hj).1
   rw[e9]at this;omega
  rw[rA,aB LS,Ao]at hj
  rw[h2 j (by omega)];exact hj)
 simp[execOp,hx.eval ha,Instr.loadAt,Instr.sureAddr,h4]
theorem St.ot {Rr:Rp α}{g:α}{sz:Nat}(Lp:Rr.size=sz){zv:Value}{xW:Nat}{i j:Int}{kl kc:IntKind}(hx:aZ F x (.int kl i))(hy:aZ F y (.int kc j))(ht:P.underlying t=some (.slice e))(hs:(P.info? e).map (·.size)=some Rr.size)(hz:(P.info? e).bind (·.zero)=some zv)(hb:(P.info? e).map (·.bytes)=some xW)
 (hm:i=m) (pa:j=m) (mg:xW*m≤281474976710656∧m≤9223372036854775807) (h1:zv.cells=(Rr.cells g).toArray) (hd:Nat.ble (d+1) n=true)
 (h:∀b,St n ((d,.slice (some ⟨b,0,none⟩) m m)::F) (Mm c (row (.slice (some ⟨b,0,none⟩) m m) e sz m (rows Rr (List.replicate m g))::H)) (wpList P ops Q rest)):
 St n F (Mm c H) (wpList P ops Q ({dst:=some d,op:= .makeSlice t x y,type:=ty,pos:=pos,after:=after,guard:=none}::rest)):=by
 subst hm pa Lp;refine St.SA (K:=λu H'=>∃b,u= .slice (some ⟨b,0,none⟩) m m∧H'=row (.slice (some ⟨b,0,none⟩) m m) e Rr.size m (rows Rr (List.replicate m g))::H) ?_ hd ?_
 ·intro a w ρ ha nD
  obtain⟨i,hi,gQ⟩:=dG.1 hs;obtain⟨q1,q2,q3⟩:=pf hs hz hb hi
  have uM:=run_make (P:=P) w t e i zv ht hi q2 kl kc m m (by omega) (by omega) (by rw[q3,←Int.natCast_mul];exact Int.ofNat_le.2 mg.1) (by omega)
  have hlen:(rows Rr (List.replicate m g)).length=m*Rr.size:=by rw[gn,jI]
  have xZ:madeCells zv.cells (m*i.size)=(rows Rr (List.replicate m g)).toArray:=by
   rw[q1,h1]
   apply Array.ext
   ·simp[madeCells,hlen]
   ·intro k jv rf
    have nU:k<m*Rr.size:=by simpa[madeCells]using jv
    have hp:=Rr.pos
    have hq:k/Rr.size<m:=Nat.div_lt_of_lt_mul (by rw[Nat.mul_comm];exact nU)
    have hr:k%Rr.size<Rr.size:=Nat.mod_lt _ hp
    have hg:=db Rr (List.replicate m g) (k/Rr.size) (k%Rr.size) g (by rw[r9,aB hq]) hr
    have Wn:k/Rr.size*Rr.size+k%Rr.size=k:=by rw[Nat.mul_comm];exact Nat.div_add_mod k Rr.size
    rw[Wn,bO (by rw[hlen];exact nU),bO (by rw[Rr.len];exact hr)]at hg
    have hg:=Option.some.inj hg
    simp only[madeCells,List.getElem_toArray]
    rw[hg]
    simp[Rr.len,hr]
  simp only[Int.toNat_natCast,xZ]at uM
  refine⟨.value (.slice (some ⟨w.heap.size,0,none⟩) m m),w.alloc (.cells (rows Rr (List.replicate m g)).toArray e),ρ,_,?_,⟨_,.inl rfl,_,rfl,rfl⟩,?_⟩
  ·simp[execOp,hx.eval ha,hy.eval ha,uM]
  ·refine nD.A4 rfl ⟨rfl,aW _⟩ rfl (by simp) (λk hk=>RowKit.Below.heap_alloc w _ k hk) (dZ.2 ⟨hlen,.inr ⟨w.heap.size,m,_,rfl,aR _,heap_alloc_new w _,aW _,by unfold maxLen;omega,by simp[hlen],by rw[←hlen];simp⟩⟩) ?_
   intro b hb;rw[dV]at hb;simp[Value.ownBlock]at hb;omega
 ·rintro _ _ ⟨b,rfl,rfl⟩
  exact h b
end
section
variable {P:Program}{n:Nat}{F:Fr}{c:Ctx}{H H' R:List ao}{ty t e:TypeId}{x y:Operand}{v:Value}{Q:Exit→Act→World→Prop}{ops:Array Oper}{rest:List Oper}{d:Nat}{pos:String}{after:Array Edge}{m k:Nat}{α:Type}{T:Act→World→Prop}
theorem Ev.Oy {Rr:Rp α}{l:List α}{g:α}{dd:TypeDesc}{sz off:Nat}[hr:wH v H e Rr.size m (rows Rr l)](hx:aZ F x (dR v Rr.size k off))(hg:l[k]?=some g)(ht:P.underlying t=some dd)(jv:(match dd with| .struct _| .array _ _=>True|_=>False))
 (hs:(P.info? t).map (·.size)=some sz) (hk:k<m) (gQ:off+sz≤Rr.size) (xU:off<Rr.size):Ev P n F (Mm c H) (.load t x) ty (.agg (((Rr.cells g).drop off).take sz).toArray):= .of_run λa w ha hw=>by
 obtain⟨ρ,hm⟩:=hw.out
 have h0:(rows Rr l)[k*Rr.size+off]?=(Rr.cells g)[off]?:=db Rr l k off g hg xU
 have h01:(Rr.cells g)[off]?=some ((Rr.cells g)[off]'(by rw[Rr.len];exact xU)):=bO _
 rw[h01]at h0;obtain⟨b,e1,c1,o1,_⟩:=jN (hm.row hr) (off:=off) hk h0;rw[e1]at hx
 have h4:=de (P:=P) (w:=w) (b:=b) (off:=k*Rr.size+off) (L:=((Rr.cells g).drop off).take sz) ht jv (by rw[hs,e9,lT,Rr.len,ji (by omega)]) (λj u hj=>by
  have LS:j<sz:=by
   have:=(eD.1 hj).1
   rw[e9]at this;omega
  rw[rA,aB LS,Ao]at hj
  have Hj:(rows Rr l)[k*Rr.size+(off+j)]?=some u:=by rw[db Rr l k (off+j) g hg (by omega),hj]
  obtain⟨b',e2,c2,o2,_⟩:=jN (hm.row hr) (off:=off+j) hk Hj
  rw[o1]at o2;cases o2
  rw[Nat.add_assoc];exact c2)
 simp[execOp,hx.eval ha,Instr.loadAt,Instr.sureAddr,h4]
instance (priority:=high) eE.alS {β:Type}(f:β→List ao)(l:List β):eE (ax f l) (ax f l) []:=⟨by rw[fj]⟩
instance eE.abI {β:Type}(f:β→List ao)(l:List β)(E:ao)(H R:List ao)[h:eE (ax f l) H R]:eE (ax f l) (E::H) (E::R):=
 ⟨(h.perm.cons E).trans rD.symm⟩
theorem Mm.Tl {f:α→List ao}{g:α→df}(hf:∀a H w,Mm c (f a++H) w→Mm c (aF (g a)::H) w):∀(l:List α) (H:List ao) (w:World),Mm c (ax f l++H) w→Mm c (aF (aI g l)::H) w
 | [],H,w,h=>h.fact (aI g []) λρ _ x hx=>by cases hx
 |a::l,H,w,h=>by
  rw[gx,cg]at h
  have h1:=hf a _ w h
  obtain⟨ρ1,k1⟩:=h1.out
  have h2:Mm c (ax f l++(aF (g a)::H)) w:=Mm.mk (k1.perm rD.symm)
  have h3:=Mm.Tl hf l _ w h2
  refine(λ(h4:Mm c (aF (aI g (a::l))::aF (aI g l)::aF (g a)::H) w)=> ?_) (h3.fact _ ?_)
  ·obtain⟨ρ,k⟩:=h4.out
   have k2:eQ c (aF (aI g l)::aF (g a)::aF (aI g (a::l))::H) ρ w:=k.perm ((List.Perm.swap _ _ _).trans ((List.Perm.swap _ _ _).cons _))
   exact Mm.mk k2.drop.drop
  ·intro ρ hm x hx
   rcases cD.1 hx with rfl|hx
   ·exact dm.1 (hm.dK (aF (g x)) (by simp))
   ·exact dm.1 (hm.dK (aF (aI g l)) (by simp)) x hx
theorem St.Tl {f:α→List ao}(g:α→df)(l:List α)(hf:∀a H w,Mm c (f a++H) w→Mm c (aF (g a)::H) w)[tf:iU (ax f l) [] H H'](h:St n F (Mm c (aF (aI g l)::H')) T):St n F (Mm c H) T:=by
 obtain⟨L,a,b⟩:=tf.eq
 refine h.pQ λw hw=> ?_
 rw[b,fj];refine Mm.Tl hf l L w ?_;obtain⟨ρ,k⟩:=hw.out;refine Mm.mk (k.perm ?_);rw[a];exact jJ
end
structure yO (P:Program)(t:TypeId)(nm:String)(f:Nat)(byP:Bool)(e:TypeId):Prop where
 row:((P.info? t).bind λi=>(i.methods.find? λm=>m.name==nm).map λm=>(m.path.isEmpty,m.func))=some (true,some (f,byP))
 und:P.underlying t=some (.pointer e)
theorem yO.out {P:Program}{t e:TypeId}{nm:String}{f:Nat}{byP:Bool}(h:yO P t nm f byP e):∃i m,P.info? t=some i∧i.methods.find? (λm=>m.name==nm)=some m∧m.path= #[]∧m.func=some (f,byP):=by
 obtain⟨i,hi,h2⟩:=oT.1 h.row;obtain⟨m,hm,h3⟩:=dG.1 h2
 have h4:=congrArg Prod.fst h3
 have h5:=congrArg Prod.snd h3
 exact⟨i,m,hi,hm,by simpa using h4,h5⟩
theorem Hl {P:Program}{t e:TypeId}{nm:String}{f:Nat}(h:yO P t nm f true e)(k:Nat)(v:Value)(w:World):(method (k+1) t v nm).run P w= .ok (f,v) w:=by
 obtain⟨i,m,hi,hm,hp,hf⟩:=h.out
 have hu:=h.und
 simp[method,typeInfo,hi,hm,hp,hf,follow,receiverAt,run_underlying hu,Place.get]
theorem Oz (t:TypeId)(a:Addr)(s m:String):Builtin.ssaWrapNilChk_ #[t] t #[.pointer (some a),strVal s,strVal m]=pure (.pointer (some a)):=rfl
theorem Hm {P:Program}{t e:TypeId}{nm:String}{f:Nat}{a:Addr}{u:Value}(h:yO P t nm f false e)(k:Nat)(w:World)(hl:(loadVar e a).run P w= .ok u w):(method (k+1) t (.pointer (some a)) nm).run P w= .ok (f,u) w:=by
 obtain⟨i,m,hi,hm,hp,hf⟩:=h.out
 have hu:=h.und
 simp[method,typeInfo,hi,hm,hp,hf,follow,receiverAt,run_underlying hu,Place.get,Oz,asAddr,hl]
section
variable {P:Program}{n:Nat}{F:Fr}{c:Ctx}{H R:List ao}{ty t e e2:TypeId}{x:Operand}{r u v:Value}{nm:String}{Q:Exit→Act→World→Prop}{ops:Array Oper}{rest:List Oper}{d:Nat}{pos:String}{after:Array Edge}{f:Nat}
def Recv (P:Program)(c:Ctx)(H:List ao)(t:TypeId)(r:Value)(nm:String)(f:Nat)(u:Value):Prop:=∀w,Mm c H w→(method (P.types.size+Made.depth) t r nm).run P w= .ok (f,u) w
theorem Recv.ptr (h:yO P t nm f true e):Recv P c H t r nm f r:=λw _=>Hl h (P.types.size+99) r w
theorem Recv.row {m k off size:Nat}{cs:List Value}{dd:TypeDesc}[hr:wH v H e2 size m cs](h:yO P t nm f false e)(hu:P.underlying e=some dd)(jv:(match dd with| .struct _| .array _ _=>False|_=>True))(hk:k<m)(hc:cs[k*size+off]?=some u):
 Recv P c H t (dR v size k off) nm f u:=λw hw=>by
 obtain⟨ρ,hm⟩:=hw.out;obtain⟨b,h1,h2,_⟩:=jN (hm.row hr) hk hc;rw[h1];exact Hm h (P.types.size+99) w (eM hu jv h2)
theorem vy {xs:List Operand}{pG:Array TypeId}{vs:List Value}(nh:aJ P f)(hx:bF F (x::xs) (.iface t r::vs)){a:Act}(ha:Has n a F){w:World}(hr:(method (P.types.size+Made.depth) t r nm).run P w= .ok (f,u) w):
 (execOp a.eval (bare (.call {callee:= .invoke x nm,args:=xs.toArray,argTypes:=pG}) ty)).run P w= .ok (.enter f (u::vs).toArray) w:=by
 have h1:=hx.1.eval ha
 have h2:=bF.eval ha hx.2
 have e1:(#[Value.iface t r]++xs.toArray.map a.eval)=(Value.iface t r::vs).toArray:=by simp[h2]
 have e2:((Value.iface t r::vs).toArray).extract 1 (Value.iface t r::vs).toArray.size=vs.toArray:=by simp
 simp only[execOp,resolve,h1,Sem.run_bind,Sem.run_pure,Result.andThen_ok,invoke,e1,e2]
 have e3:(Value.iface t r::vs).toArray[0]?=some (Value.iface t r):=by simp
 simp only[e3,callMethod,Sem.run_bind,run_program,Result.andThen_ok,hr]
 have e4:(#[u]++vs.toArray)=(u::vs).toArray:=by simp
 rw[e4];exact nh.run
theorem Ev.qW {xs:List Operand}{pG:Array TypeId}{vs:List Value}{ds:List df}(hv:Recv P c H t r nm f u)(hc:dA P f (u::vs).toArray ds v)(nh:aJ P f)(hx:bF F (x::xs) (.iface t r::vs))(hl:cw c H ds):
 Ev P n F (Mm c H) (.call {callee:= .invoke x nm,args:=xs.toArray,argTypes:=pG}) ty v:=by
 intro a w ha hw;rw[vy nh hx ha (hv w hw)]
 simp only[Oper.quietUpon,true_and]
 refine(Mm.Xr (post:=λu H'=>u=v∧H'=[]) (λw ρ hs=>(hc w ρ hs).mono λe w' ⟨u,H',h1,h2,h3⟩=>⟨u,[],h1,⟨h2,rfl⟩,?_⟩) hl (λ_ _ h=>by rw[h.2];exact fb.nil) hw).mono ?_
 ·obtain⟨mY,h3⟩:=h3.out
  exact Mm.mk (eQ.left (L:=[]) h3)
 ·rintro e w' ⟨u,H',rfl,⟨rfl,rfl⟩,hm⟩
  exact⟨rfl,hm⟩
theorem yP {xs:List Operand}{pG:Array TypeId}{vs:List Value}(nh:aJ P f)(hx:bF F (x::xs) (.iface t r::vs)){a:Act}(ha:Has n a F){w:World}(hr:(method (P.types.size+Made.depth) t r nm).run P w= .ok (f,u) w){K:Act→World→Prop}
 {dd:Option Tmp} {g:Option (Nat×Bool)}
 (hk:Calls P f (u::vs).toArray w λe w'=>∃v,e= .returned v∧K (a.put dd v) w'):
 ({dst:=dd,op:= .call {callee:= .invoke x nm,args:=xs.toArray,argTypes:=pG},type:=ty,pos:=pos,after:=after,guard:=g}:Oper).wp P a w K Q:=by
 unfold Oper.wp Oper.upon;rw[fa,vy nh hx ha hr]
 exact hk.mono λe w' ⟨v,he,h⟩=>by subst he;exact h
theorem St.ivk {xs:List Operand}{pG:Array TypeId}{vs:List Value}{pre:List ao}{post:Value→List ao→Prop}(hv:Recv P c H t r nm f u)(hc:dt P f (u::vs).toArray pre post)(nh:aJ P f)(hx:bF F (x::xs) (.iface t r::vs))(hd:Nat.ble (d+1) n=true)[tk:eE pre H R]
 (h:∀v H',post v H'→St n ((d,v)::F) (Mm c (H'++R)) (wpList P ops Q rest)):
 St n F (Mm c H) (wpList P ops Q ({dst:=some d,op:= .call {callee:= .invoke x nm,args:=xs.toArray,argTypes:=pG},type:=ty,pos:=pos,after:=after,guard:=none}::rest)):=by
 intro a w ha hw;refine gD rfl (yP nh hx ha (hv w hw) ?_);refine(Mm.call hc (hw.take (L:=pre))).mono ?_;rintro e w' ⟨u,H',rfl,hp,hm⟩;exact⟨u,rfl,h u H' hp _ w' (ha.put (eX hd) u) hm⟩
theorem Ev.iface {A:World→Prop}{dd:TypeDesc}(hx:aZ F x v)(ht:P.underlying t=some dd)(hk:(match dd with| .interface _=>False|_=>True)):Ev P n F A (.makeInterface t x) ty (.iface t v):= .of_run λa w ha _=>by
 cases dd<;>simp_all [execOp,Instr.makeInterface,hx.eval ha,run_underlying ht]
theorem Ev.assert {A:World→Prop}{dd:TypeDesc}{xt:TypeId}(hx:aZ F x (.iface t v))(ht:P.underlying t=some dd)(hk:(match dd with| .interface _=>False|_=>True)):Ev P n F A (.typeAssert x xt t false) ty v:= .of_run λa w ha _=>by
 cases dd<;>simp_all [execOp,Instr.typeAssert,hx.eval ha,run_underlying ht]
end
end Go.J
namespace Go.Proofs.YtblifkgpebebmaaGreatDoor
open Go Go.J Tryz
theorem YU:(Tryz.prog.info? 69).bind (λi=>i.zero.map Value.cells)=some #[.int .i64 0,.int .i64 0,.slice none 0 0]:=by kernel_rfl
instance:type_of%(uA.mk YU):=⟨YU⟩
instance:fW Tryz.prog 69 0 0:=⟨by kernel_rfl⟩
instance:fW Tryz.prog 69 1 1:=⟨by kernel_rfl⟩
theorem aiF (w:World):cu Tryz.prog 69 w= .ok #[(0,1),(1,1),(2,1)] w:=by kernel_rfl
theorem py:(Tryz.prog.info? 69).map (·.size)=some 3:=by kernel_rfl
instance:type_of%(po.mk py):=⟨py⟩
instance:fW Tryz.prog 69 2 2:=⟨by kernel_rfl⟩
theorem ad8:aJ Tryz.prog 28:=⟨_,Tryz.func28,rfl,by kernel_rfl⟩
theorem Lq:(Tryz.prog.info? 69).bind (·.zero)=some (Value.agg #[.int .i64 0,.int .i64 0,.slice none 0 0]):=by kernel_rfl
theorem YV:(Tryz.prog.info? 69).map (·.bytes)=some 40:=by kernel_rfl
theorem YW:(Tryz.prog.info? 44).map (·.size)=some 1:=by kernel_rfl
instance:fW Tryz.prog 71 0 0:=⟨by kernel_rfl⟩
instance:fW Tryz.prog 71 1 1:=⟨by kernel_rfl⟩
theorem ad9:aJ Tryz.prog 101:=⟨_,Tryz.func101,rfl,by kernel_rfl⟩
theorem uj:(Tryz.prog.info? 71).map (·.size)=some 5:=by kernel_rfl
instance:type_of%(po.mk uj):=⟨uj⟩
theorem jB:(Tryz.prog.info? 196).map (·.size)=some 7:=by kernel_rfl
instance:type_of%(po.mk jB):=⟨jB⟩
instance:fW Tryz.prog 196 0 0:=⟨by kernel_rfl⟩
theorem aeA:aJ Tryz.prog 53:=⟨_,Tryz.func53,rfl,by kernel_rfl⟩
theorem ou : yO Tryz.prog 202 "Less" 206 false 192 := ⟨by kernel_rfl, by kernel_rfl⟩
theorem ow : yO Tryz.prog 202 "Swap" 207 false 192 := ⟨by kernel_rfl, by kernel_rfl⟩
theorem P5:aJ Tryz.prog 206:=⟨_,Tryz.func206,rfl,by kernel_rfl⟩
theorem P6:aJ Tryz.prog 207:=⟨_,Tryz.func207,rfl,by kernel_rfl⟩
theorem pz : yO Tryz.prog 202 "Len" 95 false 192 := ⟨by kernel_rfl, by kernel_rfl⟩
theorem Tm:aJ Tryz.prog 95:=⟨_,Tryz.func95,rfl,by kernel_rfl⟩
theorem Wo:aJ Tryz.prog 131:=⟨_,Tryz.func131,rfl,by kernel_rfl⟩
theorem K5:(Tryz.prog.info? 196).bind (λi=>i.zero.map Value.cells)=some #[.int .i64 0,.slice none 0 0,.int .i64 0,.int .i64 0,.slice none 0 0,.int .i64 0,.slice none 0 0]:=by kernel_rfl
instance:type_of%(uA.mk K5):=⟨K5⟩
theorem K6:(Tryz.prog.info? 192).map (·.size)=some 1:=by kernel_rfl
theorem Ep : yO Tryz.prog 202 "Pop" 208 true 192 := ⟨by kernel_rfl, by kernel_rfl⟩
theorem aeB:aJ Tryz.prog 208:=⟨_,Tryz.func208,rfl,by kernel_rfl⟩
theorem BT:(Tryz.prog.info? 196).bind (·.zero)=some (Value.agg #[.int .i64 0,.slice none 0 0,.int .i64 0,.int .i64 0,.slice none 0 0,.int .i64 0,.slice none 0 0]):=by kernel_rfl
theorem P7:(Tryz.prog.info? 196).map (·.bytes)=some 104:=by kernel_rfl
theorem Cz : yO Tryz.prog 202 "Push" 209 true 192 := ⟨by kernel_rfl, by kernel_rfl⟩
theorem aeC:aJ Tryz.prog 209:=⟨_,Tryz.func209,rfl,by kernel_rfl⟩
theorem aeD:aJ Tryz.prog 132:=⟨_,Tryz.func132,rfl,by kernel_rfl⟩
theorem aeE:aJ Tryz.prog 52:=⟨_,Tryz.func52,rfl,by kernel_rfl⟩
instance:fW Tryz.prog 127 2 2:=⟨by kernel_rfl⟩
theorem Wp (w:World):cu Tryz.prog 196 w= .ok #[(0,5),(5,1),(6,1)] w:=by kernel_rfl
instance:fW Tryz.prog 71 2 2:=⟨by kernel_rfl⟩
instance:fW Tryz.prog 127 1 1:=⟨by kernel_rfl⟩
instance:fW Tryz.prog 127 0 0:=⟨by kernel_rfl⟩
theorem YX:(Tryz.prog.info? 71).bind (λi=>i.zero.map Value.cells)=some #[.int .i64 0,.slice none 0 0,.int .i64 0,.int .i64 0,.slice none 0 0]:=by kernel_rfl
instance:type_of%(uA.mk YX):=⟨YX⟩
theorem aeF:aJ Tryz.prog 93:=⟨_,Tryz.func93,rfl,by kernel_rfl⟩
instance:fW Tryz.prog 127 3 3:=⟨by kernel_rfl⟩
theorem P8:(Tryz.prog.info? 194).map (·.size)=some 3:=by kernel_rfl
instance:type_of%(po.mk P8):=⟨P8⟩
theorem K7:bQ Tryz.prog 194 2=some 2:=by kernel_rfl
theorem ox:bQ Tryz.prog 194 1=some 1:=by kernel_rfl
theorem aiG:aJ Tryz.prog 94:=⟨_,Tryz.func94,rfl,by kernel_rfl⟩
theorem mr:bQ Tryz.prog 194 0=some 0:=by kernel_rfl
theorem aiH:aJ Tryz.prog 96:=⟨_,Tryz.func96,rfl,by kernel_rfl⟩
theorem Tn:(Tryz.prog.info? 71).bind (·.zero)=some (Value.agg #[.int .i64 0,.slice none 0 0,.int .i64 0,.int .i64 0,.slice none 0 0]):=by kernel_rfl
theorem aeG:(Tryz.prog.info? 71).map (·.bytes)=some 72:=by kernel_rfl
theorem Wq:(Tryz.prog.info? 190).map (·.size)=some 1:=by kernel_rfl
instance:fW Tryz.prog 196 2 6:=⟨by kernel_rfl⟩
theorem aiI:aJ Tryz.prog 97:=⟨_,Tryz.func97,rfl,by kernel_rfl⟩
instance:fW Tryz.prog 196 1 5:=⟨by kernel_rfl⟩
theorem aiJ:aJ Tryz.prog 98:=⟨_,Tryz.func98,rfl,by kernel_rfl⟩
theorem aiK (w:World):cu Tryz.prog 71 w= .ok #[(0,1),(1,1),(2,3)] w:=by kernel_rfl
theorem Hn {u1 u2:Value}(h1:u1.oneCell'=true)(h2:u2.oneCell'=true)(w:World):(Instr.build 196 #[(1,u1),(2,u2)]).run Tryz.prog w= .ok (.agg #[.int .i64 0,.slice none 0 0,.int .i64 0,.int .i64 0,.slice none 0 0,u1,u2]) w:=
 bU K5 (Wp w) (by simp[Instr.fill,J.bT,J.cells_one h1,J.cells_one h2])
theorem BU {u0 u1:Value}(h0:u0.oneCell'=true)(h1:u1.oneCell'=true)(w:World):(Instr.build 69 #[(0,u0),(1,u1)]).run Tryz.prog w= .ok (.agg #[u0,u1,.slice none 0 0]) w:=
 bU YU (aiF w) (by simp[Instr.fill,J.bT,J.cells_one h0,J.cells_one h1])
theorem Tp (w:World):(Instr.build 196 #[]).run Tryz.prog w= .ok (.agg #[.int .i64 0,.slice none 0 0,.int .i64 0,.int .i64 0,.slice none 0 0,.int .i64 0,.slice none 0 0]) w:=
 bU K5 (Wp w) (by simp[Instr.fill,J.bT])
theorem P9 (w:World):(Instr.build 71 #[]).run Tryz.prog w= .ok (.agg #[.int .i64 0,.slice none 0 0,.int .i64 0,.int .i64 0,.slice none 0 0]) w:=
 bU YX (aiK w) (by simp[Instr.fill,J.bT])
theorem aeH:(Tryz.prog.info? 194).bind (·.zero)=some (Value.agg #[.slice none 0 0,.slice none 0 0,.bool false]):=by kernel_rfl
theorem aeI:(Tryz.prog.info? 194).map (·.bytes)=some 56:=by kernel_rfl
theorem aiL:aJ Tryz.prog 50:=⟨_,Tryz.func50,rfl,by kernel_rfl⟩
theorem aiM:aJ Tryz.prog 51:=⟨_,Tryz.func51,rfl,by kernel_rfl⟩
theorem aeJ (w:World):cu Tryz.prog 127 w= .ok #[(0,1),(1,1),(2,1),(3,1)] w:=by kernel_rfl
theorem aeK:(Tryz.prog.info? 127).bind (λi=>i.zero.map Value.cells)=some #[.slice none 0 0,.slice none 0 0,.slice none 0 0,.slice none 0 0]:=by kernel_rfl
theorem aiN:aJ Tryz.prog 27:=⟨_,Tryz.func27,rfl,by kernel_rfl⟩
theorem aiO:aJ Tryz.prog 25:=⟨_,Tryz.func25,rfl,by kernel_rfl⟩
theorem aiP:aJ Tryz.prog 26:=⟨_,Tryz.func26,rfl,by kernel_rfl⟩
instance:uA Tryz.prog 44 #[.slice none 0 0]:=⟨by kernel_rfl⟩
theorem Ho {u2 u3:Value}(h2:u2.oneCell'=true)(h3:u3.oneCell'=true)(w:World):(Instr.build 127 #[(2,u2),(3,u3)]).run Tryz.prog w= .ok (.agg #[.slice none 0 0,.slice none 0 0,u2,u3]) w:=
 bU aeK (aeJ w) (by simp[Instr.fill,J.bT,J.cells_one h2,J.cells_one h3])
theorem by9:(Tryz.prog.info? 9).map (·.bytes)=some 16:=by kernel_rfl
theorem aeL:aJ Tryz.prog 10:=⟨_,Tryz.func10,rfl,by kernel_rfl⟩
theorem yQ (a0 b0:Int)(a1 b1:Int)(w:World):(Op.equalIn 10000 35 (.agg #[.int .i64 a0,.int .i64 a1]) (.agg #[.int .i64 b0,.int .i64 b1])).run Tryz.prog w= .ok ((a0==b0)&&((a1==b1)&&true)) w:=by
 have e:Tryz.prog.underlying 35=some (.struct (Tryz.prog.fieldsOf 35)):=by simp only[Program.fieldsOf,Ec]
 have p3:∀(xs:Array Value) (k:Nat) (v:Value) w,xs[k]?=some v→(part 3 xs k).run Tryz.prog w= .ok v w:=λxs k v w hv=>EE (by rw[eN]) hv
 rw[run_equalIn_struct w 9999 35 _ _ e Tryz.stoodInHeld35]
 simp only[Program.fieldsOf,Ec]
 refine EF rfl (λw=>p3 _ _ _ w rfl) (λw=>p3 _ _ _ w rfl) (λw=>run_equalIn_int w 9998 3 _ _ _ _ eN) (λw=> ?_) w;refine EF rfl (λw=>p3 _ _ _ w rfl) (λw=>p3 _ _ _ w rfl) (λw=>run_equalIn_int w 9998 3 _ _ _ _ eN) (λw=> ?_) w;exact Sr _ _ _ _ _
theorem aiQ:aJ Tryz.prog 29:=⟨_,Tryz.func29,rfl,by kernel_rfl⟩
theorem aeM:aJ Tryz.prog 11:=⟨_,Tryz.func11,rfl,by kernel_rfl⟩
theorem PA:aJ Tryz.prog 109:=⟨_,Tryz.func109,rfl,by kernel_rfl⟩
theorem aiR:aJ Tryz.prog 76:=⟨_,Tryz.func76,rfl,by kernel_rfl⟩
theorem aiS:aJ Tryz.prog 77:=⟨_,Tryz.func77,rfl,by kernel_rfl⟩
theorem aiT:aJ Tryz.prog 42:=⟨_,Tryz.func42,rfl,by kernel_rfl⟩
theorem aeN:aJ Tryz.prog 40:=⟨_,Tryz.func40,rfl,by kernel_rfl⟩
theorem aiU:aJ Tryz.prog 41:=⟨_,Tryz.func41,rfl,by kernel_rfl⟩
theorem PB:aJ Tryz.prog 22:=⟨_,Tryz.func22,rfl,by kernel_rfl⟩
theorem aiV:aJ Tryz.prog 19:=⟨_,Tryz.func19,rfl,by kernel_rfl⟩
theorem aiW:aJ Tryz.prog 20:=⟨_,Tryz.func20,rfl,by kernel_rfl⟩
theorem aiX:aJ Tryz.prog 21:=⟨_,Tryz.func21,rfl,by kernel_rfl⟩
theorem aeO:aJ Tryz.prog 23:=⟨_,Tryz.func23,rfl,by kernel_rfl⟩
theorem PD:aJ Tryz.prog 17:=⟨_,Tryz.func17,rfl,by kernel_rfl⟩
theorem aiY (w:World):cu Tryz.prog 42 w= .ok #[(0,1),(1,1),(2,1),(3,1)] w:=by kernel_rfl
theorem YY:(Tryz.prog.info? 42).bind (λi=>i.zero.map Value.cells)=some #[.int .i64 0,.int .i64 0,.int .i64 0,.string ⟨#[]⟩]:=by kernel_rfl
instance:type_of%(uA.mk YY):=⟨YY⟩
theorem Ea:(Tryz.prog.info? 42).map (·.size)=some 4:=by kernel_rfl
instance:type_of%(po.mk Ea):=⟨Ea⟩
theorem aeP:(Tryz.prog.info? 42).bind (·.zero)=some (Value.agg #[.int .i64 0,.int .i64 0,.int .i64 0,.string ⟨#[]⟩]):=by kernel_rfl
theorem aiZ:(Tryz.prog.info? 42).map (·.bytes)=some 40:=by kernel_rfl
theorem cb8:aJ Tryz.prog 8:=⟨_,Tryz.func8,rfl,by kernel_rfl⟩
theorem Hq:bQ Tryz.prog 42 3=some 3:=by kernel_rfl
instance:type_of%(fW.mk Hq):=⟨Hq⟩
theorem YZ:bQ Tryz.prog 42 0=some 0:=by kernel_rfl
theorem ai0:aJ Tryz.prog 18:=⟨_,Tryz.func18,rfl,by kernel_rfl⟩
theorem cb7:aJ Tryz.prog 7:=⟨_,Tryz.func7,rfl,by kernel_rfl⟩
theorem cb9:aJ Tryz.prog 9:=⟨_,Tryz.func9,rfl,by kernel_rfl⟩
theorem AG {u0 u1 u2 u3:Value}(h0:u0.oneCell'=true)(h1:u1.oneCell'=true)(h2:u2.oneCell'=true)(h3:u3.oneCell'=true)(w:World):(Instr.build 42 #[(0,u0),(1,u1),(2,u2),(3,u3)]).run Tryz.prog w= .ok (.agg #[u0,u1,u2,u3]) w:=
 bU YY (aiY w) (by simp[Instr.fill,J.bT,J.cells_one h0,J.cells_one h1,J.cells_one h2,J.cells_one h3])
end Go.Proofs.YtblifkgpebebmaaGreatDoor
namespace Go.J
open Go Go.RowKit
def ru:List Value→Nat→List Value→List Value
 |cs,_,[]=>cs
 |cs,p,u::us=>ru (cs.set p u) (p+1) us
theorem Er (x:List Value):∀(us rest:List Value) (p:Nat),ru (x++rest) (x.length+p) us=x++ru rest p us
 | [],_,_=>rfl
 |u::us,rest,p=>by
  rw[ru,kn _ _ (by omega),show x.length+p-x.length=p by omega,ru,←Er x us _ (p+1),Nat.add_assoc]
theorem BV:∀(y pre x rest:List Value),x.length=y.length→ru (pre++(x++rest)) pre.length y=pre++(y++rest)
 | [],pre,x,rest,h=>by
  obtain rfl:x=[]:=kf (by simpa using h);rfl
 |u::us,pre,x,rest,h=>by
  cases x with
  |nil=>cases h
  |cons a x=>
   rw[ru,kn _ _ (aW _),fJ]
   have:=BV us (pre++ [u]) x rest (by simpa using h)
   rw[bA]at this
   simp only[List.append_assoc,List.cons_append,List.nil_append,List.length_cons,List.length_nil]at this
   simpa using this
theorem BW {α:Type}(Rr:Rp α)(g:α):∀(l:List α) (k:Nat),k<l.length→ru (rows Rr l) (k*Rr.size) (Rr.cells g)=rows Rr (l.set k g)
 | [],_,h=>by cases h
 |a::l,0,_=>by
  have:=BV (Rr.cells g) [] (Rr.cells a) (rows Rr l) (by rw[Rr.len,Rr.len])
  rw[Nat.zero_mul,rE];exact this
 |a::l,k+1,h=>by
  have e:(k+1)*Rr.size=(Rr.cells a).length+k*Rr.size:=by rw[Rr.len,lW];omega
  rw[vd]
  show ru (Rr.cells a++rows Rr l) _ _=Rr.cells a++rows Rr (l.set k g)
  rw[e,Er,BW Rr g l k (by rw[dy]at h;omega)]
section
variable {P:Program}{n:Nat}{F:Fr}{c:Ctx}{H R:List ao}{ty t e:TypeId}{x y:Operand}{v:Value}{Q:Exit→Act→World→Prop}{ops:Array Oper}{rest:List Oper}{pos:String}{after:Array Edge}{m k size:Nat}
theorem mC {ρ:Ro}{b:Nat}(hb:v.ownBlock=some b)(hk:k<m):∀(us:List Value) (j:Nat) (cs:List Value) (w:World),eQ c (row v e size m cs::R) ρ w→j+us.length≤size→(∀u∈us,u.oneCell'=true)→
 ∃w',(storeCells ⟨b,k*size,none⟩ us j).run P w= .ok () w'∧eQ c (row v e size m (ru cs (k*size+j) us)::R) ρ w'
 | [],j,cs,w,hm,_,_=>⟨w,rfl,hm⟩
 |u::us,j,cs,w,hm,hj,h1=>by
  rw[dy]at hj;obtain⟨b',z1,p1,q1,c1,f1,H9⟩:=CW (off:=j) (u:=u) hm hk (by omega)
  rw[hb]at q1;cases q1
  obtain⟨w',hr,pa⟩:=mC hb hk us (j+1) _ _ H9 (by omega) (λz hz=>h1 z (by simp[hz]));refine⟨w',?_,by rw[ru];exact pa⟩;rw[storeCells]
  simp[run_store P w _ u _ (h1 u (by simp)),c1,f1,Addr.add_lit,hr]
theorem St.tF {α:Type}{Rr:Rp α}{l:List α}{sz:Nat}(Lp:Rr.size=sz)(g:α)[tk:ko v H e sz m (rows Rr l) R](hx:aZ F x (dR v sz k 0))(hy:aZ F y (.agg (Rr.cells g).toArray))(hs:(P.info? t).map (·.size)=some sz)(hk:k<m)(hl:k<l.length)
 (h:St n F (Mm c (row v e sz m (rows Rr (l.set k g))::R)) (wpList P ops Q rest)):
 St n F (Mm c H) (wpList P ops Q ({dst:=none,op:= .store t x y,type:=ty,pos:=pos,after:=after,guard:=none}::rest)):=by
 subst Lp;refine St.oU (K:=λu' H'=>H'=row v e Rr.size m (rows Rr (l.set k g))::R) ?_ ?_
 ·intro a w ρ ha hm
  have Gi:=hm.perm tk.perm
  have mh:(rows Rr l)[k*Rr.size+0]?=some ((Rr.cells (l[k]'hl))[0]'(by rw[Rr.len];exact Rr.pos)):=by
   rw[db Rr l k 0 (l[k]'hl) (bO hl) Rr.pos,bO]
  obtain⟨b,e1,_,o1,_⟩:=jN (dZ.1 (Gi.dK _ (aU ..))) hk mh;rw[e1,jK]at hx;obtain⟨w',hr,pa⟩:=mC (P:=P) (k:=k) o1 hk (Rr.cells g) 0 _ w Gi (by rw[Rr.len];omega) (Rr.one g);rw[jK,BW Rr g l k hl]at pa;obtain⟨i,hi,gQ⟩:=dG.1 hs;refine⟨.skip,w',ρ,_,?_,⟨_,.inr ⟨rfl,rfl⟩,rfl⟩,pa⟩
  simp[execOp,hx.eval ha,hy.eval ha,Instr.storeAt,Instr.sureAddr,storeVar,sizeOf,typeInfo,hi,gQ,bT,Rr.len,hr]
 ·rintro _ _ rfl
  exact h
end
end Go.J
namespace Go.J
open Go
section
variable {P:Program}{n:Nat}{F:Fr}{A:World→Prop}{c:Ctx}{H R:List ao}{ty:TypeId}{x y z:Operand}{v:Value}{Q:Exit→Act→World→Prop}{ops:Array Oper}{rest:List Oper}
 {d:Nat} {pos:String} {after:Array Edge} {t e:TypeId} {size m:Nat} {cs:List Value}
end
section
variable {P:Program}{n:Nat}{F:Fr}{A:World→Prop}{c:Ctx}{H R:List ao}{ty:TypeId}{x y z:Operand}{v:Value}{Q:Exit→Act→World→Prop}{ops:Array Oper}{rest:List Oper}
 {d:Nat} {pos:String} {after:Array Edge} {t e:TypeId} {size m:Nat} {cs:List Value}
def Et:Value→Value
 | .slice a m _=> .slice a m m
 |v=>v
theorem Ev.clip {α:Type}{Rr:Rp α}{xs:List α}{i j:Int}{ki kj:IntKind}{hi mx:Operand}[hd:sQ v H α Rr xs](hx:aZ F x v)(hh:aZ F hi (.int ki i))(hm:aZ F mx (.int kj j))(ht:P.underlying t=some (.slice e))(hs:(P.info? e).map (·.size)=some Rr.size)
 (h1:i=xs.length) (h2:j=xs.length):Ev P n F (Mm c H) (.slice t x none (some hi) (some mx)) ty (Et v):= .of_run λa w ha hw=>by
 obtain⟨ρ,nD⟩:=hw.out;obtain⟨inf,nb,gQ⟩:=dG.1 hs;obtain⟨ad,cap,rfl,hc,_⟩:=nD.sl hd;subst h1 h2
 have b1:(0:Int)≤(xs.length:Int)∧(xs.length:Int)≤(cap:Int):=by omega
 have b2:(0:Int)≤(xs.length:Int)∧(xs.length:Int)≤(xs.length:Int):=by omega
 simp only[execOp,hx.eval ha,hh.eval ha,hm.eval ha,Option.map_some,Option.map_none,Instr.sliceAt,Instr.slice,Instr.sliceBounds,Instr.sliceBound,asIntOf,Sem.run_bind,run_underlying ht,Result.andThen_ok,Sem.run_pure,b1,b2,and_self,if_true,Int.toNat_natCast,sizeOf,typeInfo,run_program,nb,gQ,Et,Nat.sub_zero,Nat.zero_mul]
 cases ad with
 |none=>simp
 |some a=>simp[Addr.add_zero']
theorem St.yR {α:Type}{Rr:Rp α}{xs:List α}{v2:Value}{m2:Nat}{news:List Value}{zv:Value}{xW:Nat}[t2:ko v2 H e Rr.size m2 news R][t1:sQ v H α Rr xs]
 (hx:aZ F x (Et v)) (hy:aZ F y v2) (ht:P.underlying t=some (.slice e)) (hs:(P.info? e).map (·.size)=some Rr.size) (hz:(P.info? e).bind (·.zero)=some zv) (hb:(P.info? e).map (·.bytes)=some xW)
 (Sn:∀u∈news,u.oneCell'=true) (hlen:xs.length+m2≤9223372036854775807) (mg:(xs.length+m2)*xW≤140737488355328) (W5:zv.cells.size=Rr.size) (nc:Nat.ble 1 Rr.size=true) (fP:Nat.ble 1 m2=true) (hd:Nat.ble (d+1) n=true)
 (h:∀v',v'.oneCell'=true→St n ((d,v')::F) (Mm c (row v' e Rr.size (xs.length+m2) (rows Rr xs++news)::R)) (wpList P ops Q rest)):
 St n F (Mm c H) (wpList P ops Q ({dst:=some d,op:= .call {callee:= .builtin .append,args:= #[x,y],argTypes:= #[t,t]},type:=ty,pos:=pos,after:=after,guard:=none}::rest)):=by
 refine St.SA (K:=λv' H'=>v'.oneCell'=true∧H'=row v' e Rr.size (xs.length+m2) (rows Rr xs++news)::R) ?_ hd ?_
 ·intro a w ρ ha hm
  have H9:=hm.perm t2.perm
  have sU:=dZ.1 (H9.dK _ (aU ..))
  obtain⟨ad,cap,rfl,_,_,_,h5⟩:=hm.sl t1
  have ahI:=eX fP
  obtain⟨i,hi,gQ⟩:=dG.1 hs;obtain⟨q1,q2,q3⟩:=pf hs hz hb hi
  rcases sU.2 with⟨_,rfl⟩|⟨g2,NL,ahJ,rfl,_,hg2,kV,kS,ahK,Xn⟩
  ·omega
  ·have vg:∀j u,news[j]?=some u→w.cell? ((⟨g2,0,none⟩:Addr).add j)=some u:=λj u hj=>by
    rw[Addr.add_lit,gP,bh hg2];rw[←Xn,rA]at hj
    split at hj
    ·simpa using hj
    ·simp at hj
   have Ya:xs.length+m2≤9223372036854775807:=hlen
   have uL:(xs.length+m2)*i.bytes≤140737488355328:=by rw[q3];exact mg
   have kI:(rows Rr xs).length=xs.length*i.size:=by rw[gn,q1]
   have hln:news.length=m2*i.size:=by rw[sU.1,q1]
   have ig:∃(CM:Nat),(Builtin.append_ #[t,t] ty #[Et (.slice ad xs.length cap),.slice (some ⟨g2,0,none⟩) m2 NL]).run P w= .ok (.slice (some ⟨w.heap.size,0,none⟩) (xs.length+m2) CM) (w.drew.alloc (.cells ((rows Rr xs).toArray++news.toArray++Builtin.zeroCells zv.cells (CM-(xs.length+m2))) e))∧xs.length+m2≤CM∧CM≤maxLen:=by
    cases ad with
    |none=>
     rcases h5 with h5|⟨b,off,C,e',fr,h5,_⟩
     ·subst h5
      refine⟨grownCap w (([]:List α).length+m2) 0 e,?_,grownCap_ge ..,grownCap_le_maxLen _ _ _ _ (by unfold maxLen;omega)⟩
      have hr:=run_append_nil (P:=P) w t ty e i zv ht hi q2 ⟨g2,0,none⟩ m2 NL news hln vg (by omega) (by simp at Ya;omega) (by simp at uL;omega)
      simpa[Et,rows]using hr
     ·cases h5
    |some ad=>
     refine⟨grownCap w (xs.length+m2) xs.length e,?_,grownCap_ge ..,grownCap_le_maxLen _ _ _ _ (by unfold maxLen;omega)⟩;refine run_append_grow (P:=P) w t ty e i zv ht hi q2 ad xs.length xs.length (rows Rr xs) kI (λj u hj=> ?_) ⟨g2,0,none⟩ m2 NL news hln vg (by omega) (by omega) (growslice_fits (by omega) uL)
     rcases h5 with h5|⟨b,off,C,e',fr,h5,h6,h7⟩
     ·subst h5;simp[rows]at hj
     ·cases h5
      rw[Addr.add_lit,bh (hm.fits _ _ h6)];exact h7 j u hj
   obtain⟨CM,uM,Wr,hc4⟩:=ig;refine⟨.value (.slice (some ⟨w.heap.size,0,none⟩) (xs.length+m2) CM),w.drew.alloc (.cells ((rows Rr xs).toArray++news.toArray++Builtin.zeroCells zv.cells (CM-(xs.length+m2))) e),ρ,_,?_,⟨_,.inl rfl,rfl,rfl⟩,?_⟩
   ·simp[execOp,resolve,invoke,builtin,hx.eval ha,hy.eval ha,uM]
   ·have K8:(rows Rr xs++news).length=(xs.length+m2)*Rr.size:=by rw[bA,sU.1,gn,lW]
    refine H9.drop.A4 rfl ⟨rfl,Nat.le_succ _⟩ rfl (by simp) (λk hk=>heap_alloc_old w.drew _ hk) (dZ.2 ⟨K8,.inr ⟨w.heap.size,CM,_,rfl,aR _,heap_alloc_new w.drew _,Wr,hc4,?_,?_⟩⟩) ?_
    ·simp only[Array.size_append,List.size_toArray,size_zeroCells,W5,gn,sU.1,←Nat.add_mul]
     congr 1
     omega
    ·simp only[Array.toList_append,List.append_assoc]
     rw[←cg,←K8];exact List.take_left
    ·intro b hb;rw[dV]at hb;simp[Value.ownBlock]at hb;omega
 ·rintro _ _ ⟨h1,rfl⟩
  exact h _ h1
end
end Go.J
namespace Go.Proofs.YtblifkgpebebmaaGreatDoor
open Go Go.J Tryz
mutual
def szS:iy→Nat
 | .mk _ l=>Tq l+1
def Tq:List iy→Nat
 | []=>0
 |x::l=>szS x+Tq l
end
mutual
def szT:lM→Nat
 | .mk _ _ _ _ l=>Ts l+1
def Ts:List lM→Nat
 | []=>0
 |x::l=>szT x+Ts l
end
theorem Tt (x:iy)(d n:Nat):lB x d n=if 200<n+1∨40<d then(n+1,1)else if ik x.base x.args.length=false then(n+1,5)else kr x.args (d+1) (n+1):=by cases x;rw[lB];rfl
def yS (x:lM)(b:Nat):Int:=jP x.kind x.name x.index x.type x.args.length b
theorem Yb (x:lM)(d b n:Nat):lO x d b n=if 200<n+1∨40<d then(n+1,1,(n:Int))else if yS x b≠0 then(n+1,yS x b,(n:Int))else nJ x.args (d+1) (if x.kind=3 then b+1 else b) (n+1):=by cases x;rw[lO];rfl
theorem PE:∀(x:lM) (d b n:Nat),(lO x d b n).2.1=0→(lO x d b n).2=(0,0):=by
 intro x;refine lM.rec (motive_1:=λx=>∀d b n,(lO x d b n).2.1=0→(lO x d b n).2=(0,0)) (motive_2:=λl=>∀d b n,(nJ l d b n).2.1=0→(nJ l d b n).2=(0,0)) ?_ ?_ ?_ x
 ·intro k s i t l ih d b n h
  rw[lO]at h⊢
  split
  ·rename_i h1;rw[aB h1]at h;exact absurd h (by simp)
  ·rename_i h1
   rw[aA h1]at h
   split
   ·rename_i h2;rw[aB h2]at h;exact absurd h h2
   ·rename_i h2;rw[aA h2]at h;exact ih _ _ _ h
 ·intro d b n _;rfl
 ·intro x l SF PG d b n h
  rw[nJ]at h⊢
  split
  ·rename_i h1;rw[aB h1]at h;exact absurd h h1
  ·rename_i h1;rw[aA h1]at h;exact PG _ _ _ h
theorem PH:∀(x:lM) (d b n:Nat),(lO x d b n).2.1=0→(lO x d b n).1≤200∧(lO x d b n).1=n+szT x:=by
 intro x;refine lM.rec (motive_1:=λx=>∀d b n,(lO x d b n).2.1=0→(lO x d b n).1≤200∧(lO x d b n).1=n+szT x) (motive_2:=λl=>∀d b n,(nJ l d b n).2.1=0→(n≤200→(nJ l d b n).1≤200)∧(nJ l d b n).1=n+Ts l) ?_ ?_ ?_ x
 ·intro k s i t l ih d b n h
  rw[lO]at h⊢
  by_cases h1:200<n+1∨40<d
  ·rw[aB h1]at h;exact absurd h (by simp)
  rw[aA h1]at h⊢
  by_cases h2:jP k s i t l.length b≠0
  ·rw[aB h2]at h;exact absurd h h2
  rw[aA h2]at h⊢;obtain⟨k1,k2⟩:=ih _ _ _ h;exact⟨k1 (by omega),by rw[k2,szT];omega⟩
 ·intro d b n _;exact⟨λh=>h,rfl⟩
 ·intro x l SF PG d b n h
  rw[nJ]at h⊢
  by_cases h1:(lO x d b n).2.1≠0
  ·rw[aB h1]at h;exact absurd h h1
  rw[aA h1]at h⊢;obtain⟨a1,a2⟩:=SF d b n (iR.1 h1);obtain⟨b1,b2⟩:=PG _ _ _ h;exact⟨λ_=>b1 a1,by rw[b2,a2,Ts];omega⟩
theorem Yc:∀(x:lM) (d b n:Nat),n≤200→(lO x d b n).1≤201:=by
 intro x;refine lM.rec (motive_1:=λx=>∀d b n,n≤200→(lO x d b n).1≤201) (motive_2:=λl=>∀d b n,n≤200→(nJ l d b n).1≤201) ?_ ?_ ?_ x
 ·intro k s i t l ih d b n hn
  rw[lO]
  split
  ·show n+1≤201;omega
  ·split
   ·show n+1≤201;omega
   ·exact ih _ _ _ (by omega)
 ·intro d b n h;show n≤201;omega
 ·intro x l SF PG d b n h
  rw[nJ]
  split
  ·exact SF d b n h
  ·rename_i h1
   exact PG _ _ _ (PH x d b n (iR.1 h1)).1
inductive Tu:lM→Nat→Nat→Prop
 |mk {x:lM} {d b:Nat} (hd:d≤40) (h:yS x b=0) (k:∀y∈x.args,Tu y (d+1) (if x.kind=3 then b+1 else b)):Tu x d b
theorem PI:∀(x:lM) (d b n:Nat),(lO x d b n).2.1=0→Tu x d b:=by
 intro x;refine lM.rec (motive_1:=λx=>∀d b n,(lO x d b n).2.1=0→Tu x d b) (motive_2:=λl=>∀d b n,(nJ l d b n).2.1=0→∀y∈l,Tu y d b) ?_ ?_ ?_ x
 ·intro k s i t l ih d b n h
  rw[lO]at h
  by_cases h1:200<n+1∨40<d
  ·rw[aB h1]at h;exact absurd h (by simp)
  rw[aA h1]at h
  by_cases h2:jP k s i t l.length b≠0
  ·rw[aB h2]at h;exact absurd h h2
  rw[aA h2]at h;exact .mk (by omega) (iR.1 h2) (ih _ _ _ h)
 ·intro d b n _ y hy;cases hy
 ·intro x l SF PG d b n h y hy
  rw[nJ]at h
  by_cases h1:(lO x d b n).2.1≠0
  ·rw[aB h1]at h;exact absurd h h1
  rw[aA h1]at h
  rcases cD.1 hy with rfl|hy
  ·exact SF _ _ _ (iR.1 h1)
  ·exact PG _ _ _ h y hy
theorem Tu.inv {x:lM}{d b:Nat}(h:Tu x d b):d≤40∧yS x b=0∧∀y∈x.args,Tu y (d+1) (if x.kind=3 then b+1 else b):=by
 cases h with
 |mk a b c=>exact⟨a,b,c⟩
theorem Lr {k:Int}{nm:bI}{ix:Int}{tp:iy}{m b:Nat}(h:jP k nm ix tp m b=0):
 (k=1∧uT tp=0∧m=0)∨(k=2∧0≤ix∧ix<b∧m=0)∨(k=3∧m=1∧uT tp=0)∨(k=4∧m=2):=by
 unfold jP at h
 by_cases h1:k=1
 ·rw[aB h1]at h
  by_cases c:ix≠0∨m≠0
  ·rw[aB c]at h;cases h
  rw[aA c]at h
  by_cases c2:isName nm=false
  ·rw[aB c2]at h;cases h
  rw[aA c2]at h
  by_cases c3:uT tp≠0
  ·rw[aB c3]at h;cases h
  exact .inl ⟨h1,iR.1 c3,by omega⟩
 rw[aA h1]at h
 by_cases h2:k=2
 ·rw[aB h2]at h
  by_cases c:nm≠ []∨pJ tp=false∨m≠0
  ·rw[aB c]at h;cases h
  rw[aA c]at h
  by_cases c2:ix<0∨(b:Int)≤ix
  ·rw[aB c2]at h;cases h
  exact .inr (.inl ⟨h2,by omega,by omega,iR.1 λhm=>c (.inr (.inr hm))⟩)
 rw[aA h2]at h
 by_cases h3:k=3
 ·rw[aB h3]at h
  by_cases c:nm≠ []∨ix≠0∨m≠1
  ·rw[aB c]at h;cases h
  rw[aA c]at h
  by_cases c3:uT tp≠0
  ·rw[aB c3]at h;cases h
  exact .inr (.inr (.inl ⟨h3,iR.1 λhm=>c (.inr (.inr hm)),iR.1 c3⟩))
 rw[aA h3]at h
 by_cases h4:k=4
 ·rw[aB h4]at h
  by_cases c:nm≠ []∨ix≠0∨pJ tp=false∨m≠2
  ·rw[aB c]at h;cases h
  exact .inr (.inr (.inr ⟨h4,iR.1 λhm=>c (.inr (.inr (.inr hm)))⟩))
 rw[aA h4]at h;cases h
theorem Tv (x:lM)(c:List iy):wK x c=if x.kind=1 then some x.type else if x.kind=2 then c[c.length-1-x.index.toNat]? else if x.kind=3 then(mm x.args (c++ [x.type])).map λb=> .mk [] [x.type,b]else HK (mm x.args c) (Ca x.args c):=by
 cases x;rw[wK];rfl
theorem tG (x:lM)(l:List lM)(c:List iy):mm (x::l) c=wK x c:=by rw[mm]
theorem Eu (x y:lM)(l:List lM)(c:List iy):Ca (x::y::l) c=wK y c:=by rw[Ca,mm]
theorem Ls (a b:Option iy)(h:∀s l x,a=some s→s.args=l→b=some x→¬∃p q,l=[p,q]∧ku p x=true):HK a b=none:=by
 unfold HK
 split
 ·rename_i _ p q x
  split
  ·rename_i hs;exact absurd ⟨p,q,rfl,hs⟩ (h _ _ _ rfl rfl rfl)
  ·rfl
 ·rfl
theorem Lt {s p q x:iy}(hl:s.args=[p,q])(h:ku p x=true):HK (some s) (some x)=some q:=by
 cases s with
 |mk b l=>
  cases (show l=[p,q]from hl)
  show(if ku p x then some q else none)=some q
  rw[aB h]
theorem Ew (x:lM)(d b n:Nat):nJ [x] d b n=lO x d b n:=by
 rw[nJ,nJ]
 split
 ·rfl
 ·rename_i h
  have:=PE x d b n (iR.1 h)
  rw[←this]
theorem PJ (x y:lM)(d b n:Nat):nJ [x,y] d b n=if(lO x d b n).2.1≠0 then lO x d b n else lO y d b (lO x d b n).1:=by rw[nJ,Ew]
inductive Hr:iy→Prop
 |leaf {b:bI} (h:b=sE∨b=sT):Hr (.mk b [])
 |fn {x y:iy} (hx:Hr x) (hy:Hr y):Hr (.mk [] [x,y])
theorem yT {b:bI}{l:List iy}(h:ik b l.length=true):((b=sE∨b=sT)∧l=[])∨(b=[]∧∃x y,l=[x,y]):=by
 unfold ik at h
 simp only[Bool.or_eq_true,Bool.and_eq_true,decide_eq_true_eq]at h
 rcases h with⟨h1,h2⟩|⟨h1,h2⟩
 ·exact .inl ⟨h1,kf h2⟩
 ·refine .inr ⟨h1,?_⟩
  match l,h2 with
  | [x,y],_=>exact⟨x,y,rfl⟩
theorem K9:∀(x:iy) (d n:Nat),(lB x d n).2=0→Hr x∧(lB x d n).1=n+szS x∧(lB x d n).1≤200:=by
 intro x;refine iy.rec (motive_1:=λx=>∀d n,(lB x d n).2=0→Hr x∧(lB x d n).1=n+szS x∧(lB x d n).1≤200) (motive_2:=λl=>∀d n,(kr l d n).2=0→(∀x∈l,Hr x)∧(kr l d n).1=n+Tq l∧(n≤200→(kr l d n).1≤200)) ?_ ?_ ?_ x
 ·intro b l ih d n h
  rw[lB]at h⊢
  by_cases h1:200<n+1∨40<d
  ·rw[aB h1]at h;exact absurd h (by simp)
  rw[aA h1]at h⊢
  by_cases h2:ik b l.length=false
  ·rw[aB h2]at h;exact absurd h (by simp)
  rw[aA h2]at h⊢;obtain⟨k1,k2,k3⟩:=ih _ _ h;refine⟨?_,by rw[k2,szS];omega,k3 (by omega)⟩
  rcases yT (by simpa using h2)with⟨hb,rfl⟩|⟨rfl,x,y,rfl⟩
  ·exact .leaf hb
  ·exact .fn (k1 x (by simp)) (k1 y (by simp))
 ·intro d n _;exact⟨λx hx=>(by cases hx),rfl,λh=>h⟩
 ·intro x l SF PG d n h
  rw[kr]at h⊢
  by_cases h1:(lB x d n).2≠0
  ·rw[aB h1]at h;exact absurd h h1
  rw[aA h1]at h⊢;obtain⟨a1,a2,a3⟩:=SF d n (iR.1 h1);obtain⟨b1,b2,b3⟩:=PG _ _ h;refine⟨λy hy=> ?_,by rw[b2,a2,Tq];omega,λ_=>b3 a3⟩
  rcases cD.1 hy with rfl|hy
  ·exact a1
  ·exact b1 y hy
end Go.Proofs.YtblifkgpebebmaaGreatDoor
namespace Go.Proofs.YtblifkgpebebmaaGreatDoor
open Go Go.J Tryz
theorem Tw:∀(x:iy) (d n:Nat),n≤200→(lB x d n).1≤201:=by
 intro x;refine iy.rec (motive_1:=λx=>∀d n,n≤200→(lB x d n).1≤201) (motive_2:=λl=>∀d n,n≤200→(kr l d n).1≤201) ?_ ?_ ?_ x
 ·intro b l ih d n hn
  rw[lB]
  split
  ·show n+1≤201;omega
  ·split
   ·show n+1≤201;omega
   ·exact ih _ _ (by omega)
 ·intro d n h;show n≤201;omega
 ·intro x l SF PG d n h
  rw[kr]
  split
  ·exact SF d n h
  ·rename_i h1
   exact PG _ _ (K9 x d n (iR.1 h1)).2.2
theorem Hs {l:List iy}{k:Nat}{y:iy}(h:l[k]?=some y)(d n:Nat):kr (l.drop k) d n=if(lB y d n).2≠0 then lB y d n else kr (l.drop (k+1)) d (lB y d n).1:=by rw[an h,kr]
theorem Lu {l:List iy}{k:Nat}(h:l.length≤k)(d n:Nat):kr (l.drop k) d n=(n,0):=by rw[fX h,kr]
theorem Ex {b:bI}{m:Nat}(h:ik b m=true):m≤2:=by
 unfold ik at h
 simp only[Bool.or_eq_true,Bool.and_eq_true,decide_eq_true_eq]at h
 rcases h with⟨_,h⟩|⟨_,h⟩<;>omega
theorem Ey (b:bI)(m:Nat):(((b==([101]:bI))||(b==([116]:bI)))&&decide ((m:Int)=0)||((b==([]:bI))&&decide ((m:Int)=2)))=ik b m:=by
 unfold ik;rw[uF]
 simp only[Bool.or_eq_true,Bool.and_eq_true,beq_iff_eq,decide_eq_true_eq]
 constructor
 ·rintro (⟨h,k⟩|⟨h,k⟩)
  ·exact .inl ⟨h,by omega⟩
  ·exact .inr ⟨h,by omega⟩
 ·rintro (⟨h,k⟩|⟨h,k⟩)
  ·exact .inl ⟨h,by omega⟩
  ·exact .inr ⟨h,by omega⟩
theorem qX (s:bI)(hs:s.length≤9223372036854775807):dA Tryz.prog 46 #[sv s] [] (.bool (isName s)):=by
 refine dA.jz (args:=[sv s]) 55 Tryz.func46 rfl Tryz.ntmps46 rfl (λc=> ?_);refine g12 ?_;refine St.gf _ rfl rfl (λhg=>Ev.move (.mk rfl)) rfl ?_;refine St.gf _ rfl rfl (λhg=>Ev.NF (aZ.gv rfl hg) sK) rfl ?_;refine St.gf _ rfl rfl (λhg=>Ev.gtr (aZ.gv rfl hg) (.mk rfl)) rfl ?_;refine g2 ?_;refine St.gf _ rfl rfl (λhg=>Ev.move (.mk rfl)) rfl ?_;refine St.gf _ rfl rfl (λhg=>Ev.CG (k:=0) (aZ.gv rfl hg) (.mk rfl) sK rfl (by first|omega|(simp only[br]at hg;omega))) rfl ?_;refine St.gf _ rfl rfl (λhg=>Ev.lss (aZ.gv rfl hg) (.mk rfl)) rfl ?_;refine g2 ?_;refine St.gf _ rfl rfl (λhg=>Ev.move (.mk rfl)) rfl ?_;refine St.gf _ rfl rfl (λhg=>Ev.CG (k:=0) (aZ.gv rfl hg) (.mk rfl) sK rfl (by first|omega|(simp only[br]at hg;omega))) rfl ?_;refine St.gf _ rfl rfl (λhg=>Ev.gtr (aZ.gv rfl hg) (.mk rfl)) rfl ?_;refine g3 ?_;refine St.cq (λyU=> ?_) (λyU=> ?_)
 ·refine g7 ?_
  refine St.rV [_] [] ?_;exact be (EM (by omega)).symm
 ·refine g11 ?_
  refine St.lS (ι:=Nat) (λk T=>(25,iv k)::T) (λk=>k≤s.length∧(s.take k).all nj=true) (λk=>s.length-k) 0 (aC.cons 0 rfl (aC.cons 24 rfl aC.nil)) ⟨aR _,rfl⟩ ?_;intro k fy;obtain⟨hk,ig⟩:=fy;refine g6 ?_;refine St.cq (λGk=> ?_) (λGk=> ?_)
  ·refine g14 ?_
   refine St.ee (Ev.CG (.mk rfl) (.mk rfl) sK rfl (by omega)) ?_;refine g8 ?_;refine St.gt _ rfl rfl (λhg=>Ev.move (.mk rfl)) rfl ?_;refine St.gt _ rfl rfl (λhg=>Ev.leq (aZ.gv rfl hg) (.mk rfl)) rfl ?_;refine g2 ?_;refine St.gf _ rfl rfl (λhg=>Ev.move (.mk rfl)) rfl ?_;refine St.gf _ rfl rfl (λhg=>Ev.geq (aZ.gv rfl hg) (.mk rfl)) rfl ?_;refine St.gf _ rfl rfl (λhg=>Ev.move (aZ.gv rfl hg)) rfl ?_;refine St.gct _ rfl rfl (λhg=>Ev.move (.mk rfl)) rfl ?_;refine St.gct _ rfl rfl (λhg=>Ev.leq (aZ.gv rfl hg) (.mk rfl)) rfl ?_;refine St.gf _ rfl rfl (λhg=>Ev.and (aZ.gv rfl hg) (λhp=>aZ.gv rfl (NB hg hp))) rfl ?_;refine g2 ?_;refine St.gf _ rfl rfl (λhg=>Ev.move (.mk rfl)) rfl ?_;refine St.gf _ rfl rfl (λhg=>Ev.eql (aZ.gv rfl hg) (.mk rfl)) rfl ?_;refine g2 ?_;refine St.gf _ rfl rfl (λhg=>Ev.move (.mk rfl)) rfl ?_;refine St.gf _ rfl rfl (λhg=>Ev.eql (aZ.gv rfl hg) (.mk rfl)) rfl ?_;refine g4 ?_;refine St.cq (λYd=> ?_) (λYd=> ?_)
   ·refine g11 ?_
    refine St.rV [_] [] ?_;exact be (EN (k:=k) (by omega) (by simp only[nj,low,digit,Bool.and_eq_false_iff,Bool.or_eq_false_iff,decide_eq_false_iff_not];omega)).symm
   ·refine g8 ?_
    refine St.aS (k+1) ⟨by omega,A9 (d:=0) ig (by simp only[nj,low,digit,Bool.and_eq_true,Bool.or_eq_true,decide_eq_true_eq];exact Yd)⟩
  ·refine g11 ?_
   refine St.rV [_] [] ?_;exact be (EO (by omega) (by omega) (by simp only[low,Bool.and_eq_true,decide_eq_true_eq];omega) (EK ig (by omega))).symm
theorem du (a b:Int):dA Tryz.prog 44 #[iv a,iv b] [] (fv (a,b)):=by
 refine dA.jz (args:=[iv a,iv b]) 8 Tryz.func44 rfl Tryz.ntmps44 rfl (λc=> ?_);refine g2 ?_;refine St.al (λb4=> ?_);refine g6 ?_;refine St.ee (Ev.build (bF.bH rfl rfl) (λw=>fB rfl rfl w)) ?_;refine g4 ?_;refine St.rV [_] [] ?_;rfl
theorem bq (a b:Int):dA Tryz.prog 78 #[iv a,iv b] [] (fv (a,b)):=by
 refine dA.jz (args:=[iv a,iv b]) 8 Tryz.func78 rfl Tryz.ntmps78 rfl (λc=> ?_);refine g2 ?_;refine St.al (λb4=> ?_);refine g6 ?_;refine St.ee (Ev.build (bF.bH rfl rfl) (λw=>fB rfl rfl w)) ?_;refine g4 ?_;refine St.rV [_] [] ?_;rfl
theorem fC (a b:Int):dA Tryz.prog 85 #[iv a,iv b] [] (fv (a,b)):=by
 refine dA.jz (args:=[iv a,iv b]) 8 Tryz.func85 rfl Tryz.ntmps85 rfl (λc=> ?_);refine g2 ?_;refine St.al (λb4=> ?_);refine g6 ?_;refine St.ee (Ev.build (bF.bH rfl rfl) (λw=>fB rfl rfl w)) ?_;refine g4 ?_;refine St.rV [_] [] ?_;rfl
theorem BX (x:fK):dA Tryz.prog 115 #[se x] [eu x] (.bool (pJ (dU x))):=by
 refine dA.na (args:=[se x]) 12 Tryz.func115 rfl Tryz.ntmps115 rfl (λc=> ?_);refine g2 ?_;refine St.cz (.mk rfl) rfl (λb1=> ?_);refine g4 ?_;refine St.sc x ?_;refine g5 ?_;refine St.gt _ rfl rfl (λhg=>Ev.dB (.mk rfl) lD) rfl ?_;refine St.gt _ rfl rfl (λhg=>Ev.kU (aZ.gv rfl hg) iP trivial (by rfl)) rfl ?_;refine St.gt _ rfl rfl (λhg=>Ev.fm (aZ.gv rfl hg) iP) rfl ?_;refine St.gt _ rfl rfl (λhg=>Ev.eql (aZ.gv rfl hg) (.mk rfl)) rfl ?_;refine g5 ?_;refine St.rV [_] [] ?_;exact be (by rw[pJ,qT,jn,aQ,uF];simp only[Bool.and_eq_true,beq_iff_eq,decide_eq_true_eq];exact⟨λh=>⟨h.1,by have:=h.2;omega⟩,λh=>⟨h.1,by have:=h.2;omega⟩⟩)
theorem D0 (bn bw tw:Nat):∀(x:fK) (d n:Nat),d≤100→n≤200→dt Tryz.prog 139 ([se x,iv (d:Nat)]++ [Value.pointer (some ⟨bn,0,none⟩),Value.pointer (some ⟨bw,0,none⟩)]).toArray [aF (eu x),aX bn (.cells [iv (n:Nat)].toArray 3 (0,0)),aX bw (.cells [(.func (.func 139) #[] [Value.pointer (some ⟨bn,0,none⟩),Value.pointer (some ⟨bw,0,none⟩)].toArray)].toArray tw (0,0))] (λv H'=>v=iv (lB (dU x) d n).2∧H'=[aX bn (.cells [iv ((lB (dU x) d n).1:Nat)].toArray 3 (0,0)),aX bw (.cells [(.func (.func 139) #[] [Value.pointer (some ⟨bn,0,none⟩),Value.pointer (some ⟨bw,0,none⟩)].toArray)].toArray tw (0,0))]):=by
 intro x
 induction x using fK.ind
 rename_i x ih
 intro d n hd hn;refine dt.body (args:=[se x,iv (d:Nat)]++ [Value.pointer (some ⟨bn,0,none⟩),Value.pointer (some ⟨bw,0,none⟩)]) 62 Tryz.func139 rfl Tryz.ntmps139 rfl (λc=> ?_);refine go ?_
 have iD:=Tt (dU x) d n
 rw[qT,jn,aQ]at iD;refine St.sc x ?_;refine go ?_;refine St.cz (.mk rfl) rfl (λb4=> ?_);refine g7 ?_;refine St.cO (.mk rfl) (.mk rfl) eJ rfl (by rfl) ?_;refine St.rI bn (L':=[iv ((n+1:Nat):Int)]) rfl ?_;refine g8 ?_;refine St.gf _ rfl rfl (λhg=>Ev.move (.mk rfl)) rfl ?_;refine St.gf _ rfl rfl (λhg=>Ev.gtr (aZ.gv rfl hg) (.mk rfl)) rfl ?_;refine g3 ?_;refine St.cq (λh18=> ?_) (λh18=> ?_)
 ·rw[aB (by omega)]at iD
  refine g7 ?_;refine St.rV [_] [aX bn (.cells [iv ((n+1):Nat)].toArray 3 (0,0)),aX bw (.cells [(.func (.func 139) #[] [Value.pointer (some ⟨bn,0,none⟩),Value.pointer (some ⟨bw,0,none⟩)].toArray)].toArray tw (0,0))] ?_
  rw[iD];exact⟨rfl,rfl⟩
 ·rw[aA (by omega)]at iD
  refine g8 ?_;refine St.gf _ rfl rfl (λhg=>Ev.dB (.mk rfl) wq) rfl ?_;refine St.gf _ rfl rfl (λhg=>Ev.kU (aZ.gv rfl hg) sK trivial (by rfl)) rfl ?_;refine St.gf _ rfl rfl (λhg=>Ev.ND (aZ.gv rfl hg) (.mk rfl)) rfl ?_;refine g9 ?_;refine St.gt _ rfl rfl (λhg=>Ev.dB (.mk rfl) lD) rfl ?_;refine St.gt _ rfl rfl (λhg=>Ev.kU (aZ.gv rfl hg) iP trivial (by rfl)) rfl ?_;refine St.gt _ rfl rfl (λhg=>Ev.fm (aZ.gv rfl hg) iP) rfl ?_;refine St.gt _ rfl rfl (λhg=>Ev.eql (aZ.gv rfl hg) (.mk rfl)) rfl ?_;refine g2 ?_;refine St.gf _ rfl rfl (λhg=>Ev.dB (.mk rfl) wq) rfl ?_;refine St.gf _ rfl rfl (λhg=>Ev.kU (aZ.gv rfl hg) sK trivial (by rfl)) rfl ?_;refine St.gf _ rfl rfl (λhg=>Ev.ND (aZ.gv rfl hg) (.mk rfl)) rfl ?_;refine St.gf _ rfl rfl (λhg=>Ev.move (aZ.gv rfl hg)) rfl ?_;refine St.gct _ rfl rfl (λhg=>Ev.dB (.mk rfl) lD) rfl ?_;refine St.gct _ rfl rfl (λhg=>Ev.kU (aZ.gv rfl hg) iP trivial (by rfl)) rfl ?_;refine St.gct _ rfl rfl (λhg=>Ev.fm (aZ.gv rfl hg) iP) rfl ?_;refine St.gct _ rfl rfl (λhg=>Ev.eql (aZ.gv rfl hg) (.mk rfl)) rfl ?_;refine St.gf _ rfl rfl (λhg=>Ev.and (aZ.gv rfl hg) (λhp=>aZ.gv rfl (NB hg hp))) rfl ?_;refine g4 ?_;refine St.cond _ rfl (λSG=> ?_) (λSG=> ?_)
  ·rw[Ey]at SG
   rw[aB (by simpa using SG)]at iD;refine g7 ?_;refine St.rV [_] [aX bn (.cells [iv ((n+1):Nat)].toArray 3 (0,0)),aX bw (.cells [(.func (.func 139) #[] [Value.pointer (some ⟨bn,0,none⟩),Value.pointer (some ⟨bw,0,none⟩)].toArray)].toArray tw (0,0))] ?_
   rw[iD];exact⟨rfl,rfl⟩
  ·rw[Ey]at SG
   have Y0:=Ex (show ik x.base x.args.length=true by simpa using SG)
   rw[aA (by simpa using SG)]at iD;refine g12 ?_;refine St.vo (ι:=Nat) (κ:=Nat) (λk z T=>(49,iv k)::T) (λk z=>[aX bn (.cells [iv (z:Nat)].toArray 3 (0,0)),aX bw (.cells [(.func (.func 139) #[] [Value.pointer (some ⟨bn,0,none⟩),Value.pointer (some ⟨bw,0,none⟩)].toArray)].toArray tw (0,0)),aF (sl nH x.av.1 x.args),aF (aI eu x.args)]) (λk z=>k≤x.args.length∧z≤200∧kr (x.args.map dU) (d+1) (n+1)=kr ((x.args.map dU).drop k) (d+1) z) (λk z=>x.args.length-k) 0 (n+1) (aC.cons 1 rfl (aC.cons 3 rfl (aC.cons 47 rfl (aC.cons 48 rfl aC.nil)))) ⟨aR _,by omega,rfl⟩ ?_;rintro k z ⟨hk,hz,Tx⟩;refine g6 ?_;refine St.cq (λN0=> ?_) (λN0=> ?_)
   ·obtain⟨y,hy⟩:=aE (show k<x.args.length by omega)
    have BZ:=ab hy
    have Ez:=Hs (l:=x.args.map dU) (k:=k) (y:=dU y) (by rw[bE,hy];rfl) (d+1) z
    refine St.cL eu x.args (x:=y) BZ ?_
    have hle:=Tw (dU y) (d+1) z hz
    refine g7 ?_;refine St.ee (Ev.jj (.mk rfl) hy kz trivial gw iY.eq) ?_;refine St.al (λb9=> ?_);refine g9 ?_;refine St.slot 56 (iv ((d+1:Nat):Int)) rfl rfl ?_;refine St.j5 (ih y BZ (d+1) z (by omega) hz) WM (.mk rfl) (.bH rfl rfl) rfl ?_;rintro v57 _ ⟨rfl,rfl⟩;refine St.lZ ?_;refine g9 ?_;refine St.cq (λTy=> ?_) (λTy=> ?_)
    ·refine g12 ?_
     refine St.rV [_] [aX bn (.cells [iv ((lB (dU y) (d+1) z).1:Nat)].toArray 3 (0,0)),aX bw (.cells [(.func (.func 139) #[] [Value.pointer (some ⟨bn,0,none⟩),Value.pointer (some ⟨bw,0,none⟩)].toArray)].toArray tw (0,0))] ?_
     rw[iD,Tx,Ez,aB (by omega)];exact⟨rfl,rfl⟩
    ·refine g8 ?_
     have hz2:=(K9 (dU y) (d+1) z (by omega)).2.2
     refine St.wo (k+1) (lB (dU y) (d+1) z).1 ⟨by omega,hz2,by rw[Tx,Ez,aA (by omega)]⟩
   ·rw[Lu (by rw[aQ];omega)]at Tx
    refine g11 ?_;refine St.rV [_] [aX bn (.cells [iv (z:Nat)].toArray 3 (0,0)),aX bw (.cells [(.func (.func 139) #[] [Value.pointer (some ⟨bn,0,none⟩),Value.pointer (some ⟨bw,0,none⟩)].toArray)].toArray tw (0,0))] ?_
    rw[iD,Tx];exact⟨rfl,rfl⟩
theorem w5 (x:fK):dA Tryz.prog 114 #[se x] [eu x] (fv (uT (dU x),0)):=by
 refine dA.na (args:=[se x]) 10 Tryz.func114 rfl Tryz.ntmps114 rfl (λc=> ?_);refine g2 ?_;refine St.cz (.mk rfl) rfl (λb1=> ?_);refine St.al (λb2=> ?_);refine g4 ?_;refine St.al (λb3=> ?_);refine St.cO (.mk rfl) (.mk rfl) eJ rfl (by rfl) ?_;refine St.rI b3 (L':=[iv ((0:Nat):Int)]) rfl ?_;refine g4 ?_;refine St.al (λb4=> ?_);refine g4 ?_;refine St.ee (Ev.func (.bH rfl rfl)) ?_;refine St.cO (.mk rfl) (.mk rfl) acF rfl (by rfl) ?_;refine g6 ?_;refine St.j5 (D0 b3 b4 260 x 1 0 (by omega) (by omega)) WM (.mk rfl) (.bH rfl rfl) rfl ?_;rintro v8 _ ⟨rfl,rfl⟩;refine St.lZ ?_;refine St.ee (Ev.build (bF.bB rfl) (λw=>TW rfl w)) ?_;refine g4 ?_;refine St.rV [_] [] ?_;rfl
theorem PK (x y:iy):ku x y=(decide (x.base=y.base)&&decide (x.args.length=y.args.length)&&nI x.args y.args):=by cases x;cases y;rw[ku];rfl
theorem FA {l m:List iy}{k:Nat}{x y:iy}(hx:l[k]?=some x)(hy:m[k]?=some y):nI (l.drop k) (m.drop k)=(ku x y&&nI (l.drop (k+1)) (m.drop (k+1))):=by rw[an hx,an hy,nI]
theorem Ht {l m:List iy}{k:Nat}(h:l.length≤k):nI (l.drop k) (m.drop k)=true:=by rw[fX h,nI];intro _ _ _ _ h;cases h
theorem Lv:∀(x y:fK),dA Tryz.prog 140 #[se x,se y] [eu x,eu y] (.bool (ku (dU x) (dU y))):=by
 intro x
 induction x using fK.ind
 rename_i x ih
 intro y;refine dA.mZ (args:=[se x,se y]) 39 Tryz.func140 rfl Tryz.ntmps140 rfl (λc=> ?_);refine go ?_
 have hs:=PK (dU x) (dU y)
 rw[qT,qT,jn,jn,aQ,aQ]at hs;refine St.sc x ?_;refine St.sc y ?_;refine St.wf x.av.1 (λzu wI=> ?_);refine go ?_;refine St.cz (.mk rfl) rfl (λb2=> ?_);refine St.cz (.mk rfl) rfl (λb3=> ?_);refine g12 ?_;refine St.gf _ rfl rfl (λhg=>Ev.dB (.mk rfl) lD) rfl ?_;refine St.gf _ rfl rfl (λhg=>Ev.kU (aZ.gv rfl hg) iP trivial (by rfl)) rfl ?_;refine St.gf _ rfl rfl (λhg=>Ev.fm (aZ.gv rfl hg) iP) rfl ?_;refine St.gf _ rfl rfl (λhg=>Ev.dB (.mk rfl) lD) rfl ?_;refine St.gf _ rfl rfl (λhg=>Ev.kU (aZ.gv rfl hg) iP trivial (by rfl)) rfl ?_;refine St.gf _ rfl rfl (λhg=>Ev.fm (aZ.gv rfl hg) iP) rfl ?_;refine St.gf _ rfl rfl (λhg=>Ev.neq (aZ.gv rfl hg) (aZ.gv rfl hg)) rfl ?_;refine g3 ?_;refine St.cq (λpc=> ?_) (λpc=> ?_)
 ·refine g7 ?_
  refine St.rV [_] [] ?_;exact be (by rw[hs];rcases pc with h|h<;>simp[h]<;>omega)
 ·obtain⟨hb,hl⟩:x.base=y.base∧x.args.length=y.args.length:=⟨by simpa using pc.1,by have:=pc.2;omega⟩
  rw[hb,hl,dH rfl,dH rfl,Bool.true_and,Bool.true_and]at hs;refine g12 ?_;refine St.lS (ι:=Nat) (λk T=>(23,iv k)::T) (λk=>k≤x.args.length∧nI (x.args.map dU) (y.args.map dU)=nI ((x.args.map dU).drop k) ((y.args.map dU).drop k)) (λk=>x.args.length-k) 0 (aC.cons 2 rfl (aC.cons 3 rfl (aC.cons 22 rfl aC.nil))) ⟨aR _,rfl⟩ ?_;intro k fy;obtain⟨hk,hv⟩:=fy;refine g6 ?_;refine St.cq (λN1=> ?_) (λN1=> ?_)
  ·obtain⟨u,hu⟩:=aE (show k<x.args.length by omega)
   obtain⟨w,hw⟩:=aE (show k<y.args.length by omega);refine St.cL eu x.args (x:=u) (ab hu) ?_;refine St.cL eu y.args (x:=w) (ab hw) ?_
   have Ez:=FA (l:=x.args.map dU) (m:=y.args.map dU) (k:=k) (x:=dU u) (y:=dU w) (by rw[bE,hu];rfl) (by rw[bE,hw];rfl)
   refine g11 ?_;refine St.rq mixed (by kernel_rfl) (Mm.drawn _ _) ?_;refine g4 ?_;refine Sq.ee (Ev.jj (.mk rfl) hu kz trivial gw iY.eq) ?_;refine g4 ?_;refine Sq.ee (Ev.jj (.mk rfl) hw kz trivial gw iY.eq) ?_;refine Sq.ee (Ev.call (ih u (ab hu) w) WN (.bH rfl rfl)) ?_;refine g3 ?_;refine St.cond _ rfl (λKA=> ?_) (λKA=> ?_)
   ·skip
    refine g11 ?_;refine St.rV [_] [] ?_;exact be (by rw[hs,hv,Ez,show ku (dU u) (dU w)=false by simpa using KA];rfl)
   ·skip
    refine g8 ?_;refine St.aS (k+1) ⟨by omega,by rw[hv,Ez,show ku (dU u) (dU w)=true by simpa using KA,Bool.true_and]⟩
  ·rw[Ht (by rw[aQ];omega)]at hv
   refine g11 ?_;refine St.rV [_] [] ?_;exact be (by rw[hs,hv])
theorem KB (x:dM)(b:Nat):yS (di x) b=jP x.kind x.name x.index (dU x.type) x.args.length b:=by
 cases x with
 |mk k s i t v l=>rw[OT];show jP k s i (dU t) (l.map di).length b=_;rw[aQ];rfl
theorem ry (x:dM):(di x).kind=x.kind:=by cases x;rfl
theorem tm1 (nm:bI)(ix:Int)(tp:iy)(m b:Nat):jP 1 nm ix tp m b=if ix≠0∨m≠0 then 5 else if isName nm=false then 10 else if uT tp≠0 then 12 else 0:=by unfold jP;rw[aB rfl]
theorem tm2 (nm:bI)(ix:Int)(tp:iy)(m b:Nat):jP 2 nm ix tp m b=if nm≠ []∨pJ tp=false∨m≠0 then 5 else if ix<0∨(b:Int)≤ix then 15 else 0:=by unfold jP;rw[aA (by decide),aB rfl]
theorem tm3 (nm:bI)(ix:Int)(tp:iy)(m b:Nat):jP 3 nm ix tp m b=if nm≠ []∨ix≠0∨m≠1 then 5 else if uT tp≠0 then 12 else 0:=by unfold jP;rw[aA (by decide),aA (by decide),aB rfl]
theorem tm4 (nm:bI)(ix:Int)(tp:iy)(m b:Nat):jP 4 nm ix tp m b=if nm≠ []∨ix≠0∨pJ tp=false∨m≠2 then 5 else 0:=by unfold jP;rw[aA (by decide),aA (by decide),aA (by decide),aB rfl]
theorem tm5 {k:Int}(h1:k≠1)(h2:k≠2)(h3:k≠3)(h4:k≠4)(nm:bI)(ix:Int)(tp:iy)(m b:Nat):jP k nm ix tp m b=4:=by unfold jP;rw[aA h1,aA h2,aA h3,aA h4]
theorem FB {α:Type}{l:List α}(h:l.length=1):∃y,l=[y]:=by
 match l,h with
 | [y],_=>exact⟨y,rfl⟩
theorem yV {α:Type}{l:List α}(h:l.length=2):∃y z,l=[y,z]:=by
 match l,h with
 | [y,z],_=>exact⟨y,z,rfl⟩
theorem il (b:Nat)(cd at_:Int):dA Tryz.prog 113 ([iv cd]++ [Value.pointer (some ⟨b,0,none⟩)]).toArray [oW b (iv at_)] (fv (cd,at_)):=by
 refine dA.na (args:=[iv cd]++ [Value.pointer (some ⟨b,0,none⟩)]) 7 Tryz.func113 rfl Tryz.ntmps113 rfl (λc=> ?_);refine g2 ?_;refine St.al (λb3=> ?_);refine g6 ?_;refine St.ee (Ev.build (bF.bH rfl rfl) (λw=>fB rfl rfl w)) ?_;refine g4 ?_;refine St.rV [_] [] ?_;rfl
theorem AH (bn bw tw:Nat):∀(x:dM) (d b n:Nat),pI.wf x→d≤100→b≤d→n≤200→dt Tryz.prog 112 ([vm x,iv (d:Nat),iv (b:Nat)]++ [Value.pointer (some ⟨bn,0,none⟩),Value.pointer (some ⟨bw,0,none⟩)]).toArray [aF (iK x),aX bn (.cells [iv (n:Nat)].toArray 3 (0,0)),aX bw (.cells [(.func (.func 112) #[] [Value.pointer (some ⟨bn,0,none⟩),Value.pointer (some ⟨bw,0,none⟩)].toArray)].toArray tw (0,0))] (λv H'=>v=fv (lO (di x) d b n).2∧H'=[aX bn (.cells [iv ((lO (di x) d b n).1:Nat)].toArray 3 (0,0)),aX bw (.cells [(.func (.func 112) #[] [Value.pointer (some ⟨bn,0,none⟩),Value.pointer (some ⟨bw,0,none⟩)].toArray)].toArray tw (0,0))]):=by
 intro x
 induction x using dM.ind
 rename_i x ih
 intro d b n JU hd hbd hn
 have KC:x.name.length≤9223372036854775807:=by have:=JU.2.1;omega
 refine dt.body (args:=[vm x,iv (d:Nat),iv (b:Nat)]++ [Value.pointer (some ⟨bn,0,none⟩),Value.pointer (some ⟨bw,0,none⟩)]) 166 Tryz.func112 rfl Tryz.ntmps112 rfl (λc=> ?_);refine go ?_
 have iD:=Yb (di x) d b n
 rw[KB,ri,ry]at iD;refine St.ES x ?_;refine St.wf x.av.1 (λzu wI=> ?_);refine go ?_;refine St.cz (.mk rfl) rfl (λb5=> ?_);refine St.al (λb8=> ?_);refine g5 ?_;refine St.al (λb9=> ?_);refine St.cO (.mk rfl) (.mk rfl) eJ rfl (by rfl) ?_;refine g6 ?_;refine St.cO (.mk rfl) (.mk rfl) eJ rfl (by rfl) ?_;refine St.rI bn (L':=[iv ((n+1:Nat):Int)]) rfl ?_;refine g4 ?_;refine St.ee (Ev.func (.bB rfl)) ?_;refine g9 ?_;refine St.gf _ rfl rfl (λhg=>Ev.move (.mk rfl)) rfl ?_;refine St.gf _ rfl rfl (λhg=>Ev.gtr (aZ.gv rfl hg) (.mk rfl)) rfl ?_;refine g3 ?_;refine St.cq (λAJ=> ?_) (λAJ=> ?_)
 ·rw[aB (by omega)]at iD
  refine g3 ?_;refine St.ee (Ev.nF (il b9 1 n) rM (.mk rfl) (.bB rfl) (cw.aX cw.nil)) ?_;refine g5 ?_;refine St.rV [_] [aX bn (.cells [iv ((n+1):Nat)].toArray 3 (0,0)),aX bw (.cells [(.func (.func 112) #[] [Value.pointer (some ⟨bn,0,none⟩),Value.pointer (some ⟨bw,0,none⟩)].toArray)].toArray tw (0,0))] ?_;rw[iD];exact⟨rfl,rfl⟩
 ·rw[aA (by omega)]at iD
  refine g16 ?_;refine St.cond _ rfl (λN2=> ?_) (λN2=> ?_)
  focus
   skip
   try simp only[br]at N2
   rw[N2,tm1]at iD;refine g7 ?_;refine St.gf _ rfl rfl (λhg=>Ev.dB (.mk rfl) qU) rfl ?_;refine St.gf _ rfl rfl (λhg=>Ev.kU (aZ.gv rfl hg) l3 trivial (by rfl)) rfl ?_;refine St.gf _ rfl rfl (λhg=>Ev.fm (aZ.gv rfl hg) l3) rfl ?_;refine St.gf _ rfl rfl (λhg=>Ev.neq (aZ.gv rfl hg) (.mk rfl)) rfl ?_;refine g3 ?_;refine St.cond _ rfl (λHu=> ?_) (λHu=> ?_)
   focus
    skip
    try simp only[br]at Hu
    rw[aB (show x.index≠0∨x.args.length≠0 by omega)]at iD;refine g3 ?_;refine St.ee (Ev.nF (il b9 5 n) rM (.mk rfl) (.bB rfl) (cw.aX cw.nil)) ?_;refine g7 ?_;refine St.rV [_] [aX bn (.cells [iv ((n+1):Nat)].toArray 3 (0,0)),aX bw (.cells [(.func (.func 112) #[] [Value.pointer (some ⟨bn,0,none⟩),Value.pointer (some ⟨bw,0,none⟩)].toArray)].toArray tw (0,0))] ?_;rw[iD,aB (by decide)];exact⟨rfl,rfl⟩
   focus
    skip
    try simp only[br]at Hu
    obtain⟨hi,hl⟩:x.index=0∧x.args.length=0:=by omega
    rw[aA (show ¬(x.index≠0∨x.args.length≠0) by omega)]at iD;refine g7 ?_;refine St.ee (Ev.call (qX x.name KC) TV (.bB rfl)) ?_;refine g3 ?_;refine St.cond _ rfl (λYe=> ?_) (λYe=> ?_)
    focus
     skip
     try simp only[br]at Ye
     rw[aB (show isName x.name=false by simpa using Ye)]at iD;refine g3 ?_;refine St.ee (Ev.nF (il b9 10 n) rM (.mk rfl) (.bB rfl) (cw.aX cw.nil)) ?_;refine g7 ?_;refine St.rV [_] [aX bn (.cells [iv ((n+1):Nat)].toArray 3 (0,0)),aX bw (.cells [(.func (.func 112) #[] [Value.pointer (some ⟨bn,0,none⟩),Value.pointer (some ⟨bw,0,none⟩)].toArray)].toArray tw (0,0))] ?_;rw[iD,aB (by decide)];exact⟨rfl,rfl⟩
    focus
     skip
     try simp only[br]at Ye
     rw[aA (show ¬isName x.name=false by simpa using Ye)]at iD;refine g5 ?_;refine St.ee (Ev.gh 2 (.mk rfl) kz trivial gw rfl rfl) ?_;refine St.ee (Ev.call (w5 x.type) WO (.bB rfl)) ?_;refine St.ee (Ev.CT (.mk rfl) Ec rfl (by first|rw[eN]|(dsimp only;rw[eN])|kernel_rfl) rfl) ?_;refine g3 ?_;refine St.cond _ rfl (λYf=> ?_) (λYf=> ?_)
     focus
      skip
      try simp only[br]at Yf
      rw[aB (show uT (dU x.type)≠0 by simpa using Yf)]at iD;refine g3 ?_;refine St.ee (Ev.nF (il b9 12 n) rM (.mk rfl) (.bB rfl) (cw.aX cw.nil)) ?_;refine g6 ?_;refine St.rV [_] [aX bn (.cells [iv ((n+1):Nat)].toArray 3 (0,0)),aX bw (.cells [(.func (.func 112) #[] [Value.pointer (some ⟨bn,0,none⟩),Value.pointer (some ⟨bw,0,none⟩)].toArray)].toArray tw (0,0))] ?_;rw[iD,aB (by decide)];exact⟨rfl,rfl⟩
     focus
      skip
      try simp only[br]at Yf
      rw[aA (show ¬uT (dU x.type)≠0 by simpa using Yf),aA (by decide),kf hl,lV,nJ]at iD;refine go ?_
  rotate_left
  focus
   skip
   try simp only[br]at N2
   refine g6 ?_;refine St.cond _ rfl (λHv=> ?_) (λHv=> ?_)
   focus
    skip
    try simp only[br]at Hv
    rw[Hv,tm2]at iD;refine g7 ?_;refine St.gf _ rfl rfl (λhg=>Ev.dB (.mk rfl) wu) rfl ?_;refine St.gf _ rfl rfl (λhg=>Ev.gh 2 (aZ.gv rfl hg) kz trivial gw rfl rfl) rfl ?_;refine St.gf _ rfl rfl (λhg=>Ev.call (BX x.type) WQ (.cons (aZ.gv rfl hg) .nil)) rfl ?_;refine St.gf _ rfl rfl (λhg=>Ev.not (aZ.gv rfl hg)) rfl ?_;refine g2 ?_;refine St.gf _ rfl rfl (λhg=>Ev.dB (.mk rfl) qU) rfl ?_;refine St.gf _ rfl rfl (λhg=>Ev.kU (aZ.gv rfl hg) l3 trivial (by rfl)) rfl ?_;refine St.gf _ rfl rfl (λhg=>Ev.fm (aZ.gv rfl hg) l3) rfl ?_;refine St.gf _ rfl rfl (λhg=>Ev.neq (aZ.gv rfl hg) (.mk rfl)) rfl ?_;refine g3 ?_;refine St.cond _ rfl (λPL=> ?_) (λPL=> ?_)
    focus
     skip
     simp only[Bool.or_eq_true,Bool.or_eq_false_iff,Bool.not_eq_true',Bool.not_eq_false',decide_eq_true_eq,decide_eq_false_iff_not,beq_iff_eq,beq_eq_false_iff_ne]at PL
     rw[aB (show x.name≠ []∨pJ (dU x.type)=false∨x.args.length≠0 by rcases PL with(h|h)|h;exact .inl h;exact .inr (.inl h);exact .inr (.inr (by omega)))]at iD;refine g3 ?_;refine St.ee (Ev.nF (il b9 5 n) rM (.mk rfl) (.bB rfl) (cw.aX cw.nil)) ?_;refine g7 ?_;refine St.rV [_] [aX bn (.cells [iv ((n+1):Nat)].toArray 3 (0,0)),aX bw (.cells [(.func (.func 112) #[] [Value.pointer (some ⟨bn,0,none⟩),Value.pointer (some ⟨bw,0,none⟩)].toArray)].toArray tw (0,0))] ?_;rw[iD,aB (by decide)];exact⟨rfl,rfl⟩
    focus
     skip
     simp only[Bool.or_eq_true,Bool.or_eq_false_iff,Bool.not_eq_true',Bool.not_eq_false',decide_eq_true_eq,decide_eq_false_iff_not,beq_iff_eq,beq_eq_false_iff_ne]at PL
     obtain⟨⟨uB,wR⟩,PM⟩:=PL
     have hl:x.args.length=0:=by omega
     rw[aA (show ¬(x.name≠ []∨pJ (dU x.type)=false∨x.args.length≠0) by rintro (h|h|h);exact h (by simpa using uB);rw[wR]at h;cases h;omega)]at iD;refine g8 ?_;refine St.gf _ rfl rfl (λhg=>Ev.dB (.mk rfl) sq) rfl ?_;refine St.gf _ rfl rfl (λhg=>Ev.kU (aZ.gv rfl hg) eN trivial (by rfl)) rfl ?_;refine St.gf _ rfl rfl (λhg=>Ev.move (.mk rfl)) rfl ?_;refine St.gf _ rfl rfl (λhg=>Ev.geq (aZ.gv rfl hg) (aZ.gv rfl hg)) rfl ?_;refine g3 ?_;refine St.cond _ rfl (λh81=> ?_) (λh81=> ?_)
     focus
      skip
      try simp only[br]at h81
      rw[aB (show x.index<0∨(b:Int)≤x.index by omega)]at iD;refine g3 ?_;refine St.ee (Ev.nF (il b9 15 n) rM (.mk rfl) (.bB rfl) (cw.aX cw.nil)) ?_;refine g6 ?_;refine St.rV [_] [aX bn (.cells [iv ((n+1):Nat)].toArray 3 (0,0)),aX bw (.cells [(.func (.func 112) #[] [Value.pointer (some ⟨bn,0,none⟩),Value.pointer (some ⟨bw,0,none⟩)].toArray)].toArray tw (0,0))] ?_;rw[iD,aB (by decide)];exact⟨rfl,rfl⟩
     focus
      skip
      try simp only[br]at h81
      rw[aA (show ¬(x.index<0∨(b:Int)≤x.index) by omega),aA (by decide),kf hl,lV,nJ]at iD;refine go ?_
   rotate_left
   focus
    skip
    try simp only[br]at Hv
    refine g6 ?_;refine St.cq (λh84=> ?_) (λh84=> ?_)
    ·rw[h84,tm3]at iD
     refine g7 ?_;refine St.gf _ rfl rfl (λhg=>Ev.dB (.mk rfl) sq) rfl ?_;refine St.gf _ rfl rfl (λhg=>Ev.kU (aZ.gv rfl hg) eN trivial (by rfl)) rfl ?_;refine St.gf _ rfl rfl (λhg=>Ev.neq (aZ.gv rfl hg) (.mk rfl)) rfl ?_;refine g2 ?_;refine St.gf _ rfl rfl (λhg=>Ev.dB (.mk rfl) qU) rfl ?_;refine St.gf _ rfl rfl (λhg=>Ev.kU (aZ.gv rfl hg) l3 trivial (by rfl)) rfl ?_;refine St.gf _ rfl rfl (λhg=>Ev.fm (aZ.gv rfl hg) l3) rfl ?_;refine St.gf _ rfl rfl (λhg=>Ev.neq (aZ.gv rfl hg) (.mk rfl)) rfl ?_;refine g3 ?_;refine St.cond _ rfl (λh99=> ?_) (λh99=> ?_)
     ·simp only[Bool.or_eq_true,Bool.or_eq_false_iff,Bool.not_eq_true',Bool.not_eq_false',decide_eq_true_eq,decide_eq_false_iff_not,beq_iff_eq,beq_eq_false_iff_ne]at h99
      rw[aB (show x.name≠ []∨x.index≠0∨x.args.length≠1 by rcases h99 with(h|h)|h;exact .inl h;exact .inr (.inl h);exact .inr (.inr (by omega)))]at iD;refine g3 ?_;refine St.ee (Ev.nF (il b9 5 n) rM (.mk rfl) (.bB rfl) (cw.aX cw.nil)) ?_;refine g7 ?_;refine St.rV [_] [aX bn (.cells [iv ((n+1):Nat)].toArray 3 (0,0)),aX bw (.cells [(.func (.func 112) #[] [Value.pointer (some ⟨bn,0,none⟩),Value.pointer (some ⟨bw,0,none⟩)].toArray)].toArray tw (0,0))] ?_;rw[iD,aB (by decide)];exact⟨rfl,rfl⟩
     ·simp only[Bool.or_eq_true,Bool.or_eq_false_iff,Bool.not_eq_true',Bool.not_eq_false',decide_eq_true_eq,decide_eq_false_iff_not,beq_iff_eq,beq_eq_false_iff_ne]at h99
      obtain⟨⟨uB,wR⟩,PM⟩:=h99
      have hl:x.args.length=1:=by omega
      rw[aA (show ¬(x.name≠ []∨x.index≠0∨x.args.length≠1) by rintro (h|h|h);exact h (by simpa using uB);omega;omega)]at iD;refine g6 ?_;refine St.ee (Ev.gh 2 (.mk rfl) kz trivial gw rfl rfl) ?_;refine St.ee (Ev.call (w5 x.type) WO (.bB rfl)) ?_;refine St.ee (Ev.CT (.mk rfl) Ec rfl (by first|rw[eN]|(dsimp only;rw[eN])|kernel_rfl) rfl) ?_;refine g3 ?_;refine St.cq (λLw=> ?_) (λLw=> ?_)
      ·rw[aB (show uT (dU x.type)≠0 by simpa using Lw)]at iD
       refine g3 ?_;refine St.ee (Ev.nF (il b9 12 n) rM (.mk rfl) (.bB rfl) (cw.aX cw.nil)) ?_;refine g7 ?_;refine St.rV [_] [aX bn (.cells [iv ((n+1):Nat)].toArray 3 (0,0)),aX bw (.cells [(.func (.func 112) #[] [Value.pointer (some ⟨bn,0,none⟩),Value.pointer (some ⟨bw,0,none⟩)].toArray)].toArray tw (0,0))] ?_;rw[iD,aB (by decide)];exact⟨rfl,rfl⟩
      ·obtain⟨y,hy⟩:=FB hl
       rw[aA (show ¬uT (dU x.type)≠0 by simpa using Lw),aA (by decide),aB rfl,hy,eW,lV,Ew]at iD;refine St.cL iK x.args (x:=y) (by rw[hy];simp) ?_;refine g3 ?_;refine St.cx [aX bn (.cells [iv ((n+1):Nat)].toArray 3 (0,0)),aX bw (.cells [(.func (.func 112) #[] [Value.pointer (some ⟨bn,0,none⟩),Value.pointer (some ⟨bw,0,none⟩)].toArray)].toArray tw (0,0)),aF (iK y),aX b8 (.cells [iv 0,iv 0].toArray 35 (0,0))] mixed (λnp ns=> ?_);refine SW.gd 1 ?_;refine SW.gd 2 ?_;refine SW.dd 3 rfl (λ_=>Ev.cZ (k:=0) (.mk rfl) (.mk rfl) l3 l6 rfl (by omega)) ?_;refine SW.dd 4 rfl (λ_=>Ev.jj (.mk rfl) (show x.args[0]?=some y by rw[hy];rfl) rK trivial l6 iY.eq) ?_;refine SW.gd 5 ?_;refine SW.gd 6 ?_;refine SW.slot 115 (iv ((d+1:Nat):Int)) rfl rfl ?_;refine SW.gd 7 ?_;refine SW.gd 8 ?_;refine SW.slot 117 (iv ((b+1:Nat):Int)) rfl rfl ?_;refine SW.t1 0 ?_;refine g3 ?_;refine SW.go ?_;refine SW.t1 9 ?_;refine St.j5 (ih y (by rw[hy];simp) (d+1) (b+1) (n+1) (zu y (by rw[hy];simp)) (by omega) (by omega) (by omega)) Jt (.mk rfl) (.eZ rfl rfl rfl) rfl ?_;rintro aeQ _ ⟨rfl,rfl⟩;refine St.lZ ?_;refine g2 ?_;refine SW.go ?_;refine SW.t1 10 ?_;refine g3 ?_;refine SW.go ?_;refine SW.dn ?_;refine g4 ?_;refine St.rV [_] [aX bn (.cells [iv ((lO (di y) (d+1) (b+1) (n+1)).1:Nat)].toArray 3 (0,0)),aX bw (.cells [(.func (.func 112) #[] [Value.pointer (some ⟨bn,0,none⟩),Value.pointer (some ⟨bw,0,none⟩)].toArray)].toArray tw (0,0))] ?_
       rw[iD];exact⟨rfl,rfl⟩
    ·refine g6 ?_
     refine St.cq (λLx=> ?_) (λLx=> ?_)
     ·rw[Lx,tm4]at iD
      refine g7 ?_;refine St.gf _ rfl rfl (λhg=>Ev.dB (.mk rfl) sq) rfl ?_;refine St.gf _ rfl rfl (λhg=>Ev.kU (aZ.gv rfl hg) eN trivial (by rfl)) rfl ?_;refine St.gf _ rfl rfl (λhg=>Ev.neq (aZ.gv rfl hg) (.mk rfl)) rfl ?_;refine g2 ?_;refine St.gf _ rfl rfl (λhg=>Ev.dB (.mk rfl) wu) rfl ?_;refine St.gf _ rfl rfl (λhg=>Ev.gh 2 (aZ.gv rfl hg) kz trivial gw rfl rfl) rfl ?_;refine St.gf _ rfl rfl (λhg=>Ev.call (BX x.type) WQ (.cons (aZ.gv rfl hg) .nil)) rfl ?_;refine St.gf _ rfl rfl (λhg=>Ev.not (aZ.gv rfl hg)) rfl ?_;refine g2 ?_;refine St.gf _ rfl rfl (λhg=>Ev.dB (.mk rfl) qU) rfl ?_;refine St.gf _ rfl rfl (λhg=>Ev.kU (aZ.gv rfl hg) l3 trivial (by rfl)) rfl ?_;refine St.gf _ rfl rfl (λhg=>Ev.fm (aZ.gv rfl hg) l3) rfl ?_;refine St.gf _ rfl rfl (λhg=>Ev.neq (aZ.gv rfl hg) (.mk rfl)) rfl ?_;refine g3 ?_;refine St.cond _ rfl (λPN=> ?_) (λPN=> ?_)
      ·simp only[Bool.or_eq_true,Bool.or_eq_false_iff,Bool.not_eq_true',Bool.not_eq_false',decide_eq_true_eq,decide_eq_false_iff_not,beq_iff_eq,beq_eq_false_iff_ne]at PN
       rw[aB (show x.name≠ []∨x.index≠0∨pJ (dU x.type)=false∨x.args.length≠2 by rcases PN with((h|h)|h)|h;exact .inl h;exact .inr (.inl h);exact .inr (.inr (.inl h));exact .inr (.inr (.inr (by omega))))]at iD;refine g3 ?_;refine St.ee (Ev.nF (il b9 5 n) rM (.mk rfl) (.bB rfl) (cw.aX cw.nil)) ?_;refine g7 ?_;refine St.rV [_] [aX bn (.cells [iv ((n+1):Nat)].toArray 3 (0,0)),aX bw (.cells [(.func (.func 112) #[] [Value.pointer (some ⟨bn,0,none⟩),Value.pointer (some ⟨bw,0,none⟩)].toArray)].toArray tw (0,0))] ?_;rw[iD,aB (by decide)];exact⟨rfl,rfl⟩
      ·simp only[Bool.or_eq_true,Bool.or_eq_false_iff,Bool.not_eq_true',Bool.not_eq_false',decide_eq_true_eq,decide_eq_false_iff_not,beq_iff_eq,beq_eq_false_iff_ne]at PN
       obtain⟨⟨⟨uB,wR⟩,PM⟩,hq4⟩:=PN;obtain⟨y,z,hy⟩:=yV (show x.args.length=2 by omega);rw[aA (show ¬(x.name≠ []∨x.index≠0∨pJ (dU x.type)=false∨x.args.length≠2) by rintro (h|h|h|h);exact h (by simpa using uB);omega;rw[PM]at h;cases h;omega),aA (by decide),aA (by decide),hy,eW,eW,lV,PJ]at iD;refine St.cL iK x.args (x:=y) (by rw[hy];simp) ?_;refine St.cL iK x.args (x:=z) (by rw[hy];simp) ?_
       have hle:=Yc (di y) (d+1) b (n+1) (by omega)
       have h2l:x.args.length=2:=by rw[hy];rfl
       refine g4 ?_;refine St.cx [aX bn (.cells [iv ((n+1):Nat)].toArray 3 (0,0)),aX bw (.cells [(.func (.func 112) #[] [Value.pointer (some ⟨bn,0,none⟩),Value.pointer (some ⟨bw,0,none⟩)].toArray)].toArray tw (0,0)),aF (iK y)] mixed (λnp ns=> ?_)
       repeat' first
        |with_reducible refine SW.me ?_
         first
          |refine SW.gd 1 ?_
          |refine SW.gd 2 ?_
          |refine SW.dd 3 rfl (λ_=>Ev.cZ (k:=0) (.mk rfl) (.mk rfl) l3 l6 rfl (by omega)) ?_
          |refine SW.dd 4 rfl (λ_=>Ev.jj (.mk rfl) (show x.args[0]?=some y by rw[hy];rfl) rK trivial l6 iY.eq) ?_
          |refine SW.gd 5 ?_
          |refine SW.gd 6 ?_
           refine SW.slot 149 (iv ((d+1:Nat):Int)) rfl rfl ?_
          |refine SW.gd 7 ?_
          |refine SW.t2 0 9 ?_ ?_
          |refine SW.t2 8 9 ?_ ?_
          |refine SW.t1 9 ?_
          |refine SW.t1 10 ?_
          |refine SW.t1 8 ?_
          |refine SW.t1 0 ?_
        |with_reducible refine SW.tg 0 ?_
         refine g3 ?_;refine SW.go ?_
        |with_reducible refine SW.tg 8 ?_
         refine St.j5 (ih y (by rw[hy];simp) (d+1) b (n+1) (zu y (by rw[hy];simp)) (by omega) (by omega) (by omega)) Jt (.mk rfl) (.eZ rfl rfl rfl) rfl ?_;rintro alT _ ⟨rfl,rfl⟩;refine St.lZ ?_;refine g2 ?_;refine SW.go ?_
        |with_reducible refine SW.tg 9 ?_
         refine St.al (λpT=> ?_);refine g2 ?_;refine SW.go ?_
        |with_reducible refine SW.tg 10 ?_
         refine g3 ?_;refine SW.go ?_
       all_goals refine SW.dn ?_
       all_goals
        refine g8 ?_;refine St.cq (λYg=> ?_) (λYg=> ?_)
        ·rw[aB (show(lO (di y) (d+1) b (n+1)).2.1≠0 by simpa using Yg)]at iD
         refine g10 ?_;refine St.rV [_] [aX bn (.cells [iv ((lO (di y) (d+1) b (n+1)).1:Nat)].toArray 3 (0,0)),aX bw (.cells [(.func (.func 112) #[] [Value.pointer (some ⟨bn,0,none⟩),Value.pointer (some ⟨bw,0,none⟩)].toArray)].toArray tw (0,0))] ?_
         rw[iD];exact⟨rfl,rfl⟩
        ·have LW:(lO (di y) (d+1) b (n+1)).2.1=0:=by simpa using Yg
         have wS:=(PH (di y) (d+1) b (n+1) LW).1
         rw[aA (by rw[LW];decide)]at iD;refine g3 ?_;refine St.cx [aX bn (.cells [iv ((lO (di y) (d+1) b (n+1)).1:Nat)].toArray 3 (0,0)),aX bw (.cells [(.func (.func 112) #[] [Value.pointer (some ⟨bn,0,none⟩),Value.pointer (some ⟨bw,0,none⟩)].toArray)].toArray tw (0,0)),aF (iK z),aX b8 (.cells [iv 0,iv 0].toArray 35 (0,0))] mixed (λnp ns=> ?_);refine SW.gd 1 ?_;refine SW.gd 2 ?_;refine SW.dd 3 rfl (λ_=>Ev.cZ (k:=1) (.mk rfl) (.mk rfl) l3 l6 rfl (by omega)) ?_;refine SW.dd 4 rfl (λ_=>Ev.jj (.mk rfl) (show x.args[1]?=some z by rw[hy];rfl) rK trivial l6 iY.eq) ?_;refine SW.gd 5 ?_;refine SW.gd 6 ?_;refine SW.slot 162 (iv ((d+1:Nat):Int)) rfl rfl ?_;refine SW.gd 7 ?_;refine SW.t1 0 ?_;refine g3 ?_;refine SW.go ?_;refine SW.t1 8 ?_;refine St.j5 (ih z (by rw[hy];simp) (d+1) b (lO (di y) (d+1) b (n+1)).1 (zu z (by rw[hy];simp)) (by omega) (by omega) (by omega)) Jt (.mk rfl) (.eZ rfl rfl rfl) rfl ?_;rintro v164 _ ⟨rfl,rfl⟩;refine St.lZ ?_;refine g2 ?_;refine SW.go ?_;refine SW.t1 9 ?_;refine g3 ?_;refine SW.go ?_;refine SW.dn ?_;refine g4 ?_;refine St.rV [_] [aX bn (.cells [iv ((lO (di z) (d+1) b (lO (di y) (d+1) b (n+1)).1).1:Nat)].toArray 3 (0,0)),aX bw (.cells [(.func (.func 112) #[] [Value.pointer (some ⟨bn,0,none⟩),Value.pointer (some ⟨bw,0,none⟩)].toArray)].toArray tw (0,0))] ?_
         rw[iD];exact⟨rfl,rfl⟩
     ·rw[tm5 N2 Hv h84 Lx]at iD
      refine g3 ?_;refine St.ee (Ev.nF (il b9 4 n) rM (.mk rfl) (.bB rfl) (cw.aX cw.nil)) ?_;refine g6 ?_;refine St.rV [_] [aX bn (.cells [iv ((n+1):Nat)].toArray 3 (0,0)),aX bw (.cells [(.func (.func 112) #[] [Value.pointer (some ⟨bn,0,none⟩),Value.pointer (some ⟨bw,0,none⟩)].toArray)].toArray tw (0,0))] ?_;rw[iD,aB (by decide)];exact⟨rfl,rfl⟩
  all_goals
   refine g4 ?_;refine St.ee (Ev.build (bF.nil) (λw=>fL w)) ?_;refine g4 ?_;refine St.rV [_] [aX bn (.cells [iv ((n+1):Nat)].toArray 3 (0,0)),aX bw (.cells [(.func (.func 112) #[] [Value.pointer (some ⟨bn,0,none⟩),Value.pointer (some ⟨bw,0,none⟩)].toArray)].toArray tw (0,0))] ?_;rw[iD];exact⟨rfl,rfl⟩
theorem Hw (x:dM):(di x).type=dU x.type:=by cases x;rfl
theorem FC (x:dM):(di x).index=x.index:=by cases x;rfl
theorem qY {a b:Option iy}{s1 s2:iy}{b1 b2:Bool}(h1:b1=true→a=some s1)(h1f:b1=false→a=none)(h2:b2=true→b=some s2)(h2f:b2=false→b=none)
 (hn:b1=true→b2=true→∀p q,s1.args=[p,q]→ku p s2=true→False):HK a b=none:=by
 cases b1 with
 |false=>rw[h1f rfl];rfl
 |true=>
  cases b2 with
  |false=>
   rw[h2f rfl];unfold HK
   split
   ·contradiction
   ·rfl
  |true=>
   rw[h1 rfl,h2 rfl]
   refine Ls _ _ λs l x e1 e2 e3=> ?_
   cases e1;cases e3
   rintro ⟨p,q,rfl,hs⟩;exact hn rfl rfl p q e2 hs
theorem Ly {l:List fK}{p q:fK}(h:l=[p,q]):l[0]?=some (l.headD ub):=by rw[h];rfl
section
variable {n:Nat}{F:Fr}{c:Ctx}{H:List ao}{T:Act→World→Prop}
theorem St.Tz (l:List fK)[hd:uI (aI eu l) H](k:St n F (Mm c (aF (eu (l.headD ub))::H)) T):St n F (Mm c H) T:=
 St.eT (eu (l.headD ub)) [aI eu l] (λρ h=>by
  cases l with
  |nil=>exact .mk (x:=ub) (uN nH ρ) (λy hy=>by cases hy)
  |cons p l=>exact h _ (aU ..) p (aU ..)) k
end
theorem Hy:∀(x:dM) (ctx:List fK) (v:Value) (d:Nat),Tu (di x) d ctx.length→pI.wf x→ctx.length≤d→dt Tryz.prog 116 #[vm x,v] ([iK x,sl nH v ctx,aI eu ctx].map aF) (λr H'=>∃(s:fK) (b:Bool),r= .tuple #[se s,.bool b]∧nH.wf s∧(b=true→wK (di x) (ctx.map dU)=some (dU s))∧(b=false→wK (di x) (ctx.map dU)=none)∧H'=[aF (eu s)]):=by
 intro x
 induction x using dM.ind
 rename_i x ih
 intro ctx v d hg hw xi;refine dt.body (args:=[vm x,v]) 101 Tryz.func116 rfl Tryz.ntmps116 rfl (λc=> ?_);refine St.cast (H':=[aF (iK x),aF (sl nH v ctx),aF (aI eu ctx)]) rfl ?_;refine go ?_;obtain⟨alU,hh,hk⟩:=hg.inv;rw[KB]at hh
 have hinv:=Lr hh
 rw[ri,ry]at hk
 have iD:=Tv (di x) (ctx.map dU)
 rw[ry,ri,Hw,FC,aQ]at iD;refine St.ES x ?_;refine St.wf x.av.1 (λzu wI=> ?_);refine St.wf v (λhcw hcx=> ?_);refine go ?_;refine St.cz (.mk rfl) rfl (λb2=> ?_);refine St.al (λb4=> ?_);refine g17 ?_;refine St.cond _ rfl (λU0=> ?_) (λU0=> ?_)
 focus
  skip
  try simp only[br]at U0
  rw[aB U0]at iD;refine g3 ?_;refine St.ee (Ev.gh 2 (.mk rfl) kz trivial gw rfl rfl) ?_;refine St.slot 18 (se x.type) rfl rfl ?_;refine g7 ?_;refine St.rV [_,_] [aF (eu x.type)] ?_;exact⟨x.type,true,rfl,hw.2.2.2,(λ_=>iD),((λhb=>by cases hb)),rfl⟩
 focus
  skip
  try simp only[br]at U0
  rw[aA U0]at iD;refine g6 ?_;refine St.cond _ rfl (λpc=> ?_) (λpc=> ?_)
  focus
   skip
   try simp only[br]at pc
   rw[aB pc]at iD;obtain⟨s,hs⟩:=aE (show ctx.length-1-x.index.toNat<ctx.length by omega);refine St.cL eu ctx (x:=s) (ab hs) ?_;refine g9 ?_;refine St.ee (Ev.cZ (k:=(ctx.length-1-x.index.toNat)) (.mk rfl) (.mk rfl) iP gw (by omega) (by omega)) ?_;refine St.ee (Ev.jj (.mk rfl) hs kz trivial gw iY.eq) ?_;refine g7 ?_;refine St.rV [_,_] [aF (eu s)] ?_;exact⟨s,true,rfl,hcw s (ab hs),(λ_=>by rw[iD,bE,hs];rfl),((λhb=>by cases hb)),rfl⟩
  focus
   skip
   try simp only[br]at pc
   rw[aA pc]at iD;refine g6 ?_;refine St.cond _ rfl (λw6=> ?_) (λw6=> ?_)
   focus
    skip
    try simp only[br]at w6
    rw[aB w6]at iD;obtain⟨y,hy⟩:=FB (show x.args.length=1 by omega)
    have h1l:x.args.length=1:=by omega
    have BZ:y∈x.args:=by rw[hy];simp
    have hyg:=hk (di y) (dq BZ)
    rw[aB w6]at hyg;refine St.cL iK x.args (x:=y) BZ ?_;rw[hy,eW,lV,tG]at iD;refine go ?_;refine St.sZ [] mixed (λnp ns=> ?_);refine SW.gd 0 ?_;refine SW.gd 1 ?_;refine SW.gd 2 ?_;refine SW.gd 3 ?_;refine SW.gd 4 ?_;refine SW.dd 5 rfl (λ_=>Ev.clip (.mk rfl) (.mk rfl) (.mk rfl) iP gw rfl rfl) ?_;refine SW.gd 6 ?_;refine SW.dd 7 rfl (λ_=>Ev.gh 2 (.mk rfl) kz trivial gw rfl rfl) ?_;refine SW.slot 39 (se x.type) rfl rfl ?_;refine SW.t1 8 ?_;refine St.gb rfl (.bB rfl) iP gw OI rfl rfl (by simp[Value.cells]) rfl rfl (λb40=> ?_);refine g2 ?_;refine SW.go ?_;refine SW.t1 9 ?_;refine St.yR (.mk rfl) (.mk rfl) iP gw OI acG (OU (p:=λu:Value=>u.oneCell'=true) rfl x.type.av.2) (by omega) (by omega) rfl rfl rfl rfl (λv41 alV=> ?_);refine St.bZ v41 nH (ctx++ [x.type]) (by simp[rows];rfl) (by simp) (λu hu=>(List.mem_append.1 hu).elim (hcw u) (λh=>by rw[List.mem_singleton.1 h];exact hw.2.2.2)) ?_;refine St.Nk eu (xs:=ctx) (x:=x.type) ?_;refine g2 ?_;refine SW.go ?_;refine SW.gd 10 ?_;refine SW.dn ?_;refine g5 ?_;refine St.ee (Ev.cZ (k:=0) (.mk rfl) (.mk rfl) l3 l6 rfl (by omega)) ?_;refine St.ee (Ev.jj (.mk rfl) (show x.args[0]?=some y by rw[hy];rfl) rK trivial l6 iY.eq) ?_;refine go ?_;refine St.fE (ih y BZ (ctx++ [x.type]) v41 (d+1) (by rw[←cV];exact hyg) (zu y BZ) (by rw[←cV];omega)) Ju (.bH rfl rfl) rfl ?_;rintro v48 _ ⟨s,b1,rfl,aeR,Hz,Lz,rfl⟩;refine St.fk ?_;refine g3 ?_;refine St.al (λb7=> ?_);refine g7 ?_;refine St.ee (Ev.gh 2 (.mk rfl) kz trivial gw rfl rfl) ?_;refine St.slot 52 (se x.type) rfl rfl ?_;refine go ?_;refine St.gb rfl (.bH rfl rfl) iP gw OI rfl rfl (by simp[Value.cells]) rfl rfl (λb54=> ?_);refine St.bZ (.slice (some ⟨b54,0,none⟩) 2 2) nH [x.type,s] rfl rfl (OU hw.2.2.2 aeR) ?_;refine St.e8 eu ?_;refine St.ER eu (xs:=[]) (x:=s) ?_;refine St.ER eu (xs:=[s]) (x:=x.type) ?_;refine St.EV [] (.slice (some ⟨b54,0,none⟩) 2 2) rfl [x.type,s] ?_;refine St.ee (Ev.build (bF.bB rfl) (λw=>OQ rfl w)) ?_;refine g8 ?_;refine St.rV [_,_] [aF (eu (.mk [] ⟨(.slice (some ⟨b54,0,none⟩) 2 2),rfl⟩ [x.type,s]))] ?_;exact⟨(.mk [] ⟨(.slice (some ⟨b54,0,none⟩) 2 2),rfl⟩ [x.type,s]),b1,rfl,aR _,(λhb=>by rw[iD,show wK (di y) (ctx.map dU++ [dU x.type])=some (dU s) by rw[←Hz hb,cC];rfl,TX];rfl),(λhb=>by rw[iD,show wK (di y) (ctx.map dU++ [dU x.type])=none by rw[←Lz hb,cC];rfl];rfl),rfl⟩
   focus
    skip
    try simp only[br]at w6
    rw[aA w6]at iD;obtain⟨y,z,hy⟩:=yV (show x.args.length=2 by omega)
    have h2l:x.args.length=2:=by omega
    have BZ:y∈x.args:=by rw[hy];simp
    have hzm:z∈x.args:=by rw[hy];simp
    have hyg:=hk (di y) (dq BZ)
    have hzg:=hk (di z) (dq hzm)
    rw[aA w6]at hyg hzg;refine St.cL iK x.args (x:=y) BZ ?_;refine St.cL iK x.args (x:=z) hzm ?_;rw[hy,eW,eW,lV,tG,Eu]at iD;refine go ?_
 all_goals
  refine g6 ?_;refine St.ee (Ev.cZ (k:=0) (.mk rfl) (.mk rfl) l3 l6 rfl (by omega)) ?_;refine St.ee (Ev.jj (.mk rfl) (show x.args[0]?=some y by rw[hy];rfl) rK trivial l6 iY.eq) ?_;refine go ?_;refine St.fE (ih y BZ ctx v (d+1) hyg (zu y BZ) (by omega)) Ju (.bH rfl rfl) rfl ?_;rintro v63 _ ⟨s1,b1,rfl,aeR,Hz,Lz,rfl⟩;refine St.fk ?_;refine g3 ?_;refine St.al (λb9=> ?_);refine g8 ?_;refine St.ee (Ev.cZ (k:=1) (.mk rfl) (.mk rfl) l3 l6 rfl (by omega)) ?_;refine St.ee (Ev.jj (.mk rfl) (show x.args[1]?=some z by rw[hy];rfl) rK trivial l6 iY.eq) ?_;refine go ?_;refine St.fE (ih z hzm ctx v (d+1) hzg (zu z hzm) (by omega)) Ju (.bH rfl rfl) rfl ?_;rintro v72 _ ⟨s2,b2,rfl,alW,PO,U1,rfl⟩;refine St.fk ?_;refine g3 ?_;refine St.al (λpT=> ?_);refine g6 ?_;refine St.sc s1 ?_;refine St.wf s1.av.1 (λhpw yW=> ?_);refine St.Tz s1.args ?_;refine St.cx [] mixed (λnp ns=> ?_);refine SW.gd 0 ?_;refine SW.gd 1 ?_;refine SW.gd 2 ?_;refine SW.split 77 _ rfl (λPQ=> ?_) (λPQ=> ?_)
  ·refine SW.gf 3 undef np ns rfl rfl rfl (λR hg=>by cases hg) (by kernel_rfl) rfl ?_
   refine SW.slot 78 undef rfl (bf rfl _) ?_;refine SW.gf 4 undef np ns rfl rfl rfl (λR hg=>by cases hg) (by kernel_rfl) rfl ?_;refine SW.slot 79 undef rfl (bf rfl _) ?_;refine SW.dd 5 rfl (λ_=>Ev.eo (.mk rfl) rfl (.mk rfl)) ?_;refine SW.gd 6 ?_;refine SW.slot 81 (.bool true) rfl (congrArg Value.bool rfl) ?_;refine SW.gf 7 undef np ns rfl rfl rfl (λR hg=>by cases hg) (by kernel_rfl) rfl ?_;refine SW.slot 82 undef rfl (bf rfl _) ?_;refine SW.gf 8 undef np ns rfl rfl rfl (λR hg=>by cases hg) (by kernel_rfl) rfl ?_;refine SW.slot 83 undef rfl (bf rfl _) ?_;refine SW.gf 9 undef np ns rfl rfl rfl (λR hg=>by cases hg) (by kernel_rfl) rfl ?_;refine SW.slot 84 undef rfl (bf rfl _) ?_;refine SW.gf 10 undef np ns rfl rfl rfl (λR hg=>by cases hg) (by kernel_rfl) rfl ?_;refine SW.slot 85 undef rfl (bf rfl _) ?_;refine SW.dd 11 rfl (λ_=>Ev.eo (.mk rfl) rfl (.mk rfl)) ?_;refine SW.gd 12 ?_;refine SW.slot 87 (.bool true) rfl (congrArg Value.bool rfl) ?_;refine SW.gf 13 undef np ns rfl rfl rfl (λR hg=>by cases hg) (by kernel_rfl) rfl ?_;refine SW.slot 88 undef rfl (bf rfl _) ?_;refine SW.gf 14 undef np ns rfl rfl rfl (λR hg=>by cases hg) (by kernel_rfl) rfl ?_;refine SW.slot 89 undef rfl (bf rfl _) ?_;refine SW.gf 15 undef np ns rfl rfl rfl (λR hg=>by cases hg) (by kernel_rfl) rfl ?_;refine SW.slot 90 undef rfl (bf rfl _) ?_;refine SW.gf 16 undef np ns rfl rfl rfl (λR hg=>by cases hg) (by kernel_rfl) rfl ?_;refine SW.slot 91 undef rfl (bf rfl _) ?_;refine SW.gf 17 undef np ns rfl rfl rfl (λR hg=>by cases hg) (by kernel_rfl) rfl ?_;refine SW.slot 92 undef rfl (bf rfl _) ?_;refine SW.gf 18 undef np ns rfl rfl rfl (λR hg=>by cases hg) (by kernel_rfl) rfl ?_;refine SW.slot 93 undef rfl (bf rfl _) ?_;refine SW.gf 19 undef np ns rfl rfl rfl (λR hg=>by cases hg) (by kernel_rfl) rfl ?_;refine SW.slot 94 undef rfl (bf rfl _) ?_;refine SW.dd 20 rfl (λ_=>Ev.eo (.mk rfl) rfl (.mk rfl)) ?_;refine SW.dn ?_;refine go ?_;refine St.cond _ rfl (λzw=> ?_) (λzw=> ?_)
   ·skip
    have A7:b1=true→b2=true→∀p q,(dU s1).args=[p,q]→ku p (dU s2)=true→False:=λe1 _ _ _ _ _=>by rw[e1]at PQ;cases PQ
    refine g2 ?_;refine St.ee (Ev.build (bF.nil) (λw=>x8 w)) ?_;refine g6 ?_;refine St.fq nH ?_;refine St.e8 eu ?_;refine St.EV [] (.slice none 0 0) rfl [] ?_;refine St.rV [_,_] [aF (eu ub)] ?_;exact⟨ub,false,rfl,aR _,((λhb=>by cases hb)),(λ_=>by rw[iD];exact qY Hz Lz PO U1 A7),rfl⟩
   ·skip
    cases zw
  ·refine SW.gf 3 _ np ns rfl rfl rfl (λR _=>Ev.move (.mk rfl)) (by kernel_rfl) rfl ?_
   refine SW.slot 78 _ rfl (fD rfl _) ?_;refine SW.gf 4 _ np ns rfl rfl rfl (λR _=>Ev.not (.mk rfl)) (by kernel_rfl) rfl ?_;refine SW.slot 79 _ rfl (fD rfl _) ?_;refine SW.dd 5 rfl (λ_=>Ev.ec (.mk rfl) rfl (.mk rfl)) ?_;refine SW.gd 6 ?_;refine SW.split 81 _ rfl (λPR=> ?_) (λPR=> ?_)
   ·refine SW.gf 7 undef np ns rfl rfl rfl (λR hg=>by cases hg) (by kernel_rfl) rfl ?_
    refine SW.slot 82 undef rfl (bf rfl _) ?_;refine SW.gf 8 undef np ns rfl rfl rfl (λR hg=>by cases hg) (by kernel_rfl) rfl ?_;refine SW.slot 83 undef rfl (bf rfl _) ?_;refine SW.gf 9 undef np ns rfl rfl rfl (λR hg=>by cases hg) (by kernel_rfl) rfl ?_;refine SW.slot 84 undef rfl (bf rfl _) ?_;refine SW.gf 10 undef np ns rfl rfl rfl (λR hg=>by cases hg) (by kernel_rfl) rfl ?_;refine SW.slot 85 undef rfl (bf rfl _) ?_;refine SW.dd 11 rfl (λ_=>Ev.eo (.mk rfl) rfl (.mk rfl)) ?_;refine SW.gd 12 ?_;refine SW.slot 87 (.bool true) rfl (congrArg Value.bool rfl) ?_;refine SW.gf 13 undef np ns rfl rfl rfl (λR hg=>by cases hg) (by kernel_rfl) rfl ?_;refine SW.slot 88 undef rfl (bf rfl _) ?_;refine SW.gf 14 undef np ns rfl rfl rfl (λR hg=>by cases hg) (by kernel_rfl) rfl ?_;refine SW.slot 89 undef rfl (bf rfl _) ?_;refine SW.gf 15 undef np ns rfl rfl rfl (λR hg=>by cases hg) (by kernel_rfl) rfl ?_;refine SW.slot 90 undef rfl (bf rfl _) ?_;refine SW.gf 16 undef np ns rfl rfl rfl (λR hg=>by cases hg) (by kernel_rfl) rfl ?_;refine SW.slot 91 undef rfl (bf rfl _) ?_;refine SW.gf 17 undef np ns rfl rfl rfl (λR hg=>by cases hg) (by kernel_rfl) rfl ?_;refine SW.slot 92 undef rfl (bf rfl _) ?_;refine SW.gf 18 undef np ns rfl rfl rfl (λR hg=>by cases hg) (by kernel_rfl) rfl ?_;refine SW.slot 93 undef rfl (bf rfl _) ?_;refine SW.gf 19 undef np ns rfl rfl rfl (λR hg=>by cases hg) (by kernel_rfl) rfl ?_;refine SW.slot 94 undef rfl (bf rfl _) ?_;refine SW.dd 20 rfl (λ_=>Ev.eo (.mk rfl) rfl (.mk rfl)) ?_;refine SW.dn ?_;refine go ?_;refine St.cond _ rfl (λzw=> ?_) (λzw=> ?_)
    ·skip
     have A7:b1=true→b2=true→∀p q,(dU s1).args=[p,q]→ku p (dU s2)=true→False:=λ_ e2 _ _ _ _=>by rw[e2]at PR;cases PR
     refine g2 ?_;refine St.ee (Ev.build (bF.nil) (λw=>x8 w)) ?_;refine g6 ?_;refine St.fq nH ?_;refine St.e8 eu ?_;refine St.EV [] (.slice none 0 0) rfl [] ?_;refine St.rV [_,_] [aF (eu ub)] ?_;exact⟨ub,false,rfl,aR _,((λhb=>by cases hb)),(λ_=>by rw[iD];exact qY Hz Lz PO U1 A7),rfl⟩
    ·skip
     cases zw
   ·refine SW.gf 7 _ np ns rfl rfl rfl (λR _=>Ev.dB (.mk rfl) lD) (by kernel_rfl) rfl ?_
    refine SW.slot 82 _ rfl (fD rfl _) ?_;refine SW.gf 8 _ np ns rfl rfl rfl (λR _=>Ev.kU (.mk rfl) iP trivial (by rfl)) (by kernel_rfl) rfl ?_;refine SW.slot 83 _ rfl (fD rfl _) ?_;refine SW.gf 9 _ np ns rfl rfl rfl (λR _=>Ev.fm (.mk rfl) iP) (by kernel_rfl) rfl ?_;refine SW.slot 84 _ rfl (fD rfl _) ?_;refine SW.gf 10 _ np ns rfl rfl rfl (λR _=>Ev.ne0) (by kernel_rfl) rfl ?_;refine SW.slot 85 _ rfl (fD rfl _) ?_;refine SW.dd 11 rfl (λ_=>Ev.ec (.mk rfl) rfl (.mk rfl)) ?_;refine SW.gd 12 ?_;refine SW.split 87 _ rfl (λU2=> ?_) (λU2=> ?_)
    ·refine SW.gf 13 undef np ns rfl rfl rfl (λR hg=>by cases hg) (by kernel_rfl) rfl ?_
     refine SW.slot 88 undef rfl (bf rfl _) ?_;refine SW.gf 14 undef np ns rfl rfl rfl (λR hg=>by cases hg) (by kernel_rfl) rfl ?_;refine SW.slot 89 undef rfl (bf rfl _) ?_;refine SW.gf 15 undef np ns rfl rfl rfl (λR hg=>by cases hg) (by kernel_rfl) rfl ?_;refine SW.slot 90 undef rfl (bf rfl _) ?_;refine SW.gf 16 undef np ns rfl rfl rfl (λR hg=>by cases hg) (by kernel_rfl) rfl ?_;refine SW.slot 91 undef rfl (bf rfl _) ?_;refine SW.gf 17 undef np ns rfl rfl rfl (λR hg=>by cases hg) (by kernel_rfl) rfl ?_;refine SW.slot 92 undef rfl (bf rfl _) ?_;refine SW.gf 18 undef np ns rfl rfl rfl (λR hg=>by cases hg) (by kernel_rfl) rfl ?_;refine SW.slot 93 undef rfl (bf rfl _) ?_;refine SW.gf 19 undef np ns rfl rfl rfl (λR hg=>by cases hg) (by kernel_rfl) rfl ?_;refine SW.slot 94 undef rfl (bf rfl _) ?_;refine SW.dd 20 rfl (λ_=>Ev.eo (.mk rfl) rfl (.mk rfl)) ?_;refine SW.dn ?_;refine go ?_;refine St.cond _ rfl (λzw=> ?_) (λzw=> ?_)
     ·skip
      simp only[br]at U2
      have A7:b1=true→b2=true→∀p q,(dU s1).args=[p,q]→ku p (dU s2)=true→False:=λ_ _ p q e _=>by rw[jn]at e;have e3:=congrArg List.length e;rw[aQ]at e3;exact U2 (by rw[e3];rfl)
      refine g2 ?_;refine St.ee (Ev.build (bF.nil) (λw=>x8 w)) ?_;refine g6 ?_;refine St.fq nH ?_;refine St.e8 eu ?_;refine St.EV [] (.slice none 0 0) rfl [] ?_;refine St.rV [_,_] [aF (eu ub)] ?_;exact⟨ub,false,rfl,aR _,((λhb=>by cases hb)),(λ_=>by rw[iD];exact qY Hz Lz PO U1 A7),rfl⟩
     ·skip
      cases zw
    ·have ai1:=U2
     simp only[br]at ai1
     have Y0:s1.args.length=2:=by omega
     obtain⟨p,q,Ws⟩:=yV Y0;refine SW.gf 13 _ np ns rfl rfl rfl (λR _=>Ev.dB (.mk rfl) lD) (by kernel_rfl) rfl ?_;refine SW.slot 88 _ rfl (fD rfl _) ?_;refine SW.gf 14 _ np ns rfl rfl rfl (λR _=>Ev.kU (.mk rfl) iP trivial (by rfl)) (by kernel_rfl) rfl ?_;refine SW.slot 89 _ rfl (fD rfl _) ?_;refine SW.gf 15 _ np ns rfl rfl rfl (λR _=>Ev.cZ (k:=0) (.mk rfl) (.mk rfl) iP gw rfl (by omega)) (by kernel_rfl) rfl ?_;refine SW.slot 90 _ rfl (fD rfl _) ?_;refine SW.gf 16 _ np ns rfl rfl rfl (λR _=>Ev.jj (.mk rfl) (Ly Ws) kz trivial gw iY.eq) (by kernel_rfl) rfl ?_;refine SW.slot 91 _ rfl (fD rfl _) ?_;refine SW.gf 17 _ np ns rfl rfl rfl (λR _=>Ev.Xh (.mk rfl) kz trivial (by exact gw)) (by kernel_rfl) rfl ?_;refine SW.slot 92 _ rfl (fD rfl _) ?_;refine SW.gf 18 _ np ns rfl rfl rfl (λR _=>Ev.call (Lv (s1.args.headD ub) s2) WN (.bH rfl rfl)) (by kernel_rfl) rfl ?_;refine SW.slot 93 _ rfl (fD rfl _) ?_;refine SW.gf 19 _ np ns rfl rfl rfl (λR _=>Ev.not (.mk rfl)) (by kernel_rfl) rfl ?_;refine SW.slot 94 _ rfl (fD rfl _) ?_;refine SW.dd 20 rfl (λ_=>Ev.ec (.mk rfl) rfl (.mk rfl)) ?_;refine SW.dn ?_;refine go ?_;refine St.cond _ rfl (λzw=> ?_) (λzw=> ?_)
     ·skip
      simp only[br]at zw
      have A7:b1=true→b2=true→∀p q,(dU s1).args=[p,q]→ku p (dU s2)=true→False:=λ_ _ p1 q1 e hs=>by rw[jn,Ws]at e;cases e;rw[Ws]at zw;exact absurd (zw.symm.trans hs) (by decide)
      refine g2 ?_;refine St.ee (Ev.build (bF.nil) (λw=>x8 w)) ?_;refine g6 ?_;refine St.fq nH ?_;refine St.e8 eu ?_;refine St.EV [] (.slice none 0 0) rfl [] ?_;refine St.rV [_,_] [aF (eu ub)] ?_;exact⟨ub,false,rfl,aR _,((λhb=>by cases hb)),(λ_=>by rw[iD];exact qY Hz Lz PO U1 A7),rfl⟩
     ·skip
      simp only[br]at zw PQ PR
      rw[Ws]at zw;refine St.cL eu s1.args (x:=q) (by rw[Ws];simp) ?_;refine g6 ?_;refine St.ee (Ev.cZ (k:=1) (.mk rfl) (.mk rfl) iP gw rfl (by omega)) ?_;refine St.ee (Ev.jj (.mk rfl) (show s1.args[1]?=some q by rw[Ws];rfl) kz trivial gw iY.eq) ?_;refine g5 ?_;refine St.rV [_,_] [aF (eu q)] ?_;exact⟨q,true,rfl,hpw q (by rw[Ws];simp),(λ_=>by rw[iD,Hz PQ,PO PR];exact Lt (by rw[jn,Ws];rfl) zw),((λhb=>by cases hb)),rfl⟩
theorem M0 {t:lM}(h:(lO t 1 0 0).2.1≠0):pk t=(lO t 1 0 0).2:=by unfold pk;rw[aB h]
theorem I0 {t:lM}(h:¬(lO t 1 0 0).2.1≠0)(h2:wK t []=none):pk t=(12,-1):=by unfold pk;rw[aA h,h2];rfl
theorem PS {t:lM}{s:iy}(h:¬(lO t 1 0 0).2.1≠0)(h2:wK t []=some s):pk t=(0,0):=by unfold pk;rw[aA h,h2,aA (by simp)]
theorem tH (x:dM)(hw:pI.wf x):dA Tryz.prog 82 #[vm x] [iK x] (fv (pk (di x))):=by
 refine dA.na (args:=[vm x]) 25 Tryz.func82 rfl Tryz.ntmps82 rfl (λc=> ?_);refine g2 ?_;refine St.cz (.mk rfl) rfl (λb1=> ?_);refine St.al (λb2=> ?_);refine g4 ?_;refine St.al (λb3=> ?_);refine St.cO (.mk rfl) (.mk rfl) eJ rfl (by rfl) ?_;refine St.rI b3 (L':=[iv ((0:Nat):Int)]) rfl ?_;refine g4 ?_;refine St.al (λb4=> ?_);refine g4 ?_;refine St.ee (Ev.func (.bH rfl rfl)) ?_;refine St.cO (.mk rfl) (.mk rfl) acH rfl (by rfl) ?_;refine g4 ?_;refine St.dup (iK x) ?_;refine g3 ?_;refine St.j5 (AH b3 b4 225 x 1 0 0 hw (by omega) (by omega) (by omega)) Jt (.mk rfl) (.eZ rfl rfl rfl) rfl ?_;rintro v11 _ ⟨rfl,rfl⟩;refine St.lZ ?_;refine St.al (λb5=> ?_);refine g10 ?_;refine St.cond _ rfl (λDp=> ?_) (λDp=> ?_)
 ·skip
  have hb:(lO (di x) 1 0 0).2.1≠0:=by simpa using Dp
  refine g8 ?_;refine St.rV [_] [] ?_;exact congrArg fv (M0 hb).symm
 ·skip
  have hb:¬(lO (di x) 1 0 0).2.1≠0:=by simpa using Dp
  refine St.fq nH ?_;refine St.e8 eu ?_;refine g6 ?_;refine St.fE (Hy x [] (.slice none 0 0) 1 (PI _ _ _ _ (iR.1 hb)) hw (aR _)) Ju (.bH rfl rfl) rfl ?_;rintro v18 _ ⟨s,b,rfl,iD,ei,hsf,rfl⟩;refine St.fk ?_;refine g3 ?_;refine St.al (λb6=> ?_);refine g10 ?_;refine St.cq (λyU=> ?_) (λyU=> ?_)
  ·refine g2 ?_
   refine St.ee (Ev.build (bF.bH rfl rfl) (λw=>fB rfl rfl w)) ?_;refine g5 ?_;refine St.rV [_] [] ?_;exact congrArg fv (I0 hb (hsf (by simpa using yU))).symm
  ·refine g4 ?_
   refine St.ee (Ev.build (bF.nil) (λw=>fL w)) ?_;refine g4 ?_;refine St.rV [_] [] ?_;exact congrArg fv (PS hb (ei (by simpa using yU))).symm
theorem uk:∀(l:List dz) (U:List Nat),(mj U l).length=U.length+l.length
 | [],U=>rfl
 |t::l,U=>by rw[mj,uk l];simp;omega
theorem tJ (l:List dz):(AB l).length=l.length:=by unfold AB;rw[uk];simp
theorem oy:∀(l m:List dz) (U:List Nat),mj U (l++m)=mj (mj U l) m
 | [],_,_=>rfl
 |t::l,m,U=>by rw[r7,mj,mj,oy l m]
theorem Ba:∀(l:List dz) (U:List Nat) (i:Nat),i<U.length→(mj U l)[i]?=U[i]?
 | [],_,_,_=>rfl
 |t::l,U,i,h=>by rw[mj,Ba l _ i (by simp;omega),pd h]
theorem PT (l:List dz)(t:dz):AB (l++ [t])=AB l++ [Nr (AB l) l.length t.2]:=by
 unfold AB;rw[oy,mj,mj,uk];simp
theorem yX (l:List dz)(k i:Nat)(h:i<k)(hk:k≤l.length):(AB (l.take k)).getD i 0=(AB l).getD i 0:=by
 have e:AB l=mj (AB (l.take k)) (l.drop k):=by unfold AB;rw[←oy,sO]
 rw[e,ak,ak,Ba _ _ _ (by rw[tJ,e9];omega)]
theorem PU {l:List dz}{k:Nat}{t:dz}(h:l[k]?=some t):(AB l).getD k 0=Nr (AB (l.take k)) k t.2:=by
 have hk:=ae h
 rw[←yX l (k+1) k (uH _) hk,ai h,PT]
 have e:(l.take k).length=k:=by rw[e9];omega
 rw[ak,mW (by rw[tJ,e];exact aW _),tJ,e,fJ];rfl
theorem KD (g:Int→Nat)(j:Nat):∀(ps:List Int) (u:Nat),(ps.foldl (λu p=>u|||g p) u).testBit j=(u.testBit j||ps.any λp=>(g p).testBit j)
 | [],u=>by simp
 |p::ps,u=>by rw[List.foldl_cons,KD g j ps,Nat.testBit_or,List.any_cons,Bool.or_assoc]
theorem PV (U:List Nat)(i:Nat)(ps:List Int)(j:Nat):(Nr U i ps).testBit j=(decide (i=j)||ps.any λp=>(U.getD p.toNat 0).testBit j):=by
 unfold Nr;rw[KD,Nat.testBit_two_pow]
structure gy (l:List dz):Prop where
 len:l.length≤60
 par:∀(i:Nat) (t:dz),l[i]?=some t→∀p∈t.2,0≤p∧p<i
theorem KE {i:Int}:∀{ps:List Int} {last:Int},(qo i last ps).1=0→qo i last ps=(0,0)∧∀p∈ps,0≤p∧p<i
 | [],_,_=>⟨rfl,λp h=>by cases h⟩
 |p::ps,last,h=>by
  rw[qo]at h⊢
  by_cases h1:p<0∨i≤p
  ·rw[aB h1]at h;exact absurd h (by simp)
  ·rw[aA h1]at h⊢
   by_cases h2:p≤last
   ·rw[aB h2]at h;exact absurd h (by simp)
   ·rw[aA h2]at h⊢
    obtain⟨e,k⟩:=KE h;refine⟨e,λq hq=> ?_⟩
    rcases cD.1 hq with rfl|hq
    ·omega
    ·exact k q hq
theorem Bb:∀{l:List dz} {known:List bI} {i:Nat},(kX known i l).1=0→kX known i l=(0,0)∧∀(k:Nat) (t:dz),l[k]?=some t→∀p∈t.2,0≤p∧p<(i+k:Nat)
 | [],_,_,_=>⟨rfl,λk t h=>by simp at h⟩
 |t::l,known,i,h=>by
  rw[kX]at h⊢
  by_cases h1:isName t.1=false
  ·rw[aB h1]at h;exact absurd h (by simp)
  rw[aA h1]at h⊢
  by_cases h2:t.1∈known
  ·rw[aB h2]at h;exact absurd h (by simp)
  rw[aA h2]at h⊢
  by_cases h3:decide (i=0)≠decide (t.2.length=0)
  ·rw[aB h3]at h;exact absurd h (by simp)
  rw[aA h3]at h⊢
  by_cases h4:(qo i (-1) t.2).1≠0
  ·rw[aB h4]at h;exact absurd h h4
  rw[aA h4]at h⊢;obtain⟨e,k⟩:=Bb h;refine⟨e,λj u hj=> ?_⟩
  cases j with
  |zero=>
   simp only[List.getElem?_cons_zero,Option.some.injEq]at hj
   subst hj;intro p hp
   have:=(KE (iR.1 h4)).2 p hp
   omega
  |succ j=>
   rw[Dw]at hj;intro p hp
   have:=k j u hj p hp
   omega
theorem I1 {l:List dz}(h:(AA l).1=0):AA l=(0,0)∧0<l.length∧gy l:=by
 unfold AA at h⊢
 by_cases h1:l.length=0∨60<l.length
 ·rw[aB h1]at h;exact absurd h (by simp)
 ·rw[aA h1]at h⊢
  obtain⟨e,k⟩:=Bb h;refine⟨e,by omega,by omega,λi t hi p hp=> ?_⟩
  have:=k i t hi p hp
  omega
section
variable {l:List dz}
theorem U3 {i:Nat}(hi:l.length≤i)(j:Nat):fw l i j=false:=by
 unfold fw;rw[ak,fY (by rw[tJ];exact hi)];exact Nat.zero_testBit _
theorem sub_lt {i j:Nat}(h:fw l i j=true):i<l.length:=by
 rcases e7 i l.length with k|k
 ·exact k
 ·rw[U3 k]at h;cases h
theorem q7 (hl:gy l){i:Nat}{t:dz}(hi:l[i]?=some t)(j:Nat):fw l i j=(decide (i=j)||t.2.any λp=>fw l p.toNat j):=by
 show((AB l).getD i 0).testBit j=_
 rw[PU hi,PV]
 congr 1
 rw[uF,xN,xN]
 have e:∀p∈t.2,(AB (l.take i)).getD p.toNat 0=(AB l).getD p.toNat 0:=λp hp=>by
  have:=hl.par i t hi p hp
  exact yX l i _ (by omega) (Nat.le_of_lt (ae hi))
 constructor
 ·rintro ⟨p,hp,h⟩;rw[e p hp]at h;exact⟨p,hp,h⟩
 ·rintro ⟨p,hp,h⟩;exact⟨p,hp,by rw[e p hp];exact h⟩
theorem sub_self (hl:gy l){i:Nat}(hi:i<l.length):fw l i i=true:=by
 rw[q7 hl (bO hi)];simp
theorem um (hl:gy l){i j:Nat}(h:fw l i j=true):i=j∨∃t p,l[i]?=some t∧p∈t.2∧0≤p∧p<i∧fw l p.toNat j=true:=by
 have hi:=sub_lt h
 rw[q7 hl (bO hi)]at h
 simp only[Bool.or_eq_true,decide_eq_true_eq,List.any_eq_true]at h
 rcases h with h|⟨p,hp,h⟩
 ·exact .inl h
 ·have:=hl.par i _ (bO hi) p hp
  exact .inr ⟨_,p,bO hi,hp,this.1,this.2,h⟩
theorem sub_le (hl:gy l):∀{i j:Nat},fw l i j=true→j≤i:=by
 intro i
 induction i using Nat.strongRecOn with
 |ind i ih=>
  intro j h
  rcases um hl h with rfl|⟨t,p,_,_,h0,h1,h2⟩
  ·exact aW _
  ·have:=ih p.toNat (by omega) h2
   omega
theorem uo (hl:gy l):∀{i j k:Nat},fw l i j=true→fw l j k=true→fw l i k=true:=by
 intro i
 induction i using Nat.strongRecOn with
 |ind i ih=>
  intro j k h1 h2
  rcases um hl h1 with rfl|⟨t,p,ht,hp,h0,iX,h3⟩
  ·exact h2
  ·have:=ih p.toNat (by omega) h3 h2
   rw[q7 hl ht]
   simp only[Bool.or_eq_true,List.any_eq_true]
   exact .inr ⟨p,hp,this⟩
theorem PW (hl:gy l):∀{i j:Nat},fw l i j=true→i≠j→∃z t,fw l i z=true∧l[z]?=some t∧(j:Int)∈t.2∧j<z:=by
 intro i
 induction i using Nat.strongRecOn with
 |ind i ih=>
  intro j h fP
  rcases um hl h with e|⟨t,p,ht,hp,h0,iX,h3⟩
  ·exact absurd e fP
  ·by_cases e:p.toNat=j
   ·have e':p=(j:Int):=by omega
    subst e';exact⟨i,t,sub_self hl (ae ht),ht,hp,by omega⟩
   ·obtain⟨z,u,h4,h5,h6,h7⟩:=ih p.toNat (by omega) h3 e
    refine⟨z,u,?_,h5,h6,h7⟩;rw[q7 hl ht]
    simp only[Bool.or_eq_true,List.any_eq_true]
    exact .inr ⟨p,hp,h4⟩
structure yY (l:List dz)(a i:Nat)(M:List Bool):Prop where
 len:M.length=l.length
 snd:∀x,M[x]?=some true→fw l a x=true
 top:M[a]?=some true
 cls:∀(y:Nat) (t:dz),i<y→M[y]?=some true→l[y]?=some t→∀p∈t.2,M[p.toNat]?=some true
theorem yY.start (hl:gy l){a:Nat}(ha:a<l.length):yY l a a ((List.replicate l.length false).set a true):=by
 refine⟨by simp,λx hx=> ?_,by rw[List.getElem?_set_self (by simp;exact ha)],λy t hy hm _=> ?_⟩
 ·by_cases e:a=x
  ·subst e;exact sub_self hl ha
  ·rw[gX e,r9]at hx
   split at hx<;>simp at hx
 ·rw[gX (by omega),r9]at hm
  split at hm<;>simp at hm
theorem yY.done (hl:gy l){a b:Nat}{M:List Bool}(h:yY l a b M):∀(n y:Nat),a-y=n→b≤y→fw l a y=true→M[y]?=some true:=by
 intro n
 induction n using Nat.strongRecOn with
 |ind n ih=>
  intro y hn hy hs
  by_cases e:a=y
  ·subst e;exact h.top
  ·obtain⟨z,t,h1,h2,h3,h4⟩:=PW hl hs e
   have hz:=sub_le hl h1
   have:=ih (a-z) (by omega) z rfl (by omega) h1
   have:=h.cls z t (by omega) this h2 _ h3
   simpa using this
theorem yY.fin (hl:gy l){a b:Nat}{M:List Bool}(h:yY l a b M)(hb:b<l.length):M[b]?=some (fw l a b):=by
 cases e:fw l a b with
 |true=>exact h.done hl _ b rfl (aW _) e
 |false=>
  have iX:b<M.length:=by rw[h.len];exact hb
  rw[bO iX]
  cases e2:M[b]with
  |false=>rfl
  |true=>
   have:=h.snd b (by rw[bO iX,e2])
   rw[e]at this;cases this
theorem yY.skip {a i:Nat}{M:List Bool}(h:yY l a (i+1) M)(hm:M[i+1]?≠some true):yY l a i M:=
 ⟨h.len,h.snd,h.top,λy t hy hmy=>by
  by_cases e:y=i+1
  ·subst e;exact absurd hmy hm
  ·exact h.cls y t (by omega) hmy⟩
structure PX (l:List dz)(a i:Nat)(t:dz)(k:Nat)(M:List Bool):Prop where
 ok:yY l a i M
 at_:M[i]?=some true
 upto:∀p∈t.2.take k,M[p.toNat]?=some true
theorem PX.step (hl:gy l){a i k:Nat}{t:dz}{M:List Bool}{p:Int}(h:PX l a i t k M)(hi:l[i]?=some t)(hp:t.2[k]?=some p):PX l a i t (k+1) (M.set p.toNat true):=by
 have hpm:=hl.par i t hi p (ab hp)
 have qQ:=ae hi
 have mono:∀x,M[x]?=some true→(M.set p.toNat true)[x]?=some true:=λx hx=>by
  by_cases e:p.toNat=x
  ·subst e;rw[eP (ae hx)]
  ·rw[gX e];exact hx
 refine⟨⟨by rw[cG];exact h.ok.len,λx hx=> ?_,mono _ h.ok.top,λy u hy hm hu q hq=> ?_⟩,mono _ h.at_,λq hq=> ?_⟩
 ·by_cases e:p.toNat=x
  ·subst e
   refine uo hl (h.ok.snd i h.at_) ?_;rw[q7 hl hi]
   simp only[Bool.or_eq_true,List.any_eq_true]
   exact .inr ⟨p,ab hp,sub_self hl (by omega)⟩
  ·rw[gX e]at hx;exact h.ok.snd x hx
 ·rw[gX (by omega)]at hm
  exact mono _ (h.ok.cls y u hy hm hu q hq)
 ·rw[ai hp]at hq
  rcases ba.1 hq with hq|hq
  ·exact mono _ (h.upto q hq)
  ·rw[bJ.1 hq,eP (by rw[h.ok.len];omega)]
theorem PX.done {a i:Nat}{t:dz}{M:List Bool}(h:PX l a (i+1) t t.2.length M)(hi:l[i+1]?=some t):yY l a i M:=
 ⟨h.ok.len,h.ok.snd,h.ok.top,λy u hy hm hu q hq=>by
  by_cases e:y=i+1
  ·subst e
   rw[hi]at hu;cases hu
   exact h.upto q (by rw[jy];exact hq)
  ·exact h.ok.cls y u (by omega) hm hu q hq⟩
end
theorem FD {l:List dz}{k:Nat}{t:dz}(ht:l[k]?=some t)(known:List bI):kX known k (l.drop k)=if isName t.1=false then(10,(k:Int))else if t.1∈known then(7,(k:Int))else if decide (k=0)≠decide (t.2.length=0)then(5,(k:Int))
 else if(qo k (-1) t.2).1≠0 then qo k (-1) t.2 else kX (known++ [t.1]) (k+1) (l.drop (k+1)):=by rw[an ht,kX]
theorem I3 {l:List dz}{k:Nat}(h:l.length≤k)(known:List bI):kX known k (l.drop k)=(0,0):=by rw[fX h,kX]
theorem M1 {i z p:Int}{ps:List Int}{q:Nat}(hp:ps[q]?=some p):qo i z (ps.drop q)=if p<0∨i≤p then(3,i)else if p≤z then(13,i)else qo i p (ps.drop (q+1)):=by rw[an hp,qo]
theorem PY {i z:Int}{ps:List Int}{q:Nat}(h:ps.length≤q):qo i z (ps.drop q)=(0,0):=by rw[fX h,qo]
def M3 (m:List (bI×Value))(known:List bI):Prop:=∀s,(ph m s).isSome=decide (s∈known)
theorem M3.nil:M3 [] []:=λs=>by simp[ph]
theorem M3.snoc {m:List (bI×Value)}{known:List bI}(h:M3 m known)(s:bI)(v:Value):M3 (kB m s v) (known++ [s]):=λs'=>by
 rw[EI]
 by_cases e:s'=s
 ·subst e;simp
 ·rw[aA e,h s',decide_eq_decide];simp[e]
theorem fM {α β:Type}(f:α→β){l:List α}{k:Nat}{x:α}(h:l[k]?=some x):(l.take (k+1)).map f=(l.take k).map f++ [f x]:=by rw[ai h,cC];rfl
theorem I4 (u:Value)(ts:List xu):dA Tryz.prog 79 #[u] [sl qS u ts,aI xy ts] (fv (AA (ts.map cS))):=by
 refine dA.mZ (args:=[u]) 82 Tryz.func79 rfl Tryz.ntmps79 rfl (λc=> ?_);refine go ?_;refine St.wf u (λWt Yh=> ?_);refine go ?_;refine St.al (λb2=> ?_);refine g9 ?_;refine St.gf _ rfl rfl (λhg=>Ev.move (.mk rfl)) rfl ?_;refine St.gf _ rfl rfl (λhg=>Ev.fm (aZ.gv rfl hg) yD) rfl ?_;refine St.gf _ rfl rfl (λhg=>Ev.gtr (aZ.gv rfl hg) (.mk rfl)) rfl ?_;refine g3 ?_;refine St.cq (λh18=> ?_) (λh18=> ?_)
 ·have hf:AA (ts.map cS)=(2,-1):=by unfold AA;rw[aB (by rw[aQ];omega)]
  refine g2 ?_;refine St.ee (Ev.call (bq 2 (-1)) yI (.bH rfl rfl)) ?_;refine g5 ?_;refine St.rV [_] [] ?_;exact congrArg fv hf.symm
 ·have hf:AA (ts.map cS)=kX [] 0 (ts.map cS):=by unfold AA;rw[aA (by rw[aQ];omega)]
  refine g4 ?_;refine St.makeMap mkStr rfl (λYi=> ?_);refine g12 ?_;refine St.vo (ι:=Nat) (κ:=List (bI×Value)) (λk m T=>(23,iv k)::T) (λk m=>[aX Yi (dh mkStr m),aX b2 (.cells [iv 0,iv 0].toArray 35 (0,0)),aF (sl qS u ts),aF (aI xy ts)]) (λk m=>k≤ts.length∧AA (ts.map cS)=kX ((ts.take k).map xu.name) k ((ts.map cS).drop k)∧M3 m ((ts.take k).map xu.name)) (λk m=>ts.length-k) 0 [] (aC.cons 2 rfl (aC.cons 3 rfl (aC.cons 21 rfl (aC.cons 22 rfl aC.nil)))) ⟨aR _,hf,M3.nil⟩ ?_;rintro k m ⟨hk,hv,wT⟩;refine g6 ?_;refine St.cq (λN1=> ?_) (λN1=> ?_)
  ·obtain⟨t,ht⟩:=aE (show k<ts.length by omega)
   have rz:=ab ht
   have ei:=FD (l:=ts.map cS) (k:=k) (t:=cS t) (by rw[bE,ht];rfl) ((ts.take k).map xu.name)
   rw[←hv]at ei
   have KC:t.name.length≤9223372036854775807:=by have:=Wt t rz;simp only[qS,xq]at this;omega
   refine St.cL xy ts (x:=t) rz ?_;refine St.eT (sl aL t.pv.1 t.parents) [xy t] (λρ h=>h _ (aU ..)) ?_;refine St.wf t.pv.1 (λhpw yW=> ?_);refine g8 ?_;refine St.ee (Ev.jj (.mk rfl) ht Tryz.underlying156 trivial Js iY.eq) ?_;refine St.al (λb5=> ?_);refine g9 ?_;refine St.ee (Ev.call (qX t.name KC) TV (.bB rfl)) ?_;refine g3 ?_;refine St.cq (λuq=> ?_) (λuq=> ?_)
   ·rw[aB (show isName (cS t).1=false from(by simpa using uq:isName t.name=false))]at ei
    refine g3 ?_;refine St.ee (Ev.call (bq 10 k) yI (.bH rfl rfl)) ?_;refine g10 ?_;refine St.rV [_] [] ?_;exact congrArg fv ei.symm
   ·rw[aA (show ¬isName (cS t).1=false from(by simpa using uq:¬isName t.name=false))]at ei
    refine g8 ?_;refine St.ee (Ev.sY mkStr (k:=t.name) (.mk rfl) (.mk rfl) pL (by exact sK) jA) ?_;refine g3 ?_;refine St.slot 40 (.bool (decide (t.name∈(ts.take k).map xu.name))) rfl (congrArg Value.bool (wT t.name)) ?_;refine g9 ?_;refine St.cq (λFE=> ?_) (λFE=> ?_)
    ·rw[aB (show(cS t).1∈(ts.take k).map xu.name from FE)]at ei
     refine g3 ?_;refine St.ee (Ev.call (bq 7 k) yI (.bH rfl rfl)) ?_;refine g10 ?_;refine St.rV [_] [] ?_;exact congrArg fv ei.symm
    ·rw[aA (show ¬(cS t).1∈(ts.take k).map xu.name from FE)]at ei
     refine g8 ?_;refine St.mapUpdate mkStr (k:=t.name) (.mk rfl) (.mk rfl) (.mk rfl) pL (by exact sK) ?_;refine g11 ?_;refine St.ee (Ev.JS (.mk rfl) (.mk rfl) Eb) ?_;refine g2 ?_;refine St.cond _ rfl (λHv=> ?_) (λHv=> ?_)
     ·skip
      have Yj:decide (k=0)≠decide (t.parents.length=0):=by simpa using Hv
      rw[aB (show decide (k=0)≠decide ((cS t).2.length=0)from Yj)]at ei;refine g3 ?_;refine St.ee (Ev.call (bq 5 k) yI (.bH rfl rfl)) ?_;refine g10 ?_;refine St.rV [_] [] ?_;exact congrArg fv ei.symm
     ·skip
      have Yj:¬decide (k=0)≠decide (t.parents.length=0):=by simpa using Hv
      rw[aA (show ¬decide (k=0)≠decide ((cS t).2.length=0)from Yj)]at ei;refine g16 ?_;refine St.vo (ι:=Nat) (κ:=Int) (λq z T=>(60,iv q)::(8,iv z)::T) (λq z=>[aX Yi (dh mkStr (kB m t.name (iv k))),aX b2 (.cells [iv 0,iv 0].toArray 35 (0,0)),aF (sl aL t.pv.1 t.parents),aF (sl qS u ts),aF (aI xy ts)]) (λq z=>q≤t.parents.length∧qo k (-1) (cS t).2=qo k z (t.parents.drop q)) (λq z=>t.parents.length-q) 0 (-1) (aC.cons 2 rfl (aC.cons 3 rfl (aC.cons 4 rfl (aC.cons 21 rfl (aC.cons 22 rfl (aC.cons 23 rfl (aC.cons 58 rfl (aC.cons 59 rfl aC.nil)))))))) ⟨aR _,rfl⟩ ?_;rintro q z ⟨hq,M4⟩;refine g6 ?_;refine St.cq (λh61=> ?_) (λh61=> ?_)
      ·obtain⟨p,hp⟩:=aE (show q<t.parents.length by omega)
       have I5:=M1 (i:=k) (z:=z) hp
       refine g17 ?_;refine St.gf _ rfl rfl (λhg=>Ev.move (.mk rfl)) rfl ?_;refine St.gf _ rfl rfl (λhg=>Ev.move (.mk rfl)) rfl ?_;refine St.gf _ rfl rfl (λhg=>Ev.geq (aZ.gv rfl hg) (aZ.gv rfl hg)) rfl ?_;refine g3 ?_;refine St.cq (λPL=> ?_) (λPL=> ?_)
       ·rw[aB (by omega)]at I5
        rw[M4,I5,aB (by show(3:Int)≠0;decide)]at ei;refine g3 ?_;refine St.ee (Ev.call (bq 3 k) yI (.bH rfl rfl)) ?_;refine g14 ?_;refine St.rV [_] [] ?_;exact congrArg fv ei.symm
       ·rw[aA (by omega)]at I5
        refine g10 ?_;refine St.cq (λh75=> ?_) (λh75=> ?_)
        ·rw[aB (by omega)]at I5
         rw[M4,I5,aB (by show(13:Int)≠0;decide)]at ei;refine g3 ?_;refine St.ee (Ev.call (bq 13 k) yI (.bH rfl rfl)) ?_;refine g14 ?_;refine St.rV [_] [] ?_;exact congrArg fv ei.symm
        ·rw[aA (by omega)]at I5
         refine g13 ?_;refine St.wo (q+1) p ⟨by omega,by rw[M4,I5]⟩
      ·rw[PY (by omega)]at M4
       rw[aA (by rw[M4];decide)]at ei;refine g11 ?_;refine St.wo (k+1) (kB m t.name (iv k)) ⟨by omega,by rw[ei,fM xu.name ht];rfl,by rw[fM xu.name ht];exact wT.snoc _ _⟩
  ·rw[I3 (by rw[aQ];omega)]at hv
   refine g7 ?_;refine St.ee (Ev.build (bF.nil) (λw=>fL w)) ?_;refine g4 ?_;refine St.rV [_] [] ?_;exact congrArg fv hv.symm
def KF (T:List dz)(i:Nat):Nat:=(AB T).getD i 0
def Yk (T:List dz)(k:Nat)(ps:List Int):Nat:=ps.foldl (λu p=>u|||KF T p.toNat) (2^k)
theorem PZ (T:List dz)(k:Nat)(ps:List Int)(p:Int):Yk T k (ps++ [p])=Yk T k ps|||KF T p.toNat:=by unfold Yk;rw[An];rfl
theorem Pa {T:List dz}(hT:gy T){k:Nat}{t:dz}(h:T[k]?=some t):KF T k=Yk T k t.2:=by
 have e:∀(ps:List Int) (u:Nat),(∀p∈ps,0≤p∧p<k)→ps.foldl (λu p=>u|||(AB (T.take k)).getD p.toNat 0) u=ps.foldl (λu p=>u|||KF T p.toNat) u:=by
  intro ps
  induction ps with
  |nil=>intro u _;rfl
  |cons p ps ih=>
   intro u hp
   have Pb:=hp p (aU ..)
   rw[List.foldl_cons,List.foldl_cons,yX T k p.toNat (by omega) (Nat.le_of_lt (ae h))]
   exact ih _ λq hq=>hp q (cE _ hq)
 show(AB T).getD k 0=_
 rw[PU h];exact e t.2 _ (hT.par k t h)
theorem Yl {T:List dz}(hT:gy T):∀k:Nat,KF T k<2^(k+1):=by
 intro k
 induction k using Nat.strongRecOn with
 |ind k ih=>
  rcases e7 k T.length with h|h
  ·rw[Pa hT (bO h)]
   have hp:=hT.par k _ (bO h)
   generalize (T[k]).2=ps at hp
   have e:∀(ps:List Int) (u:Nat),(∀p∈ps,0≤p∧p<k)→u<2^(k+1)→ps.foldl (λu p=>u|||KF T p.toNat) u<2^(k+1):=by
    intro ps
    induction ps with
    |nil=>intro u _ h;exact h
    |cons p ps Ym=>
     intro u hp hu
     have Pb:=hp p (aU ..)
     refine Ym _ (λq hq=>hp q (cE _ hq)) (Nat.or_lt_two_pow hu ?_);exact eK (ih p.toNat (by omega)) (xQ (by omega) (by omega))
   exact e ps _ hp (xR (by omega) (by omega))
  ·show(AB T).getD k 0<_
   rw[ak,fY (by rw[tJ];exact h)];exact Nat.pow_pos (by omega)
theorem ur {T:List dz}(hT:gy T){k:Nat}(hk:k<60):KF T k<18446744073709551616:=
 eK (Yl hT k) (show 2^(k+1)≤2^64 from xQ (by decide) (by omega))
theorem Pc {T:List dz}(hT:gy T){k:Nat}(hk:k<60):∀{ps:List Int},(∀p∈ps,0≤p∧p<k)→Yk T k ps<18446744073709551616:=by
 have e:∀(ps:List Int) (u:Nat),(∀p∈ps,0≤p∧p<k)→u<18446744073709551616→ps.foldl (λu p=>u|||KF T p.toNat) u<18446744073709551616:=by
  intro ps
  induction ps with
  |nil=>intro u _ h;exact h
  |cons p ps ih=>
   intro u hp hu
   have Pb:=hp p (aU ..)
   exact ih _ (λq hq=>hp q (cE _ hq)) (Nat.or_lt_two_pow (n:=64) hu (ur hT (by omega)))
 intro ps hp;exact e ps _ hp (show 2^k<2^64 from xR (by decide) (by omega))
def kJ (T:List dz)(k j:Nat):Nat:=(List.range k).foldl (λa i=>if fw T i j then a|||2^i else a) 0
theorem qZ (T:List dz)(k j:Nat):kJ T (k+1) j=if fw T k j then kJ T k j|||2^k else kJ T k j:=by
 unfold kJ;rw[vc,An];rfl
theorem KG (T:List dz)(j:Nat):∀k:Nat,kJ T k j<2^k
 |0=>by show(0:Nat)<2^0;omega
 |k+1=>by
  have ih:=eK (KG T j k) (xQ (n:=2) (by omega) (Nat.le_succ k))
  rw[qZ]
  split
  ·exact Nat.or_lt_two_pow ih (xR (by omega) (by omega))
  ·exact ih
theorem mw (T:List dz)(j:Nat){k:Nat}(hk:k≤60):kJ T k j<18446744073709551616:=
 eK (KG T j k) (show 2^k≤2^64 from xQ (by decide) (by omega))
theorem q8 (T:List dz)(j i:Nat):∀k:Nat,(kJ T k j).testBit i=(decide (i<k)&&fw T i j)
 |0=>by show(0:Nat).testBit i=_;simp
 |k+1=>by
  rw[qZ]
  have ih:=q8 T j i k
  by_cases e:i=k
  ·subst e
   cases h:fw T i j with
   |true=>simp[ih,Nat.testBit_two_pow]
   |false=>simp[ih]
  ·have e2:decide (i<k+1)=decide (i<k):=by rw[decide_eq_decide];omega
   rw[e2]
   split
   ·rw[Nat.testBit_or,ih,Nat.testBit_two_pow,eL (p:=k=i) (λh=>e h.symm),Bool.or_false]
   ·exact ih
def cn (T:List dz):List Nat:=(List.range T.length).map (KF T)
def cr (T:List dz):List Nat:=(List.range T.length).map (kJ T T.length)
theorem yZ {f:Nat→Nat}{n:Nat}{U:List Nat}(hl:U.length=n)(h:∀i,i<n→U[i]?=some (f i)):U=(List.range n).map f:=by
 refine nV λi=> ?_
 rw[bE]
 rcases e7 i n with hi|hi
 ·rw[h i hi,kg hi];rfl
 ·rw[fY (by omega),fY (by simpa using hi)];rfl
theorem Pd {T:List dz}{i:Nat}(h:i<T.length):(cn T)[i]?=some (KF T i):=by unfold cn;rw[bE,kg h];rfl
theorem o5 {T:List dz}{i:Nat}(h:i<T.length):(cr T)[i]?=some (kJ T T.length i):=by unfold cr;rw[bE,kg h];rfl
theorem Pe (T:List dz):(cn T).length=T.length:=by simp[cn]
theorem FF (T:List dz):(cr T).length=T.length:=by simp[cr]
def both (T:List dz)(a b:Nat):Nat:=kJ T T.length a&&&kJ T T.length b
theorem o6 (T:List dz)(a b i:Nat):(both T a b).testBit i=(decide (i<T.length)&&(fw T i a&&fw T i b)):=by
 unfold both;rw[Nat.testBit_and,q8,q8]
 cases decide (i<T.length)<;>simp
theorem kK {T:List dz}{a b i:Nat}:i∈comm T a b↔(both T a b).testBit i=true:=by
 unfold comm;rw[List.mem_filter,cy,o6];simp only[Bool.and_eq_true,decide_eq_true_eq]
theorem ya {T:List dz}{a b:Nat}(h:both T a b=0):jO T a b=false:=by
 unfold jO
 split
 ·rfl
 ·rename_i m r e
  have:m∈comm T a b:=by rw[e];exact aU ..
  rw[kK,h,Nat.zero_testBit]at this;cases this
theorem FG {T:List dz}(hT:gy T){a b m:Nat}(h:(both T a b).testBit m=true)(hl:∀i,i<m→(both T a b).testBit i=false):jO T a b=decide (kJ T T.length m≠both T a b):=by
 have hm:=kK.2 h
 unfold jO
 split
 ·rename_i e;rw[e]at hm;cases hm
 ·rename_i m' r e
  have hp:(comm T a b).Pairwise (· < ·):=by unfold comm;exact List.Pairwise.filter _ List.pairwise_lt_range
  rw[e]at hp
  have jc:m'∈comm T a b:=by rw[e];exact aU ..
  have e2:m'=m:=by
   rw[e]at hm
   rcases cD.1 hm with h2|h2
   ·exact h2.symm
   ·have h3:=(ib.1 hp).1 m h2
    have h4:=hl m' h3
    rw[kK.1 jc]at h4;cases h4
  subst e2
  have hb:=h
  rw[o6,wF,wF,fS]at hb;rw[uF,xN,fS]
  constructor
  ·rintro ⟨i,hi,h5⟩ h6
   have h7:(both T a b).testBit i=true:=kK.1 (by rw[e];exact cE _ hi)
   rw[←h6,q8,wF]at h7
   rw[h7.2]at h5;cases h5
  ·intro h5
   apply Decidable.byContradiction
   intro h6;refine h5 (Nat.eq_of_testBit_eq λi=> ?_);rw[q8,o6];rw[uF,wF,wF,fS]
   constructor
   ·rintro ⟨h7,h8⟩
    exact⟨h7,by rw[uo hT h8 hb.2.1,uo hT h8 hb.2.2];rfl⟩
   ·rintro ⟨h7,h8⟩
    refine⟨h7,?_⟩
    have h9:i∈comm T a b:=kK.2 (by rw[o6,h8,dH h7];rfl)
    rw[e]at h9
    rcases cD.1 h9 with rfl|h9
    ·exact sub_self hT h7
    ·cases N3:fw T i m' with
     |true=>rfl
     |false=>exact absurd ⟨i,h9,by rw[N3];rfl⟩ h6
end Go.Proofs.YtblifkgpebebmaaGreatDoor
namespace Go.J
open Go
section
variable {P:Program}{n:Nat}{F:Fr}{A:World→Prop}{ty t u:TypeId}{x y:Operand}{a b:Nat}
theorem M5 (h:a<18446744073709551616)(h2:b<18446744073709551616):bits .and .u64 (a:Int) (b:Int)=((a&&&b:Nat):Int):=by
 have e:(BitVec.ofInt IntKind.u64.bits (a:Int)&&&BitVec.ofInt IntKind.u64.bits (b:Int)).toNat=a&&&b:=by
  show(BitVec.ofInt 64 (a:Int)&&&BitVec.ofInt 64 (b:Int)).toNat=_
  rw[BitVec.toNat_and,LN,LN,LO,LO,lX h,lX h2]
 simp only[bits,e]
 rw[nk,lX (uG Nat.and_le_left h)]
theorem Pf (h:a<18446744073709551616)(h2:b<18446744073709551616):bits .or .u64 (a:Int) (b:Int)=((a|||b:Nat):Int):=by
 have e:(BitVec.ofInt IntKind.u64.bits (a:Int)|||BitVec.ofInt IntKind.u64.bits (b:Int)).toNat=a|||b:=by
  show(BitVec.ofInt 64 (a:Int)|||BitVec.ofInt 64 (b:Int)).toNat=_
  rw[BitVec.toNat_or,LN,LN,LO,LO,lX h,lX h2]
 simp only[bits,e]
 rw[nk,lX (Nat.or_lt_two_pow (n:=64) h h2)]
theorem Ev.aeS (hx:aZ F x (uv a))(hy:aZ F y (uv b))(h:a<18446744073709551616∧b<18446744073709551616):Ev P n F A (.binOp .and t x y u) ty (uv (a&&&b)):= .of_run λa' w ha _=>by
 simp only[execOp,hx.eval ha,hy.eval ha];simp only[go_sem,M5 h.1 h.2];simp
theorem Ev.orG (hx:aZ F x (uv a))(hy:aZ F y (uv b))(h:a<18446744073709551616∧b<18446744073709551616):Ev P n F A (.binOp .or t x y u) ty (uv (a|||b)):= .of_run λa' w ha _=>by
 simp only[execOp,hx.eval ha,hy.eval ha];simp only[go_sem,Pf h.1 h.2];simp
theorem Ev.aeT {k:Nat}{i:Int}{kd:IntKind}(hx:aZ F x (uv 1))(hy:aZ F y (.int kd i))(h:i=k∧k<64):Ev P n F A (.binOp .shl t x y u) ty (uv (2^k)):=by
 have:=Ev.ahQ (P:=P) (n:=n) (A:=A) (ty:=ty) (t:=t) (u:=u) k (2^k) rfl hx hy (by omega)
 have e:1*2^k%18446744073709551616=2^k:=by
  rw[Nat.one_mul];exact lX (show 2^k<2^64 from xR (by decide) h.2)
 rw[e]at this;exact this
theorem KH (a j:Nat):decide ((((a/2^j%2:Nat):Int))=1)=a.testBit j:=by
 rw[Nat.testBit_eq_decide_div_mod_eq,decide_eq_decide];omega
end
def ay:Rp Nat:=⟨1,by decide,λa=>[uv a],λa=>a<18446744073709551616,λ_=>rfl,λx u h=>by rw[bJ.1 h];rfl⟩
theorem qc (U:List Nat):rows ay U=U.map λa=>uv a:=by
 show U.flatMap (λa=>[uv a])=_
 induction U with
 |nil=>rfl
 |cons a U ih=>rw[mV,ih];rfl
theorem o7 {U:List Nat}{k a:Nat}(h:U[k]?=some a):(rows ay U)[k*1+0]?=some (uv a):=by
 rw[qc,fR,jK,bE,h];rfl
theorem tK {U:List Nat}{k a:Nat}:(rows ay U).set (k*1+0) (uv a)=rows ay (U.set k a):=by
 rw[qc,qc,fR,jK,ia]
theorem FH (n:Nat):List.replicate n (uv 0)=rows ay (List.replicate n 0):=by rw[qc,sN]
end Go.J
