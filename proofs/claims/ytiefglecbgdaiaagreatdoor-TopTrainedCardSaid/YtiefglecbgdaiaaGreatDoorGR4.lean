/-
  Laws of walks through programs, and facts on grammars, trees and queries.
  Conditions: none.
-/
import Derived.Lib.SliceRun
import Derived.Test.YtiefglecbgdaiaaGreatDoorGR3
import Derived.Shelf.Spec.TrailingZeros
set_option maxHeartbeats 2000000
set_option maxRecDepth 20000
set_option linter.unusedVariables false
set_option linter.unusedSimpArgs false
namespace Go.Proofs.YtiefglecbgdaiaaGreatDoor
open Go Go.J Tryz
theorem mixed:prog.follows .mixedOrders=true:=by kernel_rfl
theorem SD:(prog.info? 86).bind (λi=>i.zero.map Value.cells)=some #[.string ⟨#[]⟩,.slice none 0 0]:=by kernel_rfl
instance:type_of%(sP.mk SD):=⟨SD⟩
theorem ZA (w:World):dB prog 86 w= .ok #[(0,1),(1,1)] w:=by kernel_rfl
theorem mS:(prog.info? 86).map (·.size)=some 2:=by kernel_rfl
instance:type_of%(qW.mk mS):=⟨mS⟩
theorem VY:(prog.info? 86).bind (·.zero)=some (Value.agg #[.string ⟨#[]⟩,.slice none 0 0]):=by kernel_rfl
theorem Jf:(prog.info? 95).bind (λi=>i.zero.map Value.cells)=some #[.int .i64 0,.string ⟨#[]⟩,.int .i64 0,.string ⟨#[]⟩,.slice none 0 0,.slice none 0 0]:=by kernel_rfl
instance:type_of%(sP.mk Jf):=⟨Jf⟩
theorem Up (w:World):dB prog 95 w= .ok #[(0,1),(1,1),(2,1),(3,2),(5,1)] w:=by kernel_rfl
theorem jy:(prog.info? 95).map (·.size)=some 6:=by kernel_rfl
instance:type_of%(qW.mk jy):=⟨jy⟩
theorem Zs:(prog.info? 95).bind (·.zero)=some (Value.agg #[.int .i64 0,.string ⟨#[]⟩,.int .i64 0,.string ⟨#[]⟩,.slice none 0 0,.slice none 0 0]):=by kernel_rfl
theorem Lo:aK prog 24:=⟨_,func24,rfl,by kernel_rfl⟩
theorem qj:aK prog 25:=⟨_,func25,rfl,by kernel_rfl⟩
theorem oM:aK prog 31:=⟨_,func31,rfl,by kernel_rfl⟩
theorem mi:aK prog 34:=⟨_,func34,rfl,by kernel_rfl⟩
theorem pT:aK prog 33:=⟨_,func33,rfl,by kernel_rfl⟩
theorem mh:aK prog 32:=⟨_,func32,rfl,by kernel_rfl⟩
theorem VV:(prog.info? 30).bind (λi=>i.zero.map Value.cells)=some #[.slice none 0 0]:=by kernel_rfl
instance:type_of%(sP.mk VV):=⟨VV⟩
theorem fT:(prog.info? 35).map (·.size)=some 1:=by kernel_rfl
instance:type_of%(qW.mk fT):=⟨fT⟩
theorem dQ:(prog.info? 3).map (·.size)=some 1:=by kernel_rfl
instance:type_of%(qW.mk dQ):=⟨dQ⟩
theorem ag7 (w:World):dB prog 166 w= .ok #[(0,1),(1,1)] w:=by kernel_rfl
theorem S7:(prog.info? 166).bind (λi=>i.zero.map Value.cells)=some #[.int .i64 0,.slice none 0 0]:=by kernel_rfl
instance:type_of%(sP.mk S7):=⟨S7⟩
theorem jF:(prog.info? 166).map (·.size)=some 2:=by kernel_rfl
instance:type_of%(qW.mk jF):=⟨jF⟩
theorem uL:bq prog 166 1=some 1:=by kernel_rfl
instance:type_of%(iV.mk uL):=⟨uL⟩
theorem ag8 (w:World):dB prog 168 w= .ok #[(0,1),(1,1)] w:=by kernel_rfl
theorem S8:(prog.info? 168).bind (λi=>i.zero.map Value.cells)=some #[.int .i64 0,.int .i64 0]:=by kernel_rfl
instance:type_of%(sP.mk S8):=⟨S8⟩
theorem de:(prog.info? 168).map (·.size)=some 2:=by kernel_rfl
instance:type_of%(qW.mk de):=⟨de⟩
theorem kg:(prog.info? 168).bind (·.zero)=some (Value.agg #[.int .i64 0,.int .i64 0]):=by kernel_rfl
theorem qg:(prog.info? 168).map (·.bytes)=some 16:=by kernel_rfl
theorem qD:(prog.info? 164).map (·.size)=some 1:=by kernel_rfl
instance:type_of%(qW.mk qD):=⟨qD⟩
theorem vd:bq prog 30 0=some 0:=by kernel_rfl
instance:type_of%(iV.mk vd):=⟨vd⟩
theorem HH:(prog.info? 166).bind (·.zero)=some (Value.agg #[.int .i64 0,.slice none 0 0]):=by kernel_rfl
theorem Nt:(prog.info? 166).map (·.bytes)=some 32:=by kernel_rfl
theorem ahY:(prog.info? 28).map (·.size)=some 1:=by kernel_rfl
theorem jx:(prog.info? 30).map (·.size)=some 1:=by kernel_rfl
instance:type_of%(qW.mk jx):=⟨jx⟩
instance:sP prog 25 #[.slice none 0 0,.slice none 0 0]:=⟨by kernel_rfl⟩
theorem sz9:(prog.info? 9).map (·.size)=some 1:=by kernel_rfl
instance:type_of%(qW.mk sz9):=⟨sz9⟩
theorem ag6 (w:World):dB prog 163 w= .ok #[(0,1),(1,1)] w:=by kernel_rfl
theorem S6:(prog.info? 163).bind (λi=>i.zero.map Value.cells)=some #[.string ⟨#[]⟩,.slice none 0 0]:=by kernel_rfl
instance:type_of%(sP.mk S6):=⟨S6⟩
theorem Cj:(prog.info? 163).map (·.size)=some 2:=by kernel_rfl
instance:type_of%(qW.mk Cj):=⟨Cj⟩
theorem ec:(prog.info? 3).bind (·.zero)=some (Value.int .i64 0):=by kernel_rfl
instance:iV prog 163 1 1:=⟨by kernel_rfl⟩
theorem vc:bq prog 25 0=some 0:=by kernel_rfl
instance:type_of%(iV.mk vc):=⟨vc⟩
theorem XD:(prog.info? 163).bind (·.zero)=some (Value.agg #[.string ⟨#[]⟩,.slice none 0 0]):=by kernel_rfl
theorem aaZ:(prog.info? 163).map (·.bytes)=some 40:=by kernel_rfl
theorem aoH:(prog.info? 22).map (·.size)=some 1:=by kernel_rfl
theorem Dq:bq prog 25 1=some 1:=by kernel_rfl
instance:type_of%(iV.mk Dq):=⟨Dq⟩
theorem aoI:(prog.info? 23).map (·.size)=some 1:=by kernel_rfl
theorem RD:(prog.info? 25).map (·.size)=some 2:=by kernel_rfl
instance:type_of%(qW.mk RD):=⟨RD⟩
theorem zJ:bq prog 32 2=some 3:=by kernel_rfl
instance:type_of%(iV.mk zJ):=⟨zJ⟩
theorem FJ:aK prog 28:=⟨_,func28,rfl,by kernel_rfl⟩
theorem Wg (w:World):dB prog 100 w= .ok #[(0,1),(1,1),(2,1),(3,6)] w:=by kernel_rfl
theorem LJ:(prog.info? 100).bind (λi=>i.zero.map Value.cells)=some #[.string ⟨#[]⟩,.slice none 0 0,.int .i64 0,.int .i64 0,.string ⟨#[]⟩,.int .i64 0,.string ⟨#[]⟩,.slice none 0 0,.slice none 0 0]:=by kernel_rfl
instance:type_of%(sP.mk LJ):=⟨LJ⟩
theorem mH:(prog.info? 100).map (·.size)=some 9:=by kernel_rfl
instance:type_of%(qW.mk mH):=⟨mH⟩
theorem LP:(prog.info? 100).bind (·.zero)=some (Value.agg #[.string ⟨#[]⟩,.slice none 0 0,.int .i64 0,.int .i64 0,.string ⟨#[]⟩,.int .i64 0,.string ⟨#[]⟩,.slice none 0 0,.slice none 0 0]):=by kernel_rfl
theorem Vf:(prog.info? 100).map (·.bytes)=some 144:=by kernel_rfl
theorem ahX:(prog.info? 27).map (·.size)=some 1:=by kernel_rfl
instance:sP prog 32 #[.slice none 0 0,.slice none 0 0,.slice none 0 0,.slice none 0 0,.slice none 0 0]:=⟨by kernel_rfl⟩
theorem zv9:(prog.info? 9).bind (·.zero)=some (Value.string ⟨#[]⟩):=by kernel_rfl
theorem aoC (w:World):dB prog 91 w= .ok #[(0,1),(1,1),(2,1)] w:=by kernel_rfl
theorem Zr:(prog.info? 91).bind (λi=>i.zero.map Value.cells)=some #[.string ⟨#[]⟩,.int .i64 0,.int .i64 0]:=by kernel_rfl
instance:type_of%(sP.mk Zr):=⟨Zr⟩
theorem Mt:(prog.info? 91).map (·.size)=some 3:=by kernel_rfl
instance:type_of%(qW.mk Mt):=⟨Mt⟩
theorem ao1:(prog.info? 91).bind (·.zero)=some (Value.agg #[.string ⟨#[]⟩,.int .i64 0,.int .i64 0]):=by kernel_rfl
theorem ajT:aK prog 26:=⟨_,func26,rfl,by kernel_rfl⟩
instance:iV prog 32 0 0:=⟨by kernel_rfl⟩
theorem ajU:aK prog 27:=⟨_,func27,rfl,by kernel_rfl⟩
theorem kh:(prog.info? 35).bind (·.zero)=some (Value.slice none 0 0):=by kernel_rfl
theorem ZB (w:World):dB prog 98 w= .ok #[(0,1),(1,1),(2,1),(3,1),(4,6)] w:=by kernel_rfl
theorem SE:(prog.info? 98).bind (λi=>i.zero.map Value.cells)=some #[.string ⟨#[]⟩,.slice none 0 0,.int .i64 0,.int .i64 0,.int .i64 0,.string ⟨#[]⟩,.int .i64 0,.string ⟨#[]⟩,.slice none 0 0,.slice none 0 0]:=by kernel_rfl
instance:type_of%(sP.mk SE):=⟨SE⟩
theorem oV:(prog.info? 98).map (·.size)=some 10:=by kernel_rfl
instance:type_of%(qW.mk oV):=⟨oV⟩
theorem Zt:(prog.info? 98).bind (·.zero)=some (Value.agg #[.string ⟨#[]⟩,.slice none 0 0,.int .i64 0,.int .i64 0,.int .i64 0,.string ⟨#[]⟩,.int .i64 0,.string ⟨#[]⟩,.slice none 0 0,.slice none 0 0]):=by kernel_rfl
theorem I7:bq prog 32 1=some 2:=by kernel_rfl
instance:type_of%(iV.mk I7):=⟨I7⟩
theorem ahV:(prog.info? 26).map (·.size)=some 1:=by kernel_rfl
theorem Xr:aK prog 30:=⟨_,func30,rfl,by kernel_rfl⟩
theorem oL:aK prog 29:=⟨_,func29,rfl,by kernel_rfl⟩
instance:iV prog 32 3 4:=⟨by kernel_rfl⟩
theorem RE:(prog.info? 32).map (·.size)=some 5:=by kernel_rfl
instance:type_of%(qW.mk RE):=⟨RE⟩
theorem N7:(prog.info? 39).bind (λi=>i.zero.map Value.cells)=some #[.int .i64 0,.int .i64 0]:=by kernel_rfl
instance:type_of%(sP.mk N7):=⟨N7⟩
theorem Z7 (w:World):dB prog 39 w= .ok #[(0,1),(1,1)] w:=by kernel_rfl
instance:qW prog 39 2:=⟨by kernel_rfl⟩
theorem Du:bq prog 86 0=some 0:=by kernel_rfl
instance:type_of%(iV.mk Du):=⟨Du⟩
theorem pV:bq prog 86 1=some 1:=by kernel_rfl
instance:type_of%(iV.mk pV):=⟨pV⟩
theorem Vv:aK prog 201:=⟨_,func201,rfl,by kernel_rfl⟩
instance:sP prog 3 #[.int .i64 0]:=⟨by kernel_rfl⟩
instance:sP prog 310 #[.nilFunc]:=⟨by kernel_rfl⟩
theorem ah0:(prog.info? 310).map (·.size)=some 1:=by kernel_rfl
theorem Vw:aK prog 202:=⟨_,func202,rfl,by kernel_rfl⟩
theorem sS:aK prog 160:=⟨_,func160,rfl,by kernel_rfl⟩
instance:iV prog 95 0 0:=⟨by kernel_rfl⟩
theorem zL:bq prog 95 2=some 2:=by kernel_rfl
instance:type_of%(iV.mk zL):=⟨zL⟩
theorem ve:bq prog 95 4=some 5:=by kernel_rfl
instance:type_of%(iV.mk ve):=⟨ve⟩
instance:iV prog 95 1 1:=⟨by kernel_rfl⟩
theorem T7:aK prog 66:=⟨_,func66,rfl,by kernel_rfl⟩
theorem Dv:bq prog 95 3=some 3:=by kernel_rfl
instance:type_of%(iV.mk Dv):=⟨Dv⟩
theorem Vn:aK prog 161:=⟨_,func161,rfl,by kernel_rfl⟩
theorem Vo:aK prog 162:=⟨_,func162,rfl,by kernel_rfl⟩
theorem Jx:aK prog 159:=⟨_,func159,rfl,by kernel_rfl⟩
instance:iV prog 39 0 0:=⟨by kernel_rfl⟩
theorem ajP:(prog.info? 86).map (·.bytes)=some 40:=by kernel_rfl
theorem Jy:aK prog 163:=⟨_,func163,rfl,by kernel_rfl⟩
instance:sP prog 267 #[.nilFunc]:=⟨by kernel_rfl⟩
theorem ahW:(prog.info? 267).map (·.size)=some 1:=by kernel_rfl
theorem qh:aK prog 105:=⟨_,func105,rfl,by kernel_rfl⟩
instance:iV prog 163 0 0:=⟨by kernel_rfl⟩
theorem S5:(prog.info? 154).bind (λi=>i.zero.map Value.cells)=some #[.slice none 0 0,.slice none 0 0]:=by kernel_rfl
instance:type_of%(sP.mk S5):=⟨S5⟩
theorem lQ:(prog.info? 123).map (·.size)=some 1:=by kernel_rfl
instance:type_of%(qW.mk lQ):=⟨lQ⟩
theorem XC:(prog.info? 123).bind (·.zero)=some (Value.int .u64 0):=by kernel_rfl
theorem Vg:(prog.info? 123).map (·.bytes)=some 8:=by kernel_rfl
theorem ag5 (w:World):dB prog 154 w= .ok #[(0,1),(1,1)] w:=by kernel_rfl
theorem xH:(prog.info? 154).map (·.size)=some 2:=by kernel_rfl
instance:type_of%(qW.mk xH):=⟨xH⟩
instance:iV prog 154 0 0:=⟨by kernel_rfl⟩
instance:iV prog 154 1 1:=⟨by kernel_rfl⟩
theorem Vm:aK prog 158:=⟨_,func158,rfl,by kernel_rfl⟩
theorem aa9:aK prog 106:=⟨_,func106,rfl,by kernel_rfl⟩
theorem Xt:aK prog 65:=⟨_,func65,rfl,by kernel_rfl⟩
theorem Nx:aK prog 107:=⟨_,func107,rfl,by kernel_rfl⟩
instance:iV prog 91 0 0:=⟨by kernel_rfl⟩
theorem IA:bq prog 91 1=some 1:=by kernel_rfl
instance:type_of%(iV.mk IA):=⟨IA⟩
theorem IB:bq prog 91 2=some 2:=by kernel_rfl
theorem Bu:aK prog 112:=⟨_,func112,rfl,by kernel_rfl⟩
theorem uK:bq prog 166 0=some 0:=by kernel_rfl
instance:type_of%(iV.mk uK):=⟨uK⟩
theorem Dm:bq prog 168 0=some 0:=by kernel_rfl
instance:type_of%(iV.mk Dm):=⟨Dm⟩
theorem uM:bq prog 168 1=some 1:=by kernel_rfl
instance:type_of%(iV.mk uM):=⟨uM⟩
theorem EU:(prog.info? 4).map (·.size)=some 1:=by kernel_rfl
instance:type_of%(qW.mk EU):=⟨EU⟩
theorem SY:(prog.info? 4).bind (·.zero)=some (Value.bool false):=by kernel_rfl
theorem Zx:(prog.info? 4).map (·.bytes)=some 1:=by kernel_rfl
theorem yt:(prog.info? 3).map (·.bytes)=some 8:=by kernel_rfl
theorem abR:aK prog 164:=⟨_,func164,rfl,by kernel_rfl⟩
theorem abB:aK prog 110:=⟨_,func110,rfl,by kernel_rfl⟩
theorem Vj:aK prog 111:=⟨_,func111,rfl,by kernel_rfl⟩
theorem abC:aK prog 113:=⟨_,func113,rfl,by kernel_rfl⟩
theorem Vt:aK prog 187:=⟨_,func187,rfl,by kernel_rfl⟩
theorem qi:aK prog 122:=⟨_,func122,rfl,by kernel_rfl⟩
theorem Vl:aK prog 127:=⟨_,func127,rfl,by kernel_rfl⟩
theorem abK:aK prog 126:=⟨_,func126,rfl,by kernel_rfl⟩
theorem O4:aK prog 82:=⟨_,func82,rfl,by kernel_rfl⟩
theorem T6 {a:Value}(b:a.oneCell'=true)(w:World):(Instr.build 86 #[(0,a)]).run prog w= .ok (.agg #[a,.slice none 0 0]) w:=
 bI SD (ZA w) (by simp[Instr.fill,J.bL,J.cells_one b])
theorem FG {a b c d:Value}(e:a.oneCell'=true)(h1:b.oneCell'=true)(w:World):(Instr.build 95 #[(0,a),(1,b),(3,.agg #[c,d])]).run prog w= .ok (.agg #[a,b,.int .i64 0,c,d,.slice none 0 0]) w:=
 bI Jf (Up w) (by simp[Instr.fill,J.bL,J.cells_one e,J.cells_one h1])
theorem Li {a b:Value}(c:a.oneCell'=true)(d:b.oneCell'=true)(w:World):(Instr.build 95 #[(0,a),(2,b)]).run prog w= .ok (.agg #[a,.string ⟨#[]⟩,b,.string ⟨#[]⟩,.slice none 0 0,.slice none 0 0]) w:=
 bI Jf (Up w) (by simp[Instr.fill,J.bL,J.cells_one c,J.cells_one d])
theorem FH {a c d b:Value}(e:a.oneCell'=true)(f:b.oneCell'=true)(w:World):(Instr.build 95 #[(0,a),(3,.agg #[c,d]),(4,b)]).run prog w= .ok (.agg #[a,.string ⟨#[]⟩,.int .i64 0,c,d,b]) w:=
 bI Jf (Up w) (by simp[Instr.fill,J.bL,J.cells_one e,J.cells_one f])
theorem Lj {a b:Value}(c:a.oneCell'=true)(d:b.oneCell'=true)(w:World):(Instr.build 95 #[(0,a),(4,b)]).run prog w= .ok (.agg #[a,.string ⟨#[]⟩,.int .i64 0,.string ⟨#[]⟩,.slice none 0 0,b]) w:=
 bI Jf (Up w) (by simp[Instr.fill,J.bL,J.cells_one c,J.cells_one d])
theorem Nn {a:Value}(b:a.oneCell'=true)(w:World):(Instr.build 163 #[(0,a)]).run prog w= .ok (.agg #[a,.slice none 0 0]) w:=
 bI S6 (ag6 w) (by simp[Instr.fill,J.bL,J.cells_one b])
theorem yo {e f g h a b c d i:Value}(j:e.oneCell'=true)(k:f.oneCell'=true)(w:World):(Instr.build 100 #[(0,e),(2,f),(3,.agg #[g,h,a,b,c,d]),(1,.agg #[i])]).run prog w= .ok (.agg #[e,i,f,g,h,a,b,c,d]) w:=
 bI LJ (Wg w) (by simp[Instr.fill,J.bL,J.cells_one j,J.cells_one k])
theorem lJ {a b c:Value}(d:a.oneCell'=true)(h1:b.oneCell'=true)(e:c.oneCell'=true)(w:World):(Instr.build 91 #[(0,a),(1,b),(2,c)]).run prog w= .ok (.agg #[a,b,c]) w:=
 bI Zr (aoC w) (by simp[Instr.fill,J.bL,J.cells_one d,J.cells_one h1,J.cells_one e])
theorem sR {a b c d e f g h i:Value}(j:a.oneCell'=true)(k:b.oneCell'=true)(w:World):(Instr.build 98 #[(0,a),(2,b),(4,.agg #[c,d,e,f,g,h]),(1,.agg #[i])]).run prog w= .ok (.agg #[a,i,b,.int .i64 0,c,d,e,f,g,h]) w:=
 bI SE (ZB w) (by simp[Instr.fill,J.bL,J.cells_one j,J.cells_one k])
theorem jr {a b c d e f g h i j:Value}(k:a.oneCell'=true)(l:b.oneCell'=true)(m:c.oneCell'=true)(w:World):(Instr.build 98 #[(0,a),(2,b),(3,c),(4,.agg #[d,e,f,g,h,i]),(1,.agg #[j])]).run prog w= .ok (.agg #[a,j,b,c,d,e,f,g,h,i]) w:=
 bI SE (ZB w) (by simp[Instr.fill,J.bL,J.cells_one k,J.cells_one l,J.cells_one m])
theorem Js {a:Value}(h1:a.oneCell'=true)(w:World):(Instr.build 86 #[(1,a)]).run prog w= .ok (.agg #[.string ⟨#[]⟩,a]) w:=
 bI SD (ZA w) (by simp[Instr.fill,J.bL,J.cells_one h1])
theorem DV (w:World):(Instr.build 86 #[]).run prog w= .ok (.agg #[.string ⟨#[]⟩,.slice none 0 0]) w:=
 bI SD (ZA w) (by simp[Instr.fill,J.bL])
theorem Hm {a b:Value}(c:a.oneCell'=true)(h1:b.oneCell'=true)(w:World):(Instr.build 154 #[(0,a),(1,b)]).run prog w= .ok (.agg #[a,b]) w:=
 bI S5 (ag5 w) (by simp[Instr.fill,J.bL,J.cells_one c,J.cells_one h1])
theorem FF {a:Value}(b:a.oneCell'=true)(w:World):(Instr.build 166 #[(0,a)]).run prog w= .ok (.agg #[a,.slice none 0 0]) w:=
 bI S7 (ag7 w) (by simp[Instr.fill,J.bL,J.cells_one b])
theorem pR {a b:Value}(c:a.oneCell'=true)(h1:b.oneCell'=true)(w:World):(Instr.build 168 #[(0,a),(1,b)]).run prog w= .ok (.agg #[a,b]) w:=
 bI S8 (ag8 w) (by simp[Instr.fill,J.bL,J.cells_one c,J.cells_one h1])
theorem yC {a:Value}(b:a.oneCell'=true)(w:World):(Instr.build 39 #[(0,a)]).run prog w= .ok (.agg #[a,.int .i64 0]) w:=
 bI N7 (Z7 w) (by simp[Instr.fill,J.bL,J.cells_one b])
theorem eV {a b:Value}(c:a.oneCell'=true)(h1:b.oneCell'=true)(w:World):(Instr.build 39 #[(0,a),(1,b)]).run prog w= .ok (.agg #[a,b]) w:=
 bI N7 (Z7 w) (by simp[Instr.fill,J.bL,J.cells_one c,J.cells_one h1])
theorem fP (w:World):(Instr.build 39 #[]).run prog w= .ok (.agg #[.int .i64 0,.int .i64 0]) w:=
 bI N7 (Z7 w) (by simp[Instr.fill,J.bL])
theorem ur (b:cM)(v:ah)(l:List fk):dW (.mk b v l)= .mk b (l.map dW):=by rw[dW,wI]
theorem rB (k:Int)(s:cM)(i:Int)(t:fk)(v:ah)(l:List dX):cx (.mk k s i t v l)= .mk k s i (dW t) (l.map cx):=by rw[cx,tT]
theorem RU (r x:Int)(v:ah)(l:List bM):aN (.mk r x v l)= .mk r x (l.map aN):=by rw[aN,tY]
abbrev S0:j0:= .mk [] []
abbrev oU:fk:= .mk [] bx []
theorem EW {α:Type}{p:α→Prop}{x y:α}(hx:p x)(hy:p y):∀z∈[x,y],p z:=λz hz=>by
 simp only[List.mem_cons,List.not_mem_nil,or_false]at hz
 rcases hz with rfl|rfl
 ·exact hx
 ·exact hy
theorem QF {α:Type}{p:α→Prop}{x:α}(hx:p x):∀z∈[x],p z:=λz hz=>by rw[ba.1 hz];exact hx
theorem agH:aZ 1:=by unfold aZ;decide
theorem agI:aZ 2:=by unfold aZ;decide
theorem agJ:aZ 3:=by unfold aZ;decide
theorem agK:aZ 4:=by unfold aZ;decide
theorem PM:aZ 0:=by unfold aZ;decide
theorem mU (s:cM)(a:nY s):dx prog 24 #[sv s] ([].map aD) (λv H'=>H'=[aD (dL (.mk s []) v)]):=by
 refine dx.body (args:=[sv s]) 5 func24 rfl ntmps24 rfl (λc=>St.cast (H':=[]) rfl (g2 ?_));refine St.al (λb=>g5 ?_);refine St.ee (Ev.build (au.aq rfl) (λw=>T6 rfl w)) (g4 ?_);refine St.gi kW (St.dN ez (St.ua s (.slice none 0 0) rfl [] (St.Wv (.mk s bx []) (s:= .mk s []) (aV (.mk s bx [])) rfl (ur _ _ _) a (St.rV [_] [aD (dL (.mk s []) (aV (.mk s bx [])))] ?_))));rfl
theorem fQ (a b:Value)(s1 s2:j0):dx prog 25 #[a,b] ([dL s1 a,dL s2 b].map aD) (λv H'=>H'=[aD (dL (.mk [] [s1,s2]) v)]):=by
 refine dx.body (args:=[a,b]) 9 func25 rfl ntmps25 rfl (λc=>St.cast (H':=[aD (dL s1 a),aD (dL s2 b)]) rfl (go ?_));refine St.dL s1 a (λx hx=>?_);obtain⟨rfl,rfl,e⟩:=hx;refine St.dL s2 b (λy hy=>?_);obtain⟨rfl,rfl,f⟩:=hy;refine go ?_;refine St.cC (.mk rfl) rfl (λg=>St.cC (.mk rfl) rfl (λh=>St.al (λi=>g6 ?_)));refine St.iu rfl (.aX rfl rfl) nJ mS VY rfl rfl (by simp[Value.cells]) rfl rfl (λd=> ?_);refine St.bU (tO d 2 2) kW [x,y] rfl rfl (EW e f) (St.dN ez (St.ml ez (xs:=[]) (x:=y) (St.ml ez (xs:=[y]) (x:=x) (St.ua [] (tO d 2 2) rfl [x,y] (St.ee (Ev.build (au.aq rfl) (λw=>Js rfl w)) (g4 ?_))))));refine St.Wv (.mk [] ⟨(tO d 2 2),rfl⟩ [x,y]) (s:= .mk [] [dW x,dW y]) (aV (.mk [] ⟨(tO d 2 2),rfl⟩ [x,y])) rfl (ur _ _ _) (aQ _) (St.rV [_] [aD (dL (.mk [] [dW x,dW y]) (aV (.mk [] ⟨(tO d 2 2),rfl⟩ [x,y])))] ?_);rfl
theorem eP (name:cM)(a:nY name)(u:Value)(s:j0):dx prog 31 #[sv name,u] ([dL s u].map aD) (λv H'=>H'=[aD (isTerm (.mk 1 name 0 s []) v)]):=by
 refine dx.body (args:=[sv name,u]) 8 func31 rfl ntmps31 rfl (λc=>St.cast (H':=[aD (dL s u)]) rfl (go ?_));refine St.dL s u (λx hx=>?_);obtain⟨rfl,rfl,b⟩:=hx;refine go ?_;refine St.cC (.mk rfl) rfl (λd=>St.al (λe=>g6 ?_));refine St.ee (Ev.build (au.eI rfl rfl rfl) (λw=>FG rfl rfl w)) (g4 ?_);refine St.gi cz (St.dN cu (St.ED 1 name 0 x (.slice none 0 0) rfl [] (St.toTerm (.mk 1 name 0 x bx []) (s:= .mk 1 name 0 (dW x) []) (cR (.mk 1 name 0 x bx [])) rfl (rB _ _ _ _ _ _) ⟨agH,a,PM,b⟩ (St.rV [_] [aD (isTerm (.mk 1 name 0 (dW x) []) (cR (.mk 1 name 0 x bx [])))] ?_))));rfl
theorem cw (i:Int)(hi:aZ i):dx prog 34 #[iv i] ([].map aD) (λv H'=>H'=[aD (isTerm (.mk 2 [] i S0 []) v)]):=by
 refine dx.body (args:=[iv i]) 5 func34 rfl ntmps34 rfl (λc=>St.cast (H':=[]) rfl (g2 ?_));refine St.al (λa=>g5 ?_);refine St.ee (Ev.build (au.aX rfl rfl) (λw=>Li rfl rfl w)) (g4 ?_);refine St.gi kW (St.dN ez (St.ua [] (.slice none 0 0) rfl [] (St.gi cz (St.dN cu (St.ED 2 [] i oU (.slice none 0 0) rfl [] (St.toTerm (.mk 2 [] i oU bx []) (s:= .mk 2 [] i S0 []) (cR (.mk 2 [] i oU bx [])) rfl (by rw[rB,ur];rfl) ⟨agI,aQ _,hi,aQ _⟩ ?_))))));refine St.rV [_] [aD (isTerm (.mk 2 [] i S0 []) (cR (.mk 2 [] i oU bx [])))] ?_;rfl
theorem eC (a b:Value)(s:j0)(t:ji):dx prog 32 #[a,b] ([dL s a,isTerm t b].map aD) (λv H'=>H'=[aD (isTerm (.mk 3 [] 0 s [t]) v)]):=by
 refine dx.body (args:=[a,b]) 9 func32 rfl ntmps32 rfl (λc=>St.cast (H':=[aD (dL s a),aD (isTerm t b)]) rfl (go ?_));refine St.dL s a (λx hx=>?_);obtain⟨rfl,rfl,e⟩:=hx;refine St.isTerm t b (λy hy=>?_);obtain⟨rfl,rfl,f⟩:=hy;refine go ?_;refine St.cC (.mk rfl) rfl (λg=>St.cC (.mk rfl) rfl (λh=>St.al (λi=>g6 ?_)));refine St.iu rfl (.aq rfl) lx jy Zs rfl rfl (by simp[Value.cells]) rfl rfl (λd=> ?_);refine St.bU (tO d 1 1) cz [y] rfl rfl (QF f) (St.dN cu (St.ml cu (xs:=[]) (x:=y) (St.ED 3 [] 0 x (tO d 1 1) rfl [y] (St.ee (Ev.build (au.eI rfl rfl rfl) (λw=>FH rfl rfl w)) (g4 ?_)))));refine St.toTerm (.mk 3 [] 0 x ⟨(tO d 1 1),rfl⟩ [y]) (s:= .mk 3 [] 0 (dW x) [cx y]) (cR (.mk 3 [] 0 x ⟨(tO d 1 1),rfl⟩ [y])) rfl (rB _ _ _ _ _ _) ⟨agJ,aQ _,PM,e⟩ (St.rV [_] [aD (isTerm (.mk 3 [] 0 (dW x) [cx y]) (cR (.mk 3 [] 0 x ⟨(tO d 1 1),rfl⟩ [y])))] ?_);rfl
theorem ei (a b:Value)(t1 t2:ji):dx prog 33 #[a,b] ([isTerm t1 a,isTerm t2 b].map aD) (λv H'=>H'=[aD (isTerm (.mk 4 [] 0 S0 [t1,t2]) v)]):=by
 refine dx.body (args:=[a,b]) 9 func33 rfl ntmps33 rfl (λc=>St.cast (H':=[aD (isTerm t1 a),aD (isTerm t2 b)]) rfl (go ?_));refine St.isTerm t1 a (λx hx=>?_);obtain⟨rfl,rfl,e⟩:=hx;refine St.isTerm t2 b (λy hy=>?_);obtain⟨rfl,rfl,f⟩:=hy;refine go ?_;refine St.cC (.mk rfl) rfl (λg=>St.cC (.mk rfl) rfl (λh=>St.al (λi=>g6 ?_)));refine St.iu rfl (.aX rfl rfl) lx jy Zs rfl rfl (by simp[Value.cells]) rfl rfl (λd=> ?_);refine St.bU (tO d 2 2) cz [x,y] rfl rfl (EW e f) (St.gi kW (St.dN ez (St.ua [] (.slice none 0 0) rfl [] (St.dN cu (St.ml cu (xs:=[]) (x:=y) (St.ml cu (xs:=[y]) (x:=x) (St.ED 4 [] 0 oU (tO d 2 2) rfl [x,y] (St.ee (Ev.build (au.aX rfl rfl) (λw=>Lj rfl rfl w)) (g4 ?_)))))))));refine St.toTerm (.mk 4 [] 0 oU ⟨(tO d 2 2),rfl⟩ [x,y]) (s:= .mk 4 [] 0 S0 [cx x,cx y]) (cR (.mk 4 [] 0 oU ⟨(tO d 2 2),rfl⟩ [x,y])) rfl (by rw[rB,ur];rfl) ⟨agK,aQ _,PM,aQ _⟩ ?_;refine St.rV [_] [aD (isTerm (.mk 4 [] 0 S0 [cx x,cx y]) (cR (.mk 4 [] 0 oU ⟨(tO d 2 2),rfl⟩ [x,y])))] ?_;rfl
mutual
def szS:j0→Nat
 | .mk _ l=>VF l+1
def VF:List j0→Nat
 | []=>0
 |x::l=>szS x+VF l
end
mutual
def szT:ji→Nat
 | .mk _ _ _ _ l=>VG l+1
def VG:List ji→Nat
 | []=>0
 |x::l=>szT x+VG l
end
theorem V3 (x:j0)(d n:Nat):mR x d n=if 200<n+1∨40<d then(n+1,1)else if jn x.base x.args.length=false then(n+1,5)else mG x.args (d+1) (n+1):=by cases x;rw[mR];rfl
def AY (x:ji)(b:Nat):Int:=kY x.kind x.name x.index x.type x.args.length b
theorem ZW (x:ji)(d b n:Nat):mY x d b n=if 200<n+1∨40<d then(n+1,1,(n:Int))else if AY x b≠0 then(n+1,AY x b,(n:Int))else oW x.args (d+1) (if x.kind=3 then b+1 else b) (n+1):=by cases x;rw[mY];rfl
theorem RN:∀(x:ji) (d b n:Nat),(mY x d b n).2.1=0→(mY x d b n).2=(0,0):=by
 intro x;refine ji.rec (motive_1:=λx=>∀d b n,(mY x d b n).2.1=0→(mY x d b n).2=(0,0)) (motive_2:=λl=>∀d b n,(oW l d b n).2.1=0→(oW l d b n).2=(0,0)) ?_ ?_ ?_ x
 ·intro k s i t l c d b n h
  rw[mY]at h⊢
  split
  ·rename_i h1;rw[aB h1]at h;exact absurd h (by simp)
  ·rename_i h1
   rw[aA h1]at h
   split
   ·rename_i a;rw[aB a]at h;exact absurd h a
   ·rename_i a;rw[aA a]at h;exact c _ _ _ h
 ·intro d b n _;rfl
 ·intro x l f e d b n h
  rw[oW]at h⊢
  split
  ·rename_i h1;rw[aB h1]at h;exact absurd h h1
  ·rename_i h1;rw[aA h1]at h;exact e _ _ _ h
theorem RP:∀(x:ji) (d b n:Nat),(mY x d b n).2.1=0→(mY x d b n).1≤200∧(mY x d b n).1=n+szT x:=by
 intro x;refine ji.rec (motive_1:=λx=>∀d b n,(mY x d b n).2.1=0→(mY x d b n).1≤200∧(mY x d b n).1=n+szT x) (motive_2:=λl=>∀d b n,(oW l d b n).2.1=0→(n≤200→(oW l d b n).1≤200)∧(oW l d b n).1=n+VG l) ?_ ?_ ?_ x
 ·intro k s i t l c d b n h
  rw[mY]at h⊢
  by_cases h1:200<n+1∨40<d
  ·rw[aB h1]at h;exact absurd h (by simp)
  rw[aA h1]at h⊢
  by_cases a:kY k s i t l.length b≠0
  ·rw[aB a]at h;exact absurd h a
  rw[aA a]at h⊢;obtain⟨e,f⟩:=c _ _ _ h;exact⟨e zE,by rw[f,szT];omega⟩
 ·intro d b n _;exact⟨λh=>h,rfl⟩
 ·intro x l g j d b n h
  rw[oW]at h⊢
  by_cases h1:(mY x d b n).2.1≠0
  ·rw[aB h1]at h;exact absurd h h1
  rw[aA h1]at h⊢;obtain⟨m,a2⟩:=g d b n (eY.1 h1);obtain⟨o,p⟩:=j _ _ _ h;exact⟨λ_=>o m,by rw[p,a2,VG];omega⟩
theorem ZX:∀(x:ji) (d b n:Nat),n≤200→(mY x d b n).1≤201:=by
 intro x;refine ji.rec (motive_1:=λx=>∀d b n,n≤200→(mY x d b n).1≤201) (motive_2:=λl=>∀d b n,n≤200→(oW l d b n).1≤201) ?_ ?_ ?_ x
 ·intro k s i t l a d b n f
  rw[mY]
  split
  ·show n+1≤201;omega
  ·split
   ·show n+1≤201;omega
   ·exact a _ _ _ zE
 ·intro d b n h;show n≤201;omega
 ·intro x l c e d b n h
  rw[oW]
  split
  ·exact c d b n h
  ·rename_i h1
   exact e _ _ _ (RP x d b n (eY.1 h1)).1
inductive Sk:ji→Nat→Nat→Prop
 |mk {x:ji} {d b:Nat} (hd:d≤40) (h:AY x b=0) (k:∀y∈x.args,Sk y (d+1) (if x.kind=3 then b+1 else b)):Sk x d b
theorem RO:∀(x:ji) (d b n:Nat),(mY x d b n).2.1=0→Sk x d b:=by
 intro x;refine ji.rec (motive_1:=λx=>∀d b n,(mY x d b n).2.1=0→Sk x d b) (motive_2:=λl=>∀d b n,(oW l d b n).2.1=0→∀y∈l,Sk y d b) ?_ ?_ ?_ x
 ·intro k s i t l c d b n h
  rw[mY]at h
  by_cases h1:200<n+1∨40<d
  ·rw[aB h1]at h;exact absurd h (by simp)
  rw[aA h1]at h
  by_cases a:kY k s i t l.length b≠0
  ·rw[aB a]at h;exact absurd h a
  rw[aA a]at h;exact .mk zE (eY.1 a) (c _ _ _ h)
 ·intro d b n _ y hy;cases hy
 ·intro x l e f d b n h y hy
  rw[oW]at h
  by_cases h1:(mY x d b n).2.1≠0
  ·rw[aB h1]at h;exact absurd h h1
  rw[aA h1]at h
  rcases cN.1 hy with rfl|hy
  ·exact e _ _ _ (eY.1 h1)
  ·exact f _ _ _ h y hy
theorem Sk.inv {x:ji}{d b:Nat}(h:Sk x d b):d≤40∧AY x b=0∧∀y∈x.args,Sk y (d+1) (if x.kind=3 then b+1 else b):=by
 cases h with
 |mk a b c=>exact⟨a,b,c⟩
theorem Mw {k:Int}{nm:cM}{ix:Int}{a:j0}{m b:Nat}(h:kY k nm ix a m b=0):
 (k=1∧wJ a=0∧m=0)∨(k=2∧0≤ix∧ix<b∧m=0)∨(k=3∧m=1∧wJ a=0)∨(k=4∧m=2):=by
 unfold kY at h
 by_cases h1:k=1
 ·rw[aB h1]at h
  by_cases c:ix≠0∨m≠0
  ·rw[aB c]at h;cases h
  rw[aA c]at h
  by_cases c2:isName nm=false
  ·rw[aB c2]at h;cases h
  rw[aA c2]at h
  by_cases c3:wJ a≠0
  ·rw[aB c3]at h;cases h
  exact .inl ⟨h1,eY.1 c3,by omega⟩
 rw[aA h1]at h
 by_cases d:k=2
 ·rw[aB d]at h
  by_cases c:nm≠ []∨qB a=false∨m≠0
  ·rw[aB c]at h;cases h
  rw[aA c]at h
  by_cases c2:ix<0∨(b:Int)≤ix
  ·rw[aB c2]at h;cases h
  exact .inr (.inl ⟨d,by omega,by omega,eY.1 λhm=>c (.inr (.inr hm))⟩)
 rw[aA d]at h
 by_cases e:k=3
 ·rw[aB e]at h
  by_cases c:nm≠ []∨ix≠0∨m≠1
  ·rw[aB c]at h;cases h
  rw[aA c]at h
  by_cases c3:wJ a≠0
  ·rw[aB c3]at h;cases h
  exact .inr (.inr (.inl ⟨e,eY.1 λhm=>c (.inr (.inr hm)),eY.1 c3⟩))
 rw[aA e]at h
 by_cases f:k=4
 ·rw[aB f]at h
  by_cases c:nm≠ []∨ix≠0∨qB a=false∨m≠2
  ·rw[aB c]at h;cases h
  exact .inr (.inr (.inr ⟨f,eY.1 λhm=>c (.inr (.inr (.inr hm)))⟩))
 rw[aA f]at h;cases h
theorem VM (x:ji)(c:List j0):y9 x c=if x.kind=1 then some x.type else if x.kind=2 then c[c.length-1-x.index.toNat]? else if x.kind=3 then(oB x.args (c++ [x.type])).map λb=> .mk [] [x.type,b]else Hk (oB x.args c) (EX x.args c):=by
 cases x;rw[y9];rfl
theorem uz (x:ji)(l:List ji)(c:List j0):oB (x::l) c=y9 x c:=by rw[oB]
theorem Gx (x y:ji)(l:List ji)(c:List j0):EX (x::y::l) c=y9 y c:=by rw[EX,oB]
theorem Lc (a b:Option j0)(h:∀s l x,a=some s→s.args=l→b=some x→¬∃p q,l=[p,q]∧mF p x=true):Hk a b=none:=by
 unfold Hk
 split
 ·rename_i _ p q x
  split
  ·rename_i c;exact absurd ⟨p,q,rfl,c⟩ (h _ _ _ rfl rfl rfl)
  ·rfl
 ·rfl
theorem Ld {s p q x:j0}(a:s.args=[p,q])(h:mF p x=true):Hk (some s) (some x)=some q:=by
 cases s with
 |mk b l=>
  cases (show l=[p,q]from a)
  show(if mF p x then some q else none)=some q
  rw[aB h]
theorem Gs (x:ji)(d b n:Nat):oW [x] d b n=mY x d b n:=by
 rw[oW,oW]
 split
 ·rfl
 ·rename_i h
  have:=RN x d b n (eY.1 h)
  rw[←this]
theorem RM (x y:ji)(d b n:Nat):oW [x,y] d b n=if(mY x d b n).2.1≠0 then mY x d b n else mY y d b (mY x d b n).1:=by rw[oW,Gs]
inductive Hb:j0→Prop
 |leaf {b:cM} (h:b=sE∨b=sT):Hb (.mk b [])
 |fn {x y:j0} (hx:Hb x) (hy:Hb y):Hb (.mk [] [x,y])
theorem AM {b:cM}{l:List j0}(h:jn b l.length=true):((b=sE∨b=sT)∧l=[])∨(b=[]∧∃x y,l=[x,y]):=by
 unfold jn at h
 simp only[Bool.or_eq_true,Bool.and_eq_true,decide_eq_true_eq]at h
 rcases h with⟨h1,a⟩|⟨h1,a⟩
 ·exact .inl ⟨h1,ka a⟩
 ·refine .inr ⟨h1,?_⟩
  match l,a with
  | [x,y],_=>exact⟨x,y,rfl⟩
theorem Kl:∀(x:j0) (d n:Nat),(mR x d n).2=0→Hb x∧(mR x d n).1=n+szS x∧(mR x d n).1≤200:=by
 intro x;refine j0.rec (motive_1:=λx=>∀d n,(mR x d n).2=0→Hb x∧(mR x d n).1=n+szS x∧(mR x d n).1≤200) (motive_2:=λl=>∀d n,(mG l d n).2=0→(∀x∈l,Hb x)∧(mG l d n).1=n+VF l∧(n≤200→(mG l d n).1≤200)) ?_ ?_ ?_ x
 ·intro b l e d n h
  rw[mR]at h⊢
  by_cases h1:200<n+1∨40<d
  ·rw[aB h1]at h;exact absurd h (by simp)
  rw[aA h1]at h⊢
  by_cases a:jn b l.length=false
  ·rw[aB a]at h;exact absurd h (by simp)
  rw[aA a]at h⊢;obtain⟨c,f,k3⟩:=e _ _ h;refine⟨?_,by rw[f,szS];omega,k3 zE⟩
  rcases AM (by simpa using a)with⟨g,rfl⟩|⟨rfl,x,y,rfl⟩
  ·exact .leaf g
  ·exact .fn (c x (by simp)) (c y (by simp))
 ·intro d n _;exact⟨λx hx=>(by cases hx),rfl,λh=>h⟩
 ·intro x l i j d n h
  rw[mG]at h⊢
  by_cases h1:(mR x d n).2≠0
  ·rw[aB h1]at h;exact absurd h h1
  rw[aA h1]at h⊢;obtain⟨k,a2,a3⟩:=i d n (eY.1 h1);obtain⟨m,o,p⟩:=j _ _ h;refine⟨λy hy=> ?_,by rw[o,a2,VF];omega,λ_=>p a3⟩
  rcases cN.1 hy with rfl|hy
  ·exact k
  ·exact m y hy
end Go.Proofs.YtiefglecbgdaiaaGreatDoor
namespace Go.Proofs.YtiefglecbgdaiaaGreatDoor
open Go Go.J Tryz
theorem V4:∀(x:j0) (d n:Nat),n≤200→(mR x d n).1≤201:=by
 intro x;refine j0.rec (motive_1:=λx=>∀d n,n≤200→(mR x d n).1≤201) (motive_2:=λl=>∀d n,n≤200→(mG l d n).1≤201) ?_ ?_ ?_ x
 ·intro b l a d n f
  rw[mR]
  split
  ·show n+1≤201;omega
  ·split
   ·show n+1≤201;omega
   ·exact a _ _ zE
 ·intro d n h;show n≤201;omega
 ·intro x l c e d n h
  rw[mG]
  split
  ·exact c d n h
  ·rename_i h1
   exact e _ _ (Kl x d n (eY.1 h1)).2.2
theorem JI {l:List j0}{k:Nat}{y:j0}(h:l[k]?=some y)(d n:Nat):mG (l.drop k) d n=if(mR y d n).2≠0 then mR y d n else mG (l.drop (k+1)) d (mR y d n).1:=by rw[bW h,mG]
theorem Mn {l:List j0}{k:Nat}(h:l.length≤k)(d n:Nat):mG (l.drop k) d n=(n,0):=by rw[iy h,mG]
theorem Gf {b:cM}{m:Nat}(h:jn b m=true):m≤2:=by
 unfold jn at h
 simp only[Bool.or_eq_true,Bool.and_eq_true,decide_eq_true_eq]at h
 rcases h with⟨_,h⟩|⟨_,h⟩<;>omega
theorem Gd (b:cM)(m:Nat):(((b==([101]:cM))||(b==([116]:cM)))&&decide ((m:Int)=0)||((b==([]:cM))&&decide ((m:Int)=2)))=jn b m:=by
 unfold jn;rw[HG]
 simp only[Bool.or_eq_true,Bool.and_eq_true,beq_iff_eq,decide_eq_true_eq]
 constructor
 ·rintro (⟨h,k⟩|⟨h,k⟩)
  ·exact .inl ⟨h,by omega⟩
  ·exact .inr ⟨h,by omega⟩
 ·rintro (⟨h,k⟩|⟨h,k⟩)
  ·exact .inl ⟨h,by omega⟩
  ·exact .inr ⟨h,by omega⟩
theorem rP (s:cM)(i:s.length≤9223372036854775807):dK prog 66 #[sv s] [] (.bool (isName s)):=by
 refine dK.gx (args:=[sv s]) 55 func66 rfl ntmps66 rfl (λc=>g12 ?_);refine St.gf _ rfl rfl (λa=>Ev.move (.mk rfl)) rfl (St.gf _ rfl rfl (λa=>Ev.Pc (aa.gv rfl a) wX) rfl (St.gf _ rfl rfl (λa=>Ev.gtr (aa.gv rfl a) (.mk rfl)) rfl (g2 ?_)));refine St.gf _ rfl rfl (λa=>Ev.move (.mk rfl)) rfl (St.gf _ rfl rfl (λa=>Ev.E6 (k:=0) (aa.gv rfl a) (.mk rfl) wX rfl (by first|omega|(simp only[cn]at a;omega))) rfl ?_);refine St.gf _ rfl rfl (λa=>Ev.lss (aa.gv rfl a) (.mk rfl)) rfl (g2 ?_);refine St.gf _ rfl rfl (λa=>Ev.move (.mk rfl)) rfl (St.gf _ rfl rfl (λa=>Ev.E6 (k:=0) (aa.gv rfl a) (.mk rfl) wX rfl (by first|omega|(simp only[cn]at a;omega))) rfl ?_);refine St.gf _ rfl rfl (λa=>Ev.gtr (aa.gv rfl a) (.mk rfl)) rfl (g3 ?_);refine St.cq (λf=> ?_) (λf=> ?_)
 ·refine g7 ?_
  refine St.rV [_] [] ?_;exact be (Fw zE).symm
 ·refine g11 ?_
  refine St.lS (ι:=Nat) (λk T=>(25,iv k)::T) (λk=>k≤s.length∧(s.take k).all p7=true) (λk=>s.length-k) 0 (aC.k2 0 24) ⟨aQ _,rfl⟩ ?_;intro k g;obtain⟨hk,b⟩:=g;refine g6 ?_;refine St.cq (λh=> ?_) (λh=> ?_)
  ·refine g14 ?_
   refine St.ee (Ev.E6 (.mk rfl) (.mk rfl) wX rfl zE) (g8 ?_);refine St.gt _ rfl rfl (λa=>Ev.move (.mk rfl)) rfl (St.gt _ rfl rfl (λa=>Ev.leq (aa.gv rfl a) (.mk rfl)) rfl (g2 ?_));refine St.gf _ rfl rfl (λa=>Ev.move (.mk rfl)) rfl (St.gf _ rfl rfl (λa=>Ev.geq (aa.gv rfl a) (.mk rfl)) rfl (St.gf _ rfl rfl (λa=>Ev.move (aa.gv rfl a)) rfl (St.CG _ rfl rfl (λa=>Ev.move (.mk rfl)) rfl (St.CG _ rfl rfl (λa=>Ev.leq (aa.gv rfl a) (.mk rfl)) rfl (St.gf _ rfl rfl (λa=>Ev.and (aa.gv rfl a) (λhp=>aa.gv rfl (yk a hp))) rfl (g2 ?_))))));refine St.gf _ rfl rfl (λa=>Ev.move (.mk rfl)) rfl (St.gf _ rfl rfl (λa=>Ev.eql (aa.gv rfl a) (.mk rfl)) rfl (g2 ?_));refine St.gf _ rfl rfl (λa=>Ev.move (.mk rfl)) rfl (St.gf _ rfl rfl (λa=>Ev.eql (aa.gv rfl a) (.mk rfl)) rfl (g4 ?_));refine St.cq (λe=> ?_) (λe=> ?_)
   ·refine g11 ?_
    refine St.rV [_] [] ?_;exact be (Fx (k:=k) zE (by simp only[p7,low,digit,Bool.and_eq_false_iff,Bool.or_eq_false_iff,decide_eq_false_iff_not];omega)).symm
   ·refine g8 ?_
    refine St.aS (k+1) ⟨by omega,B9 (d:=0) b (by simp only[p7,low,digit,Bool.and_eq_true,Bool.or_eq_true,decide_eq_true_eq];exact e)⟩
  ·refine g11 ?_
   refine St.rV [_] [] ?_;exact be (Fy zE zE (by simp only[low,Bool.and_eq_true,decide_eq_true_eq];omega) (FC b zE)).symm
theorem ek (a b:Int):dK prog 64 #[iv a,iv b] [] (fv (a,b)):=by
 refine dK.gx (args:=[iv a,iv b]) 8 func64 rfl ntmps64 rfl (λc=>g2 ?_);refine St.al (λd=>g6 ?_);refine St.ee (Ev.build (au.aX rfl rfl) (λw=>eV rfl rfl w)) (g4 ?_);refine St.rV [_] [] ?_;rfl
theorem fm (a b:Int):dK prog 71 #[iv a,iv b] [] (fv (a,b)):=by
 refine dK.gx (args:=[iv a,iv b]) 8 func71 rfl ntmps71 rfl (λc=>g2 ?_);refine St.al (λd=>g6 ?_);refine St.ee (Ev.build (au.aX rfl rfl) (λw=>eV rfl rfl w)) (g4 ?_);refine St.rV [_] [] ?_;rfl
theorem cV (a b:Int):dK prog 105 #[iv a,iv b] [] (fv (a,b)):=by
 refine dK.gx (args:=[iv a,iv b]) 8 func105 rfl ntmps105 rfl (λc=>g2 ?_);refine St.al (λd=>g6 ?_);refine St.ee (Ev.build (au.aX rfl rfl) (λw=>eV rfl rfl w)) (g4 ?_);refine St.rV [_] [] ?_;rfl
theorem gT (a b:Int):dK prog 112 #[iv a,iv b] [] (fv (a,b)):=by
 refine dK.gx (args:=[iv a,iv b]) 8 func112 rfl ntmps112 rfl (λc=>g2 ?_);refine St.al (λd=>g6 ?_);refine St.ee (Ev.build (au.aX rfl rfl) (λw=>eV rfl rfl w)) (g4 ?_);refine St.rV [_] [] ?_;rfl
theorem CQ (x:fk):dK prog 162 #[aV x] [ez x] (.bool (qB (dW x))):=by
 refine dK.pz (args:=[aV x]) 12 func162 rfl ntmps162 rfl (λc=>g2 ?_);refine St.cC (.mk rfl) rfl (λb=>g4 ?_);refine St.ug x (g5 ?_);refine St.gt _ rfl rfl (λa=>Ev.cU (.mk rfl) pV) rfl (St.gt _ rfl rfl (λa=>Ev.jN (aa.gv rfl a) nJ trivial (by rfl)) rfl ?_);refine St.gt _ rfl rfl (λa=>Ev.gN (aa.gv rfl a) nJ) rfl (St.gt _ rfl rfl (λa=>Ev.eql (aa.gv rfl a) (.mk rfl)) rfl (g5 ?_));refine St.rV [_] [] ?_;exact be (by rw[qB,ri,l9,aO,HG];simp only[Bool.and_eq_true,beq_iff_eq,decide_eq_true_eq];exact⟨λh=>⟨h.1,by have:=h.2;omega⟩,λh=>⟨h.1,by have:=h.2;omega⟩⟩)
theorem EM (b bw f:Nat):∀(x:fk) (d n:Nat),d≤100→n≤200→dx prog 201 ([aV x,iv (d:Nat)]++ [tW b,tW bw]).toArray [aD (ez x),tI b [iv (n:Nat)] 3,tI bw [(.func (.func 201) #[] [tW b,tW bw].toArray)] f] (λv H'=>v=iv (mR (dW x) d n).2∧H'=[tI b [iv ((mR (dW x) d n).1:Nat)] 3,tI bw [(.func (.func 201) #[] [tW b,tW bw].toArray)] f]):=by
 intro x
 induction x using fk.ind
 rename_i x o
 intro d n hd u;refine dx.body (args:=[aV x,iv (d:Nat)]++ [tW b,tW bw]) 62 func201 rfl ntmps201 rfl (λc=>go ?_)
 have e:=V3 (dW x) d n
 rw[ri,l9,aO]at e;refine St.ug x (go ?_);refine St.cC (.mk rfl) rfl (λw=>g7 ?_);refine St.cP (.mk rfl) (.mk rfl) dQ rfl (by rfl) ?_;refine St.qe b (L':=[iv ((n+1:Nat):Int)]) rfl (g8 ?_);refine St.gf _ rfl rfl (λa=>Ev.move (.mk rfl)) rfl (St.gf _ rfl rfl (λa=>Ev.gtr (aa.gv rfl a) (.mk rfl)) rfl (g3 ?_));refine St.cq (λp=> ?_) (λp=> ?_)
 ·rw[aB zE]at e
  refine g7 ?_;refine St.rV [_] [tI b [iv ((n+1):Nat)] 3,tI bw [(.func (.func 201) #[] [tW b,tW bw].toArray)] f] ?_
  rw[e];exact⟨rfl,rfl⟩
 ·rw[aA zE]at e
  refine g8 ?_;refine St.gf _ rfl rfl (λa=>Ev.cU (.mk rfl) Du) rfl (St.gf _ rfl rfl (λa=>Ev.jN (aa.gv rfl a) wX trivial (by rfl)) rfl ?_);refine St.gf _ rfl rfl (λa=>Ev.R6 (aa.gv rfl a) (.mk rfl)) rfl (g9 ?_);refine St.gt _ rfl rfl (λa=>Ev.cU (.mk rfl) pV) rfl (St.gt _ rfl rfl (λa=>Ev.jN (aa.gv rfl a) nJ trivial (by rfl)) rfl ?_);refine St.gt _ rfl rfl (λa=>Ev.gN (aa.gv rfl a) nJ) rfl (St.gt _ rfl rfl (λa=>Ev.eql (aa.gv rfl a) (.mk rfl)) rfl (g2 ?_));refine St.gf _ rfl rfl (λa=>Ev.cU (.mk rfl) Du) rfl (St.gf _ rfl rfl (λa=>Ev.jN (aa.gv rfl a) wX trivial (by rfl)) rfl ?_);refine St.gf _ rfl rfl (λa=>Ev.R6 (aa.gv rfl a) (.mk rfl)) rfl (St.gf _ rfl rfl (λa=>Ev.move (aa.gv rfl a)) rfl (St.CG _ rfl rfl (λa=>Ev.cU (.mk rfl) pV) rfl (St.CG _ rfl rfl (λa=>Ev.jN (aa.gv rfl a) nJ trivial (by rfl)) rfl ?_)));refine St.CG _ rfl rfl (λa=>Ev.gN (aa.gv rfl a) nJ) rfl (St.CG _ rfl rfl (λa=>Ev.eql (aa.gv rfl a) (.mk rfl)) rfl (St.gf _ rfl rfl (λa=>Ev.and (aa.gv rfl a) (λhp=>aa.gv rfl (yk a hp))) rfl (g4 ?_)));refine St.cond _ rfl (λg=> ?_) (λg=> ?_)
  ·rw[Gd]at g
   rw[aB (by simpa using g)]at e;refine g7 ?_;refine St.rV [_] [tI b [iv ((n+1):Nat)] 3,tI bw [(.func (.func 201) #[] [tW b,tW bw].toArray)] f] ?_
   rw[e];exact⟨rfl,rfl⟩
  ·rw[Gd]at g
   have q:=Gf (show jn x.base x.args.length=true by simpa using g)
   rw[aA (by simpa using g)]at e;refine g12 ?_;refine St.td (ι:=Nat) (κ:=Nat) (λk z T=>(49,iv k)::T) (λk z=>[tI b [iv (z:Nat)] 3,tI bw [(.func (.func 201) #[] [tW b,tW bw].toArray)] f,aD (sl kW x.av.1 x.args),aD (aL ez x.args)]) (λk z=>k≤x.args.length∧z≤200∧mG (x.args.map dW) (d+1) (n+1)=mG ((x.args.map dW).drop k) (d+1) z) (λk z=>x.args.length-k) 0 (n+1) (aC.k4 1 3 47 48) ⟨aQ _,by omega,rfl⟩ ?_;rintro k z ⟨hk,hz,h⟩;refine g6 ?_;refine St.cq (λr=> ?_) (λr=> ?_)
   ·obtain⟨y,hy⟩:=aF (show k<x.args.length by omega)
    have j:=aY hy
    have m:=JI (l:=x.args.map dW) (k:=k) (y:=dW y) (by rw[bJ,hy];rfl) (d+1) z
    refine St.bh ez x.args (x:=y) j ?_
    have hle:=V4 (dW y) (d+1) z hz
    refine g7 ?_;refine St.ee (Ev.iD (.mk rfl) hy sK trivial mS gH.eq) (St.al (λA=>g9 ?_));refine St.slot 56 (iv ((d+1:Nat):Int)) rfl rfl (St.ej (o y j (d+1) z zE hz) Vv (.mk rfl) (.aX rfl rfl) rfl ?_);rintro s _ ⟨rfl,rfl⟩;refine St.dD (g9 ?_);refine St.cq (λt=> ?_) (λt=> ?_)
    ·refine g12 ?_
     refine St.rV [_] [tI b [iv ((mR (dW y) (d+1) z).1:Nat)] 3,tI bw [(.func (.func 201) #[] [tW b,tW bw].toArray)] f] ?_
     rw[e,h,m,aB zE];exact⟨rfl,rfl⟩
    ·refine g8 ?_
     have i:=(Kl (dW y) (d+1) z zE).2.2
     refine St.vL (k+1) (mR (dW y) (d+1) z).1 ⟨by omega,i,by rw[h,m,aA zE]⟩
   ·rw[Mn (by rw[aO];omega)]at h
    refine g11 ?_;refine St.rV [_] [tI b [iv (z:Nat)] 3,tI bw [(.func (.func 201) #[] [tW b,tW bw].toArray)] f] ?_
    rw[e,h];exact⟨rfl,rfl⟩
theorem xF (x:fk):dK prog 161 #[aV x] [ez x] (fv (wJ (dW x),0)):=by
 refine dK.pz (args:=[aV x]) 10 func161 rfl ntmps161 rfl (λc=>g2 ?_);refine St.cC (.mk rfl) rfl (λd=>St.al (λe=>g4 ?_));refine St.al (λa=>St.cP (.mk rfl) (.mk rfl) dQ rfl (by rfl) ?_);refine St.qe a (L':=[iv ((0:Nat):Int)]) rfl (g4 ?_);refine St.al (λb=>g4 ?_);refine St.ee (Ev.func (.aX rfl rfl)) (St.cP (.mk rfl) (.mk rfl) ah0 rfl (by rfl) ?_);refine g6 ?_;refine St.ej (EM a b 310 x 1 0 zE zE) Vv (.mk rfl) (.aX rfl rfl) rfl ?_;rintro f _ ⟨rfl,rfl⟩;refine St.dD (St.ee (Ev.build (au.aq rfl) (λw=>yC rfl w)) (g4 ?_));refine St.rV [_] [] ?_;rfl
theorem Ql (x y:j0):mF x y=(decide (x.base=y.base)&&decide (x.args.length=y.args.length)&&oT x.args y.args):=by cases x;cases y;rw[mF];rfl
theorem Ga {l m:List j0}{k:Nat}{x y:j0}(hx:l[k]?=some x)(hy:m[k]?=some y):oT (l.drop k) (m.drop k)=(mF x y&&oT (l.drop (k+1)) (m.drop (k+1))):=by rw[bW hx,bW hy,oT]
theorem JF {l m:List j0}{k:Nat}(h:l.length≤k):oT (l.drop k) (m.drop k)=true:=by rw[iy h,oT];intro _ _ _ _ h;cases h
theorem Mk:∀(x y:fk),dK prog 202 #[aV x,aV y] [ez x,ez y] (.bool (mF (dW x) (dW y))):=by
 intro x
 induction x using fk.ind
 rename_i x i
 intro y;refine dK.qf (args:=[aV x,aV y]) 39 func202 rfl ntmps202 rfl (λc=>go ?_)
 have b:=Ql (dW x) (dW y)
 rw[ri,ri,l9,l9,aO,aO]at b;refine St.ug x (St.ug y (St.wf x.av.1 (λq r=>go ?_)));refine St.cC (.mk rfl) rfl (λs=>St.cC (.mk rfl) rfl (λt=>g12 ?_));refine St.gf _ rfl rfl (λa=>Ev.cU (.mk rfl) pV) rfl (St.gf _ rfl rfl (λa=>Ev.jN (aa.gv rfl a) nJ trivial (by rfl)) rfl ?_);refine St.gf _ rfl rfl (λa=>Ev.gN (aa.gv rfl a) nJ) rfl (St.gf _ rfl rfl (λa=>Ev.cU (.mk rfl) pV) rfl (St.gf _ rfl rfl (λa=>Ev.jN (aa.gv rfl a) nJ trivial (by rfl)) rfl ?_));refine St.gf _ rfl rfl (λa=>Ev.gN (aa.gv rfl a) nJ) rfl (St.gf _ rfl rfl (λa=>Ev.neq (aa.gv rfl a) (aa.gv rfl a)) rfl (g3 ?_));refine St.cq (λd=> ?_) (λd=> ?_)
 ·refine g7 ?_
  refine St.rV [_] [] ?_;exact be (by rw[b];rcases d with h|h<;>simp[h]<;>omega)
 ·obtain⟨j,n⟩:x.base=y.base∧x.args.length=y.args.length:=⟨by simpa using d.1,by have:=d.2;omega⟩
  rw[j,n,cX rfl,cX rfl,Bool.true_and,Bool.true_and]at b;refine g12 ?_;refine St.lS (ι:=Nat) (λk T=>(23,iv k)::T) (λk=>k≤x.args.length∧oT (x.args.map dW) (y.args.map dW)=oT ((x.args.map dW).drop k) ((y.args.map dW).drop k)) (λk=>x.args.length-k) 0 (aC.k3 2 3 22) ⟨aQ _,rfl⟩ ?_;intro k o;obtain⟨hk,e⟩:=o;refine g6 ?_;refine St.cq (λp=> ?_) (λp=> ?_)
  ·obtain⟨u,hu⟩:=aF (show k<x.args.length by omega)
   obtain⟨w,hw⟩:=aF (show k<y.args.length by omega);refine St.bh ez x.args (x:=u) (aY hu) (St.bh ez y.args (x:=w) (aY hw) ?_)
   have g:=Ga (l:=x.args.map dW) (m:=y.args.map dW) (k:=k) (x:=dW u) (y:=dW w) (by rw[bJ,hu];rfl) (by rw[bJ,hw];rfl)
   refine g11 ?_;refine St.rq mixed (by kernel_rfl) (Mm.drawn _ _) ?_;refine g4 ?_;refine Sq.ee (Ev.iD (.mk rfl) hu sK trivial mS gH.eq) (g4 ?_);refine Sq.ee (Ev.iD (.mk rfl) hw sK trivial mS gH.eq) (Sq.ee (Ev.call (i u (aY hu) w) Vw (.aX rfl rfl)) (g3 ?_));refine St.cond _ rfl (λf=> ?_) (λf=> ?_)
   ·skip
    refine g11 ?_;refine St.rV [_] [] ?_;exact be (by rw[b,e,g,show mF (dW u) (dW w)=false by simpa using f];rfl)
   ·skip
    refine g8 ?_;refine St.aS (k+1) ⟨by omega,by rw[e,g,show mF (dW u) (dW w)=true by simpa using f,Bool.true_and]⟩
  ·rw[JF (by rw[aO];omega)]at e
   refine g11 ?_;refine St.rV [_] [] ?_;exact be (by rw[b,e])
theorem L2 (x:dX)(b:Nat):AY (cx x) b=kY x.kind x.name x.index (dW x.type) x.args.length b:=by
 cases x with
 |mk k s i t v l=>rw[rB];show kY k s i (dW t) (l.map cx).length b=_;rw[aO];rfl
theorem tV (x:dX):(cx x).kind=x.kind:=by cases x;rfl
theorem tm1 (nm:cM)(ix:Int)(a:j0)(m b:Nat):kY 1 nm ix a m b=if ix≠0∨m≠0 then 5 else if isName nm=false then 10 else if wJ a≠0 then 12 else 0:=by unfold kY;rw[aB rfl]
theorem tm2 (nm:cM)(ix:Int)(a:j0)(m b:Nat):kY 2 nm ix a m b=if nm≠ []∨qB a=false∨m≠0 then 5 else if ix<0∨(b:Int)≤ix then 15 else 0:=by unfold kY;rw[aA (by decide),aB rfl]
theorem tm3 (nm:cM)(ix:Int)(a:j0)(m b:Nat):kY 3 nm ix a m b=if nm≠ []∨ix≠0∨m≠1 then 5 else if wJ a≠0 then 12 else 0:=by unfold kY;rw[aA (by decide),aA (by decide),aB rfl]
theorem tm4 (nm:cM)(ix:Int)(a:j0)(m b:Nat):kY 4 nm ix a m b=if nm≠ []∨ix≠0∨qB a=false∨m≠2 then 5 else 0:=by unfold kY;rw[aA (by decide),aA (by decide),aA (by decide),aB rfl]
theorem tm5 {k:Int}(h1:k≠1)(a:k≠2)(c:k≠3)(d:k≠4)(nm:cM)(ix:Int)(e:j0)(m b:Nat):kY k nm ix e m b=4:=by unfold kY;rw[aA h1,aA a,aA c,aA d]
theorem GN {α:Type}{l:List α}(h:l.length=1):∃y,l=[y]:=by
 match l,h with
 | [y],_=>exact⟨y,rfl⟩
theorem Ab {α:Type}{l:List α}(h:l.length=2):∃y z,l=[y,z]:=by
 match l,h with
 | [y,z],_=>exact⟨y,z,rfl⟩
theorem jj (b:Nat)(cd at_:Int):dK prog 160 ([iv cd]++ [tW b]).toArray [kH b (iv at_)] (fv (cd,at_)):=by
 refine dK.pz (args:=[iv cd]++ [tW b]) 7 func160 rfl ntmps160 rfl (λc=>g2 ?_);refine St.al (λa=>g6 ?_);refine St.ee (Ev.build (au.aX rfl rfl) (λw=>eV rfl rfl w)) (g4 ?_);refine St.rV [_] [] ?_;rfl
theorem BU (e bw g:Nat):∀(x:dX) (d b n:Nat),cz.wf x→d≤100→b≤d→n≤200→dx prog 159 ([cR x,iv (d:Nat),iv (b:Nat)]++ [tW e,tW bw]).toArray [aD (cu x),tI e [iv (n:Nat)] 3,tI bw [(.func (.func 159) #[] [tW e,tW bw].toArray)] g] (λv H'=>v=fv (mY (cx x) d b n).2∧H'=[tI e [iv ((mY (cx x) d b n).1:Nat)] 3,tI bw [(.func (.func 159) #[] [tW e,tW bw].toArray)] g]):=by
 intro x
 induction x using dX.ind
 rename_i x E
 intro d b n N hd O V
 have P:x.name.length≤9223372036854775807:=by have:=N.2.1;omega
 refine dx.body (args:=[cR x,iv (d:Nat),iv (b:Nat)]++ [tW e,tW bw]) 166 func159 rfl ntmps159 rfl (λc=>go ?_)
 have f:=ZW (cx x) d b n
 rw[L2,tU,tV]at f;refine St.GO x (St.wf x.av.1 (λF W=>go ?_));refine St.cC (.mk rfl) rfl (λX=>St.al (λJ=>g5 ?_));refine St.al (λj=>St.cP (.mk rfl) (.mk rfl) dQ rfl (by rfl) ?_);refine g6 ?_;refine St.cP (.mk rfl) (.mk rfl) dQ rfl (by rfl) ?_;refine St.qe e (L':=[iv ((n+1:Nat):Int)]) rfl (g4 ?_);refine St.ee (Ev.func (.aq rfl)) (g9 ?_);refine St.gf _ rfl rfl (λa=>Ev.move (.mk rfl)) rfl (St.gf _ rfl rfl (λa=>Ev.gtr (aa.gv rfl a) (.mk rfl)) rfl (g3 ?_));refine St.cq (λQ=> ?_) (λQ=> ?_)
 ·rw[aB zE]at f
  refine g3 ?_;refine St.ee (Ev.oK (jj j 1 n) sS (.mk rfl) (.aq rfl) (eu.aW eu.nil)) (g5 ?_);refine St.rV [_] [tI e [iv ((n+1):Nat)] 3,tI bw [(.func (.func 159) #[] [tW e,tW bw].toArray)] g] ?_;rw[f];exact⟨rfl,rfl⟩
 ·rw[aA zE]at f
  refine g16 ?_;refine St.cond _ rfl (λr=> ?_) (λr=> ?_)
  focus
   skip
   try simp only[cn]at r
   rw[r,tm1]at f;refine g7 ?_;refine St.gf _ rfl rfl (λa=>Ev.cU (.mk rfl) ve) rfl (St.gf _ rfl rfl (λa=>Ev.jN (aa.gv rfl a) lx trivial (by rfl)) rfl ?_);refine St.gf _ rfl rfl (λa=>Ev.gN (aa.gv rfl a) lx) rfl (St.gf _ rfl rfl (λa=>Ev.neq (aa.gv rfl a) (.mk rfl)) rfl (g3 ?_));refine St.cond _ rfl (λG=> ?_) (λG=> ?_)
   focus
    skip
    try simp only[cn]at G
    rw[aB (show x.index≠0∨x.args.length≠0 by omega)]at f;refine g3 ?_;refine St.ee (Ev.oK (jj j 5 n) sS (.mk rfl) (.aq rfl) (eu.aW eu.nil)) (g7 ?_);refine St.rV [_] [tI e [iv ((n+1):Nat)] 3,tI bw [(.func (.func 159) #[] [tW e,tW bw].toArray)] g] ?_;rw[f,aB (by decide)];exact⟨rfl,rfl⟩
   focus
    skip
    try simp only[cn]at G
    obtain⟨hi,s⟩:x.index=0∧x.args.length=0:=by omega
    rw[aA (show ¬(x.index≠0∨x.args.length≠0) by omega)]at f;refine g7 ?_;refine St.ee (Ev.call (rP x.name P) T7 (.aq rfl)) (g3 ?_);refine St.cond _ rfl (λt=> ?_) (λt=> ?_)
    focus
     skip
     try simp only[cn]at t
     rw[aB (show isName x.name=false by simpa using t)]at f;refine g3 ?_;refine St.ee (Ev.oK (jj j 10 n) sS (.mk rfl) (.aq rfl) (eu.aW eu.nil)) (g7 ?_);refine St.rV [_] [tI e [iv ((n+1):Nat)] 3,tI bw [(.func (.func 159) #[] [tW e,tW bw].toArray)] g] ?_;rw[f,aB (by decide)];exact⟨rfl,rfl⟩
    focus
     skip
     try simp only[cn]at t
     rw[aA (show ¬isName x.name=false by simpa using t)]at f;refine g5 ?_;refine St.ee (Ev.jO 2 (.mk rfl) sK trivial mS rfl rfl) (St.ee (Ev.call (xF x.type) Vn (.aq rfl)) (St.ee (Ev.Dj (.mk rfl) H0 rfl (by first|rw[fA]|(dsimp only;rw[fA])|kernel_rfl) rfl) ?_));refine g3 ?_;refine St.cond _ rfl (λu=> ?_) (λu=> ?_)
     focus
      skip
      try simp only[cn]at u
      rw[aB (show wJ (dW x.type)≠0 by simpa using u)]at f;refine g3 ?_;refine St.ee (Ev.oK (jj j 12 n) sS (.mk rfl) (.aq rfl) (eu.aW eu.nil)) (g6 ?_);refine St.rV [_] [tI e [iv ((n+1):Nat)] 3,tI bw [(.func (.func 159) #[] [tW e,tW bw].toArray)] g] ?_;rw[f,aB (by decide)];exact⟨rfl,rfl⟩
     focus
      skip
      try simp only[cn]at u
      rw[aA (show ¬wJ (dW x.type)≠0 by simpa using u),aA (by decide),ka s,kb,oW]at f;refine go ?_
  rotate_left
  focus
   skip
   try simp only[cn]at r
   refine g6 ?_;refine St.cond _ rfl (λA=> ?_) (λA=> ?_)
   focus
    skip
    try simp only[cn]at A
    rw[A,tm2]at f;refine g7 ?_;refine St.gf _ rfl rfl (λa=>Ev.cU (.mk rfl) Dv) rfl (St.gf _ rfl rfl (λa=>Ev.jO 2 (aa.gv rfl a) sK trivial mS rfl rfl) rfl (St.gf _ rfl rfl (λa=>Ev.call (CQ x.type) Vo (.cons (aa.gv rfl a) .nil)) rfl (St.gf _ rfl rfl (λa=>Ev.not (aa.gv rfl a)) rfl (g2 ?_))));refine St.gf _ rfl rfl (λa=>Ev.cU (.mk rfl) ve) rfl (St.gf _ rfl rfl (λa=>Ev.jN (aa.gv rfl a) lx trivial (by rfl)) rfl ?_);refine St.gf _ rfl rfl (λa=>Ev.gN (aa.gv rfl a) lx) rfl (St.gf _ rfl rfl (λa=>Ev.neq (aa.gv rfl a) (.mk rfl)) rfl (g3 ?_));refine St.cond _ rfl (λB=> ?_) (λB=> ?_)
    focus
     skip
     simp only[Bool.or_eq_true,Bool.or_eq_false_iff,Bool.not_eq_true',Bool.not_eq_false',decide_eq_true_eq,decide_eq_false_iff_not,beq_iff_eq,beq_eq_false_iff_ne]at B
     rw[aB (show x.name≠ []∨qB (dW x.type)=false∨x.args.length≠0 by rcases B with(h|h)|h;exact .inl h;exact .inr (.inl h);exact .inr (.inr zE))]at f;refine g3 ?_;refine St.ee (Ev.oK (jj j 5 n) sS (.mk rfl) (.aq rfl) (eu.aW eu.nil)) (g7 ?_);refine St.rV [_] [tI e [iv ((n+1):Nat)] 3,tI bw [(.func (.func 159) #[] [tW e,tW bw].toArray)] g] ?_;rw[f,aB (by decide)];exact⟨rfl,rfl⟩
    focus
     skip
     simp only[Bool.or_eq_true,Bool.or_eq_false_iff,Bool.not_eq_true',Bool.not_eq_false',decide_eq_true_eq,decide_eq_false_iff_not,beq_iff_eq,beq_eq_false_iff_ne]at B
     obtain⟨⟨C,H⟩,l⟩:=B
     have s:x.args.length=0:=by omega
     rw[aA (show ¬(x.name≠ []∨qB (dW x.type)=false∨x.args.length≠0) by rintro (h|h|h);exact h (by simpa using C);rw[H]at h;cases h;omega)]at f;refine g8 ?_;refine St.gf _ rfl rfl (λa=>Ev.cU (.mk rfl) zL) rfl (St.gf _ rfl rfl (λa=>Ev.jN (aa.gv rfl a) fA trivial (by rfl)) rfl ?_);refine St.gf _ rfl rfl (λa=>Ev.move (.mk rfl)) rfl (St.gf _ rfl rfl (λa=>Ev.geq (aa.gv rfl a) (aa.gv rfl a)) rfl (g3 ?_));refine St.cond _ rfl (λm=> ?_) (λm=> ?_)
     focus
      skip
      try simp only[cn]at m
      rw[aB (show x.index<0∨(b:Int)≤x.index by omega)]at f;refine g3 ?_;refine St.ee (Ev.oK (jj j 15 n) sS (.mk rfl) (.aq rfl) (eu.aW eu.nil)) (g6 ?_);refine St.rV [_] [tI e [iv ((n+1):Nat)] 3,tI bw [(.func (.func 159) #[] [tW e,tW bw].toArray)] g] ?_;rw[f,aB (by decide)];exact⟨rfl,rfl⟩
     focus
      skip
      try simp only[cn]at m
      rw[aA (show ¬(x.index<0∨(b:Int)≤x.index) by omega),aA (by decide),ka s,kb,oW]at f;refine go ?_
   rotate_left
   focus
    skip
    try simp only[cn]at A
    refine g6 ?_;refine St.cq (λo=> ?_) (λo=> ?_)
    ·rw[o,tm3]at f
     refine g7 ?_;refine St.gf _ rfl rfl (λa=>Ev.cU (.mk rfl) zL) rfl (St.gf _ rfl rfl (λa=>Ev.jN (aa.gv rfl a) fA trivial (by rfl)) rfl ?_);refine St.gf _ rfl rfl (λa=>Ev.neq (aa.gv rfl a) (.mk rfl)) rfl (g2 ?_);refine St.gf _ rfl rfl (λa=>Ev.cU (.mk rfl) ve) rfl (St.gf _ rfl rfl (λa=>Ev.jN (aa.gv rfl a) lx trivial (by rfl)) rfl ?_);refine St.gf _ rfl rfl (λa=>Ev.gN (aa.gv rfl a) lx) rfl (St.gf _ rfl rfl (λa=>Ev.neq (aa.gv rfl a) (.mk rfl)) rfl (g3 ?_));refine St.cond _ rfl (λi=> ?_) (λi=> ?_)
     ·simp only[Bool.or_eq_true,Bool.or_eq_false_iff,Bool.not_eq_true',Bool.not_eq_false',decide_eq_true_eq,decide_eq_false_iff_not,beq_iff_eq,beq_eq_false_iff_ne]at i
      rw[aB (show x.name≠ []∨x.index≠0∨x.args.length≠1 by rcases i with(h|h)|h;exact .inl h;exact .inr (.inl h);exact .inr (.inr zE))]at f;refine g3 ?_;refine St.ee (Ev.oK (jj j 5 n) sS (.mk rfl) (.aq rfl) (eu.aW eu.nil)) (g7 ?_);refine St.rV [_] [tI e [iv ((n+1):Nat)] 3,tI bw [(.func (.func 159) #[] [tW e,tW bw].toArray)] g] ?_;rw[f,aB (by decide)];exact⟨rfl,rfl⟩
     ·simp only[Bool.or_eq_true,Bool.or_eq_false_iff,Bool.not_eq_true',Bool.not_eq_false',decide_eq_true_eq,decide_eq_false_iff_not,beq_iff_eq,beq_eq_false_iff_ne]at i
      obtain⟨⟨C,H⟩,l⟩:=i
      have s:x.args.length=1:=by omega
      rw[aA (show ¬(x.name≠ []∨x.index≠0∨x.args.length≠1) by rintro (h|h|h);exact h (by simpa using C);omega;omega)]at f;refine g6 ?_;refine St.ee (Ev.jO 2 (.mk rfl) sK trivial mS rfl rfl) (St.ee (Ev.call (xF x.type) Vn (.aq rfl)) (St.ee (Ev.Dj (.mk rfl) H0 rfl (by first|rw[fA]|(dsimp only;rw[fA])|kernel_rfl) rfl) ?_));refine g3 ?_;refine St.cq (λp=> ?_) (λp=> ?_)
      ·rw[aB (show wJ (dW x.type)≠0 by simpa using p)]at f
       refine g3 ?_;refine St.ee (Ev.oK (jj j 12 n) sS (.mk rfl) (.aq rfl) (eu.aW eu.nil)) (g7 ?_);refine St.rV [_] [tI e [iv ((n+1):Nat)] 3,tI bw [(.func (.func 159) #[] [tW e,tW bw].toArray)] g] ?_;rw[f,aB (by decide)];exact⟨rfl,rfl⟩
      ·obtain⟨y,hy⟩:=GN s
       rw[aA (show ¬wJ (dW x.type)≠0 by simpa using p),aA (by decide),aB rfl,hy,fM,kb,Gs]at f;refine St.bh cu x.args (x:=y) (by rw[hy];simp) ?_;refine g3 ?_;refine St.ef [tI e [iv ((n+1):Nat)] 3,tI bw [(.func (.func 159) #[] [tW e,tW bw].toArray)] g,aD (cu y),tI J [iv 0,iv 0] 39] mixed (λK L=>SW.gd 1 ?_);refine SW.gd 2 ?_;refine SW.dd 3 rfl (λ_=>Ev.cI (k:=0) (.mk rfl) (.mk rfl) lx jy rfl zE) (SW.dd 4 rfl (λ_=>Ev.iD (.mk rfl) (show x.args[0]?=some y by rw[hy];rfl) sL trivial jy gH.eq) ?_);refine SW.gd 5 ?_;refine SW.gd 6 ?_;refine SW.slot 115 (iv ((d+1:Nat):Int)) rfl rfl (SW.gd 7 ?_);refine SW.gd 8 ?_;refine SW.slot 117 (iv ((b+1:Nat):Int)) rfl rfl (SW.t1 0 ?_);refine g3 ?_;refine SW.go (SW.t1 9 ?_);refine St.ej (E y (by rw[hy];simp) (d+1) (b+1) (n+1) (F y (by rw[hy];simp)) zE zE zE) Jx (.mk rfl) (.eI rfl rfl rfl) rfl ?_;rintro R _ ⟨rfl,rfl⟩;refine St.dD (g2 ?_);refine SW.go (SW.t1 10 ?_);refine g3 ?_;refine SW.go (SW.dn (g4 ?_));refine St.rV [_] [tI e [iv ((mY (cx y) (d+1) (b+1) (n+1)).1:Nat)] 3,tI bw [(.func (.func 159) #[] [tW e,tW bw].toArray)] g] ?_
       rw[f];exact⟨rfl,rfl⟩
    ·refine g6 ?_
     refine St.cq (λI=> ?_) (λI=> ?_)
     ·rw[I,tm4]at f
      refine g7 ?_;refine St.gf _ rfl rfl (λa=>Ev.cU (.mk rfl) zL) rfl (St.gf _ rfl rfl (λa=>Ev.jN (aa.gv rfl a) fA trivial (by rfl)) rfl ?_);refine St.gf _ rfl rfl (λa=>Ev.neq (aa.gv rfl a) (.mk rfl)) rfl (g2 ?_);refine St.gf _ rfl rfl (λa=>Ev.cU (.mk rfl) Dv) rfl (St.gf _ rfl rfl (λa=>Ev.jO 2 (aa.gv rfl a) sK trivial mS rfl rfl) rfl (St.gf _ rfl rfl (λa=>Ev.call (CQ x.type) Vo (.cons (aa.gv rfl a) .nil)) rfl (St.gf _ rfl rfl (λa=>Ev.not (aa.gv rfl a)) rfl (g2 ?_))));refine St.gf _ rfl rfl (λa=>Ev.cU (.mk rfl) ve) rfl (St.gf _ rfl rfl (λa=>Ev.jN (aa.gv rfl a) lx trivial (by rfl)) rfl ?_);refine St.gf _ rfl rfl (λa=>Ev.gN (aa.gv rfl a) lx) rfl (St.gf _ rfl rfl (λa=>Ev.neq (aa.gv rfl a) (.mk rfl)) rfl (g3 ?_));refine St.cond _ rfl (λD=> ?_) (λD=> ?_)
      ·simp only[Bool.or_eq_true,Bool.or_eq_false_iff,Bool.not_eq_true',Bool.not_eq_false',decide_eq_true_eq,decide_eq_false_iff_not,beq_iff_eq,beq_eq_false_iff_ne]at D
       rw[aB (show x.name≠ []∨x.index≠0∨qB (dW x.type)=false∨x.args.length≠2 by rcases D with((h|h)|h)|h;exact .inl h;exact .inr (.inl h);exact .inr (.inr (.inl h));exact .inr (.inr (.inr zE)))]at f;refine g3 ?_;refine St.ee (Ev.oK (jj j 5 n) sS (.mk rfl) (.aq rfl) (eu.aW eu.nil)) (g7 ?_);refine St.rV [_] [tI e [iv ((n+1):Nat)] 3,tI bw [(.func (.func 159) #[] [tW e,tW bw].toArray)] g] ?_;rw[f,aB (by decide)];exact⟨rfl,rfl⟩
      ·simp only[Bool.or_eq_true,Bool.or_eq_false_iff,Bool.not_eq_true',Bool.not_eq_false',decide_eq_true_eq,decide_eq_false_iff_not,beq_iff_eq,beq_eq_false_iff_ne]at D
       obtain⟨⟨⟨C,H⟩,l⟩,S⟩:=D;obtain⟨y,z,hy⟩:=Ab (show x.args.length=2 by omega);rw[aA (show ¬(x.name≠ []∨x.index≠0∨qB (dW x.type)=false∨x.args.length≠2) by rintro (h|h|h|h);exact h (by simpa using C);omega;rw[l]at h;cases h;omega),aA (by decide),aA (by decide),hy,fM,fM,kb,RM]at f;refine St.bh cu x.args (x:=y) (by rw[hy];simp) ?_;refine St.bh cu x.args (x:=z) (by rw[hy];simp) ?_
       have hle:=ZX (cx y) (d+1) b (n+1) zE
       have T:x.args.length=2:=by rw[hy];rfl
       refine g4 ?_;refine St.ef [tI e [iv ((n+1):Nat)] 3,tI bw [(.func (.func 159) #[] [tW e,tW bw].toArray)] g,aD (cu y)] mixed (λK L=>?_)
       repeat' first
        |with_reducible refine SW.me ?_
         first
          |refine SW.gd 1 ?_
          |refine SW.gd 2 ?_
          |refine SW.dd 3 rfl (λ_=>Ev.cI (k:=0) (.mk rfl) (.mk rfl) lx jy rfl zE) ?_
          |refine SW.dd 4 rfl (λ_=>Ev.iD (.mk rfl) (show x.args[0]?=some y by rw[hy];rfl) sL trivial jy gH.eq) ?_
          |refine SW.gd 5 ?_
          |refine SW.gd 6 ?_
           refine SW.slot 149 (iv ((d+1:Nat):Int)) rfl rfl ?_
          |refine SW.gd 7 ?_
          |refine SW.t2 0 9 ?_ ?_
          |refine SW.t2 8 9 ?_ ?_
          |refine SW.t1 9 ?_
          |refine SW.t1 10 ?_
          |refine SW.t1 8 ?_
          |refine SW.t1 0 ?_
        |with_reducible refine SW.tg 0 ?_
         refine g3 ?_;refine SW.go ?_
        |with_reducible refine SW.tg 8 ?_
         refine St.ej (E y (by rw[hy];simp) (d+1) b (n+1) (F y (by rw[hy];simp)) zE zE zE) Jx (.mk rfl) (.eI rfl rfl rfl) rfl ?_;rintro U _ ⟨rfl,rfl⟩;refine St.dD (g2 ?_);refine SW.go ?_
        |with_reducible refine SW.tg 9 ?_
         refine St.al (λY=>g2 ?_);refine SW.go ?_
        |with_reducible refine SW.tg 10 ?_
         refine g3 ?_;refine SW.go ?_
       all_goals refine SW.dn ?_
       all_goals
        refine g8 ?_;refine St.cq (λq=> ?_) (λq=> ?_)
        ·rw[aB (show(mY (cx y) (d+1) b (n+1)).2.1≠0 by simpa using q)]at f
         refine g10 ?_;refine St.rV [_] [tI e [iv ((mY (cx y) (d+1) b (n+1)).1:Nat)] 3,tI bw [(.func (.func 159) #[] [tW e,tW bw].toArray)] g] ?_
         rw[f];exact⟨rfl,rfl⟩
        ·have M:(mY (cx y) (d+1) b (n+1)).2.1=0:=by simpa using q
         have Z:=(RP (cx y) (d+1) b (n+1) M).1
         rw[aA (by rw[M];decide)]at f;refine g3 ?_;refine St.ef [tI e [iv ((mY (cx y) (d+1) b (n+1)).1:Nat)] 3,tI bw [(.func (.func 159) #[] [tW e,tW bw].toArray)] g,aD (cu z),tI J [iv 0,iv 0] 39] mixed (λK L=>SW.gd 1 ?_);refine SW.gd 2 ?_;refine SW.dd 3 rfl (λ_=>Ev.cI (k:=1) (.mk rfl) (.mk rfl) lx jy rfl zE) (SW.dd 4 rfl (λ_=>Ev.iD (.mk rfl) (show x.args[1]?=some z by rw[hy];rfl) sL trivial jy gH.eq) ?_);refine SW.gd 5 ?_;refine SW.gd 6 ?_;refine SW.slot 162 (iv ((d+1:Nat):Int)) rfl rfl (SW.gd 7 ?_);refine SW.t1 0 ?_;refine g3 ?_;refine SW.go (SW.t1 8 ?_);refine St.ej (E z (by rw[hy];simp) (d+1) b (mY (cx y) (d+1) b (n+1)).1 (F z (by rw[hy];simp)) zE zE zE) Jx (.mk rfl) (.eI rfl rfl rfl) rfl ?_;rintro v164 _ ⟨rfl,rfl⟩;refine St.dD (g2 ?_);refine SW.go (SW.t1 9 ?_);refine g3 ?_;refine SW.go (SW.dn (g4 ?_));refine St.rV [_] [tI e [iv ((mY (cx z) (d+1) b (mY (cx y) (d+1) b (n+1)).1).1:Nat)] 3,tI bw [(.func (.func 159) #[] [tW e,tW bw].toArray)] g] ?_
         rw[f];exact⟨rfl,rfl⟩
     ·rw[tm5 r A o I]at f
      refine g3 ?_;refine St.ee (Ev.oK (jj j 4 n) sS (.mk rfl) (.aq rfl) (eu.aW eu.nil)) (g6 ?_);refine St.rV [_] [tI e [iv ((n+1):Nat)] 3,tI bw [(.func (.func 159) #[] [tW e,tW bw].toArray)] g] ?_;rw[f,aB (by decide)];exact⟨rfl,rfl⟩
  all_goals
   refine g4 ?_;refine St.ee (Ev.build (au.nil) (λw=>fP w)) (g4 ?_);refine St.rV [_] [tI e [iv ((n+1):Nat)] 3,tI bw [(.func (.func 159) #[] [tW e,tW bw].toArray)] g] ?_;rw[f];exact⟨rfl,rfl⟩
end Go.Proofs.YtiefglecbgdaiaaGreatDoor
namespace Go.J
open Go
section
variable {P:Program}{n:Nat}{F:Fr}{A:World→Prop}{c:Ctx}{H R:List ay}{ty:TypeId}{x y z:Operand}{v:Value}{Q:Exit→Act→World→Prop}{ops:Array Oper}{rest:List Oper}
 {d:Nat} {pos:String} {after:Array Edge} {t e:TypeId} {size m:Nat} {cs:List Value}
end
section
variable {P:Program}{n:Nat}{F:Fr}{A:World→Prop}{c:Ctx}{H R:List ay}{ty:TypeId}{x y z:Operand}{v:Value}{Q:Exit→Act→World→Prop}{ops:Array Oper}{rest:List Oper}
 {d:Nat} {pos:String} {after:Array Edge} {t e:TypeId} {size m:Nat} {cs:List Value}
def FM:Value→Value
 | .slice a m _=> .slice a m m
 |v=>v
theorem Ev.clip {α:Type}{Rr:Rp α}{xs:List α}{i j:Int}{f g:IntKind}{hi d:Operand}[hd:vK v H α Rr xs](hx:aa F x v)(h:aa F hi (.int f i))(hm:aa F d (.int g j))(ht:P.underlying t=some (.slice e))(k:(P.info? e).map (·.size)=some Rr.size)
 (h1:i=xs.length) (l:j=xs.length):Ev P n F (Mm c H) (.slice t x none (some hi) (some d)) ty (FM v):= .of_run λa w b hw=>by
 obtain⟨ρ,m⟩:=hw.out;obtain⟨inf,o,p⟩:=eE.1 k;obtain⟨ad,cap,rfl,s,_⟩:=m.sl hd;subst h1 l
 have q:(0:Int)≤(xs.length:Int)∧(xs.length:Int)≤(cap:Int):=by omega
 have r:(0:Int)≤(xs.length:Int)∧(xs.length:Int)≤(xs.length:Int):=by omega
 simp only[execOp,hx.eval b,h.eval b,hm.eval b,Option.map_some,Option.map_none,Instr.sliceAt,Instr.slice,Instr.sliceBounds,Instr.sliceBound,asIntOf,Sem.run_bind,run_underlying ht,Result.andThen_ok,Sem.run_pure,q,r,and_self,if_true,Int.toNat_natCast,sizeOf,typeInfo,run_program,o,p,FM,Nat.sub_zero,Nat.zero_mul]
 cases ad with
 |none=>simp
 |some a=>simp[Addr.add_zero']
theorem St.sy {α:Type}{Rr:Rp α}{xs:List α}{v2:Value}{m2:Nat}{news:List Value}{zv:Value}{yu:Nat}[t2:mB v2 H e Rr.size m2 news R][t1:vK v H α Rr xs]
 (hx:aa F x (FM v)) (hy:aa F y v2) (ht:P.underlying t=some (.slice e)) (z:(P.info? e).map (·.size)=some Rr.size) (hz:(P.info? e).bind (·.zero)=some zv) (m:(P.info? e).map (·.bytes)=some yu)
 (apZ:∀u∈news,u.oneCell'=true) (hlen:xs.length+m2≤9223372036854775807) (M:(xs.length+m2)*yu≤140737488355328) (N:zv.cells.size=Rr.size) (aeU:Nat.ble 1 Rr.size=true) (O:Nat.ble 1 m2=true) (hd:Nat.ble (d+1) n=true)
 (h:∀v',v'.oneCell'=true→St n ((d,v')::F) (Mm c (row v' e Rr.size (xs.length+m2) (rows Rr xs++news)::R)) (wpList P ops Q rest)):
 St n F (Mm c H) (wpList P ops Q ({dst:=some d,op:= .call {callee:= .builtin .append,args:= #[x,y],argTypes:= #[t,t]},type:=ty,pos:=pos,after:=after,guard:=none}::rest)):=by
 refine St.SJ (K:=λv' H'=>v'.oneCell'=true∧H'=row v' e Rr.size (xs.length+m2) (rows Rr xs++news)::R) ?_ hd ?_
 ·intro a w ρ A hm
  have B:=hm.perm t2.perm
  have o:=eQ.1 (B.dR _ (aR ..))
  obtain⟨ad,cap,rfl,_,_,_,f⟩:=hm.sl t1
  have S:=dS O
  obtain⟨i,hi,hsz⟩:=eE.1 z;obtain⟨D,E,T⟩:=rI z hz m hi
  rcases o.2 with⟨_,rfl⟩|⟨g2,p,U,rfl,_,V,YJ,hc2,W,q⟩
  ·omega
  ·have G:∀j u,news[j]?=some u→w.cell? ((⟨g2,0,none⟩:Addr).add j)=some u:=λj u l=>by
    rw[Addr.add_lit,jH,cg V];rw[←q,sj]at l
    split at l
    ·simpa using l
    ·simp at l
   have r:xs.length+m2≤9223372036854775807:=hlen
   have I:(xs.length+m2)*i.bytes≤140737488355328:=by rw[T];exact M
   have X:(rows Rr xs).length=xs.length*i.size:=by rw[gh,D]
   have J:news.length=m2*i.size:=by rw[o.1,D]
   have Y:∃(g:Nat),(Builtin.append_ #[t,t] ty #[FM (.slice ad xs.length cap),tO g2 m2 p]).run P w= .ok (.slice (some ⟨w.heap.size,0,none⟩) (xs.length+m2) g) (w.drew.alloc (.cells ((rows Rr xs).toArray++news.toArray++Builtin.zeroCells zv.cells (g-(xs.length+m2))) e))∧xs.length+m2≤g∧g≤maxLen:=by
    cases ad with
    |none=>
     rcases f with f|⟨b,off,C,Z,fr,f,_⟩
     ·subst f
      refine⟨grownCap w (([]:List α).length+m2) 0 e,?_,grownCap_ge ..,grownCap_le_maxLen _ _ _ _ (by unfold maxLen;omega)⟩
      have hr:=run_append_nil (P:=P) w t ty e i zv ht hi E ⟨g2,0,none⟩ m2 p news J G zE (by simp at r;omega) (by simp at I;omega)
      simpa[FM,rows]using hr
     ·cases f
    |some ad=>
     refine⟨grownCap w (xs.length+m2) xs.length e,?_,grownCap_ge ..,grownCap_le_maxLen _ _ _ _ (by unfold maxLen;omega)⟩;refine run_append_grow (P:=P) w t ty e i zv ht hi E ad xs.length xs.length (rows Rr xs) X (λj u l=> ?_) ⟨g2,0,none⟩ m2 p news J G zE zE (growslice_fits zE I)
     rcases f with f|⟨b,off,C,Z,fr,f,h6,h7⟩
     ·subst f;simp[rows]at l
     ·cases f
      rw[Addr.add_lit,cg (hm.fits _ _ h6)];exact h7 j u l
   obtain⟨g,am1,hc3,s⟩:=Y;refine⟨.value (.slice (some ⟨w.heap.size,0,none⟩) (xs.length+m2) g),w.drew.alloc (.cells ((rows Rr xs).toArray++news.toArray++Builtin.zeroCells zv.cells (g-(xs.length+m2))) e),ρ,_,?_,⟨_,.inl rfl,rfl,rfl⟩,?_⟩
   ·simp[execOp,resolve,invoke,builtin,hx.eval A,hy.eval A,am1]
   ·have L:(rows Rr xs++news).length=(xs.length+m2)*Rr.size:=by rw[cA,o.1,gh,jK]
    refine B.drop.GK rfl ⟨rfl,Nat.le_succ _⟩ rfl (by simp) (λk hk=>heap_alloc_old w.drew _ hk) (eQ.2 ⟨L,.inr ⟨w.heap.size,g,_,rfl,aQ _,heap_alloc_new w.drew _,hc3,s,?_,?_⟩⟩) ?_
    ·simp only[Array.size_append,List.size_toArray,size_zeroCells,N,gh,o.1,←Nat.add_mul]
     congr 1
     omega
    ·simp only[Array.toList_append,List.append_assoc]
     rw[←dg,←L];exact List.take_left
    ·intro b m;rw[eA]at m;simp[Value.ownBlock]at m;omega
 ·rintro _ _ ⟨h1,rfl⟩
  exact h _ h1
end
end Go.J
namespace Go.Proofs.YtiefglecbgdaiaaGreatDoor
open Go Go.J Tryz
theorem JU (x:dX):(cx x).type=dW x.type:=by cases x;rfl
theorem Gp (x:dX):(cx x).index=x.index:=by cases x;rfl
theorem s7 {a b:Option j0}{s1 s2:j0}{c d:Bool}(h1:c=true→a=some s1)(e:c=false→a=none)(g:d=true→b=some s2)(f:d=false→b=none)
 (h:c=true→d=true→∀p q,s1.args=[p,q]→mF p s2=true→False):Hk a b=none:=by
 cases c with
 |false=>rw[e rfl];rfl
 |true=>
  cases d with
  |false=>
   rw[f rfl];unfold Hk
   split
   ·contradiction
   ·rfl
  |true=>
   rw[h1 rfl,g rfl]
   refine Lc _ _ λs l x i e2 j=> ?_
   cases i;cases j
   rintro ⟨p,q,rfl,k⟩;exact h rfl rfl p q e2 k
theorem M9 {l:List fk}{p q:fk}(h:l=[p,q]):l[0]?=some (l.headD oU):=by rw[h];rfl
section
variable {n:Nat}{F:Fr}{c:Ctx}{H:List ay}{T:Act→World→Prop}
theorem St.U7 (l:List fk)[hd:mT (aL ez l) H](k:St n F (Mm c (aD (ez (l.headD oU))::H)) T):St n F (Mm c H) T:=
 St.fF (ez (l.headD oU)) [aL ez l] (λρ h=>by
  cases l with
  |nil=>exact .mk (x:=oU) (lp kW ρ) (λy hy=>by cases hy)
  |cons p l=>exact h _ (aR ..) p (aR ..)) k
end
theorem JZ:∀(x:dX) (ctx:List fk) (v:Value) (d:Nat),Sk (cx x) d ctx.length→cz.wf x→ctx.length≤d→dx prog 163 #[cR x,v] ([cu x,sl kW v ctx,aL ez ctx].map aD) (λr H'=>∃(s:fk) (b:Bool),r= .tuple #[aV s,.bool b]∧kW.wf s∧(b=true→y9 (cx x) (ctx.map dW)=some (dW s))∧(b=false→y9 (cx x) (ctx.map dW)=none)∧H'=[aD (ez s)]):=by
 intro x
 induction x using dX.ind
 rename_i x T
 intro ctx v d a hw YM;refine dx.body (args:=[cR x,v]) 101 func163 rfl ntmps163 rfl (λc=>St.cast (H':=[aD (cu x),aD (sl kW v ctx),aD (aL ez ctx)]) rfl (go ?_));obtain⟨apS,Y,hk⟩:=a.inv;rw[L2]at Y
 have hinv:=Mw Y
 rw[tU,tV]at hk
 have i:=VM (cx x) (ctx.map dW)
 rw[tV,tU,JU,Gp,aO]at i;refine St.GO x (St.wf x.av.1 (λU UJ=>St.wf v (λH hcx=>go ?_)));refine St.cC (.mk rfl) rfl (λI=>St.al (λb4=>g17 ?_));refine St.cond _ rfl (λJ=> ?_) (λJ=> ?_)
 focus
  skip
  try simp only[cn]at J
  rw[aB J]at i;refine g3 ?_;refine St.ee (Ev.jO 2 (.mk rfl) sK trivial mS rfl rfl) (St.slot 18 (aV x.type) rfl rfl (g7 ?_));refine St.rV [_,_] [aD (ez x.type)] ?_;exact⟨x.type,true,rfl,hw.2.2.2,(λ_=>i),((λj=>by cases j)),rfl⟩
 focus
  skip
  try simp only[cn]at J
  rw[aA J]at i;refine g6 ?_;refine St.cond _ rfl (λK=> ?_) (λK=> ?_)
  focus
   skip
   try simp only[cn]at K
   rw[aB K]at i;obtain⟨s,E⟩:=aF (show ctx.length-1-x.index.toNat<ctx.length by omega);refine St.bh ez ctx (x:=s) (aY E) (g9 ?_);refine St.ee (Ev.cI (k:=(ctx.length-1-x.index.toNat)) (.mk rfl) (.mk rfl) nJ mS zE zE) (St.ee (Ev.iD (.mk rfl) E sK trivial mS gH.eq) (g7 ?_));refine St.rV [_,_] [aD (ez s)] ?_;exact⟨s,true,rfl,H s (aY E),(λ_=>by rw[i,bJ,E];rfl),((λj=>by cases j)),rfl⟩
  focus
   skip
   try simp only[cn]at K
   rw[aA K]at i;refine g6 ?_;refine St.cond _ rfl (λB=> ?_) (λB=> ?_)
   focus
    skip
    try simp only[cn]at B
    rw[aB B]at i;obtain⟨y,hy⟩:=GN (show x.args.length=1 by omega)
    have h1l:x.args.length=1:=by omega
    have o:y∈x.args:=by rw[hy];simp
    have n:=hk (cx y) (dh o)
    rw[aB B]at n;refine St.bh cu x.args (x:=y) o ?_;rw[hy,fM,kb,uz]at i;refine go ?_;refine St.jm [] mixed (λf g=>SW.gd 0 ?_);refine SW.gd 1 ?_;refine SW.gd 2 ?_;refine SW.gd 3 ?_;refine SW.gd 4 ?_;refine SW.dd 5 rfl (λ_=>Ev.clip (.mk rfl) (.mk rfl) (.mk rfl) nJ mS rfl rfl) (SW.gd 6 ?_);refine SW.dd 7 rfl (λ_=>Ev.jO 2 (.mk rfl) sK trivial mS rfl rfl) (SW.slot 39 (aV x.type) rfl rfl (SW.t1 8 ?_));refine St.iu rfl (.aq rfl) nJ mS VY rfl rfl (by simp[Value.cells]) rfl rfl (λb40=> ?_);refine g2 ?_;refine SW.go (SW.t1 9 ?_);refine St.sy (.mk rfl) (.mk rfl) nJ mS VY ajP (EW (p:=λu:Value=>u.oneCell'=true) rfl x.type.av.2) zE zE rfl rfl rfl rfl (λv41 am4=>St.bU v41 kW (ctx++ [x.type]) (by simp[rows];rfl) (by simp) (λu hu=>(List.mem_append.1 hu).elim (H u) (λh=>by rw[List.mem_singleton.1 h];exact hw.2.2.2)) ?_);refine St.ou ez (xs:=ctx) (x:=x.type) (g2 ?_);refine SW.go (SW.gd 10 ?_);refine SW.dn (g5 ?_);refine St.ee (Ev.cI (k:=0) (.mk rfl) (.mk rfl) lx jy rfl zE) (St.ee (Ev.iD (.mk rfl) (show x.args[0]?=some y by rw[hy];rfl) sL trivial jy gH.eq) ?_);refine go ?_;refine St.ak (T y o (ctx++ [x.type]) v41 (d+1) (by rw[←cW];exact n) (U y o) (by rw[←cW];omega)) Jy (.aX rfl rfl) rfl ?_;rintro v48 _ ⟨s,F,rfl,L,C,G,rfl⟩;refine St.bB (g3 ?_);refine St.al (λb7=>g7 ?_);refine St.ee (Ev.jO 2 (.mk rfl) sK trivial mS rfl rfl) (St.slot 52 (aV x.type) rfl rfl (go ?_));refine St.iu rfl (.aX rfl rfl) nJ mS VY rfl rfl (by simp[Value.cells]) rfl rfl (λt=> ?_);refine St.bU (tO t 2 2) kW [x.type,s] rfl rfl (EW hw.2.2.2 L) (St.dN ez (St.ml ez (xs:=[]) (x:=s) (St.ml ez (xs:=[s]) (x:=x.type) (St.ua [] (tO t 2 2) rfl [x.type,s] (St.ee (Ev.build (au.aq rfl) (λw=>Js rfl w)) (g8 ?_))))));refine St.rV [_,_] [aD (ez (.mk [] ⟨(tO t 2 2),rfl⟩ [x.type,s]))] ?_;exact⟨(.mk [] ⟨(tO t 2 2),rfl⟩ [x.type,s]),F,rfl,aQ _,(λj=>by rw[i,show y9 (cx y) (ctx.map dW++ [dW x.type])=some (dW s) by rw[←C j,cY];rfl,ur];rfl),(λj=>by rw[i,show y9 (cx y) (ctx.map dW++ [dW x.type])=none by rw[←G j,cY];rfl];rfl),rfl⟩
   focus
    skip
    try simp only[cn]at B
    rw[aA B]at i;obtain⟨y,z,hy⟩:=Ab (show x.args.length=2 by omega)
    have h2l:x.args.length=2:=by omega
    have o:y∈x.args:=by rw[hy];simp
    have A:z∈x.args:=by rw[hy];simp
    have n:=hk (cx y) (dh o)
    have M:=hk (cx z) (dh A)
    rw[aA B]at n M;refine St.bh cu x.args (x:=y) o (St.bh cu x.args (x:=z) A ?_);rw[hy,fM,fM,kb,uz,Gx]at i;refine go ?_
 all_goals
  refine g6 ?_;refine St.ee (Ev.cI (k:=0) (.mk rfl) (.mk rfl) lx jy rfl zE) (St.ee (Ev.iD (.mk rfl) (show x.args[0]?=some y by rw[hy];rfl) sL trivial jy gH.eq) ?_);refine go ?_;refine St.ak (T y o ctx v (d+1) n (U y o) zE) Jy (.aX rfl rfl) rfl ?_;rintro v63 _ ⟨s1,F,rfl,L,C,G,rfl⟩;refine St.bB (g3 ?_);refine St.al (λb9=>g8 ?_);refine St.ee (Ev.cI (k:=1) (.mk rfl) (.mk rfl) lx jy rfl zE) (St.ee (Ev.iD (.mk rfl) (show x.args[1]?=some z by rw[hy];rfl) sL trivial jy gH.eq) ?_);refine go ?_;refine St.ak (T z A ctx v (d+1) M (U z A) zE) Jy (.aX rfl rfl) rfl ?_;rintro v72 _ ⟨s2,I,rfl,ap4,N,Q,rfl⟩;refine St.bB (g3 ?_);refine St.al (λb11=>g6 ?_);refine St.ug s1 (St.wf s1.av.1 (λV hpl=>St.U7 s1.args (St.ef [] mixed (λf g=>SW.gd 0 ?_))));refine SW.gd 1 ?_;refine SW.gd 2 ?_;refine SW.split 77 _ rfl (λO=> ?_) (λO=> ?_)
  ·refine SW.gf 3 undef f g rfl rfl rfl (λR a=>by cases a) (by kernel_rfl) rfl ?_
   refine SW.slot 78 undef rfl (cQ rfl _) (SW.gf 4 undef f g rfl rfl rfl (λR a=>by cases a) (by kernel_rfl) rfl ?_);refine SW.slot 79 undef rfl (cQ rfl _) (SW.dd 5 rfl (λ_=>Ev.o5 (.mk rfl) rfl (.mk rfl)) (SW.gd 6 ?_));refine SW.slot 81 (.bool true) rfl (congrArg Value.bool rfl) (SW.gf 7 undef f g rfl rfl rfl (λR a=>by cases a) (by kernel_rfl) rfl ?_);refine SW.slot 82 undef rfl (cQ rfl _) (SW.gf 8 undef f g rfl rfl rfl (λR a=>by cases a) (by kernel_rfl) rfl ?_);refine SW.slot 83 undef rfl (cQ rfl _) (SW.gf 9 undef f g rfl rfl rfl (λR a=>by cases a) (by kernel_rfl) rfl ?_);refine SW.slot 84 undef rfl (cQ rfl _) (SW.gf 10 undef f g rfl rfl rfl (λR a=>by cases a) (by kernel_rfl) rfl ?_);refine SW.slot 85 undef rfl (cQ rfl _) (SW.dd 11 rfl (λ_=>Ev.o5 (.mk rfl) rfl (.mk rfl)) (SW.gd 12 ?_));refine SW.slot 87 (.bool true) rfl (congrArg Value.bool rfl) (SW.gf 13 undef f g rfl rfl rfl (λR a=>by cases a) (by kernel_rfl) rfl ?_);refine SW.slot 88 undef rfl (cQ rfl _) (SW.gf 14 undef f g rfl rfl rfl (λR a=>by cases a) (by kernel_rfl) rfl ?_);refine SW.slot 89 undef rfl (cQ rfl _) (SW.gf 15 undef f g rfl rfl rfl (λR a=>by cases a) (by kernel_rfl) rfl ?_);refine SW.slot 90 undef rfl (cQ rfl _) (SW.gf 16 undef f g rfl rfl rfl (λR a=>by cases a) (by kernel_rfl) rfl ?_);refine SW.slot 91 undef rfl (cQ rfl _) (SW.gf 17 undef f g rfl rfl rfl (λR a=>by cases a) (by kernel_rfl) rfl ?_);refine SW.slot 92 undef rfl (cQ rfl _) (SW.gf 18 undef f g rfl rfl rfl (λR a=>by cases a) (by kernel_rfl) rfl ?_);refine SW.slot 93 undef rfl (cQ rfl _) (SW.gf 19 undef f g rfl rfl rfl (λR a=>by cases a) (by kernel_rfl) rfl ?_);refine SW.slot 94 undef rfl (cQ rfl _) (SW.dd 20 rfl (λ_=>Ev.o5 (.mk rfl) rfl (.mk rfl)) (SW.dn (go ?_)));refine St.cond _ rfl (λm=> ?_) (λm=> ?_)
   ·skip
    have D:F=true→I=true→∀p q,(dW s1).args=[p,q]→mF p (dW s2)=true→False:=λe1 _ _ _ _ _=>by rw[e1]at O;cases O
    refine g2 ?_;refine St.ee (Ev.build (au.nil) (λw=>DV w)) (g6 ?_);refine St.gi kW (St.dN ez (St.ua [] (.slice none 0 0) rfl [] (St.rV [_,_] [aD (ez oU)] ?_)));exact⟨oU,false,rfl,aQ _,((λj=>by cases j)),(λ_=>by rw[i];exact s7 C G N Q D),rfl⟩
   ·skip
    cases m
  ·refine SW.gf 3 _ f g rfl rfl rfl (λR _=>Ev.move (.mk rfl)) (by kernel_rfl) rfl ?_
   refine SW.slot 78 _ rfl (ga rfl _) (SW.gf 4 _ f g rfl rfl rfl (λR _=>Ev.not (.mk rfl)) (by kernel_rfl) rfl ?_);refine SW.slot 79 _ rfl (ga rfl _) (SW.dd 5 rfl (λ_=>Ev.p8 (.mk rfl) rfl (.mk rfl)) (SW.gd 6 ?_));refine SW.split 81 _ rfl (λP=> ?_) (λP=> ?_)
   ·refine SW.gf 7 undef f g rfl rfl rfl (λR a=>by cases a) (by kernel_rfl) rfl ?_
    refine SW.slot 82 undef rfl (cQ rfl _) (SW.gf 8 undef f g rfl rfl rfl (λR a=>by cases a) (by kernel_rfl) rfl ?_);refine SW.slot 83 undef rfl (cQ rfl _) (SW.gf 9 undef f g rfl rfl rfl (λR a=>by cases a) (by kernel_rfl) rfl ?_);refine SW.slot 84 undef rfl (cQ rfl _) (SW.gf 10 undef f g rfl rfl rfl (λR a=>by cases a) (by kernel_rfl) rfl ?_);refine SW.slot 85 undef rfl (cQ rfl _) (SW.dd 11 rfl (λ_=>Ev.o5 (.mk rfl) rfl (.mk rfl)) (SW.gd 12 ?_));refine SW.slot 87 (.bool true) rfl (congrArg Value.bool rfl) (SW.gf 13 undef f g rfl rfl rfl (λR a=>by cases a) (by kernel_rfl) rfl ?_);refine SW.slot 88 undef rfl (cQ rfl _) (SW.gf 14 undef f g rfl rfl rfl (λR a=>by cases a) (by kernel_rfl) rfl ?_);refine SW.slot 89 undef rfl (cQ rfl _) (SW.gf 15 undef f g rfl rfl rfl (λR a=>by cases a) (by kernel_rfl) rfl ?_);refine SW.slot 90 undef rfl (cQ rfl _) (SW.gf 16 undef f g rfl rfl rfl (λR a=>by cases a) (by kernel_rfl) rfl ?_);refine SW.slot 91 undef rfl (cQ rfl _) (SW.gf 17 undef f g rfl rfl rfl (λR a=>by cases a) (by kernel_rfl) rfl ?_);refine SW.slot 92 undef rfl (cQ rfl _) (SW.gf 18 undef f g rfl rfl rfl (λR a=>by cases a) (by kernel_rfl) rfl ?_);refine SW.slot 93 undef rfl (cQ rfl _) (SW.gf 19 undef f g rfl rfl rfl (λR a=>by cases a) (by kernel_rfl) rfl ?_);refine SW.slot 94 undef rfl (cQ rfl _) (SW.dd 20 rfl (λ_=>Ev.o5 (.mk rfl) rfl (.mk rfl)) (SW.dn (go ?_)));refine St.cond _ rfl (λm=> ?_) (λm=> ?_)
    ·skip
     have D:F=true→I=true→∀p q,(dW s1).args=[p,q]→mF p (dW s2)=true→False:=λ_ e2 _ _ _ _=>by rw[e2]at P;cases P
     refine g2 ?_;refine St.ee (Ev.build (au.nil) (λw=>DV w)) (g6 ?_);refine St.gi kW (St.dN ez (St.ua [] (.slice none 0 0) rfl [] (St.rV [_,_] [aD (ez oU)] ?_)));exact⟨oU,false,rfl,aQ _,((λj=>by cases j)),(λ_=>by rw[i];exact s7 C G N Q D),rfl⟩
    ·skip
     cases m
   ·refine SW.gf 7 _ f g rfl rfl rfl (λR _=>Ev.cU (.mk rfl) pV) (by kernel_rfl) rfl ?_
    refine SW.slot 82 _ rfl (ga rfl _) (SW.gf 8 _ f g rfl rfl rfl (λR _=>Ev.jN (.mk rfl) nJ trivial (by rfl)) (by kernel_rfl) rfl ?_);refine SW.slot 83 _ rfl (ga rfl _) (SW.gf 9 _ f g rfl rfl rfl (λR _=>Ev.gN (.mk rfl) nJ) (by kernel_rfl) rfl ?_);refine SW.slot 84 _ rfl (ga rfl _) (SW.gf 10 _ f g rfl rfl rfl (λR _=>Ev.ne0) (by kernel_rfl) rfl ?_);refine SW.slot 85 _ rfl (ga rfl _) (SW.dd 11 rfl (λ_=>Ev.p8 (.mk rfl) rfl (.mk rfl)) (SW.gd 12 ?_));refine SW.split 87 _ rfl (λS=> ?_) (λS=> ?_)
    ·refine SW.gf 13 undef f g rfl rfl rfl (λR a=>by cases a) (by kernel_rfl) rfl ?_
     refine SW.slot 88 undef rfl (cQ rfl _) (SW.gf 14 undef f g rfl rfl rfl (λR a=>by cases a) (by kernel_rfl) rfl ?_);refine SW.slot 89 undef rfl (cQ rfl _) (SW.gf 15 undef f g rfl rfl rfl (λR a=>by cases a) (by kernel_rfl) rfl ?_);refine SW.slot 90 undef rfl (cQ rfl _) (SW.gf 16 undef f g rfl rfl rfl (λR a=>by cases a) (by kernel_rfl) rfl ?_);refine SW.slot 91 undef rfl (cQ rfl _) (SW.gf 17 undef f g rfl rfl rfl (λR a=>by cases a) (by kernel_rfl) rfl ?_);refine SW.slot 92 undef rfl (cQ rfl _) (SW.gf 18 undef f g rfl rfl rfl (λR a=>by cases a) (by kernel_rfl) rfl ?_);refine SW.slot 93 undef rfl (cQ rfl _) (SW.gf 19 undef f g rfl rfl rfl (λR a=>by cases a) (by kernel_rfl) rfl ?_);refine SW.slot 94 undef rfl (cQ rfl _) (SW.dd 20 rfl (λ_=>Ev.o5 (.mk rfl) rfl (.mk rfl)) (SW.dn (go ?_)));refine St.cond _ rfl (λm=> ?_) (λm=> ?_)
     ·skip
      simp only[cn]at S
      have D:F=true→I=true→∀p q,(dW s1).args=[p,q]→mF p (dW s2)=true→False:=λ_ _ p q e _=>by rw[l9]at e;have Z:=congrArg List.length e;rw[aO]at Z;exact S (by rw[Z];rfl)
      refine g2 ?_;refine St.ee (Ev.build (au.nil) (λw=>DV w)) (g6 ?_);refine St.gi kW (St.dN ez (St.ua [] (.slice none 0 0) rfl [] (St.rV [_,_] [aD (ez oU)] ?_)));exact⟨oU,false,rfl,aQ _,((λj=>by cases j)),(λ_=>by rw[i];exact s7 C G N Q D),rfl⟩
     ·skip
      cases m
    ·have W:=S
     simp only[cn]at W
     have X:s1.args.length=2:=by omega
     obtain⟨p,q,l⟩:=Ab X;refine SW.gf 13 _ f g rfl rfl rfl (λR _=>Ev.cU (.mk rfl) pV) (by kernel_rfl) rfl ?_;refine SW.slot 88 _ rfl (ga rfl _) (SW.gf 14 _ f g rfl rfl rfl (λR _=>Ev.jN (.mk rfl) nJ trivial (by rfl)) (by kernel_rfl) rfl ?_);refine SW.slot 89 _ rfl (ga rfl _) (SW.gf 15 _ f g rfl rfl rfl (λR _=>Ev.cI (k:=0) (.mk rfl) (.mk rfl) nJ mS rfl zE) (by kernel_rfl) rfl ?_);refine SW.slot 90 _ rfl (ga rfl _) (SW.gf 16 _ f g rfl rfl rfl (λR _=>Ev.iD (.mk rfl) (M9 l) sK trivial mS gH.eq) (by kernel_rfl) rfl ?_);refine SW.slot 91 _ rfl (ga rfl _) (SW.gf 17 _ f g rfl rfl rfl (λR _=>Ev.MS (.mk rfl) sK trivial (by exact mS)) (by kernel_rfl) rfl ?_);refine SW.slot 92 _ rfl (ga rfl _) (SW.gf 18 _ f g rfl rfl rfl (λR _=>Ev.call (Mk (s1.args.headD oU) s2) Vw (.aX rfl rfl)) (by kernel_rfl) rfl ?_);refine SW.slot 93 _ rfl (ga rfl _) (SW.gf 19 _ f g rfl rfl rfl (λR _=>Ev.not (.mk rfl)) (by kernel_rfl) rfl ?_);refine SW.slot 94 _ rfl (ga rfl _) (SW.dd 20 rfl (λ_=>Ev.p8 (.mk rfl) rfl (.mk rfl)) (SW.dn (go ?_)));refine St.cond _ rfl (λm=> ?_) (λm=> ?_)
     ·skip
      simp only[cn]at m
      have D:F=true→I=true→∀p q,(dW s1).args=[p,q]→mF p (dW s2)=true→False:=λ_ _ p1 q1 e E=>by rw[l9,l]at e;cases e;rw[l]at m;exact absurd (m.symm.trans E) (by decide)
      refine g2 ?_;refine St.ee (Ev.build (au.nil) (λw=>DV w)) (g6 ?_);refine St.gi kW (St.dN ez (St.ua [] (.slice none 0 0) rfl [] (St.rV [_,_] [aD (ez oU)] ?_)));exact⟨oU,false,rfl,aQ _,((λj=>by cases j)),(λ_=>by rw[i];exact s7 C G N Q D),rfl⟩
     ·skip
      simp only[cn]at m O P
      rw[l]at m;refine St.bh ez s1.args (x:=q) (by rw[l];simp) ?_;refine g6 ?_;refine St.ee (Ev.cI (k:=1) (.mk rfl) (.mk rfl) nJ mS rfl zE) (St.ee (Ev.iD (.mk rfl) (show s1.args[1]?=some q by rw[l];rfl) sK trivial mS gH.eq) ?_);refine g5 ?_;refine St.rV [_,_] [aD (ez q)] ?_;exact⟨q,true,rfl,V q (by rw[l];simp),(λ_=>by rw[i,C O,N P];exact Ld (by rw[l9,l];rfl) m),((λj=>by cases j)),rfl⟩
theorem Mu {t:ji}(h:(mY t 1 0 0).2.1≠0):rC t=(mY t 1 0 0).2:=by unfold rC;rw[aB h]
theorem JV {t:ji}(h:¬(mY t 1 0 0).2.1≠0)(a:y9 t []=none):rC t=(12,-1):=by unfold rC;rw[aA h,a];rfl
theorem RH {t:ji}{s:j0}(h:¬(mY t 1 0 0).2.1≠0)(a:y9 t []=some s):rC t=(0,0):=by unfold rC;rw[aA h,a,aA (by simp)]
theorem ux (x:dX)(hw:cz.wf x):dK prog 109 #[cR x] [cu x] (fv (rC (cx x))):=by
 refine dK.pz (args:=[cR x]) 25 func109 rfl ntmps109 rfl (λc=>g2 ?_);refine St.cC (.mk rfl) rfl (λk=>St.al (λl=>g4 ?_));refine St.al (λg=>St.cP (.mk rfl) (.mk rfl) dQ rfl (by rfl) ?_);refine St.qe g (L':=[iv ((0:Nat):Int)]) rfl (g4 ?_);refine St.al (λh=>g4 ?_);refine St.ee (Ev.func (.aX rfl rfl)) (St.cP (.mk rfl) (.mk rfl) ahW rfl (by rfl) ?_);refine g4 ?_;refine St.dup (cu x) (g3 ?_);refine St.ej (BU g h 267 x 1 0 0 hw zE zE zE) Jx (.mk rfl) (.eI rfl rfl rfl) rfl ?_;rintro v11 _ ⟨rfl,rfl⟩;refine St.dD (St.al (λm=>g10 ?_));refine St.cond _ rfl (λd=> ?_) (λd=> ?_)
 ·skip
  have a:(mY (cx x) 1 0 0).2.1≠0:=by simpa using d
  refine g8 ?_;refine St.rV [_] [] ?_;exact congrArg fv (Mu a).symm
 ·skip
  have a:¬(mY (cx x) 1 0 0).2.1≠0:=by simpa using d
  refine St.gi kW (St.dN ez (g6 ?_));refine St.ak (JZ x [] (.slice none 0 0) 1 (RO _ _ _ _ (eY.1 a)) hw (aQ _)) Jy (.aX rfl rfl) rfl ?_;rintro i _ ⟨s,b,rfl,n,j,e,rfl⟩;refine St.bB (g3 ?_);refine St.al (λo=>g10 ?_);refine St.cq (λf=> ?_) (λf=> ?_)
  ·refine g2 ?_
   refine St.ee (Ev.build (au.aX rfl rfl) (λw=>eV rfl rfl w)) (g5 ?_);refine St.rV [_] [] ?_;exact congrArg fv (JV a (e (by simpa using f))).symm
  ·refine g4 ?_
   refine St.ee (Ev.build (au.nil) (λw=>fP w)) (g4 ?_);refine St.rV [_] [] ?_;exact congrArg fv (RH a (j (by simpa using f))).symm
theorem Gw {l:List er}{k:Nat}{t:er}(ht:l[k]?=some t)(known:List cM):lu known k (l.drop k)=if isName t.1=false then(10,(k:Int))else if t.1∈known then(7,(k:Int))else if decide (k=0)≠decide (t.2.length=0)then(5,(k:Int))
 else if(sJ k (-1) t.2).1≠0 then sJ k (-1) t.2 else lu (known++ [t.1]) (k+1) (l.drop (k+1)):=by rw[bW ht,lu]
theorem JY {l:List er}{k:Nat}(h:l.length≤k)(known:List cM):lu known k (l.drop k)=(0,0):=by rw[iy h,lu]
theorem Me {i z p:Int}{ps:List Int}{q:Nat}(hp:ps[q]?=some p):sJ i z (ps.drop q)=if p<0∨i≤p then(3,i)else if p≤z then(13,i)else sJ i p (ps.drop (q+1)):=by rw[bW hp,sJ]
theorem QM {i z:Int}{ps:List Int}{q:Nat}(h:ps.length≤q):sJ i z (ps.drop q)=(0,0):=by rw[iy h,sJ]
def LS (m:List (cM×Value))(known:List cM):Prop:=∀s,(qu m s).isSome=decide (s∈known)
theorem LS.nil:LS [] []:=λs=>by simp[qu]
theorem LS.snoc {m:List (cM×Value)}{known:List cM}(h:LS m known)(s:cM)(v:Value):LS (lN m s v) (known++ [s]):=λa=>by
 rw[GF]
 by_cases e:a=s
 ·subst e;simp
 ·rw[aA e,h a,decide_eq_decide];simp[e]
theorem gm {α β:Type}(f:α→β){l:List α}{k:Nat}{x:α}(h:l[k]?=some x):(l.take (k+1)).map f=(l.take k).map f++ [f x]:=by rw[ag h,cY];rfl
theorem Hg (u:Value)(a:List sD):dK prog 106 #[u] [sl lW u a,aL s6 a] (fv (BW (a.map dG))):=by
 refine dK.qf (args:=[u]) 82 func106 rfl ntmps106 rfl (λc=>go ?_);refine St.wf u (λD K=>go ?_);refine St.al (λy=>g9 ?_);refine St.gf _ rfl rfl (λd=>Ev.move (.mk rfl)) rfl (St.gf _ rfl rfl (λd=>Ev.gN (aa.gv rfl d) wU) rfl (St.gf _ rfl rfl (λd=>Ev.gtr (aa.gv rfl d) (.mk rfl)) rfl (g3 ?_)));refine St.cq (λE=> ?_) (λE=> ?_)
 ·have j:BW (a.map dG)=(2,-1):=by unfold BW;rw[aB (by rw[aO];omega)]
  refine g2 ?_;refine St.ee (Ev.call (cV 2 (-1)) qh (.aX rfl rfl)) (g5 ?_);refine St.rV [_] [] ?_;exact congrArg fv j.symm
 ·have j:BW (a.map dG)=lu [] 0 (a.map dG):=by unfold BW;rw[aA (by rw[aO];omega)]
  refine g4 ?_;refine St.makeMap mkStr rfl (λA=>g12 ?_);refine St.td (ι:=Nat) (κ:=List (cM×Value)) (λk m T=>(23,iv k)::T) (λk m=>[aW A (eW mkStr m),tI y [iv 0,iv 0] 39,aD (sl lW u a),aD (aL s6 a)]) (λk m=>k≤a.length∧BW (a.map dG)=lu ((a.take k).map sD.name) k ((a.map dG).drop k)∧LS m ((a.take k).map sD.name)) (λk m=>a.length-k) 0 [] (aC.k4 2 3 21 22) ⟨aQ _,j,LS.nil⟩ ?_;rintro k m ⟨hk,n,B⟩;refine g6 ?_;refine St.cq (λF=> ?_) (λF=> ?_)
  ·obtain⟨t,ht⟩:=aF (show k<a.length by omega)
   have C:=aY ht
   have b:=Gw (l:=a.map dG) (k:=k) (t:=dG t) (by rw[bJ,ht];rfl) ((a.take k).map sD.name)
   rw[←n]at b
   have G:t.name.length≤9223372036854775807:=by have:=D t C;simp only[lW,nY]at this;omega
   refine St.bh s6 a (x:=t) C (St.fF (sl aJ t.pv.1 t.parents) [s6 t] (λρ h=>h _ (aR ..)) (St.wf t.pv.1 (λH L=>g8 ?_)));refine St.ee (Ev.iD (.mk rfl) ht LA trivial Cj gH.eq) (St.al (λM=>g9 ?_));refine St.ee (Ev.call (rP t.name G) T7 (.aq rfl)) (g3 ?_);refine St.cq (λo=> ?_) (λo=> ?_)
   ·rw[aB (show isName (dG t).1=false from(by simpa using o:isName t.name=false))]at b
    refine g3 ?_;refine St.ee (Ev.call (cV 10 k) qh (.aX rfl rfl)) (g10 ?_);refine St.rV [_] [] ?_;exact congrArg fv b.symm
   ·rw[aA (show ¬isName (dG t).1=false from(by simpa using o:¬isName t.name=false))]at b
    refine g8 ?_;refine St.ee (Ev.uV mkStr (k:=t.name) (.mk rfl) (.mk rfl) qE (by exact wX) ec) ?_;refine g3 ?_;refine St.slot 40 (.bool (decide (t.name∈(a.take k).map sD.name))) rfl (congrArg Value.bool (B t.name)) (g9 ?_);refine St.cq (λr=> ?_) (λr=> ?_)
    ·rw[aB (show(dG t).1∈(a.take k).map sD.name from r)]at b
     refine g3 ?_;refine St.ee (Ev.call (cV 7 k) qh (.aX rfl rfl)) (g10 ?_);refine St.rV [_] [] ?_;exact congrArg fv b.symm
    ·rw[aA (show ¬(dG t).1∈(a.take k).map sD.name from r)]at b
     refine g8 ?_;refine St.mapUpdate mkStr (k:=t.name) (.mk rfl) (.mk rfl) (.mk rfl) qE (by exact wX) ?_;refine g11 ?_;refine St.ee (Ev.uF (.mk rfl) (.mk rfl) EY) (g2 ?_);refine St.cond _ rfl (λs=> ?_) (λs=> ?_)
     ·skip
      have e:decide (k=0)≠decide (t.parents.length=0):=by simpa using s
      rw[aB (show decide (k=0)≠decide ((dG t).2.length=0)from e)]at b;refine g3 ?_;refine St.ee (Ev.call (cV 5 k) qh (.aX rfl rfl)) (g10 ?_);refine St.rV [_] [] ?_;exact congrArg fv b.symm
     ·skip
      have e:¬decide (k=0)≠decide (t.parents.length=0):=by simpa using s
      rw[aA (show ¬decide (k=0)≠decide ((dG t).2.length=0)from e)]at b;refine g16 ?_;refine St.td (ι:=Nat) (κ:=Int) (λq z T=>(60,iv q)::(8,iv z)::T) (λq z=>[aW A (eW mkStr (lN m t.name (iv k))),tI y [iv 0,iv 0] 39,aD (sl aJ t.pv.1 t.parents),aD (sl lW u a),aD (aL s6 a)]) (λq z=>q≤t.parents.length∧sJ k (-1) (dG t).2=sJ k z (t.parents.drop q)) (λq z=>t.parents.length-q) 0 (-1) (aC.k8 2 3 4 21 22 23 58 59) ⟨aQ _,rfl⟩ ?_;rintro q z ⟨N,g⟩;refine g6 ?_;refine St.cq (λv=> ?_) (λv=> ?_)
      ·obtain⟨p,hp⟩:=aF (show q<t.parents.length by omega)
       have f:=Me (i:=k) (z:=z) hp
       refine g17 ?_;refine St.gf _ rfl rfl (λd=>Ev.move (.mk rfl)) rfl (St.gf _ rfl rfl (λd=>Ev.move (.mk rfl)) rfl (St.gf _ rfl rfl (λd=>Ev.geq (aa.gv rfl d) (aa.gv rfl d)) rfl (g3 ?_)));refine St.cq (λI=> ?_) (λI=> ?_)
       ·rw[aB zE]at f
        rw[g,f,aB (by show(3:Int)≠0;decide)]at b;refine g3 ?_;refine St.ee (Ev.call (cV 3 k) qh (.aX rfl rfl)) (g14 ?_);refine St.rV [_] [] ?_;exact congrArg fv b.symm
       ·rw[aA zE]at f
        refine g10 ?_;refine St.cq (λJ=> ?_) (λJ=> ?_)
        ·rw[aB zE]at f
         rw[g,f,aB (by show(13:Int)≠0;decide)]at b;refine g3 ?_;refine St.ee (Ev.call (cV 13 k) qh (.aX rfl rfl)) (g14 ?_);refine St.rV [_] [] ?_;exact congrArg fv b.symm
        ·rw[aA zE]at f
         refine g13 ?_;refine St.vL (q+1) p ⟨by omega,by rw[g,f]⟩
      ·rw[QM zE]at g
       rw[aA (by rw[g];decide)]at b;refine g11 ?_;refine St.vL (k+1) (lN m t.name (iv k)) ⟨by omega,by rw[b,gm sD.name ht];rfl,by rw[gm sD.name ht];exact B.snoc _ _⟩
  ·rw[JY (by rw[aO];omega)]at n
   refine g7 ?_;refine St.ee (Ev.build (au.nil) (λw=>fP w)) (g4 ?_);refine St.rV [_] [] ?_;exact congrArg fv n.symm
end Go.Proofs.YtiefglecbgdaiaaGreatDoor
namespace Go.J
open Go
section
variable {P:Program}{n:Nat}{F:Fr}{A:World→Prop}{ty t u:TypeId}{x y:Operand}{a b:Nat}
theorem Lf (h:a<18446744073709551616)(c:b<18446744073709551616):bits .and .u64 (a:Int) (b:Int)=((a&&&b:Nat):Int):=by
 have e:(BitVec.ofInt IntKind.u64.bits (a:Int)&&&BitVec.ofInt IntKind.u64.bits (b:Int)).toNat=a&&&b:=by
  show(BitVec.ofInt 64 (a:Int)&&&BitVec.ofInt 64 (b:Int)).toNat=_
  rw[BitVec.toNat_and,HD,HD,HE,HE,fh h,fh c]
 simp only[bits,e]
 rw[jQ,fh (oZ Nat.and_le_left h)]
theorem Nj (h:a<18446744073709551616)(c:b<18446744073709551616):bits .or .u64 (a:Int) (b:Int)=((a|||b:Nat):Int):=by
 have e:(BitVec.ofInt IntKind.u64.bits (a:Int)|||BitVec.ofInt IntKind.u64.bits (b:Int)).toNat=a|||b:=by
  show(BitVec.ofInt 64 (a:Int)|||BitVec.ofInt 64 (b:Int)).toNat=_
  rw[BitVec.toNat_or,HD,HD,HE,HE,fh h,fh c]
 simp only[bits,e]
 rw[jQ,fh (Nat.or_lt_two_pow (n:=64) h c)]
theorem Ev.aaL (hx:aa F x (uv a))(hy:aa F y (uv b))(h:a<18446744073709551616∧b<18446744073709551616):Ev P n F A (.binOp .and t x y u) ty (uv (a&&&b)):= .of_run λa' w ha _=>by
 simp only[execOp,hx.eval ha,hy.eval ha];simp only[go_sem,Lf h.1 h.2];simp
theorem Ev.orG (hx:aa F x (uv a))(hy:aa F y (uv b))(h:a<18446744073709551616∧b<18446744073709551616):Ev P n F A (.binOp .or t x y u) ty (uv (a|||b)):= .of_run λa' w ha _=>by
 simp only[execOp,hx.eval ha,hy.eval ha];simp only[go_sem,Nj h.1 h.2];simp
theorem Ev.aaX {k:Nat}{i:Int}{kd:IntKind}(hx:aa F x (uv 1))(hy:aa F y (.int kd i))(h:i=k∧k<64):Ev P n F A (.binOp .shl t x y u) ty (uv (2^k)):=by
 have:=Ev.V2 (P:=P) (n:=n) (A:=A) (ty:=ty) (t:=t) (u:=u) k (2^k) rfl hx hy zE
 have e:1*2^k%18446744073709551616=2^k:=by
  rw[nM];exact fh (show 2^k<2^64 from Am (by decide) h.2)
 rw[e]at this;exact this
theorem Jr (a j:Nat):decide ((((a/2^j%2:Nat):Int))=1)=a.testBit j:=by
 rw[Nat.testBit_eq_decide_div_mod_eq,decide_eq_decide];omega
end
def bP:Rp Nat:=⟨1,by decide,λa=>[uv a],λa=>a<18446744073709551616,λ_=>rfl,λx u h=>by rw[ba.1 h];rfl⟩
theorem rh (U:List Nat):rows bP U=U.map λa=>uv a:=by
 show U.flatMap (λa=>[uv a])=_
 induction U with
 |nil=>rfl
 |cons a U b=>rw[iQ,b];rfl
theorem pC {U:List Nat}{k a:Nat}(h:U[k]?=some a):(rows bP U)[k*1+0]?=some (uv a):=by
 rw[rh,fU,hY,bJ,h];rfl
theorem uj {U:List Nat}{k a:Nat}:(rows bP U).set (k*1+0) (uv a)=rows bP (U.set k a):=by
 rw[rh,rh,fU,hY,mJ]
theorem GW (n:Nat):List.replicate n (uv 0)=rows bP (List.replicate n 0):=by rw[rh,rM]
end Go.J
namespace Go.Proofs.YtiefglecbgdaiaaGreatDoor
open Go Go.J Tryz
theorem Tc {T:List er}{k q n:Nat}{E:List Nat}(a:∀j,j<n→E[j]?=some (if j<q then lK T (k+1) j else lK T k j))(c:E.length=n)(d:q<n)(h:iY T k q=true):
 ∀j,j<n→(E.set q (lK T k q|||2^k))[j]?=some (if j<q+1 then lK T (k+1) j else lK T k j):=λj b=>by
 by_cases e:q=j
 ·subst e;rw[ic zE,aB zE,rX,aB h]
 ·rw[iz e,a j b]
  by_cases e2:j<q
  ·rw[aB e2,aB zE]
  ·rw[aA e2,aA zE]
theorem Tb {T:List er}{k q n:Nat}{E:List Nat}(a:∀j,j<n→E[j]?=some (if j<q then lK T (k+1) j else lK T k j))(h:iY T k q=false):
 ∀j,j<n→E[j]?=some (if j<q+1 then lK T (k+1) j else lK T k j):=λj b=>by
 rw[a j b]
 by_cases e:q=j
 ·subst e;rw[aA zE,aB zE,rX,aA (by rw[h];decide)]
 ·by_cases e2:j<q
  ·rw[aB e2,aB zE]
  ·rw[aA e2,aA zE]
theorem qX (u:Value)(d:List sD)(f:j5 (d.map dG)):dx prog 65 #[u] ([sl lW u d,aL s6 d].map aD) (λv H'=>∃Q R:ah,v= .agg #[Q.1,R.1]∧H'=[aD (sl bP Q.1 (da (d.map dG))),aD (sl bP R.1 (dZ (d.map dG)))]):=by
 refine dx.body (args:=[u]) 75 func65 rfl ntmps65 rfl (λc=>St.cast (H':=[aD (sl lW u d),aD (aL s6 d)]) rfl (go ?_))
 have X:=f.len
 rw[aO]at X;refine go ?_;refine St.al (λH=>g2 ?_);refine St.join (ι:=Nat×Nat×Nat) (λy T=>(3,.pointer (some ⟨y.2.2,0,none⟩))::T) (λy=>[aW y.2.2 (.cells [(.slice (some ⟨y.1,0,none⟩) d.length d.length),(.slice (some ⟨y.2.1,0,none⟩) d.length d.length)].toArray 154 (0,0)),row (.slice (some ⟨y.1,0,none⟩) d.length d.length) 123 1 d.length (rows bP (List.replicate d.length 0)),row (.slice (some ⟨y.2.1,0,none⟩) d.length d.length) 123 1 d.length (rows bP (List.replicate d.length 0)),tI H [(.slice none 0 0),(.slice none 0 0)] 154,aD (sl lW u d),aD (aL s6 d)]) (λy=>True) (aC.k2 0 2) ?_ ?_
 ·refine St.jm [] mixed (λJ K=>?_)
  repeat' first
   |with_reducible refine SW.me ?_
    first
     |refine SW.gd 0 ?_
     |refine SW.gd 1 ?_
     |refine SW.gd 3 ?_
     |refine SW.gd 4 ?_
     |refine SW.dd 6 rfl (λ_=>Ev.build (ps:=[(0,(.tmp 11)),(1,(.tmp 14))]) (au.aX rfl rfl) (λw=>Hm rfl rfl w)) ?_
     |refine SW.Wx (i:=2) (j:=5) (k:=7) (by decide+kernel) rfl rfl rfl ?_ ?_ ?_
     |refine SW.t2 5 7 ?_ ?_
     |refine SW.t1 7 ?_
     |refine SW.t1 8 ?_
     |refine SW.t1 5 ?_
     |refine SW.t2 2 7 ?_ ?_
     |refine SW.t1 2 ?_
     |refine SW.t2 2 5 ?_ ?_
   |with_reducible refine SW.tg 2 ?_
    refine St.nC (m:=d.length) (.mk rfl) (.mk rfl) pI lQ XC Vg rfl rfl zE rfl rfl (λS=> ?_);refine St.aP (tO S d.length d.length) rfl (GW _) (g2 ?_);refine SW.go ?_
   |with_reducible refine SW.tg 5 ?_
    refine St.nC (m:=d.length) (.mk rfl) (.mk rfl) pI lQ XC Vg rfl rfl zE rfl rfl (λW=> ?_);refine St.aP (tO W d.length d.length) rfl (GW _) (g2 ?_);refine SW.go ?_
   |with_reducible refine SW.tg 7 ?_
    refine St.al (λY=>g2 ?_);refine SW.go ?_
   |with_reducible refine SW.tg 8 ?_
    refine g3 ?_;refine SW.go ?_
  all_goals refine SW.dn ?_
  all_goals
   refine go ?_;refine St.mE (S,W,Y) trivial
 ·intro y amS
  refine g9 ?_;refine St.td (ι:=Nat) (κ:=List Nat×List Nat) (λk z T=>(18,iv k)::T) (λk z=>[aW y.2.2 (.cells [(.slice (some ⟨y.1,0,none⟩) d.length d.length),(.slice (some ⟨y.2.1,0,none⟩) d.length d.length)].toArray 154 (0,0)),row (.slice (some ⟨y.1,0,none⟩) d.length d.length) 123 1 d.length (rows bP z.1),row (.slice (some ⟨y.2.1,0,none⟩) d.length d.length) 123 1 d.length (rows bP z.2),tI H [(.slice none 0 0),(.slice none 0 0)] 154,aD (sl lW u d),aD (aL s6 d)]) (λk z=>k≤d.length∧(z.1.length=d.length∧∀i,i<k→z.1[i]?=some (LD (d.map dG) i))∧(z.2.length=d.length∧∀j,j<d.length→z.2[j]?=some (lK (d.map dG) k j))) (λk z=>d.length-k) 0 (List.replicate d.length 0,List.replicate d.length 0) (aC.k5 0 2 3 16 17) ⟨aQ _,⟨mI,λi hi=>absurd hi zE⟩,mI,λj r=>by show(List.replicate d.length 0)[j]?=_;rw[si,aB r];rfl⟩ ?_;rintro k ⟨U,D⟩ ⟨hk,⟨g,L⟩,l,M⟩
  dsimp only at g L l M⊢
  refine g6 ?_;refine St.cq (λZ=> ?_) (λZ=> ?_)
  ·obtain⟨t,ht⟩:=aF (show k<d.length by omega)
   have htm:=aY ht
   have A:(d.map dG)[k]?=some (dG t):=by rw[bJ,ht];rfl
   have o:=f.par k _ A
   refine St.bh s6 d (x:=t) htm (St.fF (sl aJ t.pv.1 t.parents) [s6 t] (λρ h=>h _ (aR ..)) (St.wf t.pv.1 (λhpw hpl=>g8 ?_)));refine St.ee (Ev.iD (.mk rfl) ht LA trivial Cj gH.eq) (St.al (λb5=>g5 ?_));refine St.ef [row (.slice (some ⟨y.1,0,none⟩) d.length d.length) 123 1 d.length (rows bP U)] mixed (λJ K=>SW.gd 0 ?_);refine SW.gd 1 ?_;refine SW.gd 2 ?_;refine SW.gd 3 ?_;refine SW.dd 4 rfl (λ_=>Ev.aaX (k:=k) (.mk rfl) (.mk rfl) zE) (SW.dd 5 rfl (λ_=>Ev.nT (k:=k) rfl (.mk rfl) (.mk rfl) pI lQ zE zE) (SW.t1 6 ?_));refine St.dF (.mk rfl) (.mk rfl) lQ rfl zE (by decide) ?_;refine St.aP (.slice (some ⟨y.1,0,none⟩) d.length d.length) rfl uj (g2 ?_);refine SW.go (SW.dn (g11 ?_));refine St.td (ι:=Nat) (κ:=List Nat) (λq V T=>(32,iv q)::T) (λq V=>[row (.slice (some ⟨y.1,0,none⟩) d.length d.length) 123 1 d.length (rows bP V),aW y.2.2 (.cells [(.slice (some ⟨y.1,0,none⟩) d.length d.length),(.slice (some ⟨y.2.1,0,none⟩) d.length d.length)].toArray 154 (0,0)),row (.slice (some ⟨y.2.1,0,none⟩) d.length d.length) 123 1 d.length (rows bP D),tI H [(.slice none 0 0),(.slice none 0 0)] 154,aD (sl aJ t.pv.1 t.parents),aD (sl lW u d),aD (aL s6 d)]) (λq V=>q≤t.parents.length∧V.length=d.length∧(∀i,i<k→V[i]?=some (LD (d.map dG) i))∧V[k]?=some (Zf (d.map dG) k (t.parents.take q))) (λq V=>t.parents.length-q) 0 (U.set k (2^k)) (aC.k9 0 2 3 4 16 17 18 30 31) ⟨aQ _,by rw[ep];exact g,λi hi=>by rw[iz zE];exact L i hi,by rw[ic zE];rfl⟩ ?_;rintro q V ⟨hq,B,I,e⟩;refine g6 ?_;refine St.cq (λh33=> ?_) (λh33=> ?_)
   ·obtain⟨p,hp⟩:=aF (show q<t.parents.length by omega)
    have hpp:=o p (aY hp)
    refine g11 ?_;refine St.ef [row (.slice (some ⟨y.1,0,none⟩) d.length d.length) 123 1 d.length (rows bP V)] mixed (λJ K=>SW.gd 0 ?_);refine SW.gd 1 ?_;refine SW.gd 2 ?_;refine SW.dd 3 rfl (λ_=>Ev.nT (k:=k) rfl (.mk rfl) (.mk rfl) pI lQ zE zE) (SW.gd 5 ?_);refine SW.gd 6 ?_;refine SW.gd 7 ?_;refine SW.dd 8 rfl (λ_=>Ev.nT (k:=p.toNat) rfl (.mk rfl) (.mk rfl) pI lQ zE zE) (SW.t2 4 9 ?_ ?_)
    focus
     refine St.ee (Ev.dw (.mk rfl) gj trivial zE (pC e)) (g2 ?_);refine SW.go (SW.t1 9 ?_);refine St.ee (Ev.dw (.mk rfl) gj trivial zE (pC (I p.toNat zE))) (g2 ?_);refine SW.go (SW.dd 10 rfl (λ_=>Ev.orG (.mk rfl) (.mk rfl) ⟨Rk f zE (λp hp=>o p (Au hp)),wY f zE⟩) (SW.dd 11 rfl (λ_=>Ev.nT (k:=k) rfl (.mk rfl) (.mk rfl) pI lQ zE zE) (SW.t1 12 ?_)));refine St.dF (.mk rfl) (.mk rfl) lQ rfl zE (by decide) ?_;refine St.aP (.slice (some ⟨y.1,0,none⟩) d.length d.length) rfl uj (g2 ?_);refine SW.go (SW.dn ?_)
    rotate_left
    focus
     refine St.ee (Ev.dw (.mk rfl) gj trivial zE (pC (I p.toNat zE))) (g2 ?_);refine SW.go (SW.t1 4 ?_);refine St.ee (Ev.dw (.mk rfl) gj trivial zE (pC e)) (g2 ?_);refine SW.go (SW.dd 10 rfl (λ_=>Ev.orG (.mk rfl) (.mk rfl) ⟨Rk f zE (λp hp=>o p (Au hp)),wY f zE⟩) (SW.dd 11 rfl (λ_=>Ev.nT (k:=k) rfl (.mk rfl) (.mk rfl) pI lQ zE zE) (SW.t1 12 ?_)));refine St.dF (.mk rfl) (.mk rfl) lQ rfl zE (by decide) ?_;refine St.aP (.slice (some ⟨y.1,0,none⟩) d.length d.length) rfl uj (g2 ?_);refine SW.go (SW.dn ?_)
    all_goals
     refine g7 ?_;refine St.vL (q+1) (V.set k (Zf (d.map dG) k (t.parents.take q)|||LD (d.map dG) p.toNat)) ⟨by omega,by rw[ep];exact B,λi hi=>by rw[iz zE];exact I i hi,by rw[ic zE,ag hp,Rl]⟩
   ·rw[fZ zE]at e
    replace e:V[k]?=some (LD (d.map dG) k):=by rw[Rh f A];exact e
    refine g13 ?_;refine St.td (ι:=Nat) (κ:=List Nat) (λq E T=>(51,iv q)::T) (λq E=>[row (.slice (some ⟨y.2.1,0,none⟩) d.length d.length) 123 1 d.length (rows bP E),row (.slice (some ⟨y.1,0,none⟩) d.length d.length) 123 1 d.length (rows bP V),aW y.2.2 (.cells [(.slice (some ⟨y.1,0,none⟩) d.length d.length),(.slice (some ⟨y.2.1,0,none⟩) d.length d.length)].toArray 154 (0,0)),tI H [(.slice none 0 0),(.slice none 0 0)] 154,aD (sl lW u d),aD (aL s6 d)]) (λq E=>q≤d.length∧E.length=d.length∧∀j,j<d.length→E[j]?=some (if j<q then lK (d.map dG) (k+1) j else lK (d.map dG) k j)) (λq E=>d.length-q) 0 D (aC.k8 0 2 3 4 16 17 18 50) ⟨aQ _,l,λj r=>by rw[aA zE];exact M j r⟩ ?_;rintro q E ⟨hq,n,s⟩;refine g6 ?_;refine St.cq (λN=> ?_) (λN=> ?_)
    ·have C:=s q zE
     rw[aA zE]at C;refine g16 ?_;refine St.ee (Ev.dw (.mk rfl) gj trivial zE (pC e)) (go ?_);refine St.ee (Ev.tQ (q) _ rfl (.mk rfl) (.mk rfl) zE) (St.ee (Ev.Hj (b:=1) 1 2 (by decide) (.mk rfl) (.mk rfl) (⟨(oZ (Nat.div_le_self _ _) (wY f zE)),by decide,by decide⟩)) ?_);refine go ?_;refine St.slot 62 (.bool (iY (d.map dG) k q)) rfl (congrArg Value.bool (Jr _ _)) (g2 ?_);refine St.cond _ rfl (λO=> ?_) (λO=> ?_)
     ·skip
      refine St.ef [row (.slice (some ⟨y.2.1,0,none⟩) d.length d.length) 123 1 d.length (rows bP E)] mixed (λJ K=>SW.gd 0 ?_);refine SW.gd 1 ?_;refine SW.gd 2 ?_;refine SW.dd 3 rfl (λ_=>Ev.nT (k:=q) rfl (.mk rfl) (.mk rfl) pI lQ zE zE) (SW.gd 5 ?_);refine SW.dd 6 rfl (λ_=>Ev.aaX (k:=k) (.mk rfl) (.mk rfl) zE) (SW.t1 4 ?_);refine St.ee (Ev.dw (.mk rfl) gj trivial zE (pC C)) (g2 ?_);refine SW.go (SW.dd 7 rfl (λ_=>Ev.orG (.mk rfl) (.mk rfl) ⟨nq _ _ zE,(show 2^k<2^64 from Am (by decide) zE)⟩) ?_);refine SW.dd 8 rfl (λ_=>Ev.nT (k:=q) rfl (.mk rfl) (.mk rfl) pI lQ zE zE) (SW.t1 9 ?_);refine St.dF (.mk rfl) (.mk rfl) lQ rfl zE (by decide) ?_;refine St.aP (.slice (some ⟨y.2.1,0,none⟩) d.length d.length) rfl uj (g2 ?_);refine SW.go (SW.dn (g7 ?_));refine St.vL (q+1) (E.set q (lK (d.map dG) k q|||2^k)) ⟨by omega,by rw[ep];exact n,Tc s n zE O⟩
     ·skip
      refine g8 ?_;refine St.vL (q+1) E ⟨by omega,n,Tb s O⟩
    ·obtain rfl:q=d.length:=by omega
     replace s:∀j,j<d.length→E[j]?=some (lK (d.map dG) (k+1) j):=λj r=>by rw[s j r,aB r]
     refine g11 ?_;refine St.vL (k+1) (V,E) ⟨by omega,⟨B,λi hi=>by rcases dI i k with h|h;exact I i h;rw[show i=k by omega];exact e⟩,n,s⟩
  ·obtain rfl:k=d.length:=by omega
   refine g12 ?_
   have F:U=da (d.map dG):=by unfold da;rw[aO];exact zk g L
   have G:D=dZ (d.map dG):=by unfold dZ;rw[aO];exact zk l M
   refine St.bU (.slice (some ⟨y.1,0,none⟩) d.length d.length) bP U rfl g.symm (λa P=>by obtain⟨i,hi,rfl⟩:=cS.1 (F▸P);exact wY f (by have:=dM.1 hi;rw[aO]at this;omega)) ?_;refine St.bU (.slice (some ⟨y.2.1,0,none⟩) d.length d.length) bP D rfl l.symm (λa P=>by obtain⟨i,hi,rfl⟩:=cS.1 (G▸P);exact nq _ _ (by rw[aO];omega)) ?_;rw[F,G];refine St.rV [_] [aD (sl bP (.slice (some ⟨y.1,0,none⟩) d.length d.length) (da (d.map dG))),aD (sl bP (.slice (some ⟨y.2.1,0,none⟩) d.length d.length) (dZ (d.map dG)))] ?_;exact⟨⟨(.slice (some ⟨y.1,0,none⟩) d.length d.length),rfl⟩,⟨(.slice (some ⟨y.2.1,0,none⟩) d.length d.length),rfl⟩,rfl,rfl⟩
end Go.Proofs.YtiefglecbgdaiaaGreatDoor
namespace Go.Proofs
open Go.Shelf
def Tryz.Ie:Go.Shelf.Ren:=⟨λ|29=>158|n=>n,λ|0=>0|3=>3|4=>4|5=>5|22=>123|25=>192|54=>309|n=>n,λ|1=>4|n=>n⟩
theorem Tryz.Yi:Go.Proofs.Lays7.n29 Tryz.prog Tryz.Ie:={
 mixed:=by kernel_rfl
 f29:=Tryz.func158.trans (congrArg some (by kernel_rfl))
 t0:=Zb
 a0:=Tryz.isAgg0
 z0:=Tryz.sizeOf0
 v0:=Tryz.zeroValue0
 i0:=by kernel_rfl
 t3:=fA
 a3:=Tryz.isAgg3
 z3:=Tryz.sizeOf3
 v3:=Tryz.zeroValue3
 i3:=by kernel_rfl
 t4:=EY
 a4:=Tryz.isAgg4
 z4:=Tryz.sizeOf4
 v4:=Tryz.zeroValue4
 i4:=by kernel_rfl
 t5:=EZ
 a5:=Tryz.isAgg5
 z5:=Tryz.sizeOf5
 v5:=Tryz.zeroValue5
 i5:=by kernel_rfl
 t22:=gj
 a22:=Tryz.isAgg123
 z22:=Tryz.sizeOf123
 v22:=Tryz.zeroValue123
 i22:=by kernel_rfl
 t25:=xL
 a25:=Tryz.isAgg192
 z25:=Tryz.sizeOf192
 v25:=Tryz.zeroValue192
 i25:=by kernel_rfl
 t54:=Tryz.underlying309
 a54:=Tryz.isAgg309
 z54:=Tryz.sizeOf309
 g1:=by kernel_rfl}
end Go.Proofs
namespace Go.Proofs.YtiefglecbgdaiaaGreatDoor
open Go Go.J Tryz
abbrev tz:e8:=e8.of (TabAt 4 Lib.deBruijn64tab)
theorem dK.of_same {P:Program}{f:FuncId}{args:Array Value}{X:World→Prop}{v:Value}(h:∀w,X w→Calls P f args w λe w'=>e= .returned v∧w'=w):dK P f args [e8.of X] v:=by
 intro w ρ a
 have hx:X w:=dJ.1 (a.dR (aD (e8.of X)) (aR ..)) w a.fits
 refine(h w hx).mono ?_;rintro e w' ⟨rfl,rfl⟩;exact⟨v,[],rfl,rfl,Mm.mk (ρ:=ρ) ⟨rfl,⟨rfl,λ_=>aU _⟩,rfl,aU _,λ_ _ _=>rfl,a.fits,Ro.le_refl _,λ_ _ _=>rfl,λ_ h=>by simp at h,λ_ h=>by simp at h,.nil⟩⟩
theorem L9 (x:Nat)(hx:x<18446744073709551616):dK prog 158 #[uv x] [tz] (iv (Lib.ctz 64 x)):=
 dK.of_same λw hw=>Any7.bits_TrailingZeros64 Tryz.Yi x hx w (λ_=>hw)
theorem FU {x:Nat}(a:x≠0)(h:x<18446744073709551616):x.testBit (Lib.ctz 64 x)=true∧∀i,i<Lib.ctz 64 x→x.testBit i=false:=by
 obtain⟨m,hm,_⟩:=Lib.ctzFrom_spec 64 x zE h
 have e:Lib.ctz 64 x=Lib.ctzFrom 64 x:=by unfold Lib.ctz;rw[aA a]
 rw[e]
 generalize Lib.ctzFrom 64 x=k at hm
 subst hm;refine⟨?_,λi hi=> ?_⟩
 ·rw[Nat.testBit_two_pow_mul,gp,cX (aU k),Bool.true_and,Nat.testBit_zero]
  exact cX zE
 ·rw[Nat.testBit_two_pow_mul,df zE,Bool.false_and]
abbrev kX (a b:ah):Value:= .agg #[a.1,b.1]
theorem NO (a d:ah)(T:List er)(e:j5 T)(i j:Nat)(hi:i<T.length)(g:j<T.length):dK prog 111 #[kX a d,iv i,iv j] [sl bP a.1 (da T),sl bP d.1 (dZ T)] (.bool (iY T i j)):=by
 refine dK.qf (args:=[kX a d,iv i,iv j]) 16 func111 rfl ntmps111 rfl (λc=>go ?_)
 have h:=e.len
 have f:=Rn T
 refine go ?_;refine St.cC (.mk rfl) rfl (λk=>g9 ?_);refine St.ee (Ev.ld1 (.mk rfl) (Rm hi) gj trivial rfl) (go ?_);refine St.ee (Ev.tQ (j) _ rfl (.mk rfl) (.mk rfl) zE) (St.ee (Ev.Hj (b:=1) 1 2 (by decide) (.mk rfl) (.mk rfl) (⟨(oZ (Nat.div_le_self _ _) (wY e zE)),by decide,by decide⟩)) ?_);refine go ?_;refine St.slot 15 (.bool (iY T i j)) rfl (congrArg Value.bool (Jr _ _)) (g4 ?_);refine St.rV [_] [] ?_;rfl
theorem LU (e f:ah)(T:List er)(l:j5 T)(a b:Nat)(n:a<T.length)(o:b<T.length):dx prog 107 #[kX e f,iv a,iv b] ([sl bP e.1 (da T),sl bP f.1 (dZ T),tz].map aD) (λv H'=>∃(m:Int) (ok:Bool),v= .tuple #[iv m,.bool ok,.bool (kZ T a b)]∧H'=[]):=by
 refine dx.body (args:=[kX e f,iv a,iv b]) 33 func107 rfl ntmps107 rfl (λc=>St.cast (H':=[aD (sl bP e.1 (da T)),aD (sl bP f.1 (dZ T)),aD (tz)]) rfl (go ?_))
 have h:=l.len
 have p:=FX T
 refine go ?_;refine St.cC (.mk rfl) rfl (λu=>g6 ?_);refine St.rq mixed (by kernel_rfl) (Mm.drawn _ _) ?_;refine g4 ?_;refine Sq.ee (Ev.ld1 (.mk rfl) (ow n) gj trivial rfl) (g4 ?_);refine Sq.ee (Ev.ld1 (.mk rfl) (ow o) gj trivial rfl) (Sq.ee (Ev.aaL (.mk rfl) (.mk rfl) ⟨nq _ _ h,nq _ _ h⟩) (g5 ?_));refine St.slot 9 (uv (both T a b)) rfl rfl ?_
 have d:both T a b<18446744073709551616:=oZ Nat.and_le_left (nq _ _ h)
 refine g5 ?_;refine St.cq (λq=> ?_) (λq=> ?_)
 ·have i:both T a b=0:=by omega
  refine g9 ?_;refine St.rV [_,_,_] [] ?_;exact⟨0,false,by rw[Ak i];rfl,rfl⟩
 ·have i:both T a b≠0:=by omega
  obtain⟨j,r⟩:=FU i d
  have s:Lib.ctz 64 (both T a b)<T.length:=by rw[oh,nQ,gD]at j;exact j.1
  have g:=H8 l j r
  refine g5 ?_;refine St.ee (Ev.call (L9 (both T a b) d) Vm (.aq rfl)) (g9 ?_);refine St.ee (Ev.cI (k:=(Lib.ctz 64 (both T a b))) (.mk rfl) (.mk rfl) pI lQ zE zE) (St.ee (Ev.ld1 (.mk rfl) (ow s) gj trivial rfl) (g4 ?_));refine St.cq (λt=> ?_) (λt=> ?_)
  ·rw[cX zE]at g
   refine g9 ?_;refine St.rV [_,_,_] [] ?_;exact⟨0,false,by rw[g];rfl,rfl⟩
  ·rw[df zE]at g
   refine g11 ?_;refine St.rV [_,_,_] [] ?_;exact⟨(Lib.ctz 64 (both T a b):Nat),true,by rw[g];rfl,rfl⟩
end Go.Proofs.YtiefglecbgdaiaaGreatDoor
