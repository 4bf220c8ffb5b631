/-
  Laws of walks through programs, and facts on grammars, trees and queries.
  Conditions: none.
-/
import Derived.Test.YtblifkgpebebmaaGreatDoorGB2
import Derived.Shelf.Spec.TrailingZeros
set_option maxHeartbeats 2000000
set_option maxRecDepth 20000
set_option linter.unusedVariables false
set_option linter.unusedSimpArgs false
namespace Go.Proofs.YtblifkgpebebmaaGreatDoor
open Go Go.J Tryz
theorem mixed:prog.follows .mixedOrders=true:=by kernel_rfl
theorem G6:(prog.info? 105).bind (λi=>i.zero.map Value.cells)=some #[.string ⟨#[]⟩,.slice none 0 0]:=by kernel_rfl
instance:type_of%(rH.mk G6):=⟨G6⟩
theorem Oa (w:World):cu prog 105 w= .ok #[(0,1),(1,1)] w:=by kernel_rfl
theorem ib:(prog.info? 105).map (·.size)=some 2:=by kernel_rfl
instance:type_of%(pc.mk ib):=⟨ib⟩
theorem K7:(prog.info? 105).bind (·.zero)=some (Value.agg #[.string ⟨#[]⟩,.slice none 0 0]):=by kernel_rfl
theorem A3:(prog.info? 108).bind (λi=>i.zero.map Value.cells)=some #[.int .i64 0,.string ⟨#[]⟩,.int .i64 0,.string ⟨#[]⟩,.slice none 0 0,.slice none 0 0]:=by kernel_rfl
instance:type_of%(rH.mk A3):=⟨A3⟩
theorem JK (w:World):cu prog 108 w= .ok #[(0,1),(1,1),(2,1),(3,2),(5,1)] w:=by kernel_rfl
theorem fg:(prog.info? 108).map (·.size)=some 6:=by kernel_rfl
instance:type_of%(pc.mk fg):=⟨fg⟩
theorem QK:(prog.info? 108).bind (·.zero)=some (Value.agg #[.int .i64 0,.string ⟨#[]⟩,.int .i64 0,.string ⟨#[]⟩,.slice none 0 0,.slice none 0 0]):=by kernel_rfl
theorem KX:aI prog 54:=⟨_,func54,rfl,by kernel_rfl⟩
theorem qH:aI prog 55:=⟨_,func55,rfl,by kernel_rfl⟩
theorem nh:aI prog 61:=⟨_,func61,rfl,by kernel_rfl⟩
theorem mR:aI prog 64:=⟨_,func64,rfl,by kernel_rfl⟩
theorem ow:aI prog 63:=⟨_,func63,rfl,by kernel_rfl⟩
theorem mQ:aI prog 62:=⟨_,func62,rfl,by kernel_rfl⟩
theorem Ts:(prog.info? 30).bind (λi=>i.zero.map Value.cells)=some #[.slice none 0 0]:=by kernel_rfl
instance:type_of%(rH.mk Ts):=⟨Ts⟩
theorem fD:(prog.info? 58).map (·.size)=some 1:=by kernel_rfl
instance:type_of%(pc.mk fD):=⟨fD⟩
theorem dK:(prog.info? 3).map (·.size)=some 1:=by kernel_rfl
instance:type_of%(pc.mk dK):=⟨dK⟩
theorem aeL (w:World):cu prog 163 w= .ok #[(0,1),(1,1)] w:=by kernel_rfl
theorem QC:(prog.info? 163).bind (λi=>i.zero.map Value.cells)=some #[.int .i64 0,.slice none 0 0]:=by kernel_rfl
instance:type_of%(rH.mk QC):=⟨QC⟩
theorem jT:(prog.info? 163).map (·.size)=some 2:=by kernel_rfl
instance:type_of%(pc.mk jT):=⟨jT⟩
theorem tU:bh prog 163 1=some 1:=by kernel_rfl
instance:type_of%(gw.mk tU):=⟨tU⟩
theorem aeM (w:World):cu prog 165 w= .ok #[(0,1),(1,1)] w:=by kernel_rfl
theorem QD:(prog.info? 165).bind (λi=>i.zero.map Value.cells)=some #[.int .i64 0,.int .i64 0]:=by kernel_rfl
instance:type_of%(rH.mk QD):=⟨QD⟩
theorem dm:(prog.info? 165).map (·.size)=some 2:=by kernel_rfl
instance:type_of%(pc.mk dm):=⟨dm⟩
theorem kI:(prog.info? 165).bind (·.zero)=some (Value.agg #[.int .i64 0,.int .i64 0]):=by kernel_rfl
theorem qE:(prog.info? 165).map (·.bytes)=some 16:=by kernel_rfl
theorem pW:(prog.info? 161).map (·.size)=some 1:=by kernel_rfl
instance:type_of%(pc.mk pW):=⟨pW⟩
theorem vC:bh prog 30 0=some 0:=by kernel_rfl
instance:type_of%(gw.mk vC):=⟨vC⟩
theorem GD:(prog.info? 163).bind (·.zero)=some (Value.agg #[.int .i64 0,.slice none 0 0]):=by kernel_rfl
theorem MZ:(prog.info? 163).map (·.bytes)=some 32:=by kernel_rfl
theorem ae8:(prog.info? 28).map (·.size)=some 1:=by kernel_rfl
theorem jU:(prog.info? 30).map (·.size)=some 1:=by kernel_rfl
instance:type_of%(pc.mk jU):=⟨jU⟩
instance:rH prog 25 #[.slice none 0 0,.slice none 0 0]:=⟨by kernel_rfl⟩
theorem Fj:(prog.info? 9).map (·.size)=some 1:=by kernel_rfl
instance:type_of%(pc.mk Fj):=⟨Fj⟩
theorem aeK (w:World):cu prog 156 w= .ok #[(0,1),(1,1)] w:=by kernel_rfl
theorem QB:(prog.info? 156).bind (λi=>i.zero.map Value.cells)=some #[.string ⟨#[]⟩,.slice none 0 0]:=by kernel_rfl
instance:type_of%(rH.mk QB):=⟨QB⟩
theorem Bh:(prog.info? 156).map (·.size)=some 2:=by kernel_rfl
instance:type_of%(pc.mk Bh):=⟨Bh⟩
theorem eT:(prog.info? 3).bind (·.zero)=some (Value.int .i64 0):=by kernel_rfl
instance:gw prog 156 1 1:=⟨by kernel_rfl⟩
theorem vB:bh prog 25 0=some 0:=by kernel_rfl
instance:type_of%(gw.mk vB):=⟨vB⟩
theorem VC:(prog.info? 156).bind (·.zero)=some (Value.agg #[.string ⟨#[]⟩,.slice none 0 0]):=by kernel_rfl
theorem Z4:(prog.info? 156).map (·.bytes)=some 40:=by kernel_rfl
theorem alR:(prog.info? 22).map (·.size)=some 1:=by kernel_rfl
theorem Cv:bh prog 25 1=some 1:=by kernel_rfl
instance:type_of%(gw.mk Cv):=⟨Cv⟩
theorem alS:(prog.info? 23).map (·.size)=some 1:=by kernel_rfl
theorem PV:(prog.info? 25).map (·.size)=some 2:=by kernel_rfl
instance:type_of%(pc.mk PV):=⟨PV⟩
theorem Gt:bh prog 32 2=some 3:=by kernel_rfl
instance:type_of%(gw.mk Gt):=⟨Gt⟩
theorem E7:aI prog 58:=⟨_,func58,rfl,by kernel_rfl⟩
theorem aeH (w:World):cu prog 115 w= .ok #[(0,1),(1,1),(2,1),(3,6)] w:=by kernel_rfl
theorem Q9:(prog.info? 115).bind (λi=>i.zero.map Value.cells)=some #[.string ⟨#[]⟩,.slice none 0 0,.int .i64 0,.int .i64 0,.string ⟨#[]⟩,.int .i64 0,.string ⟨#[]⟩,.slice none 0 0,.slice none 0 0]:=by kernel_rfl
instance:type_of%(rH.mk Q9):=⟨Q9⟩
theorem nT:(prog.info? 115).map (·.size)=some 9:=by kernel_rfl
instance:type_of%(pc.mk nT):=⟨nT⟩
theorem VB:(prog.info? 115).bind (·.zero)=some (Value.agg #[.string ⟨#[]⟩,.slice none 0 0,.int .i64 0,.int .i64 0,.string ⟨#[]⟩,.int .i64 0,.string ⟨#[]⟩,.slice none 0 0,.slice none 0 0]):=by kernel_rfl
theorem Z3:(prog.info? 115).map (·.bytes)=some 144:=by kernel_rfl
theorem alU:(prog.info? 27).map (·.size)=some 1:=by kernel_rfl
instance:rH prog 32 #[.slice none 0 0,.slice none 0 0,.slice none 0 0,.slice none 0 0,.slice none 0 0]:=⟨by kernel_rfl⟩
theorem QO:(prog.info? 9).bind (·.zero)=some (Value.string ⟨#[]⟩):=by kernel_rfl
theorem aeJ (w:World):cu prog 135 w= .ok #[(0,1),(1,1),(2,1)] w:=by kernel_rfl
theorem QA:(prog.info? 135).bind (λi=>i.zero.map Value.cells)=some #[.string ⟨#[]⟩,.int .i64 0,.int .i64 0]:=by kernel_rfl
instance:type_of%(rH.mk QA):=⟨QA⟩
theorem Bg:(prog.info? 135).map (·.size)=some 3:=by kernel_rfl
instance:type_of%(pc.mk Bg):=⟨Bg⟩
theorem afL:(prog.info? 135).bind (·.zero)=some (Value.agg #[.string ⟨#[]⟩,.int .i64 0,.int .i64 0]):=by kernel_rfl
theorem ahG:aI prog 56:=⟨_,func56,rfl,by kernel_rfl⟩
instance:gw prog 32 0 0:=⟨by kernel_rfl⟩
theorem ahH:aI prog 57:=⟨_,func57,rfl,by kernel_rfl⟩
theorem kJ:(prog.info? 58).bind (·.zero)=some (Value.slice none 0 0):=by kernel_rfl
theorem Uv (w:World):cu prog 110 w= .ok #[(0,1),(1,1),(2,1),(3,1),(4,6)] w:=by kernel_rfl
theorem Jz:(prog.info? 110).bind (λi=>i.zero.map Value.cells)=some #[.string ⟨#[]⟩,.slice none 0 0,.int .i64 0,.int .i64 0,.int .i64 0,.string ⟨#[]⟩,.int .i64 0,.string ⟨#[]⟩,.slice none 0 0,.slice none 0 0]:=by kernel_rfl
instance:type_of%(rH.mk Jz):=⟨Jz⟩
theorem kV:(prog.info? 110).map (·.size)=some 10:=by kernel_rfl
instance:type_of%(pc.mk kV):=⟨kV⟩
theorem afK:(prog.info? 110).bind (·.zero)=some (Value.agg #[.string ⟨#[]⟩,.slice none 0 0,.int .i64 0,.int .i64 0,.int .i64 0,.string ⟨#[]⟩,.int .i64 0,.string ⟨#[]⟩,.slice none 0 0,.slice none 0 0]):=by kernel_rfl
instance:gw prog 32 1 2:=⟨by kernel_rfl⟩
theorem alT:(prog.info? 26).map (·.size)=some 1:=by kernel_rfl
theorem Vt:aI prog 60:=⟨_,func60,rfl,by kernel_rfl⟩
theorem ng:aI prog 59:=⟨_,func59,rfl,by kernel_rfl⟩
instance:gw prog 32 3 4:=⟨by kernel_rfl⟩
theorem TY:(prog.info? 32).map (·.size)=some 5:=by kernel_rfl
instance:type_of%(pc.mk TY):=⟨TY⟩
theorem QH:(prog.info? 35).bind (λi=>i.zero.map Value.cells)=some #[.int .i64 0,.int .i64 0]:=by kernel_rfl
instance:type_of%(rH.mk QH):=⟨QH⟩
theorem XQ (w:World):cu prog 35 w= .ok #[(0,1),(1,1)] w:=by kernel_rfl
instance:pc prog 35 2:=⟨by kernel_rfl⟩
theorem xW:bh prog 105 0=some 0:=by kernel_rfl
instance:type_of%(gw.mk xW):=⟨xW⟩
theorem lu:bh prog 105 1=some 1:=by kernel_rfl
instance:type_of%(gw.mk lu):=⟨lu⟩
theorem UJ:aI prog 139:=⟨_,func139,rfl,by kernel_rfl⟩
instance:rH prog 3 #[.int .i64 0]:=⟨by kernel_rfl⟩
instance:rH prog 260 #[.nilFunc]:=⟨by kernel_rfl⟩
theorem ae7:(prog.info? 260).map (·.size)=some 1:=by kernel_rfl
theorem UK:aI prog 140:=⟨_,func140,rfl,by kernel_rfl⟩
theorem rj:aI prog 113:=⟨_,func113,rfl,by kernel_rfl⟩
instance:gw prog 108 0 0:=⟨by kernel_rfl⟩
theorem tS:bh prog 108 2=some 2:=by kernel_rfl
instance:type_of%(gw.mk tS):=⟨tS⟩
theorem qt:bh prog 108 4=some 5:=by kernel_rfl
instance:type_of%(gw.mk qt):=⟨qt⟩
instance:gw prog 108 1 1:=⟨by kernel_rfl⟩
theorem R8:aI prog 46:=⟨_,func46,rfl,by kernel_rfl⟩
theorem xX:bh prog 108 3=some 3:=by kernel_rfl
instance:type_of%(gw.mk xX):=⟨xX⟩
theorem U9:aI prog 114:=⟨_,func114,rfl,by kernel_rfl⟩
theorem UA:aI prog 115:=⟨_,func115,rfl,by kernel_rfl⟩
theorem Ic:aI prog 112:=⟨_,func112,rfl,by kernel_rfl⟩
theorem Gu:bh prog 35 0=some 0:=by kernel_rfl
instance:type_of%(gw.mk Gu):=⟨Gu⟩
theorem Z2:(prog.info? 105).map (·.bytes)=some 40:=by kernel_rfl
theorem Ie:aI prog 116:=⟨_,func116,rfl,by kernel_rfl⟩
instance:rH prog 225 #[.nilFunc]:=⟨by kernel_rfl⟩
theorem ae5:(prog.info? 225).map (·.size)=some 1:=by kernel_rfl
theorem yW:aI prog 78:=⟨_,func78,rfl,by kernel_rfl⟩
instance:gw prog 156 0 0:=⟨by kernel_rfl⟩
theorem Q8:(prog.info? 100).bind (λi=>i.zero.map Value.cells)=some #[.slice none 0 0,.slice none 0 0]:=by kernel_rfl
instance:type_of%(rH.mk Q8):=⟨Q8⟩
theorem lB:(prog.info? 157).map (·.size)=some 1:=by kernel_rfl
instance:type_of%(pc.mk lB):=⟨lB⟩
theorem VD:(prog.info? 157).bind (·.zero)=some (Value.int .u64 0):=by kernel_rfl
theorem U5:(prog.info? 157).map (·.bytes)=some 8:=by kernel_rfl
theorem aeG (w:World):cu prog 100 w= .ok #[(0,1),(1,1)] w:=by kernel_rfl
theorem wU:(prog.info? 100).map (·.size)=some 2:=by kernel_rfl
instance:type_of%(pc.mk wU):=⟨wU⟩
instance:gw prog 100 0 0:=⟨by kernel_rfl⟩
instance:gw prog 100 1 1:=⟨by kernel_rfl⟩
theorem U8:aI prog 110:=⟨_,func110,rfl,by kernel_rfl⟩
theorem ahN:aI prog 79:=⟨_,func79,rfl,by kernel_rfl⟩
theorem Vr:aI prog 45:=⟨_,func45,rfl,by kernel_rfl⟩
theorem Vv:aI prog 80:=⟨_,func80,rfl,by kernel_rfl⟩
instance:gw prog 135 0 0:=⟨by kernel_rfl⟩
theorem Cp:bh prog 135 1=some 1:=by kernel_rfl
instance:type_of%(gw.mk Cp):=⟨Cp⟩
theorem Cq:bh prog 135 2=some 2:=by kernel_rfl
theorem KZ:aI prog 85:=⟨_,func85,rfl,by kernel_rfl⟩
theorem tT:bh prog 163 0=some 0:=by kernel_rfl
instance:type_of%(gw.mk tT):=⟨tT⟩
theorem Cr:bh prog 165 0=some 0:=by kernel_rfl
instance:type_of%(gw.mk Cr):=⟨Cr⟩
theorem tV:bh prog 165 1=some 1:=by kernel_rfl
instance:type_of%(gw.mk tV):=⟨tV⟩
theorem Bk:(prog.info? 4).map (·.size)=some 1:=by kernel_rfl
instance:type_of%(pc.mk Bk):=⟨Bk⟩
theorem Qc:(prog.info? 4).bind (·.zero)=some (Value.bool false):=by kernel_rfl
theorem YD:(prog.info? 4).map (·.bytes)=some 1:=by kernel_rfl
theorem xT:(prog.info? 3).map (·.bytes)=some 8:=by kernel_rfl
theorem ZK:aI prog 117:=⟨_,func117,rfl,by kernel_rfl⟩
theorem ahP:aI prog 83:=⟨_,func83,rfl,by kernel_rfl⟩
theorem Zs:aI prog 84:=⟨_,func84,rfl,by kernel_rfl⟩
theorem ahQ:aI prog 86:=⟨_,func86,rfl,by kernel_rfl⟩
theorem UH:aI prog 133:=⟨_,func133,rfl,by kernel_rfl⟩
theorem qG:aI prog 100:=⟨_,func100,rfl,by kernel_rfl⟩
theorem UI:aI prog 138:=⟨_,func138,rfl,by kernel_rfl⟩
theorem ZS:aI prog 137:=⟨_,func137,rfl,by kernel_rfl⟩
theorem Ib:aI prog 111:=⟨_,func111,rfl,by kernel_rfl⟩
theorem MR {a:Value}(b:a.oneCell'=true)(w:World):(Instr.build 105 #[(0,a)]).run prog w= .ok (.agg #[a,.slice none 0 0]) w:=
 bM G6 (Oa w) (by simp[Instr.fill,J.bK,J.cells_one b])
theorem CW {a b c d:Value}(e:a.oneCell'=true)(h1:b.oneCell'=true)(w:World):(Instr.build 108 #[(0,a),(1,b),(3,.agg #[c,d])]).run prog w= .ok (.agg #[a,b,.int .i64 0,c,d,.slice none 0 0]) w:=
 bM A3 (JK w) (by simp[Instr.fill,J.bK,J.cells_one e,J.cells_one h1])
theorem Gb {a b:Value}(c:a.oneCell'=true)(d:b.oneCell'=true)(w:World):(Instr.build 108 #[(0,a),(2,b)]).run prog w= .ok (.agg #[a,.string ⟨#[]⟩,b,.string ⟨#[]⟩,.slice none 0 0,.slice none 0 0]) w:=
 bM A3 (JK w) (by simp[Instr.fill,J.bK,J.cells_one c,J.cells_one d])
theorem CX {a c d b:Value}(e:a.oneCell'=true)(f:b.oneCell'=true)(w:World):(Instr.build 108 #[(0,a),(3,.agg #[c,d]),(4,b)]).run prog w= .ok (.agg #[a,.string ⟨#[]⟩,.int .i64 0,c,d,b]) w:=
 bM A3 (JK w) (by simp[Instr.fill,J.bK,J.cells_one e,J.cells_one f])
theorem Gc {a b:Value}(c:a.oneCell'=true)(d:b.oneCell'=true)(w:World):(Instr.build 108 #[(0,a),(4,b)]).run prog w= .ok (.agg #[a,.string ⟨#[]⟩,.int .i64 0,.string ⟨#[]⟩,.slice none 0 0,b]) w:=
 bM A3 (JK w) (by simp[Instr.fill,J.bK,J.cells_one c,J.cells_one d])
theorem MS {a:Value}(b:a.oneCell'=true)(w:World):(Instr.build 156 #[(0,a)]).run prog w= .ok (.agg #[a,.slice none 0 0]) w:=
 bM QB (aeK w) (by simp[Instr.fill,J.bK,J.cells_one b])
theorem yR {e f g h a b c d i:Value}(j:e.oneCell'=true)(k:f.oneCell'=true)(w:World):(Instr.build 115 #[(0,e),(2,f),(3,.agg #[g,h,a,b,c,d]),(1,.agg #[i])]).run prog w= .ok (.agg #[e,i,f,g,h,a,b,c,d]) w:=
 bM Q9 (aeH w) (by simp[Instr.fill,J.bK,J.cells_one j,J.cells_one k])
theorem ju {a b c:Value}(d:a.oneCell'=true)(h1:b.oneCell'=true)(e:c.oneCell'=true)(w:World):(Instr.build 135 #[(0,a),(1,b),(2,c)]).run prog w= .ok (.agg #[a,b,c]) w:=
 bM QA (aeJ w) (by simp[Instr.fill,J.bK,J.cells_one d,J.cells_one h1,J.cells_one e])
theorem qC {a b c d e f g h i:Value}(j:a.oneCell'=true)(k:b.oneCell'=true)(w:World):(Instr.build 110 #[(0,a),(2,b),(4,.agg #[c,d,e,f,g,h]),(1,.agg #[i])]).run prog w= .ok (.agg #[a,i,b,.int .i64 0,c,d,e,f,g,h]) w:=
 bM Jz (Uv w) (by simp[Instr.fill,J.bK,J.cells_one j,J.cells_one k])
theorem j9 {a b c d e f g h i j:Value}(k:a.oneCell'=true)(l:b.oneCell'=true)(m:c.oneCell'=true)(w:World):(Instr.build 110 #[(0,a),(2,b),(3,c),(4,.agg #[d,e,f,g,h,i]),(1,.agg #[j])]).run prog w= .ok (.agg #[a,j,b,c,d,e,f,g,h,i]) w:=
 bM Jz (Uv w) (by simp[Instr.fill,J.bK,J.cells_one k,J.cells_one l,J.cells_one m])
theorem R2 {a:Value}(b:a.oneCell'=true)(w:World):(Instr.build 35 #[(0,a)]).run prog w= .ok (.agg #[a,.int .i64 0]) w:=
 bM QH (XQ w) (by simp[Instr.fill,J.bK,J.cells_one b])
theorem E4 {a:Value}(h1:a.oneCell'=true)(w:World):(Instr.build 105 #[(1,a)]).run prog w= .ok (.agg #[.string ⟨#[]⟩,a]) w:=
 bM G6 (Oa w) (by simp[Instr.fill,J.bK,J.cells_one h1])
theorem xR (w:World):(Instr.build 105 #[]).run prog w= .ok (.agg #[.string ⟨#[]⟩,.slice none 0 0]) w:=
 bM G6 (Oa w) (by simp[Instr.fill,J.bK])
theorem Ga {a b:Value}(c:a.oneCell'=true)(h1:b.oneCell'=true)(w:World):(Instr.build 100 #[(0,a),(1,b)]).run prog w= .ok (.agg #[a,b]) w:=
 bM Q8 (aeG w) (by simp[Instr.fill,J.bK,J.cells_one c,J.cells_one h1])
theorem E5 {a:Value}(b:a.oneCell'=true)(w:World):(Instr.build 163 #[(0,a)]).run prog w= .ok (.agg #[a,.slice none 0 0]) w:=
 bM QC (aeL w) (by simp[Instr.fill,J.bK,J.cells_one b])
theorem ou {a b:Value}(c:a.oneCell'=true)(h1:b.oneCell'=true)(w:World):(Instr.build 165 #[(0,a),(1,b)]).run prog w= .ok (.agg #[a,b]) w:=
 bM QD (aeM w) (by simp[Instr.fill,J.bK,J.cells_one c,J.cells_one h1])
theorem gj {a b:Value}(c:a.oneCell'=true)(h1:b.oneCell'=true)(w:World):(Instr.build 35 #[(0,a),(1,b)]).run prog w= .ok (.agg #[a,b]) w:=
 bM QH (XQ w) (by simp[Instr.fill,J.bK,J.cells_one c,J.cells_one h1])
theorem ja (w:World):(Instr.build 35 #[]).run prog w= .ok (.agg #[.int .i64 0,.int .i64 0]) w:=
 bM QH (XQ w) (by simp[Instr.fill,J.bK])
theorem uL (b:bC)(v:aV)(l:List fb):df (.mk b v l)= .mk b (l.map df):=by rw[df,vd]
theorem qY (k:Int)(s:bC)(i:Int)(t:fb)(v:aV)(l:List di):dH (.mk k s i t v l)= .mk k s i (df t) (l.map dH):=by rw[dH,sc]
theorem Fq (r x:Int)(v:aV)(l:List dE):cx (.mk r x v l)= .mk r x (l.map cx):=by rw[cx,zr]
abbrev S0:il:= .mk [] []
abbrev o3:fb:= .mk [] bT []
theorem DV {α:Type}{p:α→Prop}{x y:α}(hx:p x)(hy:p y):∀z∈[x,y],p z:=λz hz=>by
 simp only[List.mem_cons,List.not_mem_nil,or_false]at hz
 rcases hz with rfl|rfl
 ·exact hx
 ·exact hy
theorem OS {α:Type}{p:α→Prop}{x:α}(hx:p x):∀z∈[x],p z:=λz hz=>by rw[bP.1 hz];exact hx
theorem adV:aa 1:=by unfold aa;decide
theorem adW:aa 2:=by unfold aa;decide
theorem adX:aa 3:=by unfold aa;decide
theorem adY:aa 4:=by unfold aa;decide
theorem Ni:aa 0:=by unfold aa;decide
theorem mD (s:bC)(a:nB s):dz prog 54 #[sv s] ([].map aB) (λv H'=>H'=[aB (db (.mk s []) v)]):=by
 refine dz.body (args:=[sv s]) 5 func54 rfl ntmps54 rfl (λc=> ?_);refine St.cast (H':=[]) rfl ?_;refine g2 ?_;refine St.al (λb=> ?_);refine g5 ?_;refine St.ee (Ev.build (bH.ar rfl) (λw=>MR rfl w)) ?_;refine g4 ?_;refine St.fp kM ?_;refine St.dN er ?_;refine St.u6 s (.slice none 0 0) rfl [] ?_;refine St.V8 (.mk s bT []) (s:= .mk s []) (aU (.mk s bT [])) rfl (uL _ _ _) a ?_;refine St.rV [_] [aB (db (.mk s []) (aU (.mk s bT [])))] ?_;rfl
theorem fF (a b:Value)(s1 s2:il):dz prog 55 #[a,b] ([db s1 a,db s2 b].map aB) (λv H'=>H'=[aB (db (.mk [] [s1,s2]) v)]):=by
 refine dz.body (args:=[a,b]) 9 func55 rfl ntmps55 rfl (λc=> ?_);refine St.cast (H':=[aB (db s1 a),aB (db s2 b)]) rfl ?_;refine go ?_;refine St.db s1 a (λx hx=> ?_);obtain⟨rfl,rfl,f⟩:=hx;refine St.db s2 b (λy hy=> ?_);obtain⟨rfl,rfl,e⟩:=hy;refine go ?_;refine St.dJ (.mk rfl) rfl (λg=> ?_);refine St.dJ (.mk rfl) rfl (λh=> ?_);refine St.al (λi=> ?_);refine g6 ?_;refine St.gV rfl (.aX rfl rfl) j4 ib K7 rfl rfl (by simp[Value.cells]) rfl rfl (λd=> ?_);refine St.bS (.slice (some ⟨d,0,none⟩) 2 2) kM [x,y] rfl rfl (DV f e) ?_;refine St.dN er ?_;refine St.mT er (xs:=[]) (x:=y) ?_;refine St.mT er (xs:=[y]) (x:=x) ?_;refine St.u6 [] (.slice (some ⟨d,0,none⟩) 2 2) rfl [x,y] ?_;refine St.ee (Ev.build (bH.ar rfl) (λw=>E4 rfl w)) ?_;refine g4 ?_;refine St.V8 (.mk [] ⟨(.slice (some ⟨d,0,none⟩) 2 2),rfl⟩ [x,y]) (s:= .mk [] [df x,df y]) (aU (.mk [] ⟨(.slice (some ⟨d,0,none⟩) 2 2),rfl⟩ [x,y])) rfl (uL _ _ _) (aP _) ?_;refine St.rV [_] [aB (db (.mk [] [df x,df y]) (aU (.mk [] ⟨(.slice (some ⟨d,0,none⟩) 2 2),rfl⟩ [x,y])))] ?_;rfl
theorem eL (name:bC)(a:nB name)(u:Value)(s:il):dz prog 61 #[sv name,u] ([db s u].map aB) (λv H'=>H'=[aB (isTerm (.mk 1 name 0 s []) v)]):=by
 refine dz.body (args:=[sv name,u]) 8 func61 rfl ntmps61 rfl (λc=> ?_);refine St.cast (H':=[aB (db s u)]) rfl ?_;refine go ?_;refine St.db s u (λx hx=> ?_);obtain⟨rfl,rfl,b⟩:=hx;refine go ?_;refine St.dJ (.mk rfl) rfl (λd=> ?_);refine St.al (λe=> ?_);refine g6 ?_;refine St.ee (Ev.build (bH.ek rfl rfl rfl) (λw=>CW rfl rfl w)) ?_;refine g4 ?_;refine St.fp dI ?_;refine St.dN cm ?_;refine St.D8 1 name 0 x (.slice none 0 0) rfl [] ?_;refine St.toTerm (.mk 1 name 0 x bT []) (s:= .mk 1 name 0 (df x) []) (cN (.mk 1 name 0 x bT [])) rfl (qY _ _ _ _ _ _) ⟨adV,a,Ni,b⟩ ?_;refine St.rV [_] [aB (isTerm (.mk 1 name 0 (df x) []) (cN (.mk 1 name 0 x bT [])))] ?_;rfl
theorem cg (i:Int)(a:aa i):dz prog 64 #[iv i] ([].map aB) (λv H'=>H'=[aB (isTerm (.mk 2 [] i S0 []) v)]):=by
 refine dz.body (args:=[iv i]) 5 func64 rfl ntmps64 rfl (λc=> ?_);refine St.cast (H':=[]) rfl ?_;refine g2 ?_;refine St.al (λb=> ?_);refine g5 ?_;refine St.ee (Ev.build (bH.aX rfl rfl) (λw=>Gb rfl rfl w)) ?_;refine g4 ?_;refine St.fp kM ?_;refine St.dN er ?_;refine St.u6 [] (.slice none 0 0) rfl [] ?_;refine St.fp dI ?_;refine St.dN cm ?_;refine St.D8 2 [] i o3 (.slice none 0 0) rfl [] ?_;refine St.toTerm (.mk 2 [] i o3 bT []) (s:= .mk 2 [] i S0 []) (cN (.mk 2 [] i o3 bT [])) rfl (by rw[qY,uL];rfl) ⟨adW,aP _,a,aP _⟩ ?_;refine St.rV [_] [aB (isTerm (.mk 2 [] i S0 []) (cN (.mk 2 [] i o3 bT [])))] ?_;rfl
theorem eA (a b:Value)(s:il)(t:jL):dz prog 62 #[a,b] ([db s a,isTerm t b].map aB) (λv H'=>H'=[aB (isTerm (.mk 3 [] 0 s [t]) v)]):=by
 refine dz.body (args:=[a,b]) 9 func62 rfl ntmps62 rfl (λc=> ?_);refine St.cast (H':=[aB (db s a),aB (isTerm t b)]) rfl ?_;refine go ?_;refine St.db s a (λx hx=> ?_);obtain⟨rfl,rfl,f⟩:=hx;refine St.isTerm t b (λy hy=> ?_);obtain⟨rfl,rfl,e⟩:=hy;refine go ?_;refine St.dJ (.mk rfl) rfl (λg=> ?_);refine St.dJ (.mk rfl) rfl (λh=> ?_);refine St.al (λi=> ?_);refine g6 ?_;refine St.gV rfl (.ar rfl) iE fg QK rfl rfl (by simp[Value.cells]) rfl rfl (λd=> ?_);refine St.bS (.slice (some ⟨d,0,none⟩) 1 1) dI [y] rfl rfl (OS e) ?_;refine St.dN cm ?_;refine St.mT cm (xs:=[]) (x:=y) ?_;refine St.D8 3 [] 0 x (.slice (some ⟨d,0,none⟩) 1 1) rfl [y] ?_;refine St.ee (Ev.build (bH.ek rfl rfl rfl) (λw=>CX rfl rfl w)) ?_;refine g4 ?_;refine St.toTerm (.mk 3 [] 0 x ⟨(.slice (some ⟨d,0,none⟩) 1 1),rfl⟩ [y]) (s:= .mk 3 [] 0 (df x) [dH y]) (cN (.mk 3 [] 0 x ⟨(.slice (some ⟨d,0,none⟩) 1 1),rfl⟩ [y])) rfl (qY _ _ _ _ _ _) ⟨adX,aP _,Ni,f⟩ ?_;refine St.rV [_] [aB (isTerm (.mk 3 [] 0 (df x) [dH y]) (cN (.mk 3 [] 0 x ⟨(.slice (some ⟨d,0,none⟩) 1 1),rfl⟩ [y])))] ?_;rfl
theorem eh (a b:Value)(t1 t2:jL):dz prog 63 #[a,b] ([isTerm t1 a,isTerm t2 b].map aB) (λv H'=>H'=[aB (isTerm (.mk 4 [] 0 S0 [t1,t2]) v)]):=by
 refine dz.body (args:=[a,b]) 9 func63 rfl ntmps63 rfl (λc=> ?_);refine St.cast (H':=[aB (isTerm t1 a),aB (isTerm t2 b)]) rfl ?_;refine go ?_;refine St.isTerm t1 a (λx hx=> ?_);obtain⟨rfl,rfl,f⟩:=hx;refine St.isTerm t2 b (λy hy=> ?_);obtain⟨rfl,rfl,e⟩:=hy;refine go ?_;refine St.dJ (.mk rfl) rfl (λg=> ?_);refine St.dJ (.mk rfl) rfl (λh=> ?_);refine St.al (λi=> ?_);refine g6 ?_;refine St.gV rfl (.aX rfl rfl) iE fg QK rfl rfl (by simp[Value.cells]) rfl rfl (λd=> ?_);refine St.bS (.slice (some ⟨d,0,none⟩) 2 2) dI [x,y] rfl rfl (DV f e) ?_;refine St.fp kM ?_;refine St.dN er ?_;refine St.u6 [] (.slice none 0 0) rfl [] ?_;refine St.dN cm ?_;refine St.mT cm (xs:=[]) (x:=y) ?_;refine St.mT cm (xs:=[y]) (x:=x) ?_;refine St.D8 4 [] 0 o3 (.slice (some ⟨d,0,none⟩) 2 2) rfl [x,y] ?_;refine St.ee (Ev.build (bH.aX rfl rfl) (λw=>Gc rfl rfl w)) ?_;refine g4 ?_;refine St.toTerm (.mk 4 [] 0 o3 ⟨(.slice (some ⟨d,0,none⟩) 2 2),rfl⟩ [x,y]) (s:= .mk 4 [] 0 S0 [dH x,dH y]) (cN (.mk 4 [] 0 o3 ⟨(.slice (some ⟨d,0,none⟩) 2 2),rfl⟩ [x,y])) rfl (by rw[qY,uL];rfl) ⟨adY,aP _,Ni,aP _⟩ ?_;refine St.rV [_] [aB (isTerm (.mk 4 [] 0 S0 [dH x,dH y]) (cN (.mk 4 [] 0 o3 ⟨(.slice (some ⟨d,0,none⟩) 2 2),rfl⟩ [x,y])))] ?_;rfl
mutual
def szS:il→Nat
 | .mk _ l=>TZ l+1
def TZ:List il→Nat
 | []=>0
 |x::l=>szS x+TZ l
end
mutual
def szT:jL→Nat
 | .mk _ _ _ _ l=>Ta l+1
def Ta:List jL→Nat
 | []=>0
 |x::l=>szT x+Ta l
end
theorem TJ (x:il)(d n:Nat):mC x d n=if 200<n+1∨40<d then(n+1,1)else if jS x.base x.args.length=false then(n+1,5)else lX x.args (d+1) (n+1):=by cases x;rw[mC];rfl
def zq (x:jL)(b:Nat):Int:=kC x.kind x.name x.index x.type x.args.length b
theorem Xo (x:jL)(d b n:Nat):mI x d b n=if 200<n+1∨40<d then(n+1,1,(n:Int))else if zq x b≠0 then(n+1,zq x b,(n:Int))else o5 x.args (d+1) (if x.kind=3 then b+1 else b) (n+1):=by cases x;rw[mI];rfl
theorem Pc:∀(x:jL) (d b n:Nat),(mI x d b n).2.1=0→(mI x d b n).2=(0,0):=by
 intro x;refine jL.rec (motive_1:=λx=>∀d b n,(mI x d b n).2.1=0→(mI x d b n).2=(0,0)) (motive_2:=λl=>∀d b n,(o5 l d b n).2.1=0→(o5 l d b n).2=(0,0)) ?_ ?_ ?_ x
 ·intro k s i t l c d b n h
  rw[mI]at h⊢
  split
  ·rename_i h1;rw[aC h1]at h;exact absurd h (by simp)
  ·rename_i h1
   rw[aA h1]at h
   split
   ·rename_i a;rw[aC a]at h;exact absurd h a
   ·rename_i a;rw[aA a]at h;exact c _ _ _ h
 ·intro d b n _;rfl
 ·intro x l f e d b n h
  rw[o5]at h⊢
  split
  ·rename_i h1;rw[aC h1]at h;exact absurd h h1
  ·rename_i h1;rw[aA h1]at h;exact e _ _ _ h
theorem Pe:∀(x:jL) (d b n:Nat),(mI x d b n).2.1=0→(mI x d b n).1≤200∧(mI x d b n).1=n+szT x:=by
 intro x;refine jL.rec (motive_1:=λx=>∀d b n,(mI x d b n).2.1=0→(mI x d b n).1≤200∧(mI x d b n).1=n+szT x) (motive_2:=λl=>∀d b n,(o5 l d b n).2.1=0→(n≤200→(o5 l d b n).1≤200)∧(o5 l d b n).1=n+Ta l) ?_ ?_ ?_ x
 ·intro k s i t l c d b n h
  rw[mI]at h⊢
  by_cases h1:200<n+1∨40<d
  ·rw[aC h1]at h;exact absurd h (by simp)
  rw[aA h1]at h⊢
  by_cases a:kC k s i t l.length b≠0
  ·rw[aC a]at h;exact absurd h a
  rw[aA a]at h⊢;obtain⟨e,f⟩:=c _ _ _ h;exact⟨e (by omega),by rw[f,szT];omega⟩
 ·intro d b n _;exact⟨λh=>h,rfl⟩
 ·intro x l g j d b n h
  rw[o5]at h⊢
  by_cases h1:(mI x d b n).2.1≠0
  ·rw[aC h1]at h;exact absurd h h1
  rw[aA h1]at h⊢;obtain⟨m,a2⟩:=g d b n (iY.1 h1);obtain⟨o,p⟩:=j _ _ _ h;exact⟨λ_=>o m,by rw[p,a2,Ta];omega⟩
theorem Xp:∀(x:jL) (d b n:Nat),n≤200→(mI x d b n).1≤201:=by
 intro x;refine jL.rec (motive_1:=λx=>∀d b n,n≤200→(mI x d b n).1≤201) (motive_2:=λl=>∀d b n,n≤200→(o5 l d b n).1≤201) ?_ ?_ ?_ x
 ·intro k s i t l a d b n f
  rw[mI]
  split
  ·show n+1≤201;omega
  ·split
   ·show n+1≤201;omega
   ·exact a _ _ _ (by omega)
 ·intro d b n h;show n≤201;omega
 ·intro x l c e d b n h
  rw[o5]
  split
  ·exact c d b n h
  ·rename_i h1
   exact e _ _ _ (Pe x d b n (iY.1 h1)).1
inductive Qn:jL→Nat→Nat→Prop
 |mk {x:jL} {d b:Nat} (hd:d≤40) (h:zq x b=0) (k:∀y∈x.args,Qn y (d+1) (if x.kind=3 then b+1 else b)):Qn x d b
theorem Pd:∀(x:jL) (d b n:Nat),(mI x d b n).2.1=0→Qn x d b:=by
 intro x;refine jL.rec (motive_1:=λx=>∀d b n,(mI x d b n).2.1=0→Qn x d b) (motive_2:=λl=>∀d b n,(o5 l d b n).2.1=0→∀y∈l,Qn y d b) ?_ ?_ ?_ x
 ·intro k s i t l c d b n h
  rw[mI]at h
  by_cases h1:200<n+1∨40<d
  ·rw[aC h1]at h;exact absurd h (by simp)
  rw[aA h1]at h
  by_cases a:kC k s i t l.length b≠0
  ·rw[aC a]at h;exact absurd h a
  rw[aA a]at h;exact .mk (by omega) (iY.1 a) (c _ _ _ h)
 ·intro d b n _ y hy;cases hy
 ·intro x l e f d b n h y hy
  rw[o5]at h
  by_cases h1:(mI x d b n).2.1≠0
  ·rw[aC h1]at h;exact absurd h h1
  rw[aA h1]at h
  rcases cK.1 hy with rfl|hy
  ·exact e _ _ _ (iY.1 h1)
  ·exact f _ _ _ h y hy
theorem Qn.inv {x:jL}{d b:Nat}(h:Qn x d b):d≤40∧zq x b=0∧∀y∈x.args,Qn y (d+1) (if x.kind=3 then b+1 else b):=by
 cases h with
 |mk a b c=>exact⟨a,b,c⟩
theorem Lf {k:Int}{nm:bC}{ix:Int}{a:il}{m b:Nat}(h:kC k nm ix a m b=0):
 (k=1∧ve a=0∧m=0)∨(k=2∧0≤ix∧ix<b∧m=0)∨(k=3∧m=1∧ve a=0)∨(k=4∧m=2):=by
 unfold kC at h
 by_cases h1:k=1
 ·rw[aC h1]at h
  by_cases c:ix≠0∨m≠0
  ·rw[aC c]at h;cases h
  rw[aA c]at h
  by_cases c2:isName nm=false
  ·rw[aC c2]at h;cases h
  rw[aA c2]at h
  by_cases c3:ve a≠0
  ·rw[aC c3]at h;cases h
  exact .inl ⟨h1,iY.1 c3,by omega⟩
 rw[aA h1]at h
 by_cases d:k=2
 ·rw[aC d]at h
  by_cases c:nm≠ []∨pS a=false∨m≠0
  ·rw[aC c]at h;cases h
  rw[aA c]at h
  by_cases c2:ix<0∨(b:Int)≤ix
  ·rw[aC c2]at h;cases h
  exact .inr (.inl ⟨d,by omega,by omega,iY.1 λhm=>c (.inr (.inr hm))⟩)
 rw[aA d]at h
 by_cases e:k=3
 ·rw[aC e]at h
  by_cases c:nm≠ []∨ix≠0∨m≠1
  ·rw[aC c]at h;cases h
  rw[aA c]at h
  by_cases c3:ve a≠0
  ·rw[aC c3]at h;cases h
  exact .inr (.inr (.inl ⟨e,iY.1 λhm=>c (.inr (.inr hm)),iY.1 c3⟩))
 rw[aA e]at h
 by_cases f:k=4
 ·rw[aC f]at h
  by_cases c:nm≠ []∨ix≠0∨pS a=false∨m≠2
  ·rw[aC c]at h;cases h
  exact .inr (.inr (.inr ⟨f,iY.1 λhm=>c (.inr (.inr (.inr hm)))⟩))
 rw[aA f]at h;cases h
theorem Td (x:jL)(c:List il):xN x c=if x.kind=1 then some x.type else if x.kind=2 then c[c.length-1-x.index.toNat]? else if x.kind=3 then(nU x.args (c++ [x.type])).map λb=> .mk [] [x.type,b]else GY (nU x.args c) (DW x.args c):=by
 cases x;rw[xN];rfl
theorem uQ (x:jL)(l:List jL)(c:List il):nU (x::l) c=xN x c:=by rw[nU]
theorem Fw (x y:jL)(l:List jL)(c:List il):DW (x::y::l) c=xN y c:=by rw[DW,nU]
theorem KJ (a b:Option il)(h:∀s l x,a=some s→s.args=l→b=some x→¬∃p q,l=[p,q]∧lW p x=true):GY a b=none:=by
 unfold GY
 split
 ·rename_i _ p q x
  split
  ·rename_i c;exact absurd ⟨p,q,rfl,c⟩ (h _ _ _ rfl rfl rfl)
  ·rfl
 ·rfl
theorem KK {s p q x:il}(a:s.args=[p,q])(h:lW p x=true):GY (some s) (some x)=some q:=by
 cases s with
 |mk b l=>
  cases (show l=[p,q]from a)
  show(if lW p x then some q else none)=some q
  rw[aC h]
theorem Fm (x:jL)(d b n:Nat):o5 [x] d b n=mI x d b n:=by
 rw[o5,o5]
 split
 ·rfl
 ·rename_i h
  have:=Pc x d b n (iY.1 h)
  rw[←this]
theorem Pb (x y:jL)(d b n:Nat):o5 [x,y] d b n=if(mI x d b n).2.1≠0 then mI x d b n else mI y d b (mI x d b n).1:=by rw[o5,Fm]
inductive GR:il→Prop
 |leaf {b:bC} (h:b=sE∨b=sT):GR (.mk b [])
 |fn {x y:il} (hx:GR x) (hy:GR y):GR (.mk [] [x,y])
theorem zY {b:bC}{l:List il}(h:jS b l.length=true):((b=sE∨b=sT)∧l=[])∨(b=[]∧∃x y,l=[x,y]):=by
 unfold jS at h
 simp only[Bool.or_eq_true,Bool.and_eq_true,decide_eq_true_eq]at h
 rcases h with⟨h1,a⟩|⟨h1,a⟩
 ·exact .inl ⟨h1,lG a⟩
 ·refine .inr ⟨h1,?_⟩
  match l,a with
  | [x,y],_=>exact⟨x,y,rfl⟩
theorem JT:∀(x:il) (d n:Nat),(mC x d n).2=0→GR x∧(mC x d n).1=n+szS x∧(mC x d n).1≤200:=by
 intro x;refine il.rec (motive_1:=λx=>∀d n,(mC x d n).2=0→GR x∧(mC x d n).1=n+szS x∧(mC x d n).1≤200) (motive_2:=λl=>∀d n,(lX l d n).2=0→(∀x∈l,GR x)∧(lX l d n).1=n+TZ l∧(n≤200→(lX l d n).1≤200)) ?_ ?_ ?_ x
 ·intro b l e d n h
  rw[mC]at h⊢
  by_cases h1:200<n+1∨40<d
  ·rw[aC h1]at h;exact absurd h (by simp)
  rw[aA h1]at h⊢
  by_cases a:jS b l.length=false
  ·rw[aC a]at h;exact absurd h (by simp)
  rw[aA a]at h⊢;obtain⟨c,f,k3⟩:=e _ _ h;refine⟨?_,by rw[f,szS];omega,k3 (by omega)⟩
  rcases zY (by simpa using a)with⟨g,rfl⟩|⟨rfl,x,y,rfl⟩
  ·exact .leaf g
  ·exact .fn (c x (by simp)) (c y (by simp))
 ·intro d n _;exact⟨λx hx=>(by cases hx),rfl,λh=>h⟩
 ·intro x l i j d n h
  rw[lX]at h⊢
  by_cases h1:(mC x d n).2≠0
  ·rw[aC h1]at h;exact absurd h h1
  rw[aA h1]at h⊢;obtain⟨k,a2,a3⟩:=i d n (iY.1 h1);obtain⟨m,o,p⟩:=j _ _ h;refine⟨λy hy=> ?_,by rw[o,a2,TZ];omega,λ_=>p a3⟩
  rcases cK.1 hy with rfl|hy
  ·exact k
  ·exact m y hy
end Go.Proofs.YtblifkgpebebmaaGreatDoor
namespace Go.Proofs.YtblifkgpebebmaaGreatDoor
open Go Go.J Tryz
theorem TK:∀(x:il) (d n:Nat),n≤200→(mC x d n).1≤201:=by
 intro x;refine il.rec (motive_1:=λx=>∀d n,n≤200→(mC x d n).1≤201) (motive_2:=λl=>∀d n,n≤200→(lX l d n).1≤201) ?_ ?_ ?_ x
 ·intro b l a d n f
  rw[mC]
  split
  ·show n+1≤201;omega
  ·split
   ·show n+1≤201;omega
   ·exact a _ _ (by omega)
 ·intro d n h;show n≤201;omega
 ·intro x l c e d n h
  rw[lX]
  split
  ·exact c d n h
  ·rename_i h1
   exact e _ _ (JT x d n (iY.1 h1)).2.2
theorem Hs {l:List il}{k:Nat}{y:il}(h:l[k]?=some y)(d n:Nat):lX (l.drop k) d n=if(mC y d n).2≠0 then mC y d n else lX (l.drop (k+1)) d (mC y d n).1:=by rw[bO h,lX]
theorem LR {l:List il}{k:Nat}(h:l.length≤k)(d n:Nat):lX (l.drop k) d n=(n,0):=by rw[j6 h,lX]
theorem FY {b:bC}{m:Nat}(h:jS b m=true):m≤2:=by
 unfold jS at h
 simp only[Bool.or_eq_true,Bool.and_eq_true,decide_eq_true_eq]at h
 rcases h with⟨_,h⟩|⟨_,h⟩<;>omega
theorem FX (b:bC)(m:Nat):(((b==([101]:bC))||(b==([116]:bC)))&&decide ((m:Int)=0)||((b==([]:bC))&&decide ((m:Int)=2)))=jS b m:=by
 unfold jS;rw[A8]
 simp only[Bool.or_eq_true,Bool.and_eq_true,beq_iff_eq,decide_eq_true_eq]
 constructor
 ·rintro (⟨h,k⟩|⟨h,k⟩)
  ·exact .inl ⟨h,by omega⟩
  ·exact .inr ⟨h,by omega⟩
 ·rintro (⟨h,k⟩|⟨h,k⟩)
  ·exact .inl ⟨h,by omega⟩
  ·exact .inr ⟨h,by omega⟩
theorem qm (s:bC)(i:s.length≤9223372036854775807):eE prog 46 #[sv s] [] (.bool (isName s)):=by
 refine eE.qD (args:=[sv s]) 55 func46 rfl ntmps46 rfl (λc=> ?_);refine g12 ?_;refine St.gf _ rfl rfl (λa=>Ev.move (.mk rfl)) rfl ?_;refine St.gf _ rfl rfl (λa=>Ev.O1 (ah.gv rfl a) vt) rfl ?_;refine St.gf _ rfl rfl (λa=>Ev.gtr (ah.gv rfl a) (.mk rfl)) rfl ?_;refine g2 ?_;refine St.gf _ rfl rfl (λa=>Ev.move (.mk rfl)) rfl ?_;refine St.gf _ rfl rfl (λa=>Ev.D1 (k:=0) (ah.gv rfl a) (.mk rfl) vt rfl (by first|omega|(simp only[eM]at a;omega))) rfl ?_;refine St.gf _ rfl rfl (λa=>Ev.lss (ah.gv rfl a) (.mk rfl)) rfl ?_;refine g2 ?_;refine St.gf _ rfl rfl (λa=>Ev.move (.mk rfl)) rfl ?_;refine St.gf _ rfl rfl (λa=>Ev.D1 (k:=0) (ah.gv rfl a) (.mk rfl) vt rfl (by first|omega|(simp only[eM]at a;omega))) rfl ?_;refine St.gf _ rfl rfl (λa=>Ev.gtr (ah.gv rfl a) (.mk rfl)) rfl ?_;refine g3 ?_;refine St.cq (λf=> ?_) (λf=> ?_)
 ·refine g7 ?_
  refine St.rV [_] [] ?_;exact be (ET (by omega)).symm
 ·refine g11 ?_
  refine St.lS (ι:=Nat) (λk T=>(25,iv k)::T) (λk=>k≤s.length∧(s.take k).all oH=true) (λk=>s.length-k) 0 (aD.cons 0 rfl (aD.cons 24 rfl aD.nil)) ⟨aP _,rfl⟩ ?_;intro k g;obtain⟨hk,e⟩:=g;refine g6 ?_;refine St.cq (λh=> ?_) (λh=> ?_)
  ·refine g14 ?_
   refine St.ee (Ev.D1 (.mk rfl) (.mk rfl) vt rfl (by omega)) ?_;refine g8 ?_;refine St.gt _ rfl rfl (λa=>Ev.move (.mk rfl)) rfl ?_;refine St.gt _ rfl rfl (λa=>Ev.leq (ah.gv rfl a) (.mk rfl)) rfl ?_;refine g2 ?_;refine St.gf _ rfl rfl (λa=>Ev.move (.mk rfl)) rfl ?_;refine St.gf _ rfl rfl (λa=>Ev.geq (ah.gv rfl a) (.mk rfl)) rfl ?_;refine St.gf _ rfl rfl (λa=>Ev.move (ah.gv rfl a)) rfl ?_;refine St.YE _ rfl rfl (λa=>Ev.move (.mk rfl)) rfl ?_;refine St.YE _ rfl rfl (λa=>Ev.leq (ah.gv rfl a) (.mk rfl)) rfl ?_;refine St.gf _ rfl rfl (λa=>Ev.and (ah.gv rfl a) (λhp=>ah.gv rfl (U0 a hp))) rfl ?_;refine g2 ?_;refine St.gf _ rfl rfl (λa=>Ev.move (.mk rfl)) rfl ?_;refine St.gf _ rfl rfl (λa=>Ev.eql (ah.gv rfl a) (.mk rfl)) rfl ?_;refine g2 ?_;refine St.gf _ rfl rfl (λa=>Ev.move (.mk rfl)) rfl ?_;refine St.gf _ rfl rfl (λa=>Ev.eql (ah.gv rfl a) (.mk rfl)) rfl ?_;refine g4 ?_;refine St.cq (λb=> ?_) (λb=> ?_)
   ·refine g11 ?_
    refine St.rV [_] [] ?_;exact be (EU (k:=k) (by omega) (by simp only[oH,low,digit,Bool.and_eq_false_iff,Bool.or_eq_false_iff,decide_eq_false_iff_not];omega)).symm
   ·refine g8 ?_
    refine St.aS (k+1) ⟨by omega,AR (d:=0) e (by simp only[oH,low,digit,Bool.and_eq_true,Bool.or_eq_true,decide_eq_true_eq];exact b)⟩
  ·refine g11 ?_
   refine St.rV [_] [] ?_;exact be (EV (by omega) (by omega) (by simp only[low,Bool.and_eq_true,decide_eq_true_eq];omega) (Dy e (by omega))).symm
theorem ej (a b:Int):eE prog 44 #[iv a,iv b] [] (fv (a,b)):=by
 refine eE.qD (args:=[iv a,iv b]) 8 func44 rfl ntmps44 rfl (λc=> ?_);refine g2 ?_;refine St.al (λd=> ?_);refine g6 ?_;refine St.ee (Ev.build (bH.aX rfl rfl) (λw=>gj rfl rfl w)) ?_;refine g4 ?_;refine St.rV [_] [] ?_;rfl
theorem cR (a b:Int):eE prog 78 #[iv a,iv b] [] (fv (a,b)):=by
 refine eE.qD (args:=[iv a,iv b]) 8 func78 rfl ntmps78 rfl (λc=> ?_);refine g2 ?_;refine St.al (λd=> ?_);refine g6 ?_;refine St.ee (Ev.build (bH.aX rfl rfl) (λw=>gj rfl rfl w)) ?_;refine g4 ?_;refine St.rV [_] [] ?_;rfl
theorem gB (a b:Int):eE prog 85 #[iv a,iv b] [] (fv (a,b)):=by
 refine eE.qD (args:=[iv a,iv b]) 8 func85 rfl ntmps85 rfl (λc=> ?_);refine g2 ?_;refine St.al (λd=> ?_);refine g6 ?_;refine St.ee (Ev.build (bH.aX rfl rfl) (λw=>gj rfl rfl w)) ?_;refine g4 ?_;refine St.rV [_] [] ?_;rfl
theorem BR (x:fb):eE prog 115 #[aU x] [er x] (.bool (pS (df x))):=by
 refine eE.nH (args:=[aU x]) 12 func115 rfl ntmps115 rfl (λc=> ?_);refine g2 ?_;refine St.dJ (.mk rfl) rfl (λb=> ?_);refine g4 ?_;refine St.uD x ?_;refine g5 ?_;refine St.gt _ rfl rfl (λa=>Ev.da (.mk rfl) lu) rfl ?_;refine St.gt _ rfl rfl (λa=>Ev.ke (ah.gv rfl a) j4 trivial (by rfl)) rfl ?_;refine St.gt _ rfl rfl (λa=>Ev.fc (ah.gv rfl a) j4) rfl ?_;refine St.gt _ rfl rfl (λa=>Ev.eql (ah.gv rfl a) (.mk rfl)) rfl ?_;refine g5 ?_;refine St.rV [_] [] ?_;exact be (by rw[pS,r9,km,aO,A8];simp only[Bool.and_eq_true,beq_iff_eq,decide_eq_true_eq];exact⟨λh=>⟨h.1,by have:=h.2;omega⟩,λh=>⟨h.1,by have:=h.2;omega⟩⟩)
theorem DL (b bw f:Nat):∀(x:fb) (d n:Nat),d≤100→n≤200→dz prog 139 ([aU x,iv (d:Nat)]++ [Value.pointer (some ⟨b,0,none⟩),Value.pointer (some ⟨bw,0,none⟩)]).toArray [aB (er x),aW b (.cells [iv (n:Nat)].toArray 3 (0,0)),aW bw (.cells [(.func (.func 139) #[] [Value.pointer (some ⟨b,0,none⟩),Value.pointer (some ⟨bw,0,none⟩)].toArray)].toArray f (0,0))] (λv H'=>v=iv (mC (df x) d n).2∧H'=[aW b (.cells [iv ((mC (df x) d n).1:Nat)].toArray 3 (0,0)),aW bw (.cells [(.func (.func 139) #[] [Value.pointer (some ⟨b,0,none⟩),Value.pointer (some ⟨bw,0,none⟩)].toArray)].toArray f (0,0))]):=by
 intro x
 induction x using fb.ind
 rename_i x p
 intro d n hd u;refine dz.body (args:=[aU x,iv (d:Nat)]++ [Value.pointer (some ⟨b,0,none⟩),Value.pointer (some ⟨bw,0,none⟩)]) 62 func139 rfl ntmps139 rfl (λc=> ?_);refine go ?_
 have e:=TJ (df x) d n
 rw[r9,km,aO]at e;refine St.uD x ?_;refine go ?_;refine St.dJ (.mk rfl) rfl (λw=> ?_);refine g7 ?_;refine St.cI (.mk rfl) (.mk rfl) dK rfl (by rfl) ?_;refine St.mN b (L':=[iv ((n+1:Nat):Int)]) rfl ?_;refine g8 ?_;refine St.gf _ rfl rfl (λa=>Ev.move (.mk rfl)) rfl ?_;refine St.gf _ rfl rfl (λa=>Ev.gtr (ah.gv rfl a) (.mk rfl)) rfl ?_;refine g3 ?_;refine St.cq (λi=> ?_) (λi=> ?_)
 ·rw[aC (by omega)]at e
  refine g7 ?_;refine St.rV [_] [aW b (.cells [iv ((n+1):Nat)].toArray 3 (0,0)),aW bw (.cells [(.func (.func 139) #[] [Value.pointer (some ⟨b,0,none⟩),Value.pointer (some ⟨bw,0,none⟩)].toArray)].toArray f (0,0))] ?_
  rw[e];exact⟨rfl,rfl⟩
 ·rw[aA (by omega)]at e
  refine g8 ?_;refine St.gf _ rfl rfl (λa=>Ev.da (.mk rfl) xW) rfl ?_;refine St.gf _ rfl rfl (λa=>Ev.ke (ah.gv rfl a) vt trivial (by rfl)) rfl ?_;refine St.gf _ rfl rfl (λa=>Ev.Jd (ah.gv rfl a) (.mk rfl)) rfl ?_;refine g9 ?_;refine St.gt _ rfl rfl (λa=>Ev.da (.mk rfl) lu) rfl ?_;refine St.gt _ rfl rfl (λa=>Ev.ke (ah.gv rfl a) j4 trivial (by rfl)) rfl ?_;refine St.gt _ rfl rfl (λa=>Ev.fc (ah.gv rfl a) j4) rfl ?_;refine St.gt _ rfl rfl (λa=>Ev.eql (ah.gv rfl a) (.mk rfl)) rfl ?_;refine g2 ?_;refine St.gf _ rfl rfl (λa=>Ev.da (.mk rfl) xW) rfl ?_;refine St.gf _ rfl rfl (λa=>Ev.ke (ah.gv rfl a) vt trivial (by rfl)) rfl ?_;refine St.gf _ rfl rfl (λa=>Ev.Jd (ah.gv rfl a) (.mk rfl)) rfl ?_;refine St.gf _ rfl rfl (λa=>Ev.move (ah.gv rfl a)) rfl ?_;refine St.YE _ rfl rfl (λa=>Ev.da (.mk rfl) lu) rfl ?_;refine St.YE _ rfl rfl (λa=>Ev.ke (ah.gv rfl a) j4 trivial (by rfl)) rfl ?_;refine St.YE _ rfl rfl (λa=>Ev.fc (ah.gv rfl a) j4) rfl ?_;refine St.YE _ rfl rfl (λa=>Ev.eql (ah.gv rfl a) (.mk rfl)) rfl ?_;refine St.gf _ rfl rfl (λa=>Ev.and (ah.gv rfl a) (λhp=>ah.gv rfl (U0 a hp))) rfl ?_;refine g4 ?_;refine St.cond _ rfl (λg=> ?_) (λg=> ?_)
  ·rw[FX]at g
   rw[aC (by simpa using g)]at e;refine g7 ?_;refine St.rV [_] [aW b (.cells [iv ((n+1):Nat)].toArray 3 (0,0)),aW bw (.cells [(.func (.func 139) #[] [Value.pointer (some ⟨b,0,none⟩),Value.pointer (some ⟨bw,0,none⟩)].toArray)].toArray f (0,0))] ?_
   rw[e];exact⟨rfl,rfl⟩
  ·rw[FX]at g
   have q:=FY (show jS x.base x.args.length=true by simpa using g)
   rw[aA (by simpa using g)]at e;refine g12 ?_;refine St.tm (ι:=Nat) (κ:=Nat) (λk z T=>(49,iv k)::T) (λk z=>[aW b (.cells [iv (z:Nat)].toArray 3 (0,0)),aW bw (.cells [(.func (.func 139) #[] [Value.pointer (some ⟨b,0,none⟩),Value.pointer (some ⟨bw,0,none⟩)].toArray)].toArray f (0,0)),aB (sl kM x.av.1 x.args),aB (aF er x.args)]) (λk z=>k≤x.args.length∧z≤200∧lX (x.args.map df) (d+1) (n+1)=lX ((x.args.map df).drop k) (d+1) z) (λk z=>x.args.length-k) 0 (n+1) (aD.cons 1 rfl (aD.cons 3 rfl (aD.cons 47 rfl (aD.cons 48 rfl aD.nil)))) ⟨aP _,by omega,rfl⟩ ?_;rintro k z ⟨hk,hz,h⟩;refine g6 ?_;refine St.cq (λr=> ?_) (λr=> ?_)
   ·obtain⟨y,hy⟩:=aE (show k<x.args.length by omega)
    have m:=aZ hy
    have o:=Hs (l:=x.args.map df) (k:=k) (y:=df y) (by rw[bQ,hy];rfl) (d+1) z
    refine St.cL er x.args (x:=y) m ?_
    have hle:=TK (df y) (d+1) z hz
    refine g7 ?_;refine St.ee (Ev.js (.mk rfl) hy lY trivial ib j7.eq) ?_;refine St.al (λA=> ?_);refine g9 ?_;refine St.slot 56 (iv ((d+1:Nat):Int)) rfl rfl ?_;refine St.ei (p y m (d+1) z (by omega) hz) UJ (.mk rfl) (.aX rfl rfl) rfl ?_;rintro s _ ⟨rfl,rfl⟩;refine St.dQ ?_;refine g9 ?_;refine St.cq (λt=> ?_) (λt=> ?_)
    ·refine g12 ?_
     refine St.rV [_] [aW b (.cells [iv ((mC (df y) (d+1) z).1:Nat)].toArray 3 (0,0)),aW bw (.cells [(.func (.func 139) #[] [Value.pointer (some ⟨b,0,none⟩),Value.pointer (some ⟨bw,0,none⟩)].toArray)].toArray f (0,0))] ?_
     rw[e,h,o,aC (by omega)];exact⟨rfl,rfl⟩
    ·refine g8 ?_
     have j:=(JT (df y) (d+1) z (by omega)).2.2
     refine St.ui (k+1) (mC (df y) (d+1) z).1 ⟨by omega,j,by rw[h,o,aA (by omega)]⟩
   ·rw[LR (by rw[aO];omega)]at h
    refine g11 ?_;refine St.rV [_] [aW b (.cells [iv (z:Nat)].toArray 3 (0,0)),aW bw (.cells [(.func (.func 139) #[] [Value.pointer (some ⟨b,0,none⟩),Value.pointer (some ⟨bw,0,none⟩)].toArray)].toArray f (0,0))] ?_
    rw[e,h];exact⟨rfl,rfl⟩
theorem wS (x:fb):eE prog 114 #[aU x] [er x] (fv (ve (df x),0)):=by
 refine eE.nH (args:=[aU x]) 10 func114 rfl ntmps114 rfl (λc=> ?_);refine g2 ?_;refine St.dJ (.mk rfl) rfl (λd=> ?_);refine St.al (λe=> ?_);refine g4 ?_;refine St.al (λa=> ?_);refine St.cI (.mk rfl) (.mk rfl) dK rfl (by rfl) ?_;refine St.mN a (L':=[iv ((0:Nat):Int)]) rfl ?_;refine g4 ?_;refine St.al (λb=> ?_);refine g4 ?_;refine St.ee (Ev.func (.aX rfl rfl)) ?_;refine St.cI (.mk rfl) (.mk rfl) ae7 rfl (by rfl) ?_;refine g6 ?_;refine St.ei (DL a b 260 x 1 0 (by omega) (by omega)) UJ (.mk rfl) (.aX rfl rfl) rfl ?_;rintro f _ ⟨rfl,rfl⟩;refine St.dQ ?_;refine St.ee (Ev.build (bH.ar rfl) (λw=>R2 rfl w)) ?_;refine g4 ?_;refine St.rV [_] [] ?_;rfl
theorem PD (x y:il):lW x y=(decide (x.base=y.base)&&decide (x.args.length=y.args.length)&&nz x.args y.args):=by cases x;cases y;rw[lW];rfl
theorem FV {l m:List il}{k:Nat}{x y:il}(hx:l[k]?=some x)(hy:m[k]?=some y):nz (l.drop k) (m.drop k)=(lW x y&&nz (l.drop (k+1)) (m.drop (k+1))):=by rw[bO hx,bO hy,nz]
theorem Hq {l m:List il}{k:Nat}(h:l.length≤k):nz (l.drop k) (m.drop k)=true:=by rw[j6 h,nz];intro _ _ _ _ h;cases h
theorem LQ:∀(x y:fb),eE prog 140 #[aU x,aU y] [er x,er y] (.bool (lW (df x) (df y))):=by
 intro x
 induction x using fb.ind
 rename_i x i
 intro y;refine eE.pO (args:=[aU x,aU y]) 39 func140 rfl ntmps140 rfl (λc=> ?_);refine go ?_
 have b:=PD (df x) (df y)
 rw[r9,r9,km,km,aO,aO]at b;refine St.uD x ?_;refine St.uD y ?_;refine St.wf x.av.1 (λq r=> ?_);refine go ?_;refine St.dJ (.mk rfl) rfl (λs=> ?_);refine St.dJ (.mk rfl) rfl (λt=> ?_);refine g12 ?_;refine St.gf _ rfl rfl (λa=>Ev.da (.mk rfl) lu) rfl ?_;refine St.gf _ rfl rfl (λa=>Ev.ke (ah.gv rfl a) j4 trivial (by rfl)) rfl ?_;refine St.gf _ rfl rfl (λa=>Ev.fc (ah.gv rfl a) j4) rfl ?_;refine St.gf _ rfl rfl (λa=>Ev.da (.mk rfl) lu) rfl ?_;refine St.gf _ rfl rfl (λa=>Ev.ke (ah.gv rfl a) j4 trivial (by rfl)) rfl ?_;refine St.gf _ rfl rfl (λa=>Ev.fc (ah.gv rfl a) j4) rfl ?_;refine St.gf _ rfl rfl (λa=>Ev.neq (ah.gv rfl a) (ah.gv rfl a)) rfl ?_;refine g3 ?_;refine St.cq (λd=> ?_) (λd=> ?_)
 ·refine g7 ?_
  refine St.rV [_] [] ?_;exact be (by rw[b];rcases d with h|h<;>simp[h]<;>omega)
 ·obtain⟨j,n⟩:x.base=y.base∧x.args.length=y.args.length:=⟨by simpa using d.1,by have:=d.2;omega⟩
  rw[j,n,eB rfl,eB rfl,Bool.true_and,Bool.true_and]at b;refine g12 ?_;refine St.lS (ι:=Nat) (λk T=>(23,iv k)::T) (λk=>k≤x.args.length∧nz (x.args.map df) (y.args.map df)=nz ((x.args.map df).drop k) ((y.args.map df).drop k)) (λk=>x.args.length-k) 0 (aD.cons 2 rfl (aD.cons 3 rfl (aD.cons 22 rfl aD.nil))) ⟨aP _,rfl⟩ ?_;intro k o;obtain⟨hk,e⟩:=o;refine g6 ?_;refine St.cq (λp=> ?_) (λp=> ?_)
  ·obtain⟨u,hu⟩:=aE (show k<x.args.length by omega)
   obtain⟨w,hw⟩:=aE (show k<y.args.length by omega);refine St.cL er x.args (x:=u) (aZ hu) ?_;refine St.cL er y.args (x:=w) (aZ hw) ?_
   have g:=FV (l:=x.args.map df) (m:=y.args.map df) (k:=k) (x:=df u) (y:=df w) (by rw[bQ,hu];rfl) (by rw[bQ,hw];rfl)
   refine g11 ?_;refine St.rq mixed (by kernel_rfl) (Mm.drawn _ _) ?_;refine g4 ?_;refine Sq.ee (Ev.js (.mk rfl) hu lY trivial ib j7.eq) ?_;refine g4 ?_;refine Sq.ee (Ev.js (.mk rfl) hw lY trivial ib j7.eq) ?_;refine Sq.ee (Ev.call (i u (aZ hu) w) UK (.aX rfl rfl)) ?_;refine g3 ?_;refine St.cond _ rfl (λf=> ?_) (λf=> ?_)
   ·skip
    refine g11 ?_;refine St.rV [_] [] ?_;exact be (by rw[b,e,g,show lW (df u) (df w)=false by simpa using f];rfl)
   ·skip
    refine g8 ?_;refine St.aS (k+1) ⟨by omega,by rw[e,g,show lW (df u) (df w)=true by simpa using f,Bool.true_and]⟩
  ·rw[Hq (by rw[aO];omega)]at e
   refine g11 ?_;refine St.rV [_] [] ?_;exact be (by rw[b,e])
theorem Jk (x:di)(b:Nat):zq (dH x) b=kC x.kind x.name x.index (df x.type) x.args.length b:=by
 cases x with
 |mk k s i t v l=>rw[qY];show kC k s i (df t) (l.map dH).length b=_;rw[aO];rfl
theorem sf (x:di):(dH x).kind=x.kind:=by cases x;rfl
theorem tm1 (nm:bC)(ix:Int)(a:il)(m b:Nat):kC 1 nm ix a m b=if ix≠0∨m≠0 then 5 else if isName nm=false then 10 else if ve a≠0 then 12 else 0:=by unfold kC;rw[aC rfl]
theorem tm2 (nm:bC)(ix:Int)(a:il)(m b:Nat):kC 2 nm ix a m b=if nm≠ []∨pS a=false∨m≠0 then 5 else if ix<0∨(b:Int)≤ix then 15 else 0:=by unfold kC;rw[aA (by decide),aC rfl]
theorem tm3 (nm:bC)(ix:Int)(a:il)(m b:Nat):kC 3 nm ix a m b=if nm≠ []∨ix≠0∨m≠1 then 5 else if ve a≠0 then 12 else 0:=by unfold kC;rw[aA (by decide),aA (by decide),aC rfl]
theorem tm4 (nm:bC)(ix:Int)(a:il)(m b:Nat):kC 4 nm ix a m b=if nm≠ []∨ix≠0∨pS a=false∨m≠2 then 5 else 0:=by unfold kC;rw[aA (by decide),aA (by decide),aA (by decide),aC rfl]
theorem tm5 {k:Int}(h1:k≠1)(a:k≠2)(c:k≠3)(d:k≠4)(nm:bC)(ix:Int)(e:il)(m b:Nat):kC k nm ix e m b=4:=by unfold kC;rw[aA h1,aA a,aA c,aA d]
theorem Et {α:Type}{l:List α}(h:l.length=1):∃y,l=[y]:=by
 match l,h with
 | [y],_=>exact⟨y,rfl⟩
theorem zu {α:Type}{l:List α}(h:l.length=2):∃y z,l=[y,z]:=by
 match l,h with
 | [y,z],_=>exact⟨y,z,rfl⟩
theorem jM (b:Nat)(cd at_:Int):eE prog 113 ([iv cd]++ [Value.pointer (some ⟨b,0,none⟩)]).toArray [pe b (iv at_)] (fv (cd,at_)):=by
 refine eE.nH (args:=[iv cd]++ [Value.pointer (some ⟨b,0,none⟩)]) 7 func113 rfl ntmps113 rfl (λc=> ?_);refine g2 ?_;refine St.al (λa=> ?_);refine g6 ?_;refine St.ee (Ev.build (bH.aX rfl rfl) (λw=>gj rfl rfl w)) ?_;refine g4 ?_;refine St.rV [_] [] ?_;rfl
theorem Ar (e bw g:Nat):∀(x:di) (d b n:Nat),dI.wf x→d≤100→b≤d→n≤200→dz prog 112 ([cN x,iv (d:Nat),iv (b:Nat)]++ [Value.pointer (some ⟨e,0,none⟩),Value.pointer (some ⟨bw,0,none⟩)]).toArray [aB (cm x),aW e (.cells [iv (n:Nat)].toArray 3 (0,0)),aW bw (.cells [(.func (.func 112) #[] [Value.pointer (some ⟨e,0,none⟩),Value.pointer (some ⟨bw,0,none⟩)].toArray)].toArray g (0,0))] (λv H'=>v=fv (mI (dH x) d b n).2∧H'=[aW e (.cells [iv ((mI (dH x) d b n).1:Nat)].toArray 3 (0,0)),aW bw (.cells [(.func (.func 112) #[] [Value.pointer (some ⟨e,0,none⟩),Value.pointer (some ⟨bw,0,none⟩)].toArray)].toArray g (0,0))]):=by
 intro x
 induction x using di.ind
 rename_i x C
 intro d b n N hd O V
 have P:x.name.length≤9223372036854775807:=by have:=N.2.1;omega
 refine dz.body (args:=[cN x,iv (d:Nat),iv (b:Nat)]++ [Value.pointer (some ⟨e,0,none⟩),Value.pointer (some ⟨bw,0,none⟩)]) 166 func112 rfl ntmps112 rfl (λc=> ?_);refine go ?_
 have f:=Xo (dH x) d b n
 rw[Jk,se,sf]at f;refine St.Eu x ?_;refine St.wf x.av.1 (λD W=> ?_);refine go ?_;refine St.dJ (.mk rfl) rfl (λX=> ?_);refine St.al (λJ=> ?_);refine g5 ?_;refine St.al (λj=> ?_);refine St.cI (.mk rfl) (.mk rfl) dK rfl (by rfl) ?_;refine g6 ?_;refine St.cI (.mk rfl) (.mk rfl) dK rfl (by rfl) ?_;refine St.mN e (L':=[iv ((n+1:Nat):Int)]) rfl ?_;refine g4 ?_;refine St.ee (Ev.func (.ar rfl)) ?_;refine g9 ?_;refine St.gf _ rfl rfl (λa=>Ev.move (.mk rfl)) rfl ?_;refine St.gf _ rfl rfl (λa=>Ev.gtr (ah.gv rfl a) (.mk rfl)) rfl ?_;refine g3 ?_;refine St.cq (λQ=> ?_) (λQ=> ?_)
 ·rw[aC (by omega)]at f
  refine g3 ?_;refine St.ee (Ev.nc (jM j 1 n) rj (.mk rfl) (.ar rfl) (dV.aW dV.nil)) ?_;refine g5 ?_;refine St.rV [_] [aW e (.cells [iv ((n+1):Nat)].toArray 3 (0,0)),aW bw (.cells [(.func (.func 112) #[] [Value.pointer (some ⟨e,0,none⟩),Value.pointer (some ⟨bw,0,none⟩)].toArray)].toArray g (0,0))] ?_;rw[f];exact⟨rfl,rfl⟩
 ·rw[aA (by omega)]at f
  refine g16 ?_;refine St.cond _ rfl (λp=> ?_) (λp=> ?_)
  focus
   skip
   try simp only[eM]at p
   rw[p,tm1]at f;refine g7 ?_;refine St.gf _ rfl rfl (λa=>Ev.da (.mk rfl) qt) rfl ?_;refine St.gf _ rfl rfl (λa=>Ev.ke (ah.gv rfl a) iE trivial (by rfl)) rfl ?_;refine St.gf _ rfl rfl (λa=>Ev.fc (ah.gv rfl a) iE) rfl ?_;refine St.gf _ rfl rfl (λa=>Ev.neq (ah.gv rfl a) (.mk rfl)) rfl ?_;refine g3 ?_;refine St.cond _ rfl (λE=> ?_) (λE=> ?_)
   focus
    skip
    try simp only[eM]at E
    rw[aC (show x.index≠0∨x.args.length≠0 by omega)]at f;refine g3 ?_;refine St.ee (Ev.nc (jM j 5 n) rj (.mk rfl) (.ar rfl) (dV.aW dV.nil)) ?_;refine g7 ?_;refine St.rV [_] [aW e (.cells [iv ((n+1):Nat)].toArray 3 (0,0)),aW bw (.cells [(.func (.func 112) #[] [Value.pointer (some ⟨e,0,none⟩),Value.pointer (some ⟨bw,0,none⟩)].toArray)].toArray g (0,0))] ?_;rw[f,aC (by decide)];exact⟨rfl,rfl⟩
   focus
    skip
    try simp only[eM]at E
    obtain⟨Y,q⟩:x.index=0∧x.args.length=0:=by omega
    rw[aA (show ¬(x.index≠0∨x.args.length≠0) by omega)]at f;refine g7 ?_;refine St.ee (Ev.call (qm x.name P) R8 (.ar rfl)) ?_;refine g3 ?_;refine St.cond _ rfl (λr=> ?_) (λr=> ?_)
    focus
     skip
     try simp only[eM]at r
     rw[aC (show isName x.name=false by simpa using r)]at f;refine g3 ?_;refine St.ee (Ev.nc (jM j 10 n) rj (.mk rfl) (.ar rfl) (dV.aW dV.nil)) ?_;refine g7 ?_;refine St.rV [_] [aW e (.cells [iv ((n+1):Nat)].toArray 3 (0,0)),aW bw (.cells [(.func (.func 112) #[] [Value.pointer (some ⟨e,0,none⟩),Value.pointer (some ⟨bw,0,none⟩)].toArray)].toArray g (0,0))] ?_;rw[f,aC (by decide)];exact⟨rfl,rfl⟩
    focus
     skip
     try simp only[eM]at r
     rw[aA (show ¬isName x.name=false by simpa using r)]at f;refine g5 ?_;refine St.ee (Ev.iU 2 (.mk rfl) lY trivial ib rfl rfl) ?_;refine St.ee (Ev.call (wS x.type) U9 (.ar rfl)) ?_;refine St.ee (Ev.Cl (.mk rfl) Fz rfl (by first|rw[gD]|(dsimp only;rw[gD])|kernel_rfl) rfl) ?_;refine g3 ?_;refine St.cond _ rfl (λs=> ?_) (λs=> ?_)
     focus
      skip
      try simp only[eM]at s
      rw[aC (show ve (df x.type)≠0 by simpa using s)]at f;refine g3 ?_;refine St.ee (Ev.nc (jM j 12 n) rj (.mk rfl) (.ar rfl) (dV.aW dV.nil)) ?_;refine g6 ?_;refine St.rV [_] [aW e (.cells [iv ((n+1):Nat)].toArray 3 (0,0)),aW bw (.cells [(.func (.func 112) #[] [Value.pointer (some ⟨e,0,none⟩),Value.pointer (some ⟨bw,0,none⟩)].toArray)].toArray g (0,0))] ?_;rw[f,aC (by decide)];exact⟨rfl,rfl⟩
     focus
      skip
      try simp only[eM]at s
      rw[aA (show ¬ve (df x.type)≠0 by simpa using s),aA (by decide),lG q,lh,o5]at f;refine go ?_
  rotate_left
  focus
   skip
   try simp only[eM]at p
   refine g6 ?_;refine St.cond _ rfl (λt=> ?_) (λt=> ?_)
   focus
    skip
    try simp only[eM]at t
    rw[t,tm2]at f;refine g7 ?_;refine St.gf _ rfl rfl (λa=>Ev.da (.mk rfl) xX) rfl ?_;refine St.gf _ rfl rfl (λa=>Ev.iU 2 (ah.gv rfl a) lY trivial ib rfl rfl) rfl ?_;refine St.gf _ rfl rfl (λa=>Ev.call (BR x.type) UA (.cons (ah.gv rfl a) .nil)) rfl ?_;refine St.gf _ rfl rfl (λa=>Ev.not (ah.gv rfl a)) rfl ?_;refine g2 ?_;refine St.gf _ rfl rfl (λa=>Ev.da (.mk rfl) qt) rfl ?_;refine St.gf _ rfl rfl (λa=>Ev.ke (ah.gv rfl a) iE trivial (by rfl)) rfl ?_;refine St.gf _ rfl rfl (λa=>Ev.fc (ah.gv rfl a) iE) rfl ?_;refine St.gf _ rfl rfl (λa=>Ev.neq (ah.gv rfl a) (.mk rfl)) rfl ?_;refine g3 ?_;refine St.cond _ rfl (λu=> ?_) (λu=> ?_)
    focus
     skip
     simp only[Bool.or_eq_true,Bool.or_eq_false_iff,Bool.not_eq_true',Bool.not_eq_false',decide_eq_true_eq,decide_eq_false_iff_not,beq_iff_eq,beq_eq_false_iff_ne]at u
     rw[aC (show x.name≠ []∨pS (df x.type)=false∨x.args.length≠0 by rcases u with(h|h)|h;exact .inl h;exact .inr (.inl h);exact .inr (.inr (by omega)))]at f;refine g3 ?_;refine St.ee (Ev.nc (jM j 5 n) rj (.mk rfl) (.ar rfl) (dV.aW dV.nil)) ?_;refine g7 ?_;refine St.rV [_] [aW e (.cells [iv ((n+1):Nat)].toArray 3 (0,0)),aW bw (.cells [(.func (.func 112) #[] [Value.pointer (some ⟨e,0,none⟩),Value.pointer (some ⟨bw,0,none⟩)].toArray)].toArray g (0,0))] ?_;rw[f,aC (by decide)];exact⟨rfl,rfl⟩
    focus
     skip
     simp only[Bool.or_eq_true,Bool.or_eq_false_iff,Bool.not_eq_true',Bool.not_eq_false',decide_eq_true_eq,decide_eq_false_iff_not,beq_iff_eq,beq_eq_false_iff_ne]at u
     obtain⟨⟨A,F⟩,G⟩:=u
     have q:x.args.length=0:=by omega
     rw[aA (show ¬(x.name≠ []∨pS (df x.type)=false∨x.args.length≠0) by rintro (h|h|h);exact h (by simpa using A);rw[F]at h;cases h;omega)]at f;refine g8 ?_;refine St.gf _ rfl rfl (λa=>Ev.da (.mk rfl) tS) rfl ?_;refine St.gf _ rfl rfl (λa=>Ev.ke (ah.gv rfl a) gD trivial (by rfl)) rfl ?_;refine St.gf _ rfl rfl (λa=>Ev.move (.mk rfl)) rfl ?_;refine St.gf _ rfl rfl (λa=>Ev.geq (ah.gv rfl a) (ah.gv rfl a)) rfl ?_;refine g3 ?_;refine St.cond _ rfl (λl=> ?_) (λl=> ?_)
     focus
      skip
      try simp only[eM]at l
      rw[aC (show x.index<0∨(b:Int)≤x.index by omega)]at f;refine g3 ?_;refine St.ee (Ev.nc (jM j 15 n) rj (.mk rfl) (.ar rfl) (dV.aW dV.nil)) ?_;refine g6 ?_;refine St.rV [_] [aW e (.cells [iv ((n+1):Nat)].toArray 3 (0,0)),aW bw (.cells [(.func (.func 112) #[] [Value.pointer (some ⟨e,0,none⟩),Value.pointer (some ⟨bw,0,none⟩)].toArray)].toArray g (0,0))] ?_;rw[f,aC (by decide)];exact⟨rfl,rfl⟩
     focus
      skip
      try simp only[eM]at l
      rw[aA (show ¬(x.index<0∨(b:Int)≤x.index) by omega),aA (by decide),lG q,lh,o5]at f;refine go ?_
   rotate_left
   focus
    skip
    try simp only[eM]at t
    refine g6 ?_;refine St.cq (λm=> ?_) (λm=> ?_)
    ·rw[m,tm3]at f
     refine g7 ?_;refine St.gf _ rfl rfl (λa=>Ev.da (.mk rfl) tS) rfl ?_;refine St.gf _ rfl rfl (λa=>Ev.ke (ah.gv rfl a) gD trivial (by rfl)) rfl ?_;refine St.gf _ rfl rfl (λa=>Ev.neq (ah.gv rfl a) (.mk rfl)) rfl ?_;refine g2 ?_;refine St.gf _ rfl rfl (λa=>Ev.da (.mk rfl) qt) rfl ?_;refine St.gf _ rfl rfl (λa=>Ev.ke (ah.gv rfl a) iE trivial (by rfl)) rfl ?_;refine St.gf _ rfl rfl (λa=>Ev.fc (ah.gv rfl a) iE) rfl ?_;refine St.gf _ rfl rfl (λa=>Ev.neq (ah.gv rfl a) (.mk rfl)) rfl ?_;refine g3 ?_;refine St.cond _ rfl (λi=> ?_) (λi=> ?_)
     ·simp only[Bool.or_eq_true,Bool.or_eq_false_iff,Bool.not_eq_true',Bool.not_eq_false',decide_eq_true_eq,decide_eq_false_iff_not,beq_iff_eq,beq_eq_false_iff_ne]at i
      rw[aC (show x.name≠ []∨x.index≠0∨x.args.length≠1 by rcases i with(h|h)|h;exact .inl h;exact .inr (.inl h);exact .inr (.inr (by omega)))]at f;refine g3 ?_;refine St.ee (Ev.nc (jM j 5 n) rj (.mk rfl) (.ar rfl) (dV.aW dV.nil)) ?_;refine g7 ?_;refine St.rV [_] [aW e (.cells [iv ((n+1):Nat)].toArray 3 (0,0)),aW bw (.cells [(.func (.func 112) #[] [Value.pointer (some ⟨e,0,none⟩),Value.pointer (some ⟨bw,0,none⟩)].toArray)].toArray g (0,0))] ?_;rw[f,aC (by decide)];exact⟨rfl,rfl⟩
     ·simp only[Bool.or_eq_true,Bool.or_eq_false_iff,Bool.not_eq_true',Bool.not_eq_false',decide_eq_true_eq,decide_eq_false_iff_not,beq_iff_eq,beq_eq_false_iff_ne]at i
      obtain⟨⟨A,F⟩,G⟩:=i
      have q:x.args.length=1:=by omega
      rw[aA (show ¬(x.name≠ []∨x.index≠0∨x.args.length≠1) by rintro (h|h|h);exact h (by simpa using A);omega;omega)]at f;refine g6 ?_;refine St.ee (Ev.iU 2 (.mk rfl) lY trivial ib rfl rfl) ?_;refine St.ee (Ev.call (wS x.type) U9 (.ar rfl)) ?_;refine St.ee (Ev.Cl (.mk rfl) Fz rfl (by first|rw[gD]|(dsimp only;rw[gD])|kernel_rfl) rfl) ?_;refine g3 ?_;refine St.cq (λH=> ?_) (λH=> ?_)
      ·rw[aC (show ve (df x.type)≠0 by simpa using H)]at f
       refine g3 ?_;refine St.ee (Ev.nc (jM j 12 n) rj (.mk rfl) (.ar rfl) (dV.aW dV.nil)) ?_;refine g7 ?_;refine St.rV [_] [aW e (.cells [iv ((n+1):Nat)].toArray 3 (0,0)),aW bw (.cells [(.func (.func 112) #[] [Value.pointer (some ⟨e,0,none⟩),Value.pointer (some ⟨bw,0,none⟩)].toArray)].toArray g (0,0))] ?_;rw[f,aC (by decide)];exact⟨rfl,rfl⟩
      ·obtain⟨y,hy⟩:=Et q
       rw[aA (show ¬ve (df x.type)≠0 by simpa using H),aA (by decide),aC rfl,hy,fK,lh,Fm]at f;refine St.cL cm x.args (x:=y) (by rw[hy];simp) ?_;refine g3 ?_;refine St.dc [aW e (.cells [iv ((n+1):Nat)].toArray 3 (0,0)),aW bw (.cells [(.func (.func 112) #[] [Value.pointer (some ⟨e,0,none⟩),Value.pointer (some ⟨bw,0,none⟩)].toArray)].toArray g (0,0)),aB (cm y),aW J (.cells [iv 0,iv 0].toArray 35 (0,0))] mixed (λK L=> ?_);refine SW.gd 1 ?_;refine SW.gd 2 ?_;refine SW.dd 3 rfl (λ_=>Ev.cE (k:=0) (.mk rfl) (.mk rfl) iE fg rfl (by omega)) ?_;refine SW.dd 4 rfl (λ_=>Ev.js (.mk rfl) (show x.args[0]?=some y by rw[hy];rfl) lZ trivial fg j7.eq) ?_;refine SW.gd 5 ?_;refine SW.gd 6 ?_;refine SW.slot 115 (iv ((d+1:Nat):Int)) rfl rfl ?_;refine SW.gd 7 ?_;refine SW.gd 8 ?_;refine SW.slot 117 (iv ((b+1:Nat):Int)) rfl rfl ?_;refine SW.t1 0 ?_;refine g3 ?_;refine SW.go ?_;refine SW.t1 9 ?_;refine St.ei (C y (by rw[hy];simp) (d+1) (b+1) (n+1) (D y (by rw[hy];simp)) (by omega) (by omega) (by omega)) Ic (.mk rfl) (.ek rfl rfl rfl) rfl ?_;rintro R _ ⟨rfl,rfl⟩;refine St.dQ ?_;refine g2 ?_;refine SW.go ?_;refine SW.t1 10 ?_;refine g3 ?_;refine SW.go ?_;refine SW.dn ?_;refine g4 ?_;refine St.rV [_] [aW e (.cells [iv ((mI (dH y) (d+1) (b+1) (n+1)).1:Nat)].toArray 3 (0,0)),aW bw (.cells [(.func (.func 112) #[] [Value.pointer (some ⟨e,0,none⟩),Value.pointer (some ⟨bw,0,none⟩)].toArray)].toArray g (0,0))] ?_
       rw[f];exact⟨rfl,rfl⟩
    ·refine g6 ?_
     refine St.cq (λI=> ?_) (λI=> ?_)
     ·rw[I,tm4]at f
      refine g7 ?_;refine St.gf _ rfl rfl (λa=>Ev.da (.mk rfl) tS) rfl ?_;refine St.gf _ rfl rfl (λa=>Ev.ke (ah.gv rfl a) gD trivial (by rfl)) rfl ?_;refine St.gf _ rfl rfl (λa=>Ev.neq (ah.gv rfl a) (.mk rfl)) rfl ?_;refine g2 ?_;refine St.gf _ rfl rfl (λa=>Ev.da (.mk rfl) xX) rfl ?_;refine St.gf _ rfl rfl (λa=>Ev.iU 2 (ah.gv rfl a) lY trivial ib rfl rfl) rfl ?_;refine St.gf _ rfl rfl (λa=>Ev.call (BR x.type) UA (.cons (ah.gv rfl a) .nil)) rfl ?_;refine St.gf _ rfl rfl (λa=>Ev.not (ah.gv rfl a)) rfl ?_;refine g2 ?_;refine St.gf _ rfl rfl (λa=>Ev.da (.mk rfl) qt) rfl ?_;refine St.gf _ rfl rfl (λa=>Ev.ke (ah.gv rfl a) iE trivial (by rfl)) rfl ?_;refine St.gf _ rfl rfl (λa=>Ev.fc (ah.gv rfl a) iE) rfl ?_;refine St.gf _ rfl rfl (λa=>Ev.neq (ah.gv rfl a) (.mk rfl)) rfl ?_;refine g3 ?_;refine St.cond _ rfl (λB=> ?_) (λB=> ?_)
      ·simp only[Bool.or_eq_true,Bool.or_eq_false_iff,Bool.not_eq_true',Bool.not_eq_false',decide_eq_true_eq,decide_eq_false_iff_not,beq_iff_eq,beq_eq_false_iff_ne]at B
       rw[aC (show x.name≠ []∨x.index≠0∨pS (df x.type)=false∨x.args.length≠2 by rcases B with((h|h)|h)|h;exact .inl h;exact .inr (.inl h);exact .inr (.inr (.inl h));exact .inr (.inr (.inr (by omega))))]at f;refine g3 ?_;refine St.ee (Ev.nc (jM j 5 n) rj (.mk rfl) (.ar rfl) (dV.aW dV.nil)) ?_;refine g7 ?_;refine St.rV [_] [aW e (.cells [iv ((n+1):Nat)].toArray 3 (0,0)),aW bw (.cells [(.func (.func 112) #[] [Value.pointer (some ⟨e,0,none⟩),Value.pointer (some ⟨bw,0,none⟩)].toArray)].toArray g (0,0))] ?_;rw[f,aC (by decide)];exact⟨rfl,rfl⟩
      ·simp only[Bool.or_eq_true,Bool.or_eq_false_iff,Bool.not_eq_true',Bool.not_eq_false',decide_eq_true_eq,decide_eq_false_iff_not,beq_iff_eq,beq_eq_false_iff_ne]at B
       obtain⟨⟨⟨A,F⟩,G⟩,S⟩:=B;obtain⟨y,z,hy⟩:=zu (show x.args.length=2 by omega);rw[aA (show ¬(x.name≠ []∨x.index≠0∨pS (df x.type)=false∨x.args.length≠2) by rintro (h|h|h|h);exact h (by simpa using A);omega;rw[G]at h;cases h;omega),aA (by decide),aA (by decide),hy,fK,fK,lh,Pb]at f;refine St.cL cm x.args (x:=y) (by rw[hy];simp) ?_;refine St.cL cm x.args (x:=z) (by rw[hy];simp) ?_
       have hle:=Xp (dH y) (d+1) b (n+1) (by omega)
       have T:x.args.length=2:=by rw[hy];rfl
       refine g4 ?_;refine St.dc [aW e (.cells [iv ((n+1):Nat)].toArray 3 (0,0)),aW bw (.cells [(.func (.func 112) #[] [Value.pointer (some ⟨e,0,none⟩),Value.pointer (some ⟨bw,0,none⟩)].toArray)].toArray g (0,0)),aB (cm y)] mixed (λK L=> ?_)
       repeat' first
        |with_reducible refine SW.me ?_
         first
          |refine SW.gd 1 ?_
          |refine SW.gd 2 ?_
          |refine SW.dd 3 rfl (λ_=>Ev.cE (k:=0) (.mk rfl) (.mk rfl) iE fg rfl (by omega)) ?_
          |refine SW.dd 4 rfl (λ_=>Ev.js (.mk rfl) (show x.args[0]?=some y by rw[hy];rfl) lZ trivial fg j7.eq) ?_
          |refine SW.gd 5 ?_
          |refine SW.gd 6 ?_
           refine SW.slot 149 (iv ((d+1:Nat):Int)) rfl rfl ?_
          |refine SW.gd 7 ?_
          |refine SW.t2 0 9 ?_ ?_
          |refine SW.t2 8 9 ?_ ?_
          |refine SW.t1 9 ?_
          |refine SW.t1 10 ?_
          |refine SW.t1 8 ?_
          |refine SW.t1 0 ?_
        |with_reducible refine SW.tg 0 ?_
         refine g3 ?_;refine SW.go ?_
        |with_reducible refine SW.tg 8 ?_
         refine St.ei (C y (by rw[hy];simp) (d+1) b (n+1) (D y (by rw[hy];simp)) (by omega) (by omega) (by omega)) Ic (.mk rfl) (.ek rfl rfl rfl) rfl ?_;rintro U _ ⟨rfl,rfl⟩;refine St.dQ ?_;refine g2 ?_;refine SW.go ?_
        |with_reducible refine SW.tg 9 ?_
         refine St.al (λZ=> ?_);refine g2 ?_;refine SW.go ?_
        |with_reducible refine SW.tg 10 ?_
         refine g3 ?_;refine SW.go ?_
       all_goals refine SW.dn ?_
       all_goals
        refine g8 ?_;refine St.cq (λo=> ?_) (λo=> ?_)
        ·rw[aC (show(mI (dH y) (d+1) b (n+1)).2.1≠0 by simpa using o)]at f
         refine g10 ?_;refine St.rV [_] [aW e (.cells [iv ((mI (dH y) (d+1) b (n+1)).1:Nat)].toArray 3 (0,0)),aW bw (.cells [(.func (.func 112) #[] [Value.pointer (some ⟨e,0,none⟩),Value.pointer (some ⟨bw,0,none⟩)].toArray)].toArray g (0,0))] ?_
         rw[f];exact⟨rfl,rfl⟩
        ·have M:(mI (dH y) (d+1) b (n+1)).2.1=0:=by simpa using o
         have hok:=(Pe (dH y) (d+1) b (n+1) M).1
         rw[aA (by rw[M];decide)]at f;refine g3 ?_;refine St.dc [aW e (.cells [iv ((mI (dH y) (d+1) b (n+1)).1:Nat)].toArray 3 (0,0)),aW bw (.cells [(.func (.func 112) #[] [Value.pointer (some ⟨e,0,none⟩),Value.pointer (some ⟨bw,0,none⟩)].toArray)].toArray g (0,0)),aB (cm z),aW J (.cells [iv 0,iv 0].toArray 35 (0,0))] mixed (λK L=> ?_);refine SW.gd 1 ?_;refine SW.gd 2 ?_;refine SW.dd 3 rfl (λ_=>Ev.cE (k:=1) (.mk rfl) (.mk rfl) iE fg rfl (by omega)) ?_;refine SW.dd 4 rfl (λ_=>Ev.js (.mk rfl) (show x.args[1]?=some z by rw[hy];rfl) lZ trivial fg j7.eq) ?_;refine SW.gd 5 ?_;refine SW.gd 6 ?_;refine SW.slot 162 (iv ((d+1:Nat):Int)) rfl rfl ?_;refine SW.gd 7 ?_;refine SW.t1 0 ?_;refine g3 ?_;refine SW.go ?_;refine SW.t1 8 ?_;refine St.ei (C z (by rw[hy];simp) (d+1) b (mI (dH y) (d+1) b (n+1)).1 (D z (by rw[hy];simp)) (by omega) (by omega) (by omega)) Ic (.mk rfl) (.ek rfl rfl rfl) rfl ?_;rintro v164 _ ⟨rfl,rfl⟩;refine St.dQ ?_;refine g2 ?_;refine SW.go ?_;refine SW.t1 9 ?_;refine g3 ?_;refine SW.go ?_;refine SW.dn ?_;refine g4 ?_;refine St.rV [_] [aW e (.cells [iv ((mI (dH z) (d+1) b (mI (dH y) (d+1) b (n+1)).1).1:Nat)].toArray 3 (0,0)),aW bw (.cells [(.func (.func 112) #[] [Value.pointer (some ⟨e,0,none⟩),Value.pointer (some ⟨bw,0,none⟩)].toArray)].toArray g (0,0))] ?_
         rw[f];exact⟨rfl,rfl⟩
     ·rw[tm5 p t m I]at f
      refine g3 ?_;refine St.ee (Ev.nc (jM j 4 n) rj (.mk rfl) (.ar rfl) (dV.aW dV.nil)) ?_;refine g6 ?_;refine St.rV [_] [aW e (.cells [iv ((n+1):Nat)].toArray 3 (0,0)),aW bw (.cells [(.func (.func 112) #[] [Value.pointer (some ⟨e,0,none⟩),Value.pointer (some ⟨bw,0,none⟩)].toArray)].toArray g (0,0))] ?_;rw[f,aC (by decide)];exact⟨rfl,rfl⟩
  all_goals
   refine g4 ?_;refine St.ee (Ev.build (bH.nil) (λw=>ja w)) ?_;refine g4 ?_;refine St.rV [_] [aW e (.cells [iv ((n+1):Nat)].toArray 3 (0,0)),aW bw (.cells [(.func (.func 112) #[] [Value.pointer (some ⟨e,0,none⟩),Value.pointer (some ⟨bw,0,none⟩)].toArray)].toArray g (0,0))] ?_;rw[f];exact⟨rfl,rfl⟩
theorem I7 (x:di):(dH x).type=df x.type:=by cases x;rfl
theorem Fk (x:di):(dH x).index=x.index:=by cases x;rfl
theorem rE {a b:Option il}{s1 s2:il}{c d:Bool}(h1:c=true→a=some s1)(e:c=false→a=none)(g:d=true→b=some s2)(f:d=false→b=none)
 (h:c=true→d=true→∀p q,s1.args=[p,q]→lW p s2=true→False):GY a b=none:=by
 cases c with
 |false=>rw[e rfl];rfl
 |true=>
  cases d with
  |false=>
   rw[f rfl];unfold GY
   split
   ·contradiction
   ·rfl
  |true=>
   rw[h1 rfl,g rfl]
   refine KJ _ _ λs l x i e2 j=> ?_
   cases i;cases j
   rintro ⟨p,q,rfl,k⟩;exact h rfl rfl p q e2 k
theorem Kk {l:List fb}{p q:fb}(h:l=[p,q]):l[0]?=some (l.headD o3):=by rw[h];rfl
section
variable {n:Nat}{F:Fr}{c:Ctx}{H:List ak}{T:Act→World→Prop}
theorem St.S4 (l:List fb)[hd:lT (aF er l) H](k:St n F (Mm c (aB (er (l.headD o3))::H)) T):St n F (Mm c H) T:=
 St.ea (er (l.headD o3)) [aF er l] (λρ h=>by
  cases l with
  |nil=>exact .mk (x:=o3) (sZ kM ρ) (λy hy=>by cases hy)
  |cons p l=>exact h _ (aQ ..) p (aQ ..)) k
end
theorem IB:∀(x:di) (ctx:List fb) (v:Value) (d:Nat),Qn (dH x) d ctx.length→dI.wf x→ctx.length≤d→dz prog 116 #[cN x,v] ([cm x,sl kM v ctx,aF er ctx].map aB) (λr H'=>∃(s:fb) (b:Bool),r= .tuple #[aU s,.bool b]∧kM.wf s∧(b=true→xN (dH x) (ctx.map df)=some (df s))∧(b=false→xN (dH x) (ctx.map df)=none)∧H'=[aB (er s)]):=by
 intro x
 induction x using di.ind
 rename_i x T
 intro ctx v d a hw NQ;refine dz.body (args:=[cN x,v]) 101 func116 rfl ntmps116 rfl (λc=> ?_);refine St.cast (H':=[aB (cm x),aB (sl kM v ctx),aB (aF er ctx)]) rfl ?_;refine go ?_;obtain⟨anA,Y,hk⟩:=a.inv;rw[Jk]at Y
 have hinv:=Lf Y
 rw[se,sf]at hk
 have i:=Td (dH x) (ctx.map df)
 rw[sf,se,I7,Fk,aO]at i;refine St.Eu x ?_;refine St.wf x.av.1 (λU Uk=> ?_);refine St.wf v (λH hcx=> ?_);refine go ?_;refine St.dJ (.mk rfl) rfl (λI=> ?_);refine St.al (λb4=> ?_);refine g17 ?_;refine St.cond _ rfl (λJ=> ?_) (λJ=> ?_)
 focus
  skip
  try simp only[eM]at J
  rw[aC J]at i;refine g3 ?_;refine St.ee (Ev.iU 2 (.mk rfl) lY trivial ib rfl rfl) ?_;refine St.slot 18 (aU x.type) rfl rfl ?_;refine g7 ?_;refine St.rV [_,_] [aB (er x.type)] ?_;exact⟨x.type,true,rfl,hw.2.2.2,(λ_=>i),((λj=>by cases j)),rfl⟩
 focus
  skip
  try simp only[eM]at J
  rw[aA J]at i;refine g6 ?_;refine St.cond _ rfl (λK=> ?_) (λK=> ?_)
  focus
   skip
   try simp only[eM]at K
   rw[aC K]at i;obtain⟨s,E⟩:=aE (show ctx.length-1-x.index.toNat<ctx.length by omega);refine St.cL er ctx (x:=s) (aZ E) ?_;refine g9 ?_;refine St.ee (Ev.cE (k:=(ctx.length-1-x.index.toNat)) (.mk rfl) (.mk rfl) j4 ib (by omega) (by omega)) ?_;refine St.ee (Ev.js (.mk rfl) E lY trivial ib j7.eq) ?_;refine g7 ?_;refine St.rV [_,_] [aB (er s)] ?_;exact⟨s,true,rfl,H s (aZ E),(λ_=>by rw[i,bQ,E];rfl),((λj=>by cases j)),rfl⟩
  focus
   skip
   try simp only[eM]at K
   rw[aA K]at i;refine g6 ?_;refine St.cond _ rfl (λB=> ?_) (λB=> ?_)
   focus
    skip
    try simp only[eM]at B
    rw[aC B]at i;obtain⟨y,hy⟩:=Et (show x.args.length=1 by omega)
    have h1l:x.args.length=1:=by omega
    have o:y∈x.args:=by rw[hy];simp
    have n:=hk (dH y) (eQ o)
    rw[aC B]at n;refine St.cL cm x.args (x:=y) o ?_;rw[hy,fK,lh,uQ]at i;refine go ?_;refine St.pA [] mixed (λf g=> ?_);refine SW.gd 0 ?_;refine SW.gd 1 ?_;refine SW.gd 2 ?_;refine SW.gd 3 ?_;refine SW.gd 4 ?_;refine SW.dd 5 rfl (λ_=>Ev.clip (.mk rfl) (.mk rfl) (.mk rfl) j4 ib rfl rfl) ?_;refine SW.gd 6 ?_;refine SW.dd 7 rfl (λ_=>Ev.iU 2 (.mk rfl) lY trivial ib rfl rfl) ?_;refine SW.slot 39 (aU x.type) rfl rfl ?_;refine SW.t1 8 ?_;refine St.gV rfl (.ar rfl) j4 ib K7 rfl rfl (by simp[Value.cells]) rfl rfl (λb40=> ?_);refine g2 ?_;refine SW.go ?_;refine SW.t1 9 ?_;refine St.yN (.mk rfl) (.mk rfl) j4 ib K7 Z2 (DV (p:=λu:Value=>u.oneCell'=true) rfl x.type.av.2) (by omega) (by omega) rfl rfl rfl rfl (λv41 anQ=> ?_);refine St.bS v41 kM (ctx++ [x.type]) (by simp[rows];rfl) (by simp) (λu hu=>(List.mem_append.1 hu).elim (H u) (λh=>by rw[List.mem_singleton.1 h];exact hw.2.2.2)) ?_;refine St.tM er (xs:=ctx) (x:=x.type) ?_;refine g2 ?_;refine SW.go ?_;refine SW.gd 10 ?_;refine SW.dn ?_;refine g5 ?_;refine St.ee (Ev.cE (k:=0) (.mk rfl) (.mk rfl) iE fg rfl (by omega)) ?_;refine St.ee (Ev.js (.mk rfl) (show x.args[0]?=some y by rw[hy];rfl) lZ trivial fg j7.eq) ?_;refine go ?_;refine St.ae (T y o (ctx++ [x.type]) v41 (d+1) (by rw[←cS];exact n) (U y o) (by rw[←cS];omega)) Ie (.aX rfl rfl) rfl ?_;rintro v48 _ ⟨s,F,rfl,L,C,G,rfl⟩;refine St.ao ?_;refine g3 ?_;refine St.al (λb7=> ?_);refine g7 ?_;refine St.ee (Ev.iU 2 (.mk rfl) lY trivial ib rfl rfl) ?_;refine St.slot 52 (aU x.type) rfl rfl ?_;refine go ?_;refine St.gV rfl (.aX rfl rfl) j4 ib K7 rfl rfl (by simp[Value.cells]) rfl rfl (λt=> ?_);refine St.bS (.slice (some ⟨t,0,none⟩) 2 2) kM [x.type,s] rfl rfl (DV hw.2.2.2 L) ?_;refine St.dN er ?_;refine St.mT er (xs:=[]) (x:=s) ?_;refine St.mT er (xs:=[s]) (x:=x.type) ?_;refine St.u6 [] (.slice (some ⟨t,0,none⟩) 2 2) rfl [x.type,s] ?_;refine St.ee (Ev.build (bH.ar rfl) (λw=>E4 rfl w)) ?_;refine g8 ?_;refine St.rV [_,_] [aB (er (.mk [] ⟨(.slice (some ⟨t,0,none⟩) 2 2),rfl⟩ [x.type,s]))] ?_;exact⟨(.mk [] ⟨(.slice (some ⟨t,0,none⟩) 2 2),rfl⟩ [x.type,s]),F,rfl,aP _,(λj=>by rw[i,show xN (dH y) (ctx.map df++ [df x.type])=some (df s) by rw[←C j,cP];rfl,uL];rfl),(λj=>by rw[i,show xN (dH y) (ctx.map df++ [df x.type])=none by rw[←G j,cP];rfl];rfl),rfl⟩
   focus
    skip
    try simp only[eM]at B
    rw[aA B]at i;obtain⟨y,z,hy⟩:=zu (show x.args.length=2 by omega)
    have h2l:x.args.length=2:=by omega
    have o:y∈x.args:=by rw[hy];simp
    have A:z∈x.args:=by rw[hy];simp
    have n:=hk (dH y) (eQ o)
    have M:=hk (dH z) (eQ A)
    rw[aA B]at n M;refine St.cL cm x.args (x:=y) o ?_;refine St.cL cm x.args (x:=z) A ?_;rw[hy,fK,fK,lh,uQ,Fw]at i;refine go ?_
 all_goals
  refine g6 ?_;refine St.ee (Ev.cE (k:=0) (.mk rfl) (.mk rfl) iE fg rfl (by omega)) ?_;refine St.ee (Ev.js (.mk rfl) (show x.args[0]?=some y by rw[hy];rfl) lZ trivial fg j7.eq) ?_;refine go ?_;refine St.ae (T y o ctx v (d+1) n (U y o) (by omega)) Ie (.aX rfl rfl) rfl ?_;rintro v63 _ ⟨s1,F,rfl,L,C,G,rfl⟩;refine St.ao ?_;refine g3 ?_;refine St.al (λb9=> ?_);refine g8 ?_;refine St.ee (Ev.cE (k:=1) (.mk rfl) (.mk rfl) iE fg rfl (by omega)) ?_;refine St.ee (Ev.js (.mk rfl) (show x.args[1]?=some z by rw[hy];rfl) lZ trivial fg j7.eq) ?_;refine go ?_;refine St.ae (T z A ctx v (d+1) M (U z A) (by omega)) Ie (.aX rfl rfl) rfl ?_;rintro v72 _ ⟨s2,I,rfl,anN,N,Q,rfl⟩;refine St.ao ?_;refine g3 ?_;refine St.al (λYB=> ?_);refine g6 ?_;refine St.uD s1 ?_;refine St.wf s1.av.1 (λV hpl=> ?_);refine St.S4 s1.args ?_;refine St.dc [] mixed (λf g=> ?_);refine SW.gd 0 ?_;refine SW.gd 1 ?_;refine SW.gd 2 ?_;refine SW.split 77 _ rfl (λO=> ?_) (λO=> ?_)
  ·refine SW.gf 3 undef f g rfl rfl rfl (λR a=>by cases a) (by kernel_rfl) rfl ?_
   refine SW.slot 78 undef rfl (cM rfl _) ?_;refine SW.gf 4 undef f g rfl rfl rfl (λR a=>by cases a) (by kernel_rfl) rfl ?_;refine SW.slot 79 undef rfl (cM rfl _) ?_;refine SW.dd 5 rfl (λ_=>Ev.gT (.mk rfl) rfl (.mk rfl)) ?_;refine SW.gd 6 ?_;refine SW.slot 81 (.bool true) rfl (congrArg Value.bool rfl) ?_;refine SW.gf 7 undef f g rfl rfl rfl (λR a=>by cases a) (by kernel_rfl) rfl ?_;refine SW.slot 82 undef rfl (cM rfl _) ?_;refine SW.gf 8 undef f g rfl rfl rfl (λR a=>by cases a) (by kernel_rfl) rfl ?_;refine SW.slot 83 undef rfl (cM rfl _) ?_;refine SW.gf 9 undef f g rfl rfl rfl (λR a=>by cases a) (by kernel_rfl) rfl ?_;refine SW.slot 84 undef rfl (cM rfl _) ?_;refine SW.gf 10 undef f g rfl rfl rfl (λR a=>by cases a) (by kernel_rfl) rfl ?_;refine SW.slot 85 undef rfl (cM rfl _) ?_;refine SW.dd 11 rfl (λ_=>Ev.gT (.mk rfl) rfl (.mk rfl)) ?_;refine SW.gd 12 ?_;refine SW.slot 87 (.bool true) rfl (congrArg Value.bool rfl) ?_;refine SW.gf 13 undef f g rfl rfl rfl (λR a=>by cases a) (by kernel_rfl) rfl ?_;refine SW.slot 88 undef rfl (cM rfl _) ?_;refine SW.gf 14 undef f g rfl rfl rfl (λR a=>by cases a) (by kernel_rfl) rfl ?_;refine SW.slot 89 undef rfl (cM rfl _) ?_;refine SW.gf 15 undef f g rfl rfl rfl (λR a=>by cases a) (by kernel_rfl) rfl ?_;refine SW.slot 90 undef rfl (cM rfl _) ?_;refine SW.gf 16 undef f g rfl rfl rfl (λR a=>by cases a) (by kernel_rfl) rfl ?_;refine SW.slot 91 undef rfl (cM rfl _) ?_;refine SW.gf 17 undef f g rfl rfl rfl (λR a=>by cases a) (by kernel_rfl) rfl ?_;refine SW.slot 92 undef rfl (cM rfl _) ?_;refine SW.gf 18 undef f g rfl rfl rfl (λR a=>by cases a) (by kernel_rfl) rfl ?_;refine SW.slot 93 undef rfl (cM rfl _) ?_;refine SW.gf 19 undef f g rfl rfl rfl (λR a=>by cases a) (by kernel_rfl) rfl ?_;refine SW.slot 94 undef rfl (cM rfl _) ?_;refine SW.dd 20 rfl (λ_=>Ev.gT (.mk rfl) rfl (.mk rfl)) ?_;refine SW.dn ?_;refine go ?_;refine St.cond _ rfl (λm=> ?_) (λm=> ?_)
   ·skip
    have D:F=true→I=true→∀p q,(df s1).args=[p,q]→lW p (df s2)=true→False:=λe1 _ _ _ _ _=>by rw[e1]at O;cases O
    refine g2 ?_;refine St.ee (Ev.build (bH.nil) (λw=>xR w)) ?_;refine g6 ?_;refine St.fp kM ?_;refine St.dN er ?_;refine St.u6 [] (.slice none 0 0) rfl [] ?_;refine St.rV [_,_] [aB (er o3)] ?_;exact⟨o3,false,rfl,aP _,((λj=>by cases j)),(λ_=>by rw[i];exact rE C G N Q D),rfl⟩
   ·skip
    cases m
  ·refine SW.gf 3 _ f g rfl rfl rfl (λR _=>Ev.move (.mk rfl)) (by kernel_rfl) rfl ?_
   refine SW.slot 78 _ rfl (cz rfl _) ?_;refine SW.gf 4 _ f g rfl rfl rfl (λR _=>Ev.not (.mk rfl)) (by kernel_rfl) rfl ?_;refine SW.slot 79 _ rfl (cz rfl _) ?_;refine SW.dd 5 rfl (λ_=>Ev.kR (.mk rfl) rfl (.mk rfl)) ?_;refine SW.gd 6 ?_;refine SW.split 81 _ rfl (λP=> ?_) (λP=> ?_)
   ·refine SW.gf 7 undef f g rfl rfl rfl (λR a=>by cases a) (by kernel_rfl) rfl ?_
    refine SW.slot 82 undef rfl (cM rfl _) ?_;refine SW.gf 8 undef f g rfl rfl rfl (λR a=>by cases a) (by kernel_rfl) rfl ?_;refine SW.slot 83 undef rfl (cM rfl _) ?_;refine SW.gf 9 undef f g rfl rfl rfl (λR a=>by cases a) (by kernel_rfl) rfl ?_;refine SW.slot 84 undef rfl (cM rfl _) ?_;refine SW.gf 10 undef f g rfl rfl rfl (λR a=>by cases a) (by kernel_rfl) rfl ?_;refine SW.slot 85 undef rfl (cM rfl _) ?_;refine SW.dd 11 rfl (λ_=>Ev.gT (.mk rfl) rfl (.mk rfl)) ?_;refine SW.gd 12 ?_;refine SW.slot 87 (.bool true) rfl (congrArg Value.bool rfl) ?_;refine SW.gf 13 undef f g rfl rfl rfl (λR a=>by cases a) (by kernel_rfl) rfl ?_;refine SW.slot 88 undef rfl (cM rfl _) ?_;refine SW.gf 14 undef f g rfl rfl rfl (λR a=>by cases a) (by kernel_rfl) rfl ?_;refine SW.slot 89 undef rfl (cM rfl _) ?_;refine SW.gf 15 undef f g rfl rfl rfl (λR a=>by cases a) (by kernel_rfl) rfl ?_;refine SW.slot 90 undef rfl (cM rfl _) ?_;refine SW.gf 16 undef f g rfl rfl rfl (λR a=>by cases a) (by kernel_rfl) rfl ?_;refine SW.slot 91 undef rfl (cM rfl _) ?_;refine SW.gf 17 undef f g rfl rfl rfl (λR a=>by cases a) (by kernel_rfl) rfl ?_;refine SW.slot 92 undef rfl (cM rfl _) ?_;refine SW.gf 18 undef f g rfl rfl rfl (λR a=>by cases a) (by kernel_rfl) rfl ?_;refine SW.slot 93 undef rfl (cM rfl _) ?_;refine SW.gf 19 undef f g rfl rfl rfl (λR a=>by cases a) (by kernel_rfl) rfl ?_;refine SW.slot 94 undef rfl (cM rfl _) ?_;refine SW.dd 20 rfl (λ_=>Ev.gT (.mk rfl) rfl (.mk rfl)) ?_;refine SW.dn ?_;refine go ?_;refine St.cond _ rfl (λm=> ?_) (λm=> ?_)
    ·skip
     have D:F=true→I=true→∀p q,(df s1).args=[p,q]→lW p (df s2)=true→False:=λ_ e2 _ _ _ _=>by rw[e2]at P;cases P
     refine g2 ?_;refine St.ee (Ev.build (bH.nil) (λw=>xR w)) ?_;refine g6 ?_;refine St.fp kM ?_;refine St.dN er ?_;refine St.u6 [] (.slice none 0 0) rfl [] ?_;refine St.rV [_,_] [aB (er o3)] ?_;exact⟨o3,false,rfl,aP _,((λj=>by cases j)),(λ_=>by rw[i];exact rE C G N Q D),rfl⟩
    ·skip
     cases m
   ·refine SW.gf 7 _ f g rfl rfl rfl (λR _=>Ev.da (.mk rfl) lu) (by kernel_rfl) rfl ?_
    refine SW.slot 82 _ rfl (cz rfl _) ?_;refine SW.gf 8 _ f g rfl rfl rfl (λR _=>Ev.ke (.mk rfl) j4 trivial (by rfl)) (by kernel_rfl) rfl ?_;refine SW.slot 83 _ rfl (cz rfl _) ?_;refine SW.gf 9 _ f g rfl rfl rfl (λR _=>Ev.fc (.mk rfl) j4) (by kernel_rfl) rfl ?_;refine SW.slot 84 _ rfl (cz rfl _) ?_;refine SW.gf 10 _ f g rfl rfl rfl (λR _=>Ev.ne0) (by kernel_rfl) rfl ?_;refine SW.slot 85 _ rfl (cz rfl _) ?_;refine SW.dd 11 rfl (λ_=>Ev.kR (.mk rfl) rfl (.mk rfl)) ?_;refine SW.gd 12 ?_;refine SW.split 87 _ rfl (λS=> ?_) (λS=> ?_)
    ·refine SW.gf 13 undef f g rfl rfl rfl (λR a=>by cases a) (by kernel_rfl) rfl ?_
     refine SW.slot 88 undef rfl (cM rfl _) ?_;refine SW.gf 14 undef f g rfl rfl rfl (λR a=>by cases a) (by kernel_rfl) rfl ?_;refine SW.slot 89 undef rfl (cM rfl _) ?_;refine SW.gf 15 undef f g rfl rfl rfl (λR a=>by cases a) (by kernel_rfl) rfl ?_;refine SW.slot 90 undef rfl (cM rfl _) ?_;refine SW.gf 16 undef f g rfl rfl rfl (λR a=>by cases a) (by kernel_rfl) rfl ?_;refine SW.slot 91 undef rfl (cM rfl _) ?_;refine SW.gf 17 undef f g rfl rfl rfl (λR a=>by cases a) (by kernel_rfl) rfl ?_;refine SW.slot 92 undef rfl (cM rfl _) ?_;refine SW.gf 18 undef f g rfl rfl rfl (λR a=>by cases a) (by kernel_rfl) rfl ?_;refine SW.slot 93 undef rfl (cM rfl _) ?_;refine SW.gf 19 undef f g rfl rfl rfl (λR a=>by cases a) (by kernel_rfl) rfl ?_;refine SW.slot 94 undef rfl (cM rfl _) ?_;refine SW.dd 20 rfl (λ_=>Ev.gT (.mk rfl) rfl (.mk rfl)) ?_;refine SW.dn ?_;refine go ?_;refine St.cond _ rfl (λm=> ?_) (λm=> ?_)
     ·skip
      simp only[eM]at S
      have D:F=true→I=true→∀p q,(df s1).args=[p,q]→lW p (df s2)=true→False:=λ_ _ p q e _=>by rw[km]at e;have Z:=congrArg List.length e;rw[aO]at Z;exact S (by rw[Z];rfl)
      refine g2 ?_;refine St.ee (Ev.build (bH.nil) (λw=>xR w)) ?_;refine g6 ?_;refine St.fp kM ?_;refine St.dN er ?_;refine St.u6 [] (.slice none 0 0) rfl [] ?_;refine St.rV [_,_] [aB (er o3)] ?_;exact⟨o3,false,rfl,aP _,((λj=>by cases j)),(λ_=>by rw[i];exact rE C G N Q D),rfl⟩
     ·skip
      cases m
    ·have W:=S
     simp only[eM]at W
     have X:s1.args.length=2:=by omega
     obtain⟨p,q,l⟩:=zu X;refine SW.gf 13 _ f g rfl rfl rfl (λR _=>Ev.da (.mk rfl) lu) (by kernel_rfl) rfl ?_;refine SW.slot 88 _ rfl (cz rfl _) ?_;refine SW.gf 14 _ f g rfl rfl rfl (λR _=>Ev.ke (.mk rfl) j4 trivial (by rfl)) (by kernel_rfl) rfl ?_;refine SW.slot 89 _ rfl (cz rfl _) ?_;refine SW.gf 15 _ f g rfl rfl rfl (λR _=>Ev.cE (k:=0) (.mk rfl) (.mk rfl) j4 ib rfl (by omega)) (by kernel_rfl) rfl ?_;refine SW.slot 90 _ rfl (cz rfl _) ?_;refine SW.gf 16 _ f g rfl rfl rfl (λR _=>Ev.js (.mk rfl) (Kk l) lY trivial ib j7.eq) (by kernel_rfl) rfl ?_;refine SW.slot 91 _ rfl (cz rfl _) ?_;refine SW.gf 17 _ f g rfl rfl rfl (λR _=>Ev.Wu (.mk rfl) lY trivial (by exact ib)) (by kernel_rfl) rfl ?_;refine SW.slot 92 _ rfl (cz rfl _) ?_;refine SW.gf 18 _ f g rfl rfl rfl (λR _=>Ev.call (LQ (s1.args.headD o3) s2) UK (.aX rfl rfl)) (by kernel_rfl) rfl ?_;refine SW.slot 93 _ rfl (cz rfl _) ?_;refine SW.gf 19 _ f g rfl rfl rfl (λR _=>Ev.not (.mk rfl)) (by kernel_rfl) rfl ?_;refine SW.slot 94 _ rfl (cz rfl _) ?_;refine SW.dd 20 rfl (λ_=>Ev.kR (.mk rfl) rfl (.mk rfl)) ?_;refine SW.dn ?_;refine go ?_;refine St.cond _ rfl (λm=> ?_) (λm=> ?_)
     ·skip
      simp only[eM]at m
      have D:F=true→I=true→∀p q,(df s1).args=[p,q]→lW p (df s2)=true→False:=λ_ _ p1 q1 e E=>by rw[km,l]at e;cases e;rw[l]at m;exact absurd (m.symm.trans E) (by decide)
      refine g2 ?_;refine St.ee (Ev.build (bH.nil) (λw=>xR w)) ?_;refine g6 ?_;refine St.fp kM ?_;refine St.dN er ?_;refine St.u6 [] (.slice none 0 0) rfl [] ?_;refine St.rV [_,_] [aB (er o3)] ?_;exact⟨o3,false,rfl,aP _,((λj=>by cases j)),(λ_=>by rw[i];exact rE C G N Q D),rfl⟩
     ·skip
      simp only[eM]at m O P
      rw[l]at m;refine St.cL er s1.args (x:=q) (by rw[l];simp) ?_;refine g6 ?_;refine St.ee (Ev.cE (k:=1) (.mk rfl) (.mk rfl) j4 ib rfl (by omega)) ?_;refine St.ee (Ev.js (.mk rfl) (show s1.args[1]?=some q by rw[l];rfl) lY trivial ib j7.eq) ?_;refine g5 ?_;refine St.rV [_,_] [aB (er q)] ?_;exact⟨q,true,rfl,V q (by rw[l];simp),(λ_=>by rw[i,C O,N P];exact KK (by rw[km,l];rfl) m),((λj=>by cases j)),rfl⟩
theorem Ld {t:jL}(h:(mI t 1 0 0).2.1≠0):qZ t=(mI t 1 0 0).2:=by unfold qZ;rw[aC h]
theorem I8 {t:jL}(h:¬(mI t 1 0 0).2.1≠0)(a:xN t []=none):qZ t=(12,-1):=by unfold qZ;rw[aA h,a];rfl
theorem PX {t:jL}{s:il}(h:¬(mI t 1 0 0).2.1≠0)(a:xN t []=some s):qZ t=(0,0):=by unfold qZ;rw[aA h,a,aA (by simp)]
theorem uO (x:di)(hw:dI.wf x):eE prog 82 #[cN x] [cm x] (fv (qZ (dH x))):=by
 refine eE.nH (args:=[cN x]) 25 func82 rfl ntmps82 rfl (λc=> ?_);refine g2 ?_;refine St.dJ (.mk rfl) rfl (λk=> ?_);refine St.al (λl=> ?_);refine g4 ?_;refine St.al (λg=> ?_);refine St.cI (.mk rfl) (.mk rfl) dK rfl (by rfl) ?_;refine St.mN g (L':=[iv ((0:Nat):Int)]) rfl ?_;refine g4 ?_;refine St.al (λh=> ?_);refine g4 ?_;refine St.ee (Ev.func (.aX rfl rfl)) ?_;refine St.cI (.mk rfl) (.mk rfl) ae5 rfl (by rfl) ?_;refine g4 ?_;refine St.dup (cm x) ?_;refine g3 ?_;refine St.ei (Ar g h 225 x 1 0 0 hw (by omega) (by omega) (by omega)) Ic (.mk rfl) (.ek rfl rfl rfl) rfl ?_;rintro v11 _ ⟨rfl,rfl⟩;refine St.dQ ?_;refine St.al (λm=> ?_);refine g10 ?_;refine St.cond _ rfl (λd=> ?_) (λd=> ?_)
 ·skip
  have a:(mI (dH x) 1 0 0).2.1≠0:=by simpa using d
  refine g8 ?_;refine St.rV [_] [] ?_;exact congrArg fv (Ld a).symm
 ·skip
  have a:¬(mI (dH x) 1 0 0).2.1≠0:=by simpa using d
  refine St.fp kM ?_;refine St.dN er ?_;refine g6 ?_;refine St.ae (IB x [] (.slice none 0 0) 1 (Pd _ _ _ _ (iY.1 a)) hw (aP _)) Ie (.aX rfl rfl) rfl ?_;rintro i _ ⟨s,b,rfl,n,j,e,rfl⟩;refine St.ao ?_;refine g3 ?_;refine St.al (λo=> ?_);refine g10 ?_;refine St.cq (λf=> ?_) (λf=> ?_)
  ·refine g2 ?_
   refine St.ee (Ev.build (bH.aX rfl rfl) (λw=>gj rfl rfl w)) ?_;refine g5 ?_;refine St.rV [_] [] ?_;exact congrArg fv (I8 a (e (by simpa using f))).symm
  ·refine g4 ?_
   refine St.ee (Ev.build (bH.nil) (λw=>ja w)) ?_;refine g4 ?_;refine St.rV [_] [] ?_;exact congrArg fv (PX a (j (by simpa using f))).symm
theorem vx:∀(l:List eo) (U:List Nat),(nW U l).length=U.length+l.length
 | [],U=>rfl
 |t::l,U=>by rw[nW,vx l];simp;omega
theorem uU (l:List eo):(Av l).length=l.length:=by unfold Av;rw[vx];simp
theorem pK:∀(l m:List eo) (U:List Nat),nW U (l++m)=nW (nW U l) m
 | [],_,_=>rfl
 |t::l,m,U=>by rw[we,nW,nW,pK l m]
theorem Bs:∀(l:List eo) (U:List Nat) (i:Nat),i<U.length→(nW U l)[i]?=U[i]?
 | [],_,_,_=>rfl
 |t::l,U,i,h=>by rw[nW,Bs l _ i (by simp;omega),oa h]
theorem Q0 (l:List eo)(t:eo):Av (l++ [t])=Av l++ [Pt (Av l) l.length t.2]:=by
 unfold Av;rw[pK,nW,nW,vx];simp
theorem A1 (l:List eo)(k i:Nat)(h:i<k)(hk:k≤l.length):(Av (l.take k)).getD i 0=(Av l).getD i 0:=by
 have e:Av l=nW (Av (l.take k)) (l.drop k):=by unfold Av;rw[←pK,qj]
 rw[e,aw,aw,Bs _ _ _ (by rw[uU,eU];omega)]
theorem Pz {l:List eo}{k:Nat}{t:eo}(h:l[k]?=some t):(Av l).getD k 0=Pt (Av (l.take k)) k t.2:=by
 have hk:=ai h
 rw[←A1 l (k+1) k (pM _) hk,ag h,Q0]
 have e:(l.take k).length=k:=by rw[eU];omega
 rw[aw,lg (by rw[uU,e];exact aR _),uU,e,fh];rfl
theorem Iv (g:Int→Nat)(j:Nat):∀(ps:List Int) (u:Nat),(ps.foldl (λu p=>u|||g p) u).testBit j=(u.testBit j||ps.any λp=>(g p).testBit j)
 | [],u=>by simp
 |p::ps,u=>by rw[wi,Iv g j ps,Nat.testBit_or,List.any_cons,Bool.or_assoc]
theorem Pu (U:List Nat)(i:Nat)(ps:List Int)(j:Nat):(Pt U i ps).testBit j=(decide (i=j)||ps.any λp=>(U.getD p.toNat 0).testBit j):=by
 unfold Pt;rw[Iv,Nat.testBit_two_pow]
structure ir (l:List eo):Prop where
 len:l.length≤60
 par:∀(i:Nat) (t:eo),l[i]?=some t→∀p∈t.2,0≤p∧p<i
theorem JI {i:Int}:∀{ps:List Int} {last:Int},(rQ i last ps).1=0→rQ i last ps=(0,0)∧∀p∈ps,0≤p∧p<i
 | [],_,_=>⟨rfl,λp h=>by cases h⟩
 |p::ps,last,h=>by
  rw[rQ]at h⊢
  by_cases h1:p<0∨i≤p
  ·rw[aC h1]at h;exact absurd h (by simp)
  ·rw[aA h1]at h⊢
   by_cases b:p≤last
   ·rw[aC b]at h;exact absurd h (by simp)
   ·rw[aA b]at h⊢
    obtain⟨e,k⟩:=JI h;refine⟨e,λq a=> ?_⟩
    rcases cK.1 a with rfl|a
    ·omega
    ·exact k q a
theorem Bm:∀{l:List eo} {known:List bC} {i:Nat},(lR known i l).1=0→lR known i l=(0,0)∧∀(k:Nat) (t:eo),l[k]?=some t→∀p∈t.2,0≤p∧p<(i+k:Nat)
 | [],_,_,_=>⟨rfl,λk t h=>by simp at h⟩
 |t::l,known,i,h=>by
  rw[lR]at h⊢
  by_cases h1:isName t.1=false
  ·rw[aC h1]at h;exact absurd h (by simp)
  rw[aA h1]at h⊢
  by_cases c:t.1∈known
  ·rw[aC c]at h;exact absurd h (by simp)
  rw[aA c]at h⊢
  by_cases d:decide (i=0)≠decide (t.2.length=0)
  ·rw[aC d]at h;exact absurd h (by simp)
  rw[aA d]at h⊢
  by_cases a:(rQ i (-1) t.2).1≠0
  ·rw[aC a]at h;exact absurd h a
  rw[aA a]at h⊢;obtain⟨e,k⟩:=Bm h;refine⟨e,λj u b=> ?_⟩
  cases j with
  |zero=>
   simp only[List.getElem?_cons_zero,Option.some.injEq]at b
   subst b;intro p hp
   have:=(JI (iY.1 a)).2 p hp
   omega
  |succ j=>
   rw[s8]at b;intro p hp
   have:=k j u b p hp
   omega
theorem I9 {l:List eo}(h:(Au l).1=0):Au l=(0,0)∧0<l.length∧ir l:=by
 unfold Au at h⊢
 by_cases h1:l.length=0∨60<l.length
 ·rw[aC h1]at h;exact absurd h (by simp)
 ·rw[aA h1]at h⊢
  obtain⟨e,k⟩:=Bm h;refine⟨e,by omega,by omega,λi t a p hp=> ?_⟩
  have:=k i t a p hp
  omega
section
variable {l:List eo}
theorem TW {i:Nat}(a:l.length≤i)(j:Nat):iD l i j=false:=by
 unfold iD;rw[aw,ij (by rw[uU];exact a)];exact Nat.zero_testBit _
theorem sub_lt {i j:Nat}(h:iD l i j=true):i<l.length:=by
 rcases eP i l.length with k|k
 ·exact k
 ·rw[TW k]at h;cases h
theorem qV (b:ir l){i:Nat}{t:eo}(a:l[i]?=some t)(j:Nat):iD l i j=(decide (i=j)||t.2.any λp=>iD l p.toNat j):=by
 show((Av l).getD i 0).testBit j=_
 rw[Pz a,Pu]
 congr 1
 rw[A8,pY,pY]
 have e:∀p∈t.2,(Av (l.take i)).getD p.toNat 0=(Av l).getD p.toNat 0:=λp hp=>by
  have:=b.par i t a p hp
  exact A1 l i _ (by omega) (Nat.le_of_lt (ai a))
 constructor
 ·rintro ⟨p,hp,h⟩;rw[e p hp]at h;exact⟨p,hp,h⟩
 ·rintro ⟨p,hp,h⟩;exact⟨p,hp,by rw[e p hp];exact h⟩
theorem sub_self (a:ir l){i:Nat}(b:i<l.length):iD l i i=true:=by
 rw[qV a (bU b)];simp
theorem vh (b:ir l){i j:Nat}(h:iD l i j=true):i=j∨∃t p,l[i]?=some t∧p∈t.2∧0≤p∧p<i∧iD l p.toNat j=true:=by
 have a:=sub_lt h
 rw[qV b (bU a)]at h
 simp only[Bool.or_eq_true,decide_eq_true_eq,List.any_eq_true]at h
 rcases h with h|⟨p,hp,h⟩
 ·exact .inl h
 ·have:=b.par i _ (bU a) p hp
  exact .inr ⟨_,p,bU a,hp,this.1,this.2,h⟩
theorem sub_le (a:ir l):∀{i j:Nat},iD l i j=true→j≤i:=by
 intro i
 induction i using Nat.strongRecOn with
 |ind i b=>
  intro j h
  rcases vh a h with rfl|⟨t,p,_,_,d,h1,c⟩
  ·exact aR _
  ·have:=b p.toNat (by omega) c
   omega
theorem vj (a:ir l):∀{i j k:Nat},iD l i j=true→iD l j k=true→iD l i k=true:=by
 intro i
 induction i using Nat.strongRecOn with
 |ind i c=>
  intro j k h1 b
  rcases vh a h1 with rfl|⟨t,p,ht,hp,e,f,d⟩
  ·exact b
  ·have:=c p.toNat (by omega) d b
   rw[qV a ht]
   simp only[Bool.or_eq_true,List.any_eq_true]
   exact .inr ⟨p,hp,this⟩
theorem PQ (a:ir l):∀{i j:Nat},iD l i j=true→i≠j→∃z t,iD l i z=true∧l[z]?=some t∧(j:Int)∈t.2∧j<z:=by
 intro i
 induction i using Nat.strongRecOn with
 |ind i b=>
  intro j h c
  rcases vh a h with e|⟨t,p,ht,hp,o,q,d⟩
  ·exact absurd e c
  ·by_cases e:p.toNat=j
   ·have f:p=(j:Int):=by omega
    subst f;exact⟨i,t,sub_self a (ai ht),ht,hp,by omega⟩
   ·obtain⟨z,u,g,k,m,n⟩:=b p.toNat (by omega) d e
    refine⟨z,u,?_,k,m,n⟩;rw[qV a ht]
    simp only[Bool.or_eq_true,List.any_eq_true]
    exact .inr ⟨p,hp,g⟩
structure yE (l:List eo)(a i:Nat)(M:List Bool):Prop where
 len:M.length=l.length
 snd:∀x,M[x]?=some true→iD l a x=true
 top:M[a]?=some true
 cls:∀(y:Nat) (t:eo),i<y→M[y]?=some true→l[y]?=some t→∀p∈t.2,M[p.toNat]?=some true
theorem yE.start (c:ir l){a:Nat}(b:a<l.length):yE l a a ((List.replicate l.length false).set a true):=by
 refine⟨by simp,λx hx=> ?_,by rw[List.getElem?_set_self (by simp;exact b)],λy t hy hm _=> ?_⟩
 ·by_cases e:a=x
  ·subst e;exact sub_self c b
  ·rw[ik e,s9]at hx
   split at hx<;>simp at hx
 ·rw[ik (by omega),s9]at hm
  split at hm<;>simp at hm
theorem yE.done (c:ir l){a b:Nat}{M:List Bool}(h:yE l a b M):∀(n y:Nat),a-y=n→b≤y→iD l a y=true→M[y]?=some true:=by
 intro n
 induction n using Nat.strongRecOn with
 |ind n d=>
  intro y j hy f
  by_cases e:a=y
  ·subst e;exact h.top
  ·obtain⟨z,t,h1,g,i,k⟩:=PQ c f e
   have hz:=sub_le c h1
   have:=d (a-z) (by omega) z rfl (by omega) h1
   have:=h.cls z t (by omega) this g _ i
   simpa using this
theorem yE.fin (d:ir l){a b:Nat}{M:List Bool}(h:yE l a b M)(f:b<l.length):M[b]?=some (iD l a b):=by
 cases e:iD l a b with
 |true=>exact h.done d _ b rfl (aR _) e
 |false=>
  have c:b<M.length:=by rw[h.len];exact f
  rw[bU c]
  cases e2:M[b]with
  |false=>rfl
  |true=>
   have:=h.snd b (by rw[bU c,e2])
   rw[e]at this;cases this
theorem yE.skip {a i:Nat}{M:List Bool}(h:yE l a (i+1) M)(hm:M[i+1]?≠some true):yE l a i M:=
 ⟨h.len,h.snd,h.top,λy t hy b=>by
  by_cases e:y=i+1
  ·subst e;exact absurd b hm
  ·exact h.cls y t (by omega) b⟩
structure M5 (l:List eo)(a i:Nat)(t:eo)(k:Nat)(M:List Bool):Prop where
 ok:yE l a i M
 at_:M[i]?=some true
 upto:∀p∈t.2.take k,M[p.toNat]?=some true
theorem M5.step (c:ir l){a i k:Nat}{t:eo}{M:List Bool}{p:Int}(h:M5 l a i t k M)(d:l[i]?=some t)(hp:t.2[k]?=some p):M5 l a i t (k+1) (M.set p.toNat true):=by
 have f:=c.par i t d p (aZ hp)
 have g:=ai d
 have mono:∀x,M[x]?=some true→(M.set p.toNat true)[x]?=some true:=λx hx=>by
  by_cases e:p.toNat=x
  ·subst e;rw[fT (ai hx)]
  ·rw[ik e];exact hx
 refine⟨⟨by rw[cn];exact h.ok.len,λx hx=> ?_,mono _ h.ok.top,λy u hy hm hu q b=> ?_⟩,mono _ h.at_,λq b=> ?_⟩
 ·by_cases e:p.toNat=x
  ·subst e
   refine vj c (h.ok.snd i h.at_) ?_;rw[qV c d]
   simp only[Bool.or_eq_true,List.any_eq_true]
   exact .inr ⟨p,aZ hp,sub_self c (by omega)⟩
  ·rw[ik e]at hx;exact h.ok.snd x hx
 ·rw[ik (by omega)]at hm
  exact mono _ (h.ok.cls y u hy hm hu q b)
 ·rw[ag hp]at b
  rcases cG.1 b with b|b
  ·exact mono _ (h.upto q b)
  ·rw[bP.1 b,fT (by rw[h.ok.len];omega)]
theorem M5.done {a i:Nat}{t:eo}{M:List Bool}(h:M5 l a (i+1) t t.2.length M)(c:l[i+1]?=some t):yE l a i M:=
 ⟨h.ok.len,h.ok.snd,h.ok.top,λy u hy hm hu q b=>by
  by_cases e:y=i+1
  ·subst e
   rw[c]at hu;cases hu
   exact h.upto q (by rw[jY];exact b)
  ·exact h.ok.cls y u (by omega) hm hu q b⟩
end
theorem Fv {l:List eo}{k:Nat}{t:eo}(ht:l[k]?=some t)(known:List bC):lR known k (l.drop k)=if isName t.1=false then(10,(k:Int))else if t.1∈known then(7,(k:Int))else if decide (k=0)≠decide (t.2.length=0)then(5,(k:Int))
 else if(rQ k (-1) t.2).1≠0 then rQ k (-1) t.2 else lR (known++ [t.1]) (k+1) (l.drop (k+1)):=by rw[bO ht,lR]
theorem IA {l:List eo}{k:Nat}(h:l.length≤k)(known:List bC):lR known k (l.drop k)=(0,0):=by rw[j6 h,lR]
theorem LF {i z p:Int}{ps:List Int}{q:Nat}(hp:ps[q]?=some p):rQ i z (ps.drop q)=if p<0∨i≤p then(3,i)else if p≤z then(13,i)else rQ i p (ps.drop (q+1)):=by rw[bO hp,rQ]
theorem OY {i z:Int}{ps:List Int}{q:Nat}(h:ps.length≤q):rQ i z (ps.drop q)=(0,0):=by rw[j6 h,rQ]
def KC (m:List (bC×Value))(known:List bC):Prop:=∀s,(qP m s).isSome=decide (s∈known)
theorem KC.nil:KC [] []:=λs=>by simp[qP]
theorem KC.snoc {m:List (bC×Value)}{known:List bC}(h:KC m known)(s:bC)(v:Value):KC (l8 m s v) (known++ [s]):=λa=>by
 rw[Ek]
 by_cases e:a=s
 ·subst e;simp
 ·rw[aA e,h a,decide_eq_decide];simp[e]
theorem gX {α β:Type}(f:α→β){l:List α}{k:Nat}{x:α}(h:l[k]?=some x):(l.take (k+1)).map f=(l.take k).map f++ [f x]:=by rw[ag h,cP];rfl
theorem GV (u:Value)(ts:List rh):eE prog 79 #[u] [sl mw u ts,aF s6 ts] (fv (Au (ts.map dG))):=by
 refine eE.pO (args:=[u]) 82 func79 rfl ntmps79 rfl (λc=> ?_);refine go ?_;refine St.wf u (λE J=> ?_);refine go ?_;refine St.al (λB=> ?_);refine g9 ?_;refine St.gf _ rfl rfl (λb=>Ev.move (.mk rfl)) rfl ?_;refine St.gf _ rfl rfl (λb=>Ev.fc (ah.gv rfl b) vr) rfl ?_;refine St.gf _ rfl rfl (λb=>Ev.gtr (ah.gv rfl b) (.mk rfl)) rfl ?_;refine g3 ?_;refine St.cq (λj=> ?_) (λj=> ?_)
 ·have n:Au (ts.map dG)=(2,-1):=by unfold Au;rw[aC (by rw[aO];omega)]
  refine g2 ?_;refine St.ee (Ev.call (cR 2 (-1)) yW (.aX rfl rfl)) ?_;refine g5 ?_;refine St.rV [_] [] ?_;exact congrArg fv n.symm
 ·have n:Au (ts.map dG)=lR [] 0 (ts.map dG):=by unfold Au;rw[aA (by rw[aO];omega)]
  refine g4 ?_;refine St.makeMap mkStr rfl (λf=> ?_);refine g12 ?_;refine St.tm (ι:=Nat) (κ:=List (bC×Value)) (λk m T=>(23,iv k)::T) (λk m=>[aW f (eW mkStr m),aW B (.cells [iv 0,iv 0].toArray 35 (0,0)),aB (sl mw u ts),aB (aF s6 ts)]) (λk m=>k≤ts.length∧Au (ts.map dG)=lR ((ts.take k).map rh.name) k ((ts.map dG).drop k)∧KC m ((ts.take k).map rh.name)) (λk m=>ts.length-k) 0 [] (aD.cons 2 rfl (aD.cons 3 rfl (aD.cons 21 rfl (aD.cons 22 rfl aD.nil)))) ⟨aP _,n,KC.nil⟩ ?_;rintro k m ⟨hk,o,C⟩;refine g6 ?_;refine St.cq (λF=> ?_) (λF=> ?_)
  ·obtain⟨t,ht⟩:=aE (show k<ts.length by omega)
   have D:=aZ ht
   have a:=Fv (l:=ts.map dG) (k:=k) (t:=dG t) (by rw[bQ,ht];rfl) ((ts.take k).map rh.name)
   rw[←o]at a
   have G:t.name.length≤9223372036854775807:=by have:=E t D;simp only[mw,nB]at this;omega
   refine St.cL s6 ts (x:=t) D ?_;refine St.ea (sl aJ t.pv.1 t.parents) [s6 t] (λρ h=>h _ (aQ ..)) ?_;refine St.wf t.pv.1 (λH K=> ?_);refine g8 ?_;refine St.ee (Ev.js (.mk rfl) ht Jo trivial Bh j7.eq) ?_;refine St.al (λL=> ?_);refine g9 ?_;refine St.ee (Ev.call (qm t.name G) R8 (.ar rfl)) ?_;refine g3 ?_;refine St.cq (λr=> ?_) (λr=> ?_)
   ·rw[aC (show isName (dG t).1=false from(by simpa using r:isName t.name=false))]at a
    refine g3 ?_;refine St.ee (Ev.call (cR 10 k) yW (.aX rfl rfl)) ?_;refine g10 ?_;refine St.rV [_] [] ?_;exact congrArg fv a.symm
   ·rw[aA (show ¬isName (dG t).1=false from(by simpa using r:¬isName t.name=false))]at a
    refine g8 ?_;refine St.ee (Ev.tn mkStr (k:=t.name) (.mk rfl) (.mk rfl) pX (by exact vt) eT) ?_;refine g3 ?_;refine St.slot 40 (.bool (decide (t.name∈(ts.take k).map rh.name))) rfl (congrArg Value.bool (C t.name)) ?_;refine g9 ?_;refine St.cq (λs=> ?_) (λs=> ?_)
    ·rw[aC (show(dG t).1∈(ts.take k).map rh.name from s)]at a
     refine g3 ?_;refine St.ee (Ev.call (cR 7 k) yW (.aX rfl rfl)) ?_;refine g10 ?_;refine St.rV [_] [] ?_;exact congrArg fv a.symm
    ·rw[aA (show ¬(dG t).1∈(ts.take k).map rh.name from s)]at a
     refine g8 ?_;refine St.mapUpdate mkStr (k:=t.name) (.mk rfl) (.mk rfl) (.mk rfl) pX (by exact vt) ?_;refine g11 ?_;refine St.ee (Ev.IZ (.mk rfl) (.mk rfl) ID) ?_;refine g2 ?_;refine St.cond _ rfl (λv=> ?_) (λv=> ?_)
     ·skip
      have d:decide (k=0)≠decide (t.parents.length=0):=by simpa using v
      rw[aC (show decide (k=0)≠decide ((dG t).2.length=0)from d)]at a;refine g3 ?_;refine St.ee (Ev.call (cR 5 k) yW (.aX rfl rfl)) ?_;refine g10 ?_;refine St.rV [_] [] ?_;exact congrArg fv a.symm
     ·skip
      have d:¬decide (k=0)≠decide (t.parents.length=0):=by simpa using v
      rw[aA (show ¬decide (k=0)≠decide ((dG t).2.length=0)from d)]at a;refine g16 ?_;refine St.tm (ι:=Nat) (κ:=Int) (λq z T=>(60,iv q)::(8,iv z)::T) (λq z=>[aW f (eW mkStr (l8 m t.name (iv k))),aW B (.cells [iv 0,iv 0].toArray 35 (0,0)),aB (sl aJ t.pv.1 t.parents),aB (sl mw u ts),aB (aF s6 ts)]) (λq z=>q≤t.parents.length∧rQ k (-1) (dG t).2=rQ k z (t.parents.drop q)) (λq z=>t.parents.length-q) 0 (-1) (aD.cons 2 rfl (aD.cons 3 rfl (aD.cons 4 rfl (aD.cons 21 rfl (aD.cons 22 rfl (aD.cons 23 rfl (aD.cons 58 rfl (aD.cons 59 rfl aD.nil)))))))) ⟨aP _,rfl⟩ ?_;rintro q z ⟨M,g⟩;refine g6 ?_;refine St.cq (λy=> ?_) (λy=> ?_)
      ·obtain⟨p,hp⟩:=aE (show q<t.parents.length by omega)
       have e:=LF (i:=k) (z:=z) hp
       refine g17 ?_;refine St.gf _ rfl rfl (λb=>Ev.move (.mk rfl)) rfl ?_;refine St.gf _ rfl rfl (λb=>Ev.move (.mk rfl)) rfl ?_;refine St.gf _ rfl rfl (λb=>Ev.geq (ah.gv rfl b) (ah.gv rfl b)) rfl ?_;refine g3 ?_;refine St.cq (λI=> ?_) (λI=> ?_)
       ·rw[aC (by omega)]at e
        rw[g,e,aC (by show(3:Int)≠0;decide)]at a;refine g3 ?_;refine St.ee (Ev.call (cR 3 k) yW (.aX rfl rfl)) ?_;refine g14 ?_;refine St.rV [_] [] ?_;exact congrArg fv a.symm
       ·rw[aA (by omega)]at e
        refine g10 ?_;refine St.cq (λA=> ?_) (λA=> ?_)
        ·rw[aC (by omega)]at e
         rw[g,e,aC (by show(13:Int)≠0;decide)]at a;refine g3 ?_;refine St.ee (Ev.call (cR 13 k) yW (.aX rfl rfl)) ?_;refine g14 ?_;refine St.rV [_] [] ?_;exact congrArg fv a.symm
        ·rw[aA (by omega)]at e
         refine g13 ?_;refine St.ui (q+1) p ⟨by omega,by rw[g,e]⟩
      ·rw[OY (by omega)]at g
       rw[aA (by rw[g];decide)]at a;refine g11 ?_;refine St.ui (k+1) (l8 m t.name (iv k)) ⟨by omega,by rw[a,gX rh.name ht];rfl,by rw[gX rh.name ht];exact C.snoc _ _⟩
  ·rw[IA (by rw[aO];omega)]at o
   refine g7 ?_;refine St.ee (Ev.build (bH.nil) (λw=>ja w)) ?_;refine g4 ?_;refine St.rV [_] [] ?_;exact congrArg fv o.symm
def Ju (T:List eo)(i:Nat):Nat:=(Av T).getD i 0
def Xw (T:List eo)(k:Nat)(ps:List Int):Nat:=ps.foldl (λu p=>u|||Ju T p.toNat) (2^k)
theorem Pw (T:List eo)(k:Nat)(ps:List Int)(p:Int):Xw T k (ps++ [p])=Xw T k ps|||Ju T p.toNat:=by unfold Xw;rw[wh];rfl
theorem Ps {T:List eo}(a:ir T){k:Nat}{t:eo}(h:T[k]?=some t):Ju T k=Xw T k t.2:=by
 have e:∀(ps:List Int) (u:Nat),(∀p∈ps,0≤p∧p<k)→ps.foldl (λu p=>u|||(Av (T.take k)).getD p.toNat 0) u=ps.foldl (λu p=>u|||Ju T p.toNat) u:=by
  intro ps
  induction ps with
  |nil=>intro u _;rfl
  |cons p ps b=>
   intro u hp
   have d:=hp p (aQ ..)
   rw[wi,wi,A1 T k p.toNat (by omega) (Nat.le_of_lt (ai h))]
   exact b _ λq c=>hp q (cO _ c)
 show(Av T).getD k 0=_
 rw[Pz h];exact e t.2 _ (a.par k t h)
theorem Xv {T:List eo}(b:ir T):∀k:Nat,Ju T k<2^(k+1):=by
 intro k
 induction k using Nat.strongRecOn with
 |ind k c=>
  rcases eP k T.length with h|h
  ·rw[Ps b (bU h)]
   have hp:=b.par k _ (bU h)
   generalize (T[k]).2=ps at hp
   have e:∀(ps:List Int) (u:Nat),(∀p∈ps,0≤p∧p<k)→u<2^(k+1)→ps.foldl (λu p=>u|||Ju T p.toNat) u<2^(k+1):=by
    intro ps
    induction ps with
    |nil=>intro u _ h;exact h
    |cons p ps a=>
     intro u hp hu
     have f:=hp p (aQ ..)
     refine a _ (λq d=>hp q (cO _ d)) (Nat.or_lt_two_pow hu ?_);exact fO (c p.toNat (by omega)) (si (by omega) (by omega))
   exact e ps _ hp (A5 (by omega) (by omega))
  ·show(Av T).getD k 0<_
   rw[aw,ij (by rw[uU];exact h)];exact Nat.pow_pos (by omega)
theorem vw {T:List eo}(a:ir T){k:Nat}(hk:k<60):Ju T k<18446744073709551616:=
 fO (Xv a k) (show 2^(k+1)≤2^64 from si (by decide) (by omega))
theorem Pv {T:List eo}(a:ir T){k:Nat}(hk:k<60):∀{ps:List Int},(∀p∈ps,0≤p∧p<k)→Xw T k ps<18446744073709551616:=by
 have e:∀(ps:List Int) (u:Nat),(∀p∈ps,0≤p∧p<k)→u<18446744073709551616→ps.foldl (λu p=>u|||Ju T p.toNat) u<18446744073709551616:=by
  intro ps
  induction ps with
  |nil=>intro u _ h;exact h
  |cons p ps b=>
   intro u hp hu
   have d:=hp p (aQ ..)
   exact b _ (λq c=>hp q (cO _ c)) (Nat.or_lt_two_pow (n:=64) hu (vw a (by omega)))
 intro ps hp;exact e ps _ hp (show 2^k<2^64 from A5 (by decide) (by omega))
def l5 (T:List eo)(k j:Nat):Nat:=(List.range k).foldl (λa i=>if iD T i j then a|||2^i else a) 0
theorem qs (T:List eo)(k j:Nat):l5 T (k+1) j=if iD T k j then l5 T k j|||2^k else l5 T k j:=by
 unfold l5;rw[ua,wh];rfl
theorem Im (T:List eo)(j:Nat):∀k:Nat,l5 T k j<2^k
 |0=>by show(0:Nat)<2^0;omega
 |k+1=>by
  have a:=fO (Im T j k) (si (n:=2) (by omega) (Nat.le_succ k))
  rw[qs]
  split
  ·exact Nat.or_lt_two_pow a (A5 (by omega) (by omega))
  ·exact a
theorem nI (T:List eo)(j:Nat){k:Nat}(hk:k≤60):l5 T k j<18446744073709551616:=
 fO (Im T j k) (show 2^k≤2^64 from si (by decide) (by omega))
theorem qJ (T:List eo)(j i:Nat):∀k:Nat,(l5 T k j).testBit i=(decide (i<k)&&iD T i j)
 |0=>by show(0:Nat).testBit i=_;simp
 |k+1=>by
  rw[qs]
  have a:=qJ T j i k
  by_cases e:i=k
  ·subst e
   cases h:iD T i j with
   |true=>simp[a,Nat.testBit_two_pow]
   |false=>simp[a]
  ·have e2:decide (i<k+1)=decide (i<k):=by rw[decide_eq_decide];omega
   rw[e2]
   split
   ·rw[Nat.testBit_or,a,Nat.testBit_two_pow,fI (p:=k=i) (λh=>e h.symm),Bool.or_false]
   ·exact a
def dg (T:List eo):List Nat:=(List.range T.length).map (Ju T)
def de (T:List eo):List Nat:=(List.range T.length).map (l5 T T.length)
theorem z7 {f:Nat→Nat}{n:Nat}{U:List Nat}(b:U.length=n)(h:∀i,i<n→U[i]?=some (f i)):U=(List.range n).map f:=by
 refine pZ λi=> ?_
 rw[bQ]
 rcases eP i n with a|a
 ·rw[h i a,nY a];rfl
 ·rw[ij (by omega),ij (by simpa using a)];rfl
theorem Px {T:List eo}{i:Nat}(h:i<T.length):(dg T)[i]?=some (Ju T i):=by unfold dg;rw[bQ,nY h];rfl
theorem oD {T:List eo}{i:Nat}(h:i<T.length):(de T)[i]?=some (l5 T T.length i):=by unfold de;rw[bQ,nY h];rfl
theorem Py (T:List eo):(dg T).length=T.length:=by simp[dg]
theorem EH (T:List eo):(de T).length=T.length:=by simp[de]
def both (T:List eo)(a b:Nat):Nat:=l5 T T.length a&&&l5 T T.length b
theorem o9 (T:List eo)(a b i:Nat):(both T a b).testBit i=(decide (i<T.length)&&(iD T i a&&iD T i b)):=by
 unfold both;rw[Nat.testBit_and,qJ,qJ]
 cases decide (i<T.length)<;>simp
theorem l7 {T:List eo}{a b i:Nat}:i∈comm T a b↔(both T a b).testBit i=true:=by
 unfold comm;rw[wj,dt,o9];simp only[Bool.and_eq_true,decide_eq_true_eq]
theorem A2 {T:List eo}{a b:Nat}(h:both T a b=0):kD T a b=false:=by
 unfold kD
 split
 ·rfl
 ·rename_i m r e
  have:m∈comm T a b:=by rw[e];exact aQ ..
  rw[l7,h,Nat.zero_testBit]at this;cases this
theorem G5 {T:List eo}(k:ir T){a b m:Nat}(h:(both T a b).testBit m=true)(q:∀i,i<m→(both T a b).testBit i=false):kD T a b=decide (l5 T T.length m≠both T a b):=by
 have hm:=l7.2 h
 unfold kD
 split
 ·rename_i e;rw[e]at hm;cases hm
 ·rename_i d r e
  have hp:(comm T a b).Pairwise (· < ·):=by unfold comm;exact List.Pairwise.filter _ List.pairwise_lt_range
  rw[e]at hp
  have s:d∈comm T a b:=by rw[e];exact aQ ..
  have e2:d=m:=by
   rw[e]at hm
   rcases cK.1 hm with l|l
   ·exact l.symm
   ·have t:=(jW.1 hp).1 m l
    have p:=q d t
    rw[l7.1 s]at p;cases p
  subst e2
  have n:=h
  rw[o9,rY,rY,gq]at n;rw[A8,pY,gq]
  constructor
  ·rintro ⟨i,u,f⟩ o
   have c:(both T a b).testBit i=true:=l7.1 (by rw[e];exact cO _ u)
   rw[←o,qJ,rY]at c
   rw[c.2]at f;cases f
  ·intro f
   apply Decidable.byContradiction
   intro o;refine f (Nat.eq_of_testBit_eq λi=> ?_);rw[qJ,o9];rw[A8,rY,rY,gq]
   constructor
   ·rintro ⟨c,g⟩
    exact⟨c,by rw[vj k g n.2.1,vj k g n.2.2];rfl⟩
   ·rintro ⟨c,g⟩
    refine⟨c,?_⟩
    have j:i∈comm T a b:=l7.2 (by rw[o9,g,eB c];rfl)
    rw[e]at j
    rcases cK.1 j with rfl|j
    ·exact sub_self k c
    ·cases v:iD T i d with
     |true=>rfl
     |false=>exact absurd ⟨i,j,by rw[v];rfl⟩ o
end Go.Proofs.YtblifkgpebebmaaGreatDoor
namespace Go.J
open Go
section
variable {P:Program}{n:Nat}{F:Fr}{A:World→Prop}{ty t u:TypeId}{x y:Operand}{a b:Nat}
theorem KR (h:a<18446744073709551616)(c:b<18446744073709551616):bits .and .u64 (a:Int) (b:Int)=((a&&&b:Nat):Int):=by
 have e:(BitVec.ofInt IntKind.u64.bits (a:Int)&&&BitVec.ofInt IntKind.u64.bits (b:Int)).toNat=a&&&b:=by
  show(BitVec.ofInt 64 (a:Int)&&&BitVec.ofInt 64 (b:Int)).toNat=_
  rw[BitVec.toNat_and,Lo,Lo,Lp,Lp,mq h,mq c]
 simp only[bits,e]
 rw[oZ,mq (wB Nat.and_le_left h)]
theorem MQ (h:a<18446744073709551616)(c:b<18446744073709551616):bits .or .u64 (a:Int) (b:Int)=((a|||b:Nat):Int):=by
 have e:(BitVec.ofInt IntKind.u64.bits (a:Int)|||BitVec.ofInt IntKind.u64.bits (b:Int)).toNat=a|||b:=by
  show(BitVec.ofInt 64 (a:Int)|||BitVec.ofInt 64 (b:Int)).toNat=_
  rw[BitVec.toNat_or,Lo,Lo,Lp,Lp,mq h,mq c]
 simp only[bits,e]
 rw[oZ,mq (Nat.or_lt_two_pow (n:=64) h c)]
theorem Ev.Ym (hx:ah F x (uv a))(hy:ah F y (uv b))(h:a<18446744073709551616∧b<18446744073709551616):Ev P n F A (.binOp .and t x y u) ty (uv (a&&&b)):= .of_run λa' w ha _=>by
 simp only[execOp,hx.eval ha,hy.eval ha];simp only[go_sem,KR h.1 h.2];simp
theorem Ev.orG (hx:ah F x (uv a))(hy:ah F y (uv b))(h:a<18446744073709551616∧b<18446744073709551616):Ev P n F A (.binOp .or t x y u) ty (uv (a|||b)):= .of_run λa' w ha _=>by
 simp only[execOp,hx.eval ha,hy.eval ha];simp only[go_sem,MQ h.1 h.2];simp
theorem Ev.Yz {k:Nat}{i:Int}{kd:IntKind}(hx:ah F x (uv 1))(hy:ah F y (.int kd i))(h:i=k∧k<64):Ev P n F A (.binOp .shl t x y u) ty (uv (2^k)):=by
 have:=Ev.alO (P:=P) (n:=n) (A:=A) (ty:=ty) (t:=t) (u:=u) k (2^k) rfl hx hy (by omega)
 have e:1*2^k%18446744073709551616=2^k:=by
  rw[Nat.one_mul];exact mq (show 2^k<2^64 from A5 (by decide) h.2)
 rw[e]at this;exact this
theorem IY (a j:Nat):decide ((((a/2^j%2:Nat):Int))=1)=a.testBit j:=by
 rw[Nat.testBit_eq_decide_div_mod_eq,decide_eq_decide];omega
end
def bI:Rp Nat:=⟨1,by decide,λa=>[uv a],λa=>a<18446744073709551616,λ_=>rfl,λx u h=>by rw[bP.1 h];rfl⟩
theorem r8 (U:List Nat):rows bI U=U.map λa=>uv a:=by
 show U.flatMap (λa=>[uv a])=_
 induction U with
 |nil=>rfl
 |cons a U b=>rw[kF,b];rfl
theorem oO {U:List Nat}{k a:Nat}(h:U[k]?=some a):(rows bI U)[k*1+0]?=some (uv a):=by
 rw[r8,gZ,j5,bQ,h];rfl
theorem uH {U:List Nat}{k a:Nat}:(rows bI U).set (k*1+0) (uv a)=rows bI (U.set k a):=by
 rw[r8,r8,gZ,j5,jm]
theorem FQ (n:Nat):List.replicate n (uv 0)=rows bI (List.replicate n 0):=by rw[r8,sC]
end Go.J
namespace Go.Proofs.YtblifkgpebebmaaGreatDoor
open Go Go.J Tryz
theorem RX {T:List eo}{k q n:Nat}{E:List Nat}(a:∀j,j<n→E[j]?=some (if j<q then l5 T (k+1) j else l5 T k j))(c:E.length=n)(d:q<n)(h:iD T k q=true):
 ∀j,j<n→(E.set q (l5 T k q|||2^k))[j]?=some (if j<q+1 then l5 T (k+1) j else l5 T k j):=λj b=>by
 by_cases e:q=j
 ·subst e;rw[fT (by omega),aC (by omega),qs,aC h]
 ·rw[ik e,a j b]
  by_cases e2:j<q
  ·rw[aC e2,aC (by omega)]
  ·rw[aA e2,aA (by omega)]
theorem RU {T:List eo}{k q n:Nat}{E:List Nat}(a:∀j,j<n→E[j]?=some (if j<q then l5 T (k+1) j else l5 T k j))(h:iD T k q=false):
 ∀j,j<n→E[j]?=some (if j<q+1 then l5 T (k+1) j else l5 T k j):=λj b=>by
 rw[a j b]
 by_cases e:q=j
 ·subst e;rw[aA (by omega),aC (by omega),qs,aA (by rw[h];decide)]
 ·by_cases e2:j<q
  ·rw[aC e2,aC (by omega)]
  ·rw[aA e2,aA (by omega)]
theorem q7 (u:Value)(ts:List rh)(e:ir (ts.map dG)):dz prog 45 #[u] ([sl mw u ts,aF s6 ts].map aB) (λv H'=>∃P Q:aV,v= .agg #[P.1,Q.1]∧H'=[aB (sl bI P.1 (dg (ts.map dG))),aB (sl bI Q.1 (de (ts.map dG)))]):=by
 refine dz.body (args:=[u]) 75 func45 rfl ntmps45 rfl (λc=> ?_);refine St.cast (H':=[aB (sl mw u ts),aB (aF s6 ts)]) rfl ?_;refine go ?_
 have W:=e.len
 rw[aO]at W;refine go ?_;refine St.al (λH=> ?_);refine g2 ?_;refine St.join (ι:=Nat×Nat×Nat) (λy T=>(3,.pointer (some ⟨y.2.2,0,none⟩))::T) (λy=>[aW y.2.2 (.cells [(.slice (some ⟨y.1,0,none⟩) ts.length ts.length),(.slice (some ⟨y.2.1,0,none⟩) ts.length ts.length)].toArray 100 (0,0)),row (.slice (some ⟨y.1,0,none⟩) ts.length ts.length) 157 1 ts.length (rows bI (List.replicate ts.length 0)),row (.slice (some ⟨y.2.1,0,none⟩) ts.length ts.length) 157 1 ts.length (rows bI (List.replicate ts.length 0)),aW H (.cells [(.slice none 0 0),(.slice none 0 0)].toArray 100 (0,0)),aB (sl mw u ts),aB (aF s6 ts)]) (λy=>True) (aD.cons 0 rfl (aD.cons 2 rfl aD.nil)) ?_ ?_
 ·refine St.pA [] mixed (λJ K=> ?_)
  repeat' first
   |with_reducible refine SW.me ?_
    first
     |refine SW.gd 0 ?_
     |refine SW.gd 1 ?_
     |refine SW.gd 3 ?_
     |refine SW.gd 4 ?_
     |refine SW.dd 6 rfl (λ_=>Ev.build (ps:=[(0,(.tmp 11)),(1,(.tmp 14))]) (bH.aX rfl rfl) (λw=>Ga rfl rfl w)) ?_
     |refine SW.Pj (i:=2) (j:=5) (k:=7) (by decide+kernel) rfl rfl rfl ?_ ?_ ?_
     |refine SW.t2 5 7 ?_ ?_
     |refine SW.t1 7 ?_
     |refine SW.t1 8 ?_
     |refine SW.t1 5 ?_
     |refine SW.t2 2 7 ?_ ?_
     |refine SW.t1 2 ?_
     |refine SW.t2 2 5 ?_ ?_
   |with_reducible refine SW.tg 2 ?_
    refine St.sV (m:=ts.length) (.mk rfl) (.mk rfl) vu lB VD U5 rfl rfl (by omega) rfl rfl (λR=> ?_);refine St.aM (.slice (some ⟨R,0,none⟩) ts.length ts.length) rfl (FQ _) ?_;refine g2 ?_;refine SW.go ?_
   |with_reducible refine SW.tg 5 ?_
    refine St.sV (m:=ts.length) (.mk rfl) (.mk rfl) vu lB VD U5 rfl rfl (by omega) rfl rfl (λS=> ?_);refine St.aM (.slice (some ⟨S,0,none⟩) ts.length ts.length) rfl (FQ _) ?_;refine g2 ?_;refine SW.go ?_
   |with_reducible refine SW.tg 7 ?_
    refine St.al (λX=> ?_);refine g2 ?_;refine SW.go ?_
   |with_reducible refine SW.tg 8 ?_
    refine g3 ?_;refine SW.go ?_
  all_goals refine SW.dn ?_
  all_goals
   refine go ?_;refine St.mE (R,S,X) trivial
 ·intro y aj4
  refine g9 ?_;refine St.tm (ι:=Nat) (κ:=List Nat×List Nat) (λk z T=>(18,iv k)::T) (λk z=>[aW y.2.2 (.cells [(.slice (some ⟨y.1,0,none⟩) ts.length ts.length),(.slice (some ⟨y.2.1,0,none⟩) ts.length ts.length)].toArray 100 (0,0)),row (.slice (some ⟨y.1,0,none⟩) ts.length ts.length) 157 1 ts.length (rows bI z.1),row (.slice (some ⟨y.2.1,0,none⟩) ts.length ts.length) 157 1 ts.length (rows bI z.2),aW H (.cells [(.slice none 0 0),(.slice none 0 0)].toArray 100 (0,0)),aB (sl mw u ts),aB (aF s6 ts)]) (λk z=>k≤ts.length∧(z.1.length=ts.length∧∀i,i<k→z.1[i]?=some (Ju (ts.map dG) i))∧(z.2.length=ts.length∧∀j,j<ts.length→z.2[j]?=some (l5 (ts.map dG) k j))) (λk z=>ts.length-k) 0 (List.replicate ts.length 0,List.replicate ts.length 0) (aD.cons 0 rfl (aD.cons 2 rfl (aD.cons 3 rfl (aD.cons 16 rfl (aD.cons 17 rfl aD.nil))))) ⟨aP _,⟨kG,λi f=>absurd f (by omega)⟩,kG,λj r=>by show(List.replicate ts.length 0)[j]?=_;rw[s9,aC r];rfl⟩ ?_;rintro k ⟨U,D⟩ ⟨hk,⟨g,L⟩,l,M⟩
  dsimp only at g L l M⊢
  refine g6 ?_;refine St.cq (λY=> ?_) (λY=> ?_)
  ·obtain⟨t,ht⟩:=aE (show k<ts.length by omega)
   have Z:=aZ ht
   have A:(ts.map dG)[k]?=some (dG t):=by rw[bQ,ht];rfl
   have o:=e.par k _ A
   refine St.cL s6 ts (x:=t) Z ?_;refine St.ea (sl aJ t.pv.1 t.parents) [s6 t] (λρ h=>h _ (aQ ..)) ?_;refine St.wf t.pv.1 (λhpw hpl=> ?_);refine g8 ?_;refine St.ee (Ev.js (.mk rfl) ht Jo trivial Bh j7.eq) ?_;refine St.al (λb5=> ?_);refine g5 ?_;refine St.dc [row (.slice (some ⟨y.1,0,none⟩) ts.length ts.length) 157 1 ts.length (rows bI U)] mixed (λJ K=> ?_);refine SW.gd 0 ?_;refine SW.gd 1 ?_;refine SW.gd 2 ?_;refine SW.gd 3 ?_;refine SW.dd 4 rfl (λ_=>Ev.Yz (k:=k) (.mk rfl) (.mk rfl) (by omega)) ?_;refine SW.dd 5 rfl (λ_=>Ev.n9 (k:=k) rfl (.mk rfl) (.mk rfl) vu lB (by omega) (by omega)) ?_;refine SW.t1 6 ?_;refine St.cJ (.mk rfl) (.mk rfl) lB rfl (by omega) (by decide) ?_;refine St.aM (.slice (some ⟨y.1,0,none⟩) ts.length ts.length) rfl uH ?_;refine g2 ?_;refine SW.go ?_;refine SW.dn ?_;refine g11 ?_;refine St.tm (ι:=Nat) (κ:=List Nat) (λq V T=>(32,iv q)::T) (λq V=>[row (.slice (some ⟨y.1,0,none⟩) ts.length ts.length) 157 1 ts.length (rows bI V),aW y.2.2 (.cells [(.slice (some ⟨y.1,0,none⟩) ts.length ts.length),(.slice (some ⟨y.2.1,0,none⟩) ts.length ts.length)].toArray 100 (0,0)),row (.slice (some ⟨y.2.1,0,none⟩) ts.length ts.length) 157 1 ts.length (rows bI D),aW H (.cells [(.slice none 0 0),(.slice none 0 0)].toArray 100 (0,0)),aB (sl aJ t.pv.1 t.parents),aB (sl mw u ts),aB (aF s6 ts)]) (λq V=>q≤t.parents.length∧V.length=ts.length∧(∀i,i<k→V[i]?=some (Ju (ts.map dG) i))∧V[k]?=some (Xw (ts.map dG) k (t.parents.take q))) (λq V=>t.parents.length-q) 0 (U.set k (2^k)) (aD.cons 0 rfl (aD.cons 2 rfl (aD.cons 3 rfl (aD.cons 4 rfl (aD.cons 16 rfl (aD.cons 17 rfl (aD.cons 18 rfl (aD.cons 30 rfl (aD.cons 31 rfl aD.nil))))))))) ⟨aP _,by rw[cn];exact g,λi f=>by rw[ik (by omega)];exact L i f,by rw[fT (by omega)];rfl⟩ ?_;rintro q V ⟨hq,B,I,d⟩;refine g6 ?_;refine St.cq (λh33=> ?_) (λh33=> ?_)
   ·obtain⟨p,hp⟩:=aE (show q<t.parents.length by omega)
    have hpp:=o p (aZ hp)
    refine g11 ?_;refine St.dc [row (.slice (some ⟨y.1,0,none⟩) ts.length ts.length) 157 1 ts.length (rows bI V)] mixed (λJ K=> ?_);refine SW.gd 0 ?_;refine SW.gd 1 ?_;refine SW.gd 2 ?_;refine SW.dd 3 rfl (λ_=>Ev.n9 (k:=k) rfl (.mk rfl) (.mk rfl) vu lB (by omega) (by omega)) ?_;refine SW.gd 5 ?_;refine SW.gd 6 ?_;refine SW.gd 7 ?_;refine SW.dd 8 rfl (λ_=>Ev.n9 (k:=p.toNat) rfl (.mk rfl) (.mk rfl) vu lB (by omega) (by omega)) ?_;refine SW.t2 4 9 ?_ ?_
    focus
     refine St.ee (Ev.ct (.mk rfl) lf trivial (by omega) (oO d)) ?_;refine g2 ?_;refine SW.go ?_;refine SW.t1 9 ?_;refine St.ee (Ev.ct (.mk rfl) lf trivial (by omega) (oO (I p.toNat (by omega)))) ?_;refine g2 ?_;refine SW.go ?_;refine SW.dd 10 rfl (λ_=>Ev.orG (.mk rfl) (.mk rfl) ⟨Pv e (by omega) (λp hp=>o p (C5 hp)),vw e (by omega)⟩) ?_;refine SW.dd 11 rfl (λ_=>Ev.n9 (k:=k) rfl (.mk rfl) (.mk rfl) vu lB (by omega) (by omega)) ?_;refine SW.t1 12 ?_;refine St.cJ (.mk rfl) (.mk rfl) lB rfl (by omega) (by decide) ?_;refine St.aM (.slice (some ⟨y.1,0,none⟩) ts.length ts.length) rfl uH ?_;refine g2 ?_;refine SW.go ?_;refine SW.dn ?_
    rotate_left
    focus
     refine St.ee (Ev.ct (.mk rfl) lf trivial (by omega) (oO (I p.toNat (by omega)))) ?_;refine g2 ?_;refine SW.go ?_;refine SW.t1 4 ?_;refine St.ee (Ev.ct (.mk rfl) lf trivial (by omega) (oO d)) ?_;refine g2 ?_;refine SW.go ?_;refine SW.dd 10 rfl (λ_=>Ev.orG (.mk rfl) (.mk rfl) ⟨Pv e (by omega) (λp hp=>o p (C5 hp)),vw e (by omega)⟩) ?_;refine SW.dd 11 rfl (λ_=>Ev.n9 (k:=k) rfl (.mk rfl) (.mk rfl) vu lB (by omega) (by omega)) ?_;refine SW.t1 12 ?_;refine St.cJ (.mk rfl) (.mk rfl) lB rfl (by omega) (by decide) ?_;refine St.aM (.slice (some ⟨y.1,0,none⟩) ts.length ts.length) rfl uH ?_;refine g2 ?_;refine SW.go ?_;refine SW.dn ?_
    all_goals
     refine g7 ?_;refine St.ui (q+1) (V.set k (Xw (ts.map dG) k (t.parents.take q)|||Ju (ts.map dG) p.toNat)) ⟨by omega,by rw[cn];exact B,λi f=>by rw[ik (by omega)];exact I i f,by rw[fT (by omega),ag hp,Pw]⟩
   ·rw[fZ (by omega)]at d
    replace d:V[k]?=some (Ju (ts.map dG) k):=by rw[Ps e A];exact d
    refine g13 ?_;refine St.tm (ι:=Nat) (κ:=List Nat) (λq E T=>(51,iv q)::T) (λq E=>[row (.slice (some ⟨y.2.1,0,none⟩) ts.length ts.length) 157 1 ts.length (rows bI E),row (.slice (some ⟨y.1,0,none⟩) ts.length ts.length) 157 1 ts.length (rows bI V),aW y.2.2 (.cells [(.slice (some ⟨y.1,0,none⟩) ts.length ts.length),(.slice (some ⟨y.2.1,0,none⟩) ts.length ts.length)].toArray 100 (0,0)),aW H (.cells [(.slice none 0 0),(.slice none 0 0)].toArray 100 (0,0)),aB (sl mw u ts),aB (aF s6 ts)]) (λq E=>q≤ts.length∧E.length=ts.length∧∀j,j<ts.length→E[j]?=some (if j<q then l5 (ts.map dG) (k+1) j else l5 (ts.map dG) k j)) (λq E=>ts.length-q) 0 D (aD.cons 0 rfl (aD.cons 2 rfl (aD.cons 3 rfl (aD.cons 4 rfl (aD.cons 16 rfl (aD.cons 17 rfl (aD.cons 18 rfl (aD.cons 50 rfl aD.nil)))))))) ⟨aP _,l,λj r=>by rw[aA (by omega)];exact M j r⟩ ?_;rintro q E ⟨hq,n,s⟩;refine g6 ?_;refine St.cq (λh52=> ?_) (λh52=> ?_)
    ·have C:=s q (by omega)
     rw[aA (by omega)]at C;refine g16 ?_;refine St.ee (Ev.ct (.mk rfl) lf trivial (by omega) (oO d)) ?_;refine go ?_;refine St.ee (Ev.XY (q) _ rfl (.mk rfl) (.mk rfl) (by omega)) ?_;refine St.ee (Ev.Yn (b:=1) 1 2 (by decide) (.mk rfl) (.mk rfl) (⟨(wB (Nat.div_le_self _ _) (vw e (by omega))),by decide,by decide⟩)) ?_;refine go ?_;refine St.slot 62 (.bool (iD (ts.map dG) k q)) rfl (congrArg Value.bool (IY _ _)) ?_;refine g2 ?_;refine St.cond _ rfl (λN=> ?_) (λN=> ?_)
     ·skip
      refine St.dc [row (.slice (some ⟨y.2.1,0,none⟩) ts.length ts.length) 157 1 ts.length (rows bI E)] mixed (λJ K=> ?_);refine SW.gd 0 ?_;refine SW.gd 1 ?_;refine SW.gd 2 ?_;refine SW.dd 3 rfl (λ_=>Ev.n9 (k:=q) rfl (.mk rfl) (.mk rfl) vu lB (by omega) (by omega)) ?_;refine SW.gd 5 ?_;refine SW.dd 6 rfl (λ_=>Ev.Yz (k:=k) (.mk rfl) (.mk rfl) (by omega)) ?_;refine SW.t1 4 ?_;refine St.ee (Ev.ct (.mk rfl) lf trivial (by omega) (oO C)) ?_;refine g2 ?_;refine SW.go ?_;refine SW.dd 7 rfl (λ_=>Ev.orG (.mk rfl) (.mk rfl) ⟨nI _ _ (by omega),(show 2^k<2^64 from A5 (by decide) (by omega))⟩) ?_;refine SW.dd 8 rfl (λ_=>Ev.n9 (k:=q) rfl (.mk rfl) (.mk rfl) vu lB (by omega) (by omega)) ?_;refine SW.t1 9 ?_;refine St.cJ (.mk rfl) (.mk rfl) lB rfl (by omega) (by decide) ?_;refine St.aM (.slice (some ⟨y.2.1,0,none⟩) ts.length ts.length) rfl uH ?_;refine g2 ?_;refine SW.go ?_;refine SW.dn ?_;refine g7 ?_;refine St.ui (q+1) (E.set q (l5 (ts.map dG) k q|||2^k)) ⟨by omega,by rw[cn];exact n,RX s n (by omega) N⟩
     ·skip
      refine g8 ?_;refine St.ui (q+1) E ⟨by omega,n,RU s N⟩
    ·obtain rfl:q=ts.length:=by omega
     replace s:∀j,j<ts.length→E[j]?=some (l5 (ts.map dG) (k+1) j):=λj r=>by rw[s j r,aC r]
     refine g11 ?_;refine St.ui (k+1) (V,E) ⟨by omega,⟨B,λi f=>by rcases eP i k with h|h;exact I i h;rw[show i=k by omega];exact d⟩,n,s⟩
  ·obtain rfl:k=ts.length:=by omega
   refine g12 ?_
   have F:U=dg (ts.map dG):=by unfold dg;rw[aO];exact z7 g L
   have G:D=de (ts.map dG):=by unfold de;rw[aO];exact z7 l M
   refine St.bS (.slice (some ⟨y.1,0,none⟩) ts.length ts.length) bI U rfl g.symm (λa O=>by obtain⟨i,f,rfl⟩:=dC.1 (F▸O);exact vw e (by have:=dt.1 f;rw[aO]at this;omega)) ?_;refine St.bS (.slice (some ⟨y.2.1,0,none⟩) ts.length ts.length) bI D rfl l.symm (λa O=>by obtain⟨i,f,rfl⟩:=dC.1 (G▸O);exact nI _ _ (by rw[aO];omega)) ?_;rw[F,G];refine St.rV [_] [aB (sl bI (.slice (some ⟨y.1,0,none⟩) ts.length ts.length) (dg (ts.map dG))),aB (sl bI (.slice (some ⟨y.2.1,0,none⟩) ts.length ts.length) (de (ts.map dG)))] ?_;exact⟨⟨(.slice (some ⟨y.1,0,none⟩) ts.length ts.length),rfl⟩,⟨(.slice (some ⟨y.2.1,0,none⟩) ts.length ts.length),rfl⟩,rfl,rfl⟩
end Go.Proofs.YtblifkgpebebmaaGreatDoor
namespace Go.Proofs
open Go.Shelf
def Tryz.HJ:Go.Shelf.Ren:=⟨λ|29=>110|n=>n,λ|0=>0|3=>3|4=>4|5=>5|22=>157|25=>218|54=>257|n=>n,λ|1=>3|n=>n⟩
theorem Tryz.Wt:Go.Proofs.Lays7.n29 Tryz.prog Tryz.HJ:={
 mixed:=by kernel_rfl
 f29:=Tryz.func110.trans (congrArg some (by kernel_rfl))
 t0:=YX
 a0:=Tryz.isAgg0
 z0:=Tryz.sizeOf0
 v0:=Tryz.zeroValue0
 i0:=by kernel_rfl
 t3:=gD
 a3:=Tryz.isAgg3
 z3:=Tryz.sizeOf3
 v3:=Tryz.zeroValue3
 i3:=by kernel_rfl
 t4:=ID
 a4:=Tryz.isAgg4
 z4:=Tryz.sizeOf4
 v4:=Tryz.zeroValue4
 i4:=by kernel_rfl
 t5:=GI
 a5:=Tryz.isAgg5
 z5:=Tryz.sizeOf5
 v5:=Tryz.zeroValue5
 i5:=by kernel_rfl
 t22:=lf
 a22:=Tryz.isAgg157
 z22:=Tryz.sizeOf157
 v22:=Tryz.zeroValue157
 i22:=by kernel_rfl
 t25:=Bo
 a25:=Tryz.isAgg218
 z25:=Tryz.sizeOf218
 v25:=Tryz.zeroValue218
 i25:=by kernel_rfl
 t54:=Tryz.underlying257
 a54:=Tryz.isAgg257
 z54:=Tryz.sizeOf257
 g1:=by kernel_rfl}
end Go.Proofs
namespace Go.Proofs.YtblifkgpebebmaaGreatDoor
open Go Go.J Tryz
abbrev tz:du:=du.of (TabAt 3 Lib.deBruijn64tab)
theorem eE.of_same {P:Program}{f:FuncId}{args:Array Value}{X:World→Prop}{v:Value}(h:∀w,X w→Calls P f args w λe w'=>e= .returned v∧w'=w):eE P f args [du.of X] v:=by
 intro w ρ a
 have hx:X w:=dA.1 (a.dM (aB (du.of X)) (aQ ..)) w a.fits
 refine(h w hx).mono ?_;rintro e w' ⟨rfl,rfl⟩;exact⟨v,[],rfl,rfl,Mm.mk (ρ:=ρ) ⟨rfl,⟨rfl,λ_=>aR _⟩,rfl,aR _,λ_ _ _=>rfl,a.fits,Ro.le_refl _,λ_ _ _=>rfl,λ_ h=>by simp at h,λ_ h=>by simp at h,.nil⟩⟩
theorem Jn (x:Nat)(hx:x<18446744073709551616):eE prog 110 #[uv x] [tz] (iv (Lib.ctz 64 x)):=
 eE.of_same λw hw=>Any7.bits_TrailingZeros64 Tryz.Wt x hx w (λ_=>hw)
end Go.Proofs.YtblifkgpebebmaaGreatDoor
