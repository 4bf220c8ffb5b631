/-
  Laws of walks through programs, and facts on grammars, trees and queries.
  Conditions: none.
-/
import Derived.WalkKit
import Derived.Deep.Quiet
import Derived.Deep.LoopGhost
import Derived.Laws.StructEq
import Derived.ProofKit
import Derived.OpenShut
import Derived.JoinedCond
import Derived.Carry
import Derived.Deep.Slices
import Derived.SizedLaws
import Derived.Still
import Derived.MapKept
set_option linter.unusedVariables false
set_option linter.unusedSimpArgs false
namespace Go
theorem uE:type_of% @Array.getD_eq_getD_getElem?.{0}:= @Array.getD_eq_getD_getElem?
theorem wE:type_of% @Array.getElem?_eq_getElem.{0}:= @Array.getElem?_eq_getElem
theorem pP:type_of% @Array.getElem?_eq_some_iff.{0}:= @Array.getElem?_eq_some_iff
theorem Sh:type_of% @Array.getElem?_setIfInBounds.{0}:= @Array.getElem?_setIfInBounds
theorem N8:type_of% @Array.getElem?_toList.{0}:= @Array.getElem?_toList
theorem LN:type_of% @BitVec.ofInt_natCast:= @BitVec.ofInt_natCast
theorem LO:type_of% @BitVec.toNat_ofNat:= @BitVec.toNat_ofNat
theorem wF:type_of% @Bool.and_eq_true:= @Bool.and_eq_true
theorem uF:type_of% @Bool.eq_iff_iff:= @Bool.eq_iff_iff
theorem iR:type_of% @Decidable.not_not:= @Decidable.not_not
theorem iZ:type_of% @Eq.symm.{1}:= @Eq.symm
theorem Dv:type_of% @Int.toNat_natCast:= @Int.toNat_natCast
theorem sM:type_of% @Int.toNat_of_nonneg:= @Int.toNat_of_nonneg
theorem vY:type_of% @List.Pairwise.imp_of_mem.{0}:= @List.Pairwise.imp_of_mem
theorem eO:type_of% @List.all_eq_true.{0}:= @List.all_eq_true
theorem xN:type_of% @List.any_eq_true.{0}:= @List.any_eq_true
theorem cg:type_of% @List.append_assoc.{0}:= @List.append_assoc
theorem fj:type_of% @List.append_nil.{0}:= @List.append_nil
theorem r7:type_of% @List.cons_append.{0}:= @List.cons_append
theorem r8:type_of% @List.countP_cons.{0}:= @List.countP_cons
theorem JN:type_of% @List.countP_eq_length_filter.{0}:= @List.countP_eq_length_filter
theorem fX:type_of% @List.drop_of_length_le.{0}:= @List.drop_of_length_le
theorem kf:type_of% @List.eq_nil_of_length_eq_zero.{0}:= @List.eq_nil_of_length_eq_zero
theorem vZ:type_of% @List.eq_of_mem_replicate.{0}:= @List.eq_of_mem_replicate
theorem nV:type_of% @List.ext_getElem?.{0}:= @List.ext_getElem?
theorem Am:type_of% @List.flatMap_append.{0,0}:= @List.flatMap_append
theorem mV:type_of% @List.flatMap_cons.{0,0}:= @List.flatMap_cons
theorem An:type_of% @List.foldl_append.{0,0}:= @List.foldl_append
theorem ak:type_of% @List.getD_eq_getElem?_getD.{0}:= @List.getD_eq_getElem?_getD
theorem pd:type_of% @List.getElem?_append_left.{0}:= @List.getElem?_append_left
theorem mW:type_of% @List.getElem?_append_right.{0}:= @List.getElem?_append_right
theorem Dw:type_of% @List.getElem?_cons_succ.{0}:= @List.getElem?_cons_succ
theorem Ao:type_of% @List.getElem?_drop.{0}:= @List.getElem?_drop
theorem bO:type_of% @List.getElem?_eq_getElem.{0}:= @List.getElem?_eq_getElem
theorem fY:type_of% @List.getElem?_eq_none.{0}:= @List.getElem?_eq_none
theorem eD:type_of% @List.getElem?_eq_some_iff.{0}:= @List.getElem?_eq_some_iff
theorem bE:type_of% @List.getElem?_map.{0,0}:= @List.getElem?_map
theorem Ap:type_of% @List.getElem?_of_mem.{0}:= @List.getElem?_of_mem
theorem kg:type_of% @List.getElem?_range:= @List.getElem?_range
theorem r9:type_of% @List.getElem?_replicate.{0}:= @List.getElem?_replicate
theorem gX:type_of% @List.getElem?_set_ne.{0}:= @List.getElem?_set_ne
theorem eP:type_of% @List.getElem?_set_self.{0}:= @List.getElem?_set_self
theorem rA:type_of% @List.getElem?_take.{0}:= @List.getElem?_take
theorem gm:type_of% @List.getElem_mem.{0}:= @List.getElem_mem
theorem bA:type_of% @List.length_append.{0}:= @List.length_append
theorem dy:type_of% @List.length_cons.{0}:= @List.length_cons
theorem lT:type_of% @List.length_drop.{0}:= @List.length_drop
theorem aQ:type_of% @List.length_map.{0,0}:= @List.length_map
theorem pE:type_of% @List.length_modify.{0}:= @List.length_modify
theorem iJ:type_of% @List.length_range:= @List.length_range
theorem jI:type_of% @List.length_replicate.{0}:= @List.length_replicate
theorem Aq:type_of% @List.length_reverse.{0}:= @List.length_reverse
theorem cG:type_of% @List.length_set.{0}:= @List.length_set
theorem lU:type_of% @List.length_singleton.{0}:= @List.length_singleton
theorem e9:type_of% @List.length_take.{0}:= @List.length_take
theorem cC:type_of% @List.map_append.{0,0}:= @List.map_append
theorem Ar:type_of% @List.map_congr_left.{0,0}:= @List.map_congr_left
theorem eW:type_of% @List.map_cons.{0,0}:= @List.map_cons
theorem kh:type_of% @List.map_map.{0,0,0}:= @List.map_map
theorem lV:type_of% @List.map_nil.{0,0}:= @List.map_nil
theorem sN:type_of% @List.map_replicate.{0,0}:= @List.map_replicate
theorem ia:type_of% @List.map_set.{0,0}:= @List.map_set
theorem ba:type_of% @List.mem_append.{0}:= @List.mem_append
theorem km:type_of% @List.mem_append_left.{0}:= @List.mem_append_left
theorem mX:type_of% @List.mem_append_right.{0}:= @List.mem_append_right
theorem cD:type_of% @List.mem_cons.{0}:= @List.mem_cons
theorem cE:type_of% @List.mem_cons_of_mem.{0}:= @List.mem_cons_of_mem
theorem aU:type_of% @List.mem_cons_self.{0}:= @List.mem_cons_self
theorem Dx:type_of% @List.mem_iff_getElem.{0}:= @List.mem_iff_getElem
theorem ct:type_of% @List.mem_map.{0,0}:= @List.mem_map
theorem dq:type_of% @List.mem_map_of_mem.{0,0}:= @List.mem_map_of_mem
theorem ab:type_of% @List.mem_of_getElem?.{0}:= @List.mem_of_getElem?
theorem xO:type_of% @List.mem_of_mem_take.{0}:= @List.mem_of_mem_take
theorem jx:type_of% @List.mem_or_eq_of_mem_set.{0}:= @List.mem_or_eq_of_mem_set
theorem cy:type_of% @List.mem_range:= @List.mem_range
theorem bJ:type_of% @List.mem_singleton.{0}:= @List.mem_singleton
theorem Au:type_of% @List.mem_singleton_self.{0}:= @List.mem_singleton_self
theorem Av:type_of% @List.nil_append.{0}:= @List.nil_append
theorem rB:type_of% @List.pairwise_append.{0}:= @List.pairwise_append
theorem ib:type_of% @List.pairwise_cons.{0}:= @List.pairwise_cons
theorem rC:type_of% @List.pairwise_map.{0,0}:= @List.pairwise_map
theorem Dy:type_of% @List.pairwise_singleton.{0}:= @List.pairwise_singleton
theorem jJ:type_of% @List.perm_append_comm.{0}:= @List.perm_append_comm
theorem rD:type_of% @List.perm_middle.{0}:= @List.perm_middle
theorem vc:type_of% @List.range_succ:= @List.range_succ
theorem kn:type_of% @List.set_append_right.{0}:= @List.set_append_right
theorem vd:type_of% @List.set_cons_succ.{0}:= @List.set_cons_succ
theorem rE:type_of% @List.set_cons_zero.{0}:= @List.set_cons_zero
theorem Aw:type_of% @List.singleton_append.{0}:= @List.singleton_append
theorem nW:type_of% @List.sum_cons.{0}:= @List.sum_cons
theorem sO:type_of% @List.take_append_drop.{0}:= @List.take_append_drop
theorem jy:type_of% @List.take_length.{0}:= @List.take_length
theorem fZ:type_of% @List.take_of_length_le.{0}:= @List.take_of_length_le
theorem JO:type_of% @List.take_succ_eq_append_getElem.{0}:= @List.take_succ_eq_append_getElem
theorem lW:type_of% @Nat.add_mul:= @Nat.add_mul
theorem jK:type_of% @Nat.add_zero:= @Nat.add_zero
theorem ve:type_of% @Nat.eq_of_beq_eq_true:= @Nat.eq_of_beq_eq_true
theorem eX:type_of% @Nat.le_of_ble_eq_true:= @Nat.le_of_ble_eq_true
theorem aW:type_of% @Nat.le_refl:= @Nat.le_refl
theorem eH:type_of% @Nat.le_trans:= @Nat.le_trans
theorem uG:type_of% @Nat.lt_of_le_of_lt:= @Nat.lt_of_le_of_lt
theorem eK:type_of% @Nat.lt_of_lt_of_le:= @Nat.lt_of_lt_of_le
theorem e7:type_of% @Nat.lt_or_ge:= @Nat.lt_or_ge
theorem uH:type_of% @Nat.lt_succ_self:= @Nat.lt_succ_self
theorem ji:type_of% @Nat.min_eq_left:= @Nat.min_eq_left
theorem lX:type_of% @Nat.mod_eq_of_lt:= @Nat.mod_eq_of_lt
theorem xP:type_of% @Nat.mul_le_mul_left:= @Nat.mul_le_mul_left
theorem gO:type_of% @Nat.mul_le_mul_right:= @Nat.mul_le_mul_right
theorem fR:type_of% @Nat.mul_one:= @Nat.mul_one
theorem xQ:type_of% @Nat.pow_le_pow_right:= @Nat.pow_le_pow_right
theorem xR:type_of% @Nat.pow_lt_pow_right:= @Nat.pow_lt_pow_right
theorem fJ:type_of% @Nat.sub_self:= @Nat.sub_self
theorem gP:type_of% @Nat.zero_add:= @Nat.zero_add
theorem aR:type_of% @Nat.zero_le:= @Nat.zero_le
theorem oT:type_of% @Option.bind_eq_some_iff.{0,0}:= @Option.bind_eq_some_iff
theorem dG:type_of% @Option.map_eq_some_iff.{0,0}:= @Option.map_eq_some_iff
theorem rZ:type_of% @beq_eq_false_iff_ne.{0}:= @beq_eq_false_iff_ne
theorem eL:type_of% @decide_eq_false:= @decide_eq_false
theorem dH:type_of% @decide_eq_true:= @decide_eq_true
theorem fS:type_of% @decide_eq_true_eq:= @decide_eq_true_eq
theorem aA:type_of% @if_neg.{1}:= @if_neg
theorem aB:type_of% @if_pos.{1}:= @if_pos
theorem iT:type_of% @of_decide_eq_false:= @of_decide_eq_false
theorem eS:type_of% @of_decide_eq_true:= @of_decide_eq_true
end Go
namespace Go.J
open Go
abbrev Fr:=List (Nat×Value)
def look:Fr→Nat→Option Value
 | [],_=>none
 |(k,v)::F,t=>bif Nat.beq t k then some v else look F t
def vl (F:Fr):Operand→Option Value
 | .tmp t=>look F t
 | .const v=>some v
 | .func f=>some (.func (.func f) #[] #[])
 | .global g=>some (.pointer (some ⟨g,0,none⟩))
structure Has (n:Nat)(a:Act)(F:Fr):Prop where
 size:a.tmps.size=n
 defers:a.defers=[]
 slot:∀t v,look F t=some v→a.tmps[t]?=some v
theorem Has.eval {n:Nat}{a:Act}{F:Fr}{x:Operand}{v:Value}(h:Has n a F)(hx:vl F x=some v):a.eval x=v:=by
 cases x with
 |tmp t=>simp only[vl]at hx;simp[Act.eval,Array.getD_eq_getD_getElem?,h.slot _ _ hx]
 |const u=>simp only[vl,Option.some.injEq]at hx;exact hx
 |func f=>simp only[vl,Option.some.injEq]at hx;exact hx
 |global g=>simp only[vl,Option.some.injEq]at hx;exact hx
theorem Has.put {n:Nat}{a:Act}{F:Fr}(h:Has n a F){d:Nat}(hd:d<n)(v:Value):Has n (a.put (some d) v) ((d,v)::F):=by
 refine⟨by simp[Act.put,h.size],by simp[Act.put,h.defers],λt u hu=> ?_⟩
 simp only[look]at hu
 cases hb:Nat.beq t d with
 |true=>
  have e:t=d:=ve hb
  subst e
  simp only[hb,cond_true,Option.some.injEq]at hu
  subst hu
  simp[Act.put,h.size,hd]
 |false=>
  have e:t≠d:=Nat.ne_of_beq_eq_false hb
  simp only[hb,cond_false]at hu
  simp[Act.put,Ne.symm e,h.slot _ _ hu]
theorem Has.N9 {n:Nat}{a:Act}{F:Fr}(h:Has n a F)(v:Value):Has n (a.put none v) F:=h
def Sub:Fr→Fr→Prop
 | [],_=>True
 |(k,v)::F',F=>look F k=some v∧Sub F' F
theorem Sub.look {F' F:Fr}(h:Sub F' F):∀t v,look F' t=some v→J.look F t=some v:=by
 induction F' with
 |nil=>intro t v hv;simp[J.look]at hv
 |cons p F' ih=>
  obtain⟨k,u⟩:=p;intro t v hv
  simp only[J.look]at hv
  cases hb:Nat.beq t k with
  |true=>
   have e:t=k:=ve hb
   subst e
   simp only[hb,cond_true,Option.some.injEq]at hv
   subst hv;exact h.1
  |false=>
   simp only[hb,cond_false]at hv
   exact ih h.2 t v hv
theorem Has.sub {n:Nat}{a:Act}{F F':Fr}(h:Has n a F)(hs:Sub F' F):Has n a F':=⟨h.size,h.defers,λt v hv=>h.slot t v (hs.look t v hv)⟩
def St (n:Nat)(F:Fr)(A:World→Prop)(T:Act→World→Prop):Prop:=∀a w,Has n a F→A w→T a w
section
variable {P:Program}{n:Nat}{F:Fr}{A:World→Prop}{Q:Exit→Act→World→Prop}{ops:Array Oper}
theorem St.conv {A':World→Prop}{F':Fr}{T:Act→World→Prop}(hF:Sub F' F)(hA:∀w,A w→A' w)(h:St n F' A' T):St n F A T:=
 λa w ha hw=>h a w (ha.sub hF) (hA w hw)
theorem St.pQ {A':World→Prop}{T:Act→World→Prop}(hA:∀w,A w→A' w)(h:St n F A' T):St n F A T:=
 λa w ha hw=>h a w ha (hA w hw)
theorem St.ex {ι:Sort _}{B:ι→World→Prop}{T:Act→World→Prop}(h:∀x,St n F (B x) T):St n F (λw=>∃x,B x w) T:=
 λa w ha ⟨x,hx⟩=>h x a w ha hx
theorem St.and {p:Prop}{T:Act→World→Prop}(h:p→St n F A T):St n F (λw=>p∧A w) T:=
 λa w ha hw=>h hw.1 a w ha hw.2
theorem St.seq {x y:Code}(h:St n F A (x.wp P (Exit.then (y.wp P Q) Q))):St n F A ((Code.seq x y).wp P Q):=
 λa w ha hw=>wp_seq (h a w ha hw)
theorem St.skip (h:St n F A (Q .normal)):St n F A (Code.skip.wp P Q):=λa w ha hw=>wp_skip (h a w ha hw)
theorem St.ahA (h:St n F A (Q .ret)):St n F A (Code.ret.wp P Q):=λa w ha hw=>wp_ret (h a w ha hw)
theorem St.exit {id:Nat}(h:St n F A (Q (.exit id))):St n F A ((Code.exit id).wp P Q):=λa w ha hw=>wp_exit (h a w ha hw)
theorem St.block {id:Nat}{c:Code}(h:St n F A (c.wp P (Exit.inBlock id Q))):St n F A ((Code.block id c).wp P Q):=
 λa w ha hw=>wp_block (h a w ha hw)
theorem St.cond {c:Operand}{x y:Code}(t:Bool)(hc:vl F c=some (.bool t))(ht:t=true→St n F A (x.wp P Q))(hf:t=false→St n F A (y.wp P Q)):
 St n F A ((Code.cond c x y).wp P Q):=
 λa w ha hw=>wp_cond_split (ha.eval hc) (λh=>ht h a w ha hw) (λh=>hf h a w ha hw)
theorem St.Ax {c:Operand}{x y:Code}(t:Bool)(hc:vl F c=some (.bool t))(h:t=true)(ht:St n F A (x.wp P Q)):
 St n F A ((Code.cond c x y).wp P Q):=
 λa w ha hw=>wp_cond_true (by rw[ha.eval hc,h]) (ht a w ha hw)
theorem St.pF {c:Operand}{x y:Code}(t:Bool)(hc:vl F c=some (.bool t))(h:t=false)(hf:St n F A (y.wp P Q)):
 St n F A ((Code.cond c x y).wp P Q):=
 λa w ha hw=>wp_cond_false (by rw[ha.eval hc,h]) (hf a w ha hw)
theorem St.Dz {K:Act→World→Prop}(h:St n F A K):St n F A (Exit.then K Q .normal):=h
theorem St.LP {K:Act→World→Prop}{id:Nat}(h:St n F A (Q (.exit id))):St n F A (Exit.then K Q (.exit id)):=h
theorem St.NA {K:Act→World→Prop}(h:St n F A (Q .ret)):St n F A (Exit.then K Q .ret):=h
theorem St.LQ {id:Nat}(h:St n F A (Q .normal)):St n F A (Exit.inBlock id Q .normal):=h
theorem St.Xa {id:Nat}(h:St n F A (Q .ret)):St n F A (Exit.inBlock id Q .ret):=h
theorem St.Xb {id:Nat}(h:St n F A (Q .normal)):St n F A (Exit.inBlock id Q (.exit id)):=by
 intro a w ha hw
 simp only[Exit.inBlock,if_true]
 exact h a w ha hw
theorem St.Si {id id':Nat}(fP:Nat.beq id' id=false)(h:St n F A (Q (.exit id'))):St n F A (Exit.inBlock id Q (.exit id')):=by
 intro a w ha hw
 simp only[Exit.inBlock,if_neg (Nat.ne_of_beq_eq_false fP)]
 exact h a w ha hw
theorem St.loop {ι:Type _}{body:Code}(Fi:ι→Fr)(Ai:ι→World→Prop)(μ:ι→Nat)(ic:ι)(hF:Sub (Fi ic) F)(hA:∀w,A w→Ai ic w)
 (round:∀x,St n (Fi x) (Ai x) (body.wp P (Exit.then (λa' w'=>∃y,μ y<μ x∧Has n a' (Fi y)∧Ai y w') Q))):
 St n F A ((Code.loop body).wp P Q):=by
 intro a w ha hw;refine wp_loop_ghost (λk a w=>∃x,μ x=k∧Has n a (Fi x)∧Ai x w) (μ ic) ⟨ic,rfl,ha.sub hF,hA w hw⟩ ?_;rintro k a w ⟨x,rfl,hx,hAx⟩;refine wp_mono (round x a w hx hAx) ?_;intro e a' w' hq
 cases e with
 |normal=>obtain⟨y,h1,h2,h3⟩:=hq;exact⟨μ y,h1,y,rfl,h2,h3⟩
 |exit id=>exact hq
 |goto l=>exact hq
 |ret=>exact hq
 |panic ch=>exact hq
 |outgrown=>exact hq
theorem St.rg {id:Nat}{l:List Oper}(h:St n F A (wpList P l.toArray Q l)):St n F A ((Code.region id l.toArray false).wp P Q):=
 λa w ha hw=>wp_region_lit (h a w ha hw)
theorem St.nil (h:St n F A (Q .normal)):St n F A (wpList P ops Q []):=h
abbrev bare (op : Op) (ty : TypeId) : Oper := { dst := none, op := op, type := ty, pos := "", after := #[], guard := none }
theorem fa (ρ:Operand→Value)(o:Oper):execOp ρ o=execOp ρ (bare o.op o.type):=by
 obtain⟨d,op,ty,p,af,g⟩:=o
 cases op<;>rfl
def Ev (P:Program)(n:Nat)(F:Fr)(A:World→Prop)(op:Op)(ty:TypeId)(v:Value):Prop:=
 ∀a w,Has n a F→A w→Oper.quietUpon P A w v ((execOp a.eval (bare op ty)).run P w)
theorem Ev.quietAt {op:Op}{ty:TypeId}{v:Value}(h:Ev P n F A op ty v){d:Option Tmp}{pos:String}{after:Array Edge}{g:Option (Nat×Bool)}{a:Act}{w:World}
 (ha:Has n a F) (hw:A w):({dst:=d,op:=op,type:=ty,pos:=pos,after:=after,guard:=g}:Oper).quietAt P a A w v:=by
 unfold Oper.quietAt;rw[fa];exact h a w ha hw
theorem Ev.wp {op:Op}{ty:TypeId}{v:Value}(h:Ev P n F A op ty v){d:Option Tmp}{pos:String}{after:Array Edge}{g:Option (Nat×Bool)}{a:Act}{w:World}
 (ha:Has n a F) (hw:A w) {K:Act→World→Prop} (hk:∀w',A w'→K (a.put d v) w'):
 ({dst:=d,op:=op,type:=ty,pos:=pos,after:=after,guard:=g}:Oper).wp P a w K Q:=by
 unfold Oper.wp Oper.upon;rw[fa]
 have hh:=h a w ha hw
 simp only at hh⊢
 generalize (execOp a.eval (bare op ty)).run P w=r at hh
 cases r with
 |ok nx w'=>
  cases nx<;>simp only[Oper.quietUpon]at hh<;>(try exact hh.elim)
  ·obtain⟨rfl,rfl⟩:=hh;exact hk _ hw
  ·obtain⟨rfl,rfl⟩:=hh;exact hk _ hw
  ·obtain⟨rfl,hc⟩:=hh
   exact hc.mono λe w'' he=>by
    obtain⟨rfl,hA⟩:=he;exact hk _ hA
 |halt x w'=>simp only[Oper.quietUpon]at hh
theorem gD {o:Oper}{rest:List Oper}{a:Act}{w:World}(hg:o.guard=none)(h:o.wp P a w (wpList P ops Q rest) Q):wpList P ops Q (o::rest) a w:=by
 simp only[wpList,Region.wanted,hg,if_true]
 exact .inl h
theorem St.ev {d:Nat}{op:Op}{ty:TypeId}{pos:String}{after:Array Edge}{rest:List Oper}(v:Value)(nX:Ev P n F A op ty v)(hd:Nat.ble (d+1) n=true)
 (h:St n ((d,v)::F) A (wpList P ops Q rest)):
 St n F A (wpList P ops Q ({dst:=some d,op:=op,type:=ty,pos:=pos,after:=after,guard:=none}::rest)):=
 λa w ha hw=>gD rfl (nX.wp ha hw λw' Ay=>h _ w' (ha.put (eX hd) v) Ay)
@[irreducible] def gv (c:Bool)(v:Value):Value:=bif c then v else undef
theorem fD {c:Bool}(h:c=true)(v:Value):gv c v=v:=by unfold gv;simp[h]
theorem bf {c:Bool}(h:c=false)(v:Value):gv c v=undef:=by unfold gv;simp[h]
def aZ (F:Fr)(x:Operand)(v:Value):Prop:=∃u,vl F x=some u∧u=v
theorem aZ.mk {x:Operand}{v:Value}(h:vl F x=some v):aZ F x v:=⟨v,h,rfl⟩
theorem aZ.gv {x:Operand}{v:Value}{c:Bool}(h:vl F x=some (gv c v))(hc:c=true):aZ F x v:=⟨_,h,fD hc v⟩
theorem aZ.eval {x:Operand}{v:Value}(h:aZ F x v){a:Act}(ha:Has n a F):a.eval x=v:=by
 obtain⟨u,h1,rfl⟩:=h;exact ha.eval h1
theorem NB {a b:Bool}(h:a=true)(k:b=true):(a&&b)=true:=by simp[h,k]
def Xc:Value→Option Bool
 | .bool b=>some b
 |_=>none
theorem Gy {l:Array Oper}{j dj:Nat}{u:Value}{tmps:Array Value}(hj:(l[j]?).bind (·.dst)=some dj)(h:tmps[dj]?=some u):
 yielded l tmps j=Xc u:=by
 unfold yielded;rw[hj]
 simp only[Option.bind_some,h]
 cases u<;>rfl
theorem lJ {l:Array Oper}{o:Oper}{j dj:Nat}{want c:Bool}{a:Act}{u:Value}(hg:o.guard=some (j,want))(hj:(l[j]?).bind (·.dst)=some dj)(h:a.tmps[dj]?=some u)
 (hu:(c=true→u= .bool want)∧(c=false→u= .bool (!want)∨u=undef)):Region.wanted o (yielded l a.tmps)=c:=by
 unfold Region.wanted;rw[hg]
 simp only[]
 rw[Gy hj h]
 cases c with
 |true=>rw[hu.1 rfl];cases want<;>rfl
 |false=>
  rcases hu.2 rfl with h|h
  ·rw[h];cases want<;>rfl
  ·rw[h];cases want<;>rfl
theorem St.guarded {j:Nat}{want:Bool}{d:Nat}{op:Op}{ty:TypeId}{pos:String}{after:Array Edge}{rest:List Oper}(c:Bool){dj:Nat}{u:Value}(v:Value)
 (hj:(ops[j]?).bind (·.dst)=some dj) (hl:look F dj=some u) (hu:(c=true→u= .bool want)∧(c=false→u= .bool (!want)∨u=undef))
 (nX:c=true→Ev P n F A op ty v) (hd:Nat.ble (d+1) n=true) (h:St n ((d,gv c v)::F) A (wpList P ops Q rest)):
 St n F A (wpList P ops Q ({dst:=some d,op:=op,type:=ty,pos:=pos,after:=after,guard:=some (j,want)}::rest)):=by
 intro a w ha hw
 have nY:=eX hd
 have pZ:=lJ (l:=ops) (o:={dst:=some d,op:=op,type:=ty,pos:=pos,after:=after,guard:=some (j,want)}) rfl hj (ha.slot _ _ hl) hu
 simp only[wpList,pZ]
 cases hc:c with
 |true=>
  rw[hc]at h
  simp only[if_true]
  refine .inl ((nX hc).wp ha hw λw' Ay=> ?_)
  have:=h _ w' (ha.put nY (gv true v)) Ay
  rwa[fD rfl]at this
 |false=>
  rw[hc]at h
  have:=h _ w (ha.put nY (gv false v)) hw
  rw[bf rfl]at this
  simpa using this
theorem Xd (g:Bool):(g=true→Value.bool g= .bool true)∧(g=false→Value.bool g= .bool (!true)∨Value.bool g=undef):=by cases g<;>simp
theorem Xe (g:Bool):((!g)=true→Value.bool g= .bool false)∧((!g)=false→Value.bool g= .bool (!false)∨Value.bool g=undef):=by cases g<;>simp
theorem abJ (c g:Bool):((c&&g)=true→J.gv c (.bool g)= .bool true)∧((c&&g)=false→J.gv c (.bool g)= .bool (!true)∨J.gv c (.bool g)=undef):=by
 cases c<;>cases g<;>simp[gv]
theorem abK (c g:Bool):((c&& !g)=true→J.gv c (.bool g)= .bool false)∧((c&& !g)=false→J.gv c (.bool g)= .bool (!false)∨J.gv c (.bool g)=undef):=by
 cases c<;>cases g<;>simp[gv]
section
variable {j:Nat}{d:Nat}{op:Op}{ty:TypeId}{pos:String}{after:Array Edge}{rest:List Oper}{dj:Nat}(v:Value)
theorem St.gt {g:Bool}(hj:(ops[j]?).bind (·.dst)=some dj)(hl:look F dj=some (.bool g))(nX:g=true→Ev P n F A op ty v)(hd:Nat.ble (d+1) n=true)
 (h:St n ((d,gv g v)::F) A (wpList P ops Q rest)):
 St n F A (wpList P ops Q ({dst:=some d,op:=op,type:=ty,pos:=pos,after:=after,guard:=some (j,true)}::rest)):=St.guarded g v hj hl (Xd g) nX hd h
theorem St.gf {g:Bool}(hj:(ops[j]?).bind (·.dst)=some dj)(hl:look F dj=some (.bool g))(nX:(!g)=true→Ev P n F A op ty v)(hd:Nat.ble (d+1) n=true)
 (h:St n ((d,gv (!g) v)::F) A (wpList P ops Q rest)):
 St n F A (wpList P ops Q ({dst:=some d,op:=op,type:=ty,pos:=pos,after:=after,guard:=some (j,false)}::rest)):=St.guarded (!g) v hj hl (Xe g) nX hd h
theorem St.gct {c g:Bool}(hj:(ops[j]?).bind (·.dst)=some dj)(hl:look F dj=some (gv c (.bool g)))(nX:(c&&g)=true→Ev P n F A op ty v)(hd:Nat.ble (d+1) n=true)
 (h:St n ((d,gv (c&&g) v)::F) A (wpList P ops Q rest)):
 St n F A (wpList P ops Q ({dst:=some d,op:=op,type:=ty,pos:=pos,after:=after,guard:=some (j,true)}::rest)):=St.guarded (c&&g) v hj hl (abJ c g) nX hd h
theorem St.gcf {c g:Bool}(hj:(ops[j]?).bind (·.dst)=some dj)(hl:look F dj=some (gv c (.bool g)))(nX:(c&& !g)=true→Ev P n F A op ty v)(hd:Nat.ble (d+1) n=true)
 (h:St n ((d,gv (c&& !g) v)::F) A (wpList P ops Q rest)):
 St n F A (wpList P ops Q ({dst:=some d,op:=op,type:=ty,pos:=pos,after:=after,guard:=some (j,false)}::rest)):=St.guarded (c&& !g) v hj hl (abK c g) nX hd h
end
def Sq (n:Nat)(F:Fr)(T:Act→Prop):Prop:=∀a,Has n a F→T a
theorem Sq.nil (h:St n F A (Q .normal)):Sq n F (wpQuiet P ops A (λa'=>∀w',A w'→Q .normal a' w') []):=λa ha w hw=>h a w ha hw
theorem Sq.ev {d:Nat}{op:Op}{ty:TypeId}{pos:String}{after:Array Edge}{rest:List Oper}{T:Act→Prop}(v:Value)(nX:Ev P n F A op ty v)(hd:Nat.ble (d+1) n=true)
 (h:Sq n ((d,v)::F) (wpQuiet P ops A T rest)):
 Sq n F (wpQuiet P ops A T ({dst:=some d,op:=op,type:=ty,pos:=pos,after:=after,guard:=none}::rest)):=by
 intro a ha
 simp only[wpQuiet,Region.wanted,if_true]
 exact⟨v,λw hw=>nX.quietAt ha hw,h _ (ha.put (eX hd) v)⟩
theorem Sq.guarded {j:Nat}{want:Bool}{d:Nat}{op:Op}{ty:TypeId}{pos:String}{after:Array Edge}{rest:List Oper}{T:Act→Prop}(c:Bool){dj:Nat}{u:Value}(v:Value)
 (hj:(ops[j]?).bind (·.dst)=some dj) (hl:look F dj=some u) (hu:(c=true→u= .bool want)∧(c=false→u= .bool (!want)∨u=undef))
 (nX:c=true→Ev P n F A op ty v) (hd:Nat.ble (d+1) n=true) (h:Sq n ((d,gv c v)::F) (wpQuiet P ops A T rest)):
 Sq n F (wpQuiet P ops A T ({dst:=some d,op:=op,type:=ty,pos:=pos,after:=after,guard:=some (j,want)}::rest)):=by
 intro a ha
 have nY:=eX hd
 have pZ:=lJ (l:=ops) (o:={dst:=some d,op:=op,type:=ty,pos:=pos,after:=after,guard:=some (j,want)}) rfl hj (ha.slot _ _ hl) hu
 simp only[wpQuiet,pZ]
 cases hc:c with
 |true=>
  rw[hc]at h
  simp only[if_true]
  refine⟨v,λw hw=>(nX hc).quietAt ha hw,?_⟩
  have:=h _ (ha.put nY (gv true v))
  rwa[fD rfl]at this
 |false=>
  rw[hc]at h
  have:=h _ (ha.put nY (gv false v))
  rw[bf rfl]at this
  simpa using this
section
variable {j:Nat}{d:Nat}{op:Op}{ty:TypeId}{pos:String}{after:Array Edge}{rest:List Oper}{dj:Nat}{T:Act→Prop}(v:Value)
theorem Sq.gt {g:Bool}(hj:(ops[j]?).bind (·.dst)=some dj)(hl:look F dj=some (.bool g))(nX:g=true→Ev P n F A op ty v)(hd:Nat.ble (d+1) n=true)
 (h:Sq n ((d,gv g v)::F) (wpQuiet P ops A T rest)):
 Sq n F (wpQuiet P ops A T ({dst:=some d,op:=op,type:=ty,pos:=pos,after:=after,guard:=some (j,true)}::rest)):=Sq.guarded g v hj hl (Xd g) nX hd h
theorem Sq.gf {g:Bool}(hj:(ops[j]?).bind (·.dst)=some dj)(hl:look F dj=some (.bool g))(nX:(!g)=true→Ev P n F A op ty v)(hd:Nat.ble (d+1) n=true)
 (h:Sq n ((d,gv (!g) v)::F) (wpQuiet P ops A T rest)):
 Sq n F (wpQuiet P ops A T ({dst:=some d,op:=op,type:=ty,pos:=pos,after:=after,guard:=some (j,false)}::rest)):=Sq.guarded (!g) v hj hl (Xe g) nX hd h
end
def E0 (A:World→Prop):Prop:=∀w,A w→A {w with drawn:=w.drawn+1}
theorem St.rq {id:Nat}{l:List Oper}(hm:P.follows .mixedOrders=true)(hB:Region.lexB .any l.toArray=true)(hA:E0 A)
 (h:Sq n F (wpQuiet P l.toArray A (λa'=>∀w',A w'→Q .normal a' w') l)):St n F A ((Code.region id l.toArray true).wp P Q):=
 λa w ha hw=>wp_region_quiet hm hB (hA w hw) (by simpa using h a ha)
end
abbrev Ro:=Nat→Option Obj
def Ro.le (ρ mY:Ro):Prop:=∀k o,ρ k=some o→mY k=some o
theorem Ro.le_refl (ρ:Ro):ρ.le ρ:=λ_ _ h=>h
theorem Ro.le_trans {a b c:Ro}(h:a.le b)(k:b.le c):a.le c:=λ_ _ x=>k _ _ (h _ _ x)
structure df where
 f:Ro→Prop
 mono:∀ρ mY,Ro.le ρ mY→f ρ→f mY
structure ao where
 key:Option Nat
 ok:Ro→World→Prop
 loc:∀{ρ mY w w'},Ro.le ρ mY→(∀b,key=some b→w'.heap[b]?=w.heap[b]?)→ok ρ w→ok mY w'
 lt:∀{ρ w b},ok ρ w→key=some b→b<w.heap.size
@[irreducible] def aF (d:df):ao:=⟨none,λρ _=>d.f ρ,λh _ k=>d.mono _ _ h k,λ_ h=>by simp at h⟩
@[irreducible] def aX (b:Nat)(o:Obj):ao:=⟨some b,λ_ w=>w.heap[b]?=some o,λ_ h k=>by rw[h b rfl];exact k,λh hb=>by
 simp only[Option.some.injEq]at hb
 subst hb
 exact(pP.1 h).1⟩
theorem E2 {w w':World}{e:TypeId}{size n:Nat}{v:Value}{cs:List Value}(h:∀b,v.ownBlock=some b→w'.heap[b]?=w.heap[b]?)(k:w.ownsRow 0 e size v n cs):w'.ownsRow 0 e size v n cs:=by
 obtain⟨h1,h2⟩:=k;refine⟨h1,?_⟩
 rcases h2 with h2|⟨g,cap,cur,rfl,h3,h4,h5⟩
 ·exact .inl h2
 ·exact .inr ⟨g,cap,cur,rfl,h3,by rw[h g rfl];exact h4,h5⟩
@[irreducible] def row (v:Value)(e:TypeId)(size n:Nat)(cs:List Value):ao:=⟨v.ownBlock,λ_ w=>w.ownsRow 0 e size v n cs,λ_ h k=>E2 h k,λh hb=>(h.lt _ hb).2⟩
theorem jL (d:df):(aF d).key=none:=by unfold aF;rfl
theorem dm {d:df}{ρ:Ro}{w:World}:(aF d).ok ρ w↔d.f ρ:=by unfold aF;exact Iff.rfl
theorem gY (b:Nat)(o:Obj):(aX b o).key=some b:=by unfold aX;rfl
theorem ep {b:Nat}{o:Obj}{ρ:Ro}{w:World}:(aX b o).ok ρ w↔w.heap[b]?=some o:=by unfold aX;exact Iff.rfl
theorem dV (v:Value)(e:TypeId)(size n:Nat)(cs:List Value):(row v e size n cs).key=v.ownBlock:=by unfold row;rfl
theorem dZ {v:Value}{e:TypeId}{size n:Nat}{cs:List Value}{ρ:Ro}{w:World}:(row v e size n cs).ok ρ w↔w.ownsRow 0 e size v n cs:=by unfold row;exact Iff.rfl
def JP (E E':ao):Prop:=∀b,E.key=some b→E'.key≠some b
theorem JP.symm {E E':ao}(h:JP E E'):JP E' E:=λb h1 h2=>h b h2 h1
def kT (H:List ao)(b:Nat):Prop:=∃E∈H,E.key=some b
structure Ctx where
 w:World
 ρ:Ro
 M:Nat→Prop
 dr:Prop
structure eQ (c:Ctx)(H:List ao)(ρ:Ro)(w:World):Prop where
 os:w.os=c.w.os
 tape:w.tape=c.w.tape∧(c.dr→c.w.drawn≤w.drawn)
 output:w.output=c.w.output
 size:c.w.heap.size≤w.heap.size
 A2:∀k,k<c.w.heap.size→¬c.M k→w.heap[k]?=c.w.heap[k]?
 fits:∀k o,ρ k=some o→w.heap[k]?=some o
 le:Ro.le c.ρ ρ
 new:∀k,k<c.w.heap.size→¬c.M k→ρ k=c.ρ k
 dK:∀E∈H,E.ok ρ w
 own:∀E∈H,∀b,E.key=some b→ρ b=none∧(c.w.heap.size≤b∨c.M b)
 Gz:H.Pairwise JP
@[irreducible] def Mm (c:Ctx)(H:List ao)(w:World):Prop:=∃ρ,eQ c H ρ w
theorem Mm.out {c:Ctx}{H:List ao}{w:World}(h:Mm c H w):∃ρ,eQ c H ρ w:=by unfold Mm at h;exact h
theorem Mm.mk {c:Ctx}{H:List ao}{w:World}{ρ:Ro}(h:eQ c H ρ w):Mm c H w:=by unfold Mm;exact⟨ρ,h⟩
theorem eQ.lt {c:Ctx}{H:List ao}{ρ:Ro}{w:World}(h:eQ c H ρ w){E:ao}(hE:E∈H){b:Nat}(hb:E.key=some b):b<w.heap.size:=E.lt (h.dK E hE) hb
theorem eQ.xS {c:Ctx}{H:List ao}{ρ:Ro}{w:World}(h:eQ c H ρ w){b:Nat}{o:Obj}(hb:ρ b=some o):b<w.heap.size:=(pP.1 (h.fits b o hb)).1
theorem eQ.step {c:Ctx}{H1 H2 R:List ao}{ρ mY:Ro}{w w':World}(h:eQ c (H1++R) ρ w)(k:eQ ⟨w,ρ,kT H1,c.dr⟩ H2 mY w'):eQ c (H2++R) mY w':=by
 have hd:=rB.1 h.Gz
 have re:∀E∈R,∀b,E.key=some b→w'.heap[b]?=w.heap[b]?:=by
  intro E hE b hb;refine k.A2 b (h.lt (mX _ hE) hb) ?_;rintro ⟨E',A3,jZ⟩;exact hd.2.2 E' A3 E hE b jZ hb
 refine⟨k.os.trans h.os,⟨k.tape.1.trans h.tape.1,λd=>eH (h.tape.2 d) (k.tape.2 d)⟩,k.output.trans h.output,eH h.size k.size,?_,k.fits,Ro.le_trans h.le k.le,?_,?_,?_,?_⟩
 ·intro i hi hm
  rw[←h.A2 i hi hm];refine k.A2 i (eK hi h.size) ?_;rintro ⟨E,hE,hb⟩
  rcases(h.own E (km _ hE) i hb).2 with h2|h2
  ·omega
  ·exact hm h2
 ·intro i hi hm
  rw[←h.new i hi hm];refine k.new i (eK hi h.size) ?_;rintro ⟨E,hE,hb⟩
  rcases(h.own E (km _ hE) i hb).2 with h2|h2
  ·omega
  ·exact hm h2
 ·intro E hE
  rcases ba.1 hE with hE|hE
  ·exact k.dK E hE
  ·exact E.loc k.le (re E hE) (h.dK E (mX _ hE))
 ·intro E hE b hb
  rcases ba.1 hE with hE|hE
  ·refine⟨(k.own E hE b hb).1,?_⟩
   rcases(k.own E hE b hb).2 with h2|⟨E',A3,h2⟩
   ·exact .inl (eH h.size h2)
   ·exact(h.own E' (km _ A3) b h2).2
  ·have h1:=h.own E (mX _ hE) b hb
   refine⟨?_,h1.2⟩;rw[k.new b (h.lt (mX _ hE) hb)]
   ·exact h1.1
   ·rintro ⟨E',A3,jZ⟩
    exact hd.2.2 E' A3 E hE b jZ hb
 ·refine rB.2 ⟨k.Gz,hd.2.1,?_⟩
  intro E hE E' A3 b hb jZ
  rcases(k.own E hE b hb).2 with h2|⟨E'',H0,h2⟩
  ·have:=h.lt (mX _ A3) jZ
   exact absurd this (by simpa using h2)
  ·exact hd.2.2 E'' H0 E' A3 b h2 jZ
theorem eQ.perm {c:Ctx}{H H':List ao}{ρ:Ro}{w:World}(h:eQ c H ρ w)(hp:H.Perm H'):eQ c H' ρ w:=
 ⟨h.os,h.tape,h.output,h.size,h.A2,h.fits,h.le,h.new,λE hE=>h.dK E (hp.mem_iff.2 hE),λE hE=>h.own E (hp.mem_iff.2 hE),
  (hp.pairwise_iff λh=>h.symm).1 h.Gz⟩
theorem eQ.drop {c:Ctx}{E:ao}{H:List ao}{ρ:Ro}{w:World}(h:eQ c (E::H) ρ w):eQ c H ρ w:=
 ⟨h.os,h.tape,h.output,h.size,h.A2,h.fits,h.le,h.new,λE hE=>h.dK E (cE _ hE),λE hE=>h.own E (cE _ hE),(ib.1 h.Gz).2⟩
theorem eQ.fact {c:Ctx}{H:List ao}{ρ:Ro}{w:World}(h:eQ c H ρ w)(d:df)(hd:d.f ρ):eQ c (aF d::H) ρ w:=
 ⟨h.os,h.tape,h.output,h.size,h.A2,h.fits,h.le,h.new,λE hE=>by
  rcases cD.1 hE with rfl|hE
  ·exact dm.2 hd
  ·exact h.dK E hE,
  λE hE b hb=>by
   rcases cD.1 hE with rfl|hE
   ·rw[jL]at hb;cases hb
   ·exact h.own E hE b hb,
  ib.2 ⟨λE _ b hb=>(by rw[jL]at hb;cases hb),h.Gz⟩⟩
theorem eQ.drawn {c:Ctx}{H:List ao}{ρ:Ro}{w:World}(h:eQ c H ρ w):eQ c H ρ {w with drawn:=w.drawn+1}:=
 ⟨h.os,⟨h.tape.1,λd=>Nat.le_succ_of_le (h.tape.2 d)⟩,h.output,h.size,h.A2,h.fits,h.le,h.new,λE hE=>E.loc (w:=w) (Ro.le_refl _) (λ_ _=>rfl) (h.dK E hE),h.own,h.Gz⟩
theorem Mm.drawn (c:Ctx)(H:List ao):E0 (Mm c H):=λ_ h=>let⟨_,k⟩:=h.out;Mm.mk k.drawn
def Start (H:List ao)(ρ:Ro)(w:World):Prop:=eQ ⟨w,ρ,kT H,True⟩ H ρ w
theorem eQ.start {c:Ctx}{H R:List ao}{ρ:Ro}{w:World}(h:eQ c (H++R) ρ w):Start H ρ w:=
 ⟨rfl,⟨rfl,λ_=>aW _⟩,rfl,aW _,λ_ _ _=>rfl,h.fits,Ro.le_refl _,λ_ _ _=>rfl,λE hE=>h.dK E (km _ hE),
  λE hE b hb=>⟨(h.own E (km _ hE) b hb).1,.inr ⟨E,hE,hb⟩⟩,(rB.1 h.Gz).1⟩
def dt (P:Program)(f:FuncId)(args:Array Value)(pre:List ao)(post:Value→List ao→Prop):Prop:=
 ∀w ρ,Start pre ρ w→Calls P f args w λe w'=>∃v H',e= .returned v∧post v H'∧Mm ⟨w,ρ,kT pre,True⟩ H' w'
def H3 (dr:Prop)(P:Program)(f:FuncId)(args:Array Value)(pre:List ao)(post:Value→List ao→Prop):Prop:=
 ∀w ρ,Start pre ρ w→Calls P f args w λe w'=>∃v H',e= .returned v∧post v H'∧Mm ⟨w,ρ,kT pre,dr⟩ H' w'
theorem eQ.dr {w0:World}{ρ0:Ro}{M:Nat→Prop}{d d':Prop}{H:List ao}{ρ:Ro}{w:World}(h:eQ ⟨w0,ρ0,M,d⟩ H ρ w)(hd:d'→d):eQ ⟨w0,ρ0,M,d'⟩ H ρ w:=
 ⟨h.os,⟨h.tape.1,λq=>h.tape.2 (hd q)⟩,h.output,h.size,h.A2,h.fits,h.le,h.new,h.dK,h.own,h.Gz⟩
theorem Mm.dr {w0:World}{ρ0:Ro}{M:Nat→Prop}{d d':Prop}{H:List ao}{w:World}(h:Mm ⟨w0,ρ0,M,d⟩ H w)(hd:d'→d):Mm ⟨w0,ρ0,M,d'⟩ H w:=let⟨_,k⟩:=h.out;Mm.mk (k.dr hd)
theorem dt.gen {P:Program}{f:FuncId}{args:Array Value}{pre:List ao}{post:Value→List ao→Prop}(h:dt P f args pre post):H3 True P f args pre post:=h
theorem H3.dr {d d':Prop}{P:Program}{f:FuncId}{args:Array Value}{pre:List ao}{post:Value→List ao→Prop}(h:H3 d P f args pre post)(hd:d'→d):H3 d' P f args pre post:=
 λw ρ hs=>(h w ρ hs).mono λ_ _ ⟨v,H',h1,h2,h3⟩=>⟨v,H',h1,h2,h3.dr hd⟩
theorem H3.mono {d:Prop}{P:Program}{f:FuncId}{args:Array Value}{pre:List ao}{post E3:Value→List ao→Prop}(h:H3 d P f args pre post)(hp:∀v H,post v H→E3 v H):H3 d P f args pre E3:=
 λw ρ hs=>(h w ρ hs).mono λ_ _ ⟨v,H',h1,h2,h3⟩=>⟨v,H',h1,hp v H' h2,h3⟩
abbrev xT:=H3 False
def iz (P:Program)(f:FuncId)(args:Array Value)(ds:List df)(v:Value):Prop:=xT P f args (ds.map aF) λu _=>u=v
def dA (P:Program)(f:FuncId)(args:Array Value)(ds:List df)(v:Value):Prop:=dt P f args (ds.map aF) λu _=>u=v
theorem dt.mono {P:Program}{f:FuncId}{args:Array Value}{pre:List ao}{post E3:Value→List ao→Prop}(h:dt P f args pre post)(hp:∀v H,post v H→E3 v H):dt P f args pre E3:=
 λw ρ hs=>(h w ρ hs).mono λ_ _ ⟨v,H',h1,h2,h3⟩=>⟨v,H',h1,hp v H' h2,h3⟩
theorem eQ.E4 {c:Ctx}{H:List ao}{ρ:Ro}{w:World}(h:eQ c H ρ w):∀ds:List df,(∀d∈ds,d.f ρ)→eQ c (ds.map aF++H) ρ w
 | [],_=>h
 |d::ds,hd=>(h.E4 ds λd' h'=>hd d' (cE _ h')).fact d (hd d (aU ..))
section classes
class uI (d:df)(H:List ao):Prop where
 mem:aF d∈H
instance (priority:=high) uI.here (d:df)(H:List ao):uI d (aF d::H):=⟨aU ..⟩
instance uI.there (d:df)(E:ao)(H:List ao)[h:uI d H]:uI d (E::H):=⟨cE _ h.mem⟩
class nZ (ds:List df)(H:List ao):Prop where
 mem:∀d∈ds,aF d∈H
instance nZ.nil (H:List ao):nZ [] H:=⟨λ_ h=>by simp at h⟩
instance nZ.cons (d:df)(ds:List df)(H:List ao)[h:uI d H][k:nZ ds H]:nZ (d::ds) H:=
 ⟨λd' h'=>by rcases cD.1 h' with rfl|h';exact h.mem;exact k.mem d' h'⟩
class Az (b:Nat)(H:List ao)(o:outParam Obj):Prop where
 mem:aX b o∈H
instance (priority:=high) Az.here (b:Nat)(o:Obj)(H:List ao):Az b (aX b o::H) o:=⟨aU ..⟩
instance Az.there (b:Nat)(o:Obj)(E:ao)(H:List ao)[h:Az b H o]:Az b (E::H) o:=⟨cE _ h.mem⟩
class lY (b:Nat)(H:List ao)(o:outParam Obj)(R:outParam (List ao)):Prop where
 perm:H.Perm (aX b o::R)
instance (priority:=high) lY.here (b:Nat)(o:Obj)(H:List ao):lY b (aX b o::H) o H:=⟨.refl _⟩
instance lY.there (b:Nat)(o:Obj)(E:ao)(H R:List ao)[h:lY b H o R]:lY b (E::H) o (E::R):=⟨(h.perm.cons E).trans (.swap ..)⟩
class ko (v:Value)(H:List ao)(e:outParam TypeId)(size n:outParam Nat)(cs:outParam (List Value))(R:outParam (List ao)):Prop where
 perm:H.Perm (row v e size n cs::R)
instance (priority:=high) ko.here (v:Value)(e:TypeId)(size n:Nat)(cs:List Value)(H:List ao):ko v (row v e size n cs::H) e size n cs H:=⟨.refl _⟩
instance ko.there (v:Value)(e:TypeId)(size n:Nat)(cs:List Value)(E:ao)(H R:List ao)[h:ko v H e size n cs R]:ko v (E::H) e size n cs (E::R):=⟨(h.perm.cons E).trans (.swap ..)⟩
class B1 (E:ao)(H:List ao)(R:outParam (List ao)):Prop where
 perm:H.Perm (E::R)
instance (priority:=high) B1.here (E:ao)(H:List ao):B1 E (E::H) H:=⟨.refl _⟩
instance B1.there (E E':ao)(H R:List ao)[h:B1 E H R]:B1 E (E'::H) (E'::R):=⟨(h.perm.cons E').trans (.swap ..)⟩
class eE (L H:List ao)(R:outParam (List ao)):Prop where
 perm:H.Perm (L++R)
instance eE.nil (H:List ao):eE [] H H:=⟨.refl _⟩
instance eE.cons (E:ao)(L H R R':List ao)[h:B1 E H R][k:eE L R R']:eE (E::L) H R':=⟨h.perm.trans (k.perm.cons E)⟩
end classes
theorem Mm.take {c:Ctx}{L H R:List ao}{w:World}[t:eE L H R](h:Mm c H w):Mm c (L++R) w:=let⟨_,k⟩:=h.out;Mm.mk (k.perm t.perm)
theorem eQ.left {c:Ctx}{L R:List ao}{ρ:Ro}{w:World}(h:eQ c (L++R) ρ w):eQ c L ρ w:=by
 induction R generalizing L with
 |nil=>simpa using h
 |cons E R ih=>exact ih (h.perm rD).drop
theorem Mm.sub {c:Ctx}{L H R:List ao}{w:World}[t:eE L H R](h:Mm c H w):Mm c L w:=let⟨_,k⟩:=h.out;Mm.mk (k.perm t.perm).left
theorem Mm.fact {c:Ctx}{H:List ao}{w:World}(h:Mm c H w)(d:df)(hd:∀ρ,eQ c H ρ w→d.f ρ):Mm c (aF d::H) w:=let⟨_,k⟩:=h.out;Mm.mk (k.fact d (hd _ k))
section
variable {P:Program}{n:Nat}{F:Fr}{c:Ctx}{H R:List ao}{Q:Exit→Act→World→Prop}{ops:Array Oper}{T:Act→World→Prop}
theorem St.fact (d:df)(hd:∀ρ w,eQ c H ρ w→d.f ρ)(h:St n F (Mm c (aF d::H)) T):St n F (Mm c H) T:=
 h.pQ λ_ hw=>hw.fact d λρ k=>hd ρ _ k
theorem St.sub (L:List ao)[t:eE L H R](h:St n F (Mm c L) T):St n F (Mm c H) T:=h.pQ λ_ hw=>hw.sub
theorem St.take (L:List ao)[t:eE L H R](h:St n F (Mm c (L++R)) T):St n F (Mm c H) T:=h.pQ λ_ hw=>hw.take
theorem St.abL (h:St n F (Mm c R) T):St n F (Mm c ([]++R)) T:=h
theorem St.fk {a:ao}(h:St n F (Mm c (a::R)) T):St n F (Mm c ([a]++R)) T:=h
theorem St.lZ {a b:ao}(h:St n F (Mm c (a::b::R)) T):St n F (Mm c ([a,b]++R)) T:=h
theorem St.wG {a b d:ao}(h:St n F (Mm c (a::b::d::R)) T):St n F (Mm c ([a,b,d]++R)) T:=h
def Do (P:Program)(n:Nat)(F:Fr)(c:Ctx)(H:List ao)(op:Op)(ty:TypeId)(K:Value→List ao→Prop):Prop:=
 ∀a w ρ,Has n a F→eQ c H ρ w→∃v w' mY H',(execOp a.eval (bare op ty)).run P w= .ok v w'∧(∃u,(v= .value u∨(v= .skip∧u=undef))∧K u H')∧eQ c H' mY w'
theorem Do.wp {op:Op}{ty:TypeId}{K:Value→List ao→Prop}(h:Do P n F c H op ty K){d:Option Tmp}{pos:String}{after:Array Edge}{g:Option (Nat×Bool)}{a:Act}{w:World}
 (ha:Has n a F) (hw:Mm c H w) {J:Act→World→Prop} (hk:∀u H' w',K u H'→Mm c H' w'→J (a.put d u) w'):
 ({dst:=d,op:=op,type:=ty,pos:=pos,after:=after,guard:=g}:Oper).wp P a w J Q:=by
 obtain⟨ρ,hm⟩:=hw.out;obtain⟨v,w',mY,H',hr,⟨u,hv,hK⟩,jc⟩:=h a w ρ ha hm;unfold Oper.wp Oper.upon;rw[fa]
 simp only at hr⊢
 rw[hr]
 rcases hv with rfl|⟨rfl,rfl⟩
 ·exact hk _ _ _ hK (Mm.mk jc)
 ·exact hk _ _ _ hK (Mm.mk jc)
theorem St.SA {d:Nat}{op:Op}{ty:TypeId}{pos:String}{after:Array Edge}{rest:List Oper}{K:Value→List ao→Prop}(nX:Do P n F c H op ty K)(hd:Nat.ble (d+1) n=true)
 (h:∀v H',K v H'→St n ((d,v)::F) (Mm c H') (wpList P ops Q rest)):
 St n F (Mm c H) (wpList P ops Q ({dst:=some d,op:=op,type:=ty,pos:=pos,after:=after,guard:=none}::rest)):=
 λ_ _ ha hw=>gD rfl (nX.wp ha hw λu H' w' hK Ay=>h u H' hK _ w' (ha.put (eX hd) u) Ay)
theorem St.oU {op:Op}{ty:TypeId}{pos:String}{after:Array Edge}{rest:List Oper}{K:Value→List ao→Prop}(nX:Do P n F c H op ty K)
 (h:∀v H',K v H'→St n F (Mm c H') (wpList P ops Q rest)):
 St n F (Mm c H) (wpList P ops Q ({dst:=none,op:=op,type:=ty,pos:=pos,after:=after,guard:=none}::rest)):=
 λ_ _ ha hw=>gD rfl (nX.wp ha hw λu H' w' hK Ay=>h u H' hK _ w' (ha.N9 u) Ay)
end
def sP:Nat→List Value→Fr
 |_,[]=>[]
 |k,v::vs=>(k,v)::sP (k+1) vs
theorem uJ {t:Nat}{v:Value}:∀(l:List Value) (i:Nat),look (sP i l) t=some v→i≤t∧l[t-i]?=some v
 | [],i,h=>by simp[sP,look]at h
 |x::l,i,h=>by
  simp only[sP,look]at h
  cases hb:Nat.beq t i with
  |true=>
   have e:t=i:=ve hb
   subst e
   simp only[hb,cond_true,Option.some.injEq]at h
   subst h
   simp
  |false=>
   have e:t≠i:=Nat.ne_of_beq_eq_false hb
   simp only[hb,cond_false]at h
   obtain⟨h1,h2⟩:=uJ l (i+1) h;refine⟨by omega,?_⟩
   have:t-i=(t-(i+1))+1:=by omega
   rw[this,Dw];exact h2
theorem dt.body {P:Program}{f:FuncId}{fn:Func}{cd:Code}{args:List Value}{pre:List ao}{post:Value→List ao→Prop}(n:Nat)
 (hf:P.funcs[f]?=some fn) (hb:fn.body=some cd) (hn:fn.ntmps=n) (jM:Nat.ble args.length n=true)
 (h:∀c:Ctx,St n (sP 0 args) (Mm c pre) (cd.wp P (bodyPost P fn λe w'=>∃v H',e= .returned v∧post v H'∧Mm c H' w'))):
 dt P f args.toArray pre post:=by
 intro w ρ hs;refine calls_of_wp hf hb (h ⟨w,ρ,kT pre,True⟩ _ w ⟨?_,rfl,?_⟩ (Mm.mk hs))
 ·have:=eX jM
  simp[hn]
  omega
 ·intro t v ht
  obtain⟨_,h2⟩:=uJ args 0 ht
  simp only[Nat.sub_zero]at h2
  have iX:t<args.length:=(eD.1 h2).1
  simp only[List.size_toArray,Array.getElem?_append,iX,if_true]
  simpa using h2
theorem xT.body {P:Program}{f:FuncId}{fn:Func}{cd:Code}{args:List Value}{pre:List ao}{post:Value→List ao→Prop}(n:Nat)
 (hf:P.funcs[f]?=some fn) (hb:fn.body=some cd) (hn:fn.ntmps=n) (jM:Nat.ble args.length n=true)
 (h:∀c:Ctx,¬c.dr→St n (sP 0 args) (Mm c pre) (cd.wp P (bodyPost P fn λe w'=>∃v H',e= .returned v∧post v H'∧Mm c H' w'))):
 xT P f args.toArray pre post:=by
 intro w ρ hs;refine calls_of_wp hf hb (h ⟨w,ρ,kT pre,False⟩ (λh=>h) _ w ⟨?_,rfl,?_⟩ (Mm.mk (hs.dr λh=>h.elim)))
 ·have:=eX jM
  simp[hn]
  omega
 ·intro t v ht
  obtain⟨_,h2⟩:=uJ args 0 ht
  simp only[Nat.sub_zero]at h2
  have iX:t<args.length:=(eD.1 h2).1
  simp only[List.size_toArray,Array.getElem?_append,iX,if_true]
  simpa using h2
theorem iz.body {P:Program}{f:FuncId}{fn:Func}{cd:Code}{args:List Value}{u:Value}{ds:List df}(n:Nat)
 (hf:P.funcs[f]?=some fn) (hb:fn.body=some cd) (hn:fn.ntmps=n) (jM:Nat.ble args.length n=true)
 (h:∀c:Ctx,¬c.dr→St n (sP 0 args) (Mm c (ds.map aF)) (cd.wp P (bodyPost P fn λe w'=>∃v H',e= .returned v∧v=u∧Mm c H' w'))):iz P f args.toArray ds u:=xT.body n hf hb hn jM h
theorem dA.jz {P:Program}{f:FuncId}{fn:Func}{cd:Code}{args:List Value}{u:Value}(n:Nat)
 (hf:P.funcs[f]?=some fn) (hb:fn.body=some cd) (hn:fn.ntmps=n) (jM:Nat.ble args.length n=true)
 (h:∀c:Ctx,St n (sP 0 args) (Mm c []) (cd.wp P (bodyPost P fn λe w'=>∃v H',e= .returned v∧v=u∧Mm c H' w'))):dA P f args.toArray [] u:=dt.body n hf hb hn jM h
theorem dA.na {P:Program}{f:FuncId}{fn:Func}{cd:Code}{args:List Value}{u:Value}{d1:df}(n:Nat)
 (hf:P.funcs[f]?=some fn) (hb:fn.body=some cd) (hn:fn.ntmps=n) (jM:Nat.ble args.length n=true)
 (h:∀c:Ctx,St n (sP 0 args) (Mm c [aF d1]) (cd.wp P (bodyPost P fn λe w'=>∃v H',e= .returned v∧v=u∧Mm c H' w'))):dA P f args.toArray [d1] u:=dt.body n hf hb hn jM h
theorem dA.mZ {P:Program}{f:FuncId}{fn:Func}{cd:Code}{args:List Value}{u:Value}{d1 d2:df}(n:Nat)
 (hf:P.funcs[f]?=some fn) (hb:fn.body=some cd) (hn:fn.ntmps=n) (jM:Nat.ble args.length n=true)
 (h:∀c:Ctx,St n (sP 0 args) (Mm c [aF d1,aF d2]) (cd.wp P (bodyPost P fn λe w'=>∃v H',e= .returned v∧v=u∧Mm c H' w'))):dA P f args.toArray [d1,d2] u:=dt.body n hf hb hn jM h
theorem dA.abM {P:Program}{f:FuncId}{fn:Func}{cd:Code}{args:List Value}{u:Value}{d1 d2 d3:df}(n:Nat)
 (hf:P.funcs[f]?=some fn) (hb:fn.body=some cd) (hn:fn.ntmps=n) (jM:Nat.ble args.length n=true)
 (h:∀c:Ctx,St n (sP 0 args) (Mm c [aF d1,aF d2,aF d3]) (cd.wp P (bodyPost P fn λe w'=>∃v H',e= .returned v∧v=u∧Mm c H' w'))):dA P f args.toArray [d1,d2,d3] u:=dt.body n hf hb hn jM h
theorem dA.JQ {P:Program}{f:FuncId}{fn:Func}{cd:Code}{args:List Value}{u:Value}{d1 d2 d3 d4:df}(n:Nat)
 (hf:P.funcs[f]?=some fn) (hb:fn.body=some cd) (hn:fn.ntmps=n) (jM:Nat.ble args.length n=true)
 (h:∀c:Ctx,St n (sP 0 args) (Mm c [aF d1,aF d2,aF d3,aF d4]) (cd.wp P (bodyPost P fn λe w'=>∃v H',e= .returned v∧v=u∧Mm c H' w'))):dA P f args.toArray [d1,d2,d3,d4] u:=dt.body n hf hb hn jM h
theorem dA.NC {P:Program}{f:FuncId}{fn:Func}{cd:Code}{args:List Value}{u:Value}{d1:df}{ds:List df}(n:Nat)
 (hf:P.funcs[f]?=some fn) (hb:fn.body=some cd) (hn:fn.ntmps=n) (jM:Nat.ble args.length n=true)
 (h:∀c:Ctx,St n (sP 0 args) (Mm c (aF d1::ds.map aF)) (cd.wp P (bodyPost P fn λe w'=>∃v H',e= .returned v∧v=u∧Mm c H' w'))):dA P f args.toArray (d1::ds) u:=dt.body n hf hb hn jM h
theorem Sub.nil {F:Fr}:Sub [] F:=trivial
theorem Sub.cons {F F':Fr}{k:Nat}{v:Value}(h:J.look F k=some v)(h':Sub F' F):Sub ((k,v)::F') F:=⟨h,h'⟩
def RV (P:Program)(F:Fr)(H:List ao):ResultVar→Value→Prop
 | .tmp t,v=>look F t=some v
 | .cell t ty,v=>∃b C e fr,look F t=some (.pointer (some ⟨b,0,none⟩))∧aX b (.cells C e fr)∈H∧
  ((∃fs,P.underlying ty=some (.struct fs))∧(P.info? ty).map (·.size)=some C.size∧v= .agg C∨
   (match P.underlying ty with|some (.struct _)|some (.array _ _)|none=>False|some _=>True)∧C[0]?=some v)
theorem bh {w:World}{b off:Nat}{C:Array Value}{e:TypeId}{fr:Nat×Nat}(h:w.heap[b]?=some (.cells C e fr)):w.cell? ⟨b,off,none⟩=C[off]?:=by
 simp[World.cell?,h]
theorem de {P:Program}{w:World}{ty:TypeId}{b off:Nat}{L:List Value}{d:TypeDesc}(hd:P.underlying ty=some d)(hk:(match d with| .struct _| .array _ _=>True|_=>False))
 (hs:(P.info? ty).map (·.size)=some L.length) (hL:∀j v,L[j]?=some v→w.cell? ⟨b,off+j,none⟩=some v):(loadVar ty ⟨b,off,none⟩).run P w= .ok (.agg L.toArray) w:=by
 obtain⟨i,hi,gQ⟩:=dG.1 hs
 have h1:=run_loadCells_list (P:=P) w ⟨b,off,none⟩ L (λj v h=>by rw[Addr.add_lit];exact hL j v h)
 have h2:(isAgg ty).run P w= .ok true w:=by
  cases d<;>simp at hk<;>simp[isAgg,run_underlying hd]
 simp[loadVar,h2,sizeOf,typeInfo,hi,gQ,h1]
theorem eM {P:Program}{w:World}{ty:TypeId}{a:Addr}{v:Value}{d:TypeDesc}(hd:P.underlying ty=some d)(hk:(match d with| .struct _| .array _ _=>False|_=>True))
 (hv:w.cell? a=some v):(loadVar ty a).run P w= .ok v w:=by
 have h2:(isAgg ty).run P w= .ok false w:=by
  cases d<;>simp at hk<;>simp[isAgg,run_underlying hd]
 simp[loadVar,h2,hv]
def E5 (a:Act):ResultVar→Sem Value
 | .tmp t=>pure (a.tmps.getD t undef)
 | .cell t ty=>do loadVar ty (←asAddr (a.tmps.getD t undef))
theorem RV.run {P:Program}{n:Nat}{F:Fr}{H:List ao}{r:ResultVar}{v:Value}(h:RV P F H r v){a:Act}(ha:Has n a F){c:Ctx}{w:World}(hw:Mm c H w):
 (E5 a r).run P w= .ok v w:=by
 obtain⟨ρ,hm⟩:=hw.out
 cases r with
 |tmp t=>simp[RV]at h;simp[E5,Array.getD_eq_getD_getElem?,ha.slot _ _ h]
 |cell t ty=>
  obtain⟨b,C,e,fr,h1,h2,h3⟩:=h
  have hb:=ep.1 (hm.dK _ h2)
  have hc:∀off,w.cell? ⟨b,off,none⟩=C[off]?:=λoff=>bh hb
  have ht:=ha.slot _ _ h1
  simp only[E5,Array.getD_eq_getD_getElem?,ht,Option.getD_some,asAddr,Sem.run_bind,Sem.run_pure,Result.andThen_ok]
  rcases h3 with⟨⟨fs,h4⟩,h5,rfl⟩|⟨h4,h5⟩
  ·have:=de (P:=P) (w:=w) (ty:=ty) (b:=b) (off:=0) (L:=C.toList) h4 trivial (by simpa using h5) (λj v hj=>by rw[hc,Nat.zero_add];simpa using hj)
   simpa using this
  ·cases hd:P.underlying ty with
   |none=>rw[hd]at h4;exact h4.elim
   |some d=>rw[hd]at h4;exact eM hd (by cases d<;>simp_all) (by rw[hc];exact h5)
def Sj (P:Program)(F:Fr)(H:List ao):List ResultVar→List Value→Prop
 | [],[]=>True
 |r::rs,v::vs=>RV P F H r v∧Sj P F H rs vs
 |_,_=>False
theorem Sj.run {P:Program}{n:Nat}{F:Fr}{H:List ao}{a:Act}(ha:Has n a F){c:Ctx}{w:World}(hw:Mm c H w):∀{rs:List ResultVar} {vs:List Value},Sj P F H rs vs→
 (rs.mapM (E5 a)).run P w= .ok vs w
 | [],[],_=>by simp
 |r::rs,v::vs,h=>by
  have h1:=RV.run h.1 ha hw
  have h2:=Sj.run ha hw h.2
  simp only[List.mapM_cons,Sem.run_bind,h1,Result.andThen_ok,h2,Sem.run_pure]
def H4:List Value→Value
 | [v]=>v
 |vs=> .tuple vs.toArray
theorem H5 (fn:Func)(a:Act):results fn a.tmps=(fn.results.mapM (E5 a)>>=λvs=>pure (if h:vs.size=1 then vs[0]else .tuple vs)):=by
 unfold results
 congr 2
theorem St.LR {P:Program}{n:Nat}{F:Fr}{c:Ctx}{H:List ao}{fn:Func}{post:Value→List ao→Prop}{rl:List ResultVar}(vs:List Value)(H':List ao)
 (hr:fn.results=rl.toArray) (hv:Sj P F H rl vs) (hp:post (H4 vs) H') (hH:∀w,Mm c H w→Mm c H' w):
 St n F (Mm c H) (bodyPost P fn (λe w'=>∃v H',e= .returned v∧post v H'∧Mm c H' w') .ret):=by
 intro a w ha hw;refine⟨ha.defers,_,?_,_,H',rfl,hp,hH w hw⟩
 have h2:=Sj.run ha hw hv
 rw[H5,hr]
 simp only[List.mapM_toArray,Sem.run_bind,Sem.run_map,h2,Result.andThen_ok,Sem.run_pure]
 congr 1
 cases vs with
 |nil=>rfl
 |cons v vs=>cases vs<;>rfl
theorem St.dg {P:Program}{n:Nat}{F:Fr}{c:Ctx}{H:List ao}{fn:Func}{R:Ending→World→Prop}
 (h:St n F (Mm c H) (bodyPost P fn R .ret)):St n F (Mm c H) (bodyPost P fn R .normal):=h
abbrev bI:=List UInt8
abbrev sv (l:bI):Value:= .string ⟨l.toArray⟩
abbrev iv (n:Int):Value:= .int .i64 n
structure Rp (α:Type) where
 size:Nat
 pos:0<size
 cells:α→List Value
 wf:α→Prop
 len:∀x,(cells x).length=size
 one:∀x,∀u∈cells x,u.oneCell'=true
def bP (n:Int):Prop:= -9223372036854775808≤n∧n≤9223372036854775807
def aL:Rp Int:=⟨1,by decide,λx=>[.int .i64 x],bP,λ_=>rfl,λ_ u h=>by simp at h;subst h;rfl⟩
def dY:Rp bI:=⟨1,by decide,λx=>[sv x],λx=>x.length≤140737488351232,λ_=>rfl,λ_ u h=>by simp at h;subst h;rfl⟩
def da:Rp Bool:=⟨1,by decide,λx=>[.bool x],λ_=>True,λ_=>rfl,λ_ u h=>by simp at h;subst h;rfl⟩
def cN:Rp {v:Value//v.oneCell'=true}:=⟨1,by decide,λx=>[x.1],λ_=>True,λ_=>rfl,λx u h=>by simp at h;subst h;exact x.2⟩
def rows {α:Type}(R:Rp α)(xs:List α):List Value:=xs.flatMap R.cells
theorem gn {α:Type}(R:Rp α)(xs:List α):(rows R xs).length=xs.length*R.size:=by
 induction xs with
 |nil=>simp[rows]
 |cons x xs ih=>simp only[rows,List.flatMap_cons,List.length_append,R.len,List.length_cons,Nat.add_mul]at ih⊢;omega
theorem db {α:Type}(R:Rp α):∀(xs:List α) (k j:Nat) (x:α),xs[k]?=some x→j<R.size→(rows R xs)[k*R.size+j]?=(R.cells x)[j]?
 | [],_,_,_,h,_=>by simp at h
 |y::xs,0,j,x,h,hj=>by
  simp only[List.getElem?_cons_zero,Option.some.injEq]at h
  subst h
  simp only[rows,List.flatMap_cons,Nat.zero_mul,Nat.zero_add]
  rw[pd (by rw[R.len];exact hj)]
 |y::xs,k+1,j,x,h,hj=>by
  simp only[List.getElem?_cons_succ]at h
  have ih:=db R xs k j x h hj
  simp only[rows,List.flatMap_cons]at ih⊢
  rw[mW (by rw[R.len,lW];omega),R.len]
  have e:(k+1)*R.size+j-R.size=k*R.size+j:=by rw[lW];omega
  rw[e];exact ih
def sl {α:Type}(R:Rp α)(v:Value)(xs:List α):df where
 f ρ:=∃a cap,v= .slice a xs.length cap∧xs.length≤cap∧cap≤maxLen∧(∀x∈xs,R.wf x)∧
  (xs=[]∨∃b off C e fr,a=some ⟨b,off,none⟩∧ρ b=some (.cells C e fr)∧∀j u,(rows R xs)[j]?=some u→C[off+j]?=some u)
 mono ρ mY h:=by
  rintro ⟨a,cap,h1,h2,h3,h4,h5⟩;refine⟨a,cap,h1,h2,h3,h4,?_⟩
  rcases h5 with h5|⟨b,off,C,e,fr,h6,h7,h8⟩
  ·exact .inl h5
  ·exact .inr ⟨b,off,C,e,fr,h6,h _ _ h7,h8⟩
class sQ (v:Value)(H:List ao)(α:outParam Type)(R:outParam (Rp α))(xs:outParam (List α)):Prop where
 mem:aF (sl R v xs)∈H
instance (priority:=high) sQ.here {α:Type}(v:Value)(R:Rp α)(xs:List α)(H:List ao):sQ v (aF (sl R v xs)::H) α R xs:=⟨aU ..⟩
instance sQ.there {α:Type}(v:Value)(R:Rp α)(xs:List α)(E:ao)(H:List ao)[h:sQ v H α R xs]:sQ v (E::H) α R xs:=⟨cE _ h.mem⟩
class iY {α:Type}(R:Rp α)(x:α)(L:outParam (List Value)):Prop where
 eq:R.cells x=L
@[irreducible] def dR (v:Value)(size k off:Nat):Value:=
 match v with
 | .slice (some a) _ _=> .pointer (some (a.add (k*size+off)))
 |_=>undef
theorem dS (b o n c size k off:Nat):dR (.slice (some ⟨b,o,none⟩) n c) size k off= .pointer (some ⟨b,o+(k*size+off),none⟩):=by
 unfold dR;simp only[Addr.add_lit]
section
variable {P:Program}{n:Nat}{F:Fr}{A:World→Prop}{c:Ctx}{H:List ao}{ty:TypeId}{x y z:Operand}{v:Value}
theorem Ev.of_run {op:Op}(h:∀a w,Has n a F→A w→(execOp a.eval (bare op ty)).run P w= .ok (.value v) w):Ev P n F A op ty v:=
 λa w ha hw=>by rw[h a w ha hw];exact⟨rfl,rfl⟩
theorem Ev.move (hx:aZ F x v):Ev P n F A (.move x) ty v:= .of_run λa w ha _=>by simp[execOp,hx.eval ha]
theorem Ev.assign (hx:aZ F x v):Ev P n F A (.assign x) ty v:= .of_run λa w ha _=>by simp[execOp,hx.eval ha]
theorem Ev.and {p q:Bool}(hx:aZ F x (.bool p))(hy:p=true→aZ F y (.bool q)):Ev P n F A (.pick x y (.const (.bool false))) ty (.bool (p&&q)):= .of_run λa w ha _=>by
 cases p with
 |true=>simp only[execOp,hx.eval ha,(hy rfl).eval ha];simp[asBool]
 |false=>simp only[execOp,hx.eval ha];simp[asBool,Act.eval]
theorem Ev.or {p q:Bool}(hx:aZ F x (.bool p))(hy:(!p)=true→aZ F y (.bool q)):Ev P n F A (.pick x (.const (.bool true)) y) ty (.bool (p||q)):= .of_run λa w ha _=>by
 cases p with
 |true=>simp only[execOp,hx.eval ha];simp[asBool,Act.eval]
 |false=>simp only[execOp,hx.eval ha,(hy rfl).eval ha];simp[asBool]
theorem Ev.not {p:Bool}(hx:aZ F x (.bool p)){t:TypeId}:Ev P n F A (.unOp .not t x) ty (.bool (!p)):= .of_run λa w ha _=>by
 simp[execOp,hx.eval ha,Op.unary]
section ints
variable {k:IntKind}{i j:Int}{t u:TypeId}
theorem Ev.lss (hx:aZ F x (.int k i))(hy:aZ F y (.int k j)):Ev P n F A (.binOp .lss t x y u) ty (.bool (decide (i<j))):= .of_run λa w ha _=>by simp only[execOp,hx.eval ha,hy.eval ha];simp[go_sem]
theorem Ev.leq (hx:aZ F x (.int k i))(hy:aZ F y (.int k j)):Ev P n F A (.binOp .leq t x y u) ty (.bool (decide (i≤j))):= .of_run λa w ha _=>by simp only[execOp,hx.eval ha,hy.eval ha];simp[go_sem]
theorem Ev.gtr (hx:aZ F x (.int k i))(hy:aZ F y (.int k j)):Ev P n F A (.binOp .gtr t x y u) ty (.bool (decide (j<i))):= .of_run λa w ha _=>by simp only[execOp,hx.eval ha,hy.eval ha];simp[go_sem]
theorem Ev.geq (hx:aZ F x (.int k i))(hy:aZ F y (.int k j)):Ev P n F A (.binOp .geq t x y u) ty (.bool (decide (j≤i))):= .of_run λa w ha _=>by simp only[execOp,hx.eval ha,hy.eval ha];simp[go_sem]
theorem Ev.eql (hx:aZ F x (.int k i))(hy:aZ F y (.int k j)):Ev P n F A (.binOp .eql t x y u) ty (.bool (decide (i=j))):= .of_run λa w ha _=>by
 simp only[execOp,hx.eval ha,hy.eval ha];simp[go_sem]
 rfl
theorem Ev.neq (hx:aZ F x (.int k i))(hy:aZ F y (.int k j)):Ev P n F A (.binOp .neq t x y u) ty (.bool (!decide (i=j))):= .of_run λa w ha _=>by
 simp only[execOp,hx.eval ha,hy.eval ha];simp[go_sem]
 rfl
theorem Ev.ahB (hx:aZ F x (.int k i))(hy:aZ F y (.int k j)):Ev P n F A (.binOp .add t x y u) ty (.int k (k.wrap (i+j))):= .of_run λa w ha _=>by simp only[execOp,hx.eval ha,hy.eval ha];simp[go_sem,Op.intArith]
theorem Ev.ahC (hx:aZ F x (.int k i))(hy:aZ F y (.int k j)):Ev P n F A (.binOp .sub t x y u) ty (.int k (k.wrap (i-j))):= .of_run λa w ha _=>by simp only[execOp,hx.eval ha,hy.eval ha];simp[go_sem,Op.intArith]
theorem Ev.ahD (hx:aZ F x (.int k i))(hy:aZ F y (.int k j)):Ev P n F A (.binOp .mul t x y u) ty (.int k (k.wrap (i*j))):= .of_run λa w ha _=>by simp only[execOp,hx.eval ha,hy.eval ha];simp[go_sem,Op.intArith]
theorem sR {i:Int}(h: -9223372036854775808≤i∧i≤9223372036854775807):IntKind.i64.wrap i=i:=by
 simp only[IntKind.wrap,IntKind.bits,IntKind.signed]
 simp
 omega
theorem Ev.add (hx:aZ F x (iv i))(hy:aZ F y (iv j))(h: -9223372036854775808≤i+j∧i+j≤9223372036854775807):Ev P n F A (.binOp .add t x y u) ty (iv (i+j)):=by
 have:=Ev.ahB (P:=P) (n:=n) (A:=A) (ty:=ty) (t:=t) (u:=u) hx hy;rwa[sR h]at this
theorem Ev.sub (hx:aZ F x (iv i))(hy:aZ F y (iv j))(h: -9223372036854775808≤i-j∧i-j≤9223372036854775807):Ev P n F A (.binOp .sub t x y u) ty (iv (i-j)):=by
 have:=Ev.ahC (P:=P) (n:=n) (A:=A) (ty:=ty) (t:=t) (u:=u) hx hy;rwa[sR h]at this
theorem Ev.mul (hx:aZ F x (iv i))(hy:aZ F y (iv j))(h: -9223372036854775808≤i*j∧i*j≤9223372036854775807):Ev P n F A (.binOp .mul t x y u) ty (iv (i*j)):=by
 have:=Ev.ahD (P:=P) (n:=n) (A:=A) (ty:=ty) (t:=t) (u:=u) hx hy;rwa[sR h]at this
theorem Ev.abN (hx:aZ F x (.int k i))(hy:aZ F y (.int k j))(h:j≠0):Ev P n F A (.binOp .quo t x y u) ty (.int k (k.wrap (i.tdiv j))):= .of_run λa w ha _=>by simp only[execOp,hx.eval ha,hy.eval ha];simp[go_sem,Op.intDiv,h]
theorem Ev.ahE {k':IntKind}(hx:aZ F x (.int k i))(hy:aZ F y (.int k' j))(h:0≤j):Ev P n F A (.binOp .shl t x y u) ty (.int k (k.wrap (i*2^(min j.toNat k.bits)))):= .of_run λa w ha _=>by
 simp only[execOp,hx.eval ha,hy.eval ha];simp[go_sem,Op.shift,Int.not_lt.2 h]
theorem Ev.shr {k':IntKind}(hx:aZ F x (.int k i))(hy:aZ F y (.int k' j))(h:0≤j):Ev P n F A (.binOp .shr t x y u) ty (.int k (i.fdiv (2^(min j.toNat k.bits)))):= .of_run λa w ha _=>by
 simp only[execOp,hx.eval ha,hy.eval ha];simp[go_sem,Op.shift,Int.not_lt.2 h]
theorem Ev.sS {k':IntKind}{s d:TypeId}(hx:aZ F x (.int k i))(hs:(P.underlying s).isSome=true)(hd:P.underlying d=some (.int k')):Ev P n F A (.convert s d x) ty (.int k' (k'.wrap i)):= .of_run λa w ha _=>by
 obtain⟨d0,Mw⟩:=Option.isSome_iff_exists.mp hs
 simp[execOp,hx.eval ha,convert,run_underlying Mw,run_underlying hd,Conv.intToInt]
end ints
section strings
variable {s r:bI}{t u:TypeId}
theorem Ev.ND (hx:aZ F x (sv s))(hy:aZ F y (sv r)):Ev P n F A (.binOp .eql t x y u) ty (.bool (s==r)):= .of_run λa w ha _=>by simp only[execOp,hx.eval ha,hy.eval ha];simp[go_sem]
theorem Ev.W4 (hx:aZ F x (sv s))(hy:aZ F y (sv r)):Ev P n F A (.binOp .neq t x y u) ty (.bool (!(s==r))):= .of_run λa w ha _=>by simp only[execOp,hx.eval ha,hy.eval ha];simp[go_sem]
theorem Ev.NF {o:TypeId}(hx:aZ F x (sv s))(ht:P.underlying o=some .string):Ev P n F A (.call {callee:= .builtin .len,args:= #[x],argTypes:= #[o]}) ty (iv s.length):= .of_run λa w ha _=>by
 have h1:=run_len_string (P:=P) w o ty ⟨s.toArray⟩ ht
 simp[execOp,resolve,invoke,builtin,hx.eval ha,h1,goInt,ByteArray.size]
theorem Ev.Xf {k:Nat}{i:Int}{b:UInt8}(hx:aZ F x (sv s))(hy:aZ F y (iv i))(ht:P.underlying t=some .string)(hi:i=k)(hb:s[k]?=some b):
 Ev P n F A (.index t x y) ty (.int .u8 b.toNat):= .of_run λa w ha _=>by
 subst hi
 have iX:k<(⟨s.toArray⟩:ByteArray).size:=by simpa[ByteArray.size]using (eD.1 hb).1
 have h1:(⟨s.toArray⟩:ByteArray)[k]?=some b:=by
  rw[ByteArray.getElem?_lt' _ _ iX]
  have:=(eD.1 hb).2
  simpa[ByteArray.getElem_eq_getElem_data]using this
 simp[execOp,hx.eval ha,hy.eval ha,Instr.index,asIntOf,run_underlying ht,h1]
theorem Ev.CG {k:Nat}{i:Int}(hx:aZ F x (sv s))(hy:aZ F y (iv i))(ht:P.underlying t=some .string)(hi:i=k)(hb:k<s.length):
 Ev P n F A (.index t x y) ty (.int .u8 (s.getD k 0).toNat):=Ev.Xf hx hy ht hi (by simp[List.getD_eq_getElem?_getD,List.getElem?_eq_getElem hb])
theorem Ev.extract {vs:List Value}{i:Nat}(hx:aZ F x (.tuple vs.toArray))(hi:vs[i]?=some v):Ev P n F A (.extract x i) ty v:= .of_run λa w ha _=>by
 simp[execOp,hx.eval ha,Instr.extract,hi]
end strings
section slices
variable {α:Type}{R:Rp α}{xs:List α}{t:TypeId}
theorem eQ.aF {H:List ao}{ρ:Ro}{w:World}{d:df}(h:eQ c H ρ w)(hd:uI d H):d.f ρ:=dm.1 (h.dK _ hd.mem)
theorem eQ.sl {H:List ao}{ρ:Ro}{w:World}(h:eQ c H ρ w)(hd:sQ v H α R xs):(J.sl R v xs).f ρ:=dm.1 (h.dK _ hd.mem)
theorem Ev.fm {e:TypeId}[hd:sQ v H α R xs](hx:aZ F x v)(ht:P.underlying t=some (.slice e)):
 Ev P n F (Mm c H) (.call {callee:= .builtin .len,args:= #[x],argTypes:= #[t]}) ty (iv xs.length):= .of_run λa w ha hw=>by
 obtain⟨ρ,hm⟩:=hw.out;obtain⟨ad,cap,rfl,_⟩:=hm.sl hd
 simp[execOp,resolve,invoke,builtin,hx.eval ha,Builtin.len_,run_underlying ht,goInt]
theorem Ev.cZ {e:TypeId}{k:Nat}{i:Int}{kd:IntKind}[hd:sQ v H α R xs](hx:aZ F x v)(hy:aZ F y (.int kd i))(ht:P.underlying t=some (.slice e))(hs:(P.info? e).map (·.size)=some R.size)
 (hi:i=k) (hk:k<xs.length):Ev P n F (Mm c H) (.indexAddr t x y) ty (dR v R.size k 0):= .of_run λa w ha hw=>by
 obtain⟨ρ,hm⟩:=hw.out;obtain⟨ad,cap,rfl,_,_,_,h5⟩:=hm.sl hd
 rcases h5 with rfl|⟨b,off,C,e',fr,rfl,h6,h7⟩
 ·simp at hk
 ·obtain⟨inf,nb,gQ⟩:=dG.1 hs
  subst hi
  simp[execOp,hx.eval ha,hy.eval ha,Instr.indexAt,asIntOf,run_underlying ht,sizeOf,typeInfo,nb,gQ,hk,dS,Addr.add_lit]
theorem CH {H:List ao}{ρ:Ro}{w:World}(hm:eQ c H ρ w)(hd:sQ v H α R xs){k off:Nat}{x:α}(hk:xs[k]?=some x):
 ∃b o,dR v R.size k off= .pointer (some ⟨b,o,none⟩)∧∀j,off+j<R.size→w.cell? ⟨b,o+j,none⟩=(R.cells x)[off+j]?:=by
 obtain⟨ad,cap,rfl,_,_,_,h5⟩:=hm.sl hd
 rcases h5 with rfl|⟨b,o,C,e',fr,rfl,h6,h7⟩
 ·simp at hk
 ·refine⟨b,_,dS ..,λj hj=> ?_⟩
  have hg:=db R xs k (off+j) x hk hj
  rw[bh (hm.fits _ _ h6)]
  have iX:off+j<(R.cells x).length:=by rw[R.len];exact hj
  rw[bO iX]at hg⊢;rw[show o+(k*R.size+off)+j=o+(k*R.size+(off+j)) by omega];exact h7 _ _ hg
theorem uK {β:Type}(d:β){l:List β}{k:Nat}(h:k<l.length):l[k]?=some (l.getD k d):=by rw[ak,bO h];rfl
theorem Ev.ld1 {k off:Nat}{e:α}{d:TypeDesc}{u:Value}[hd:sQ v H α R xs](hx:aZ F x (dR v R.size k off))(hk:xs[k]?=some e)(ht:P.underlying t=some d)(jv:(match d with| .struct _| .array _ _=>False|_=>True))
 (hu:(R.cells e)[off]?=some u):Ev P n F (Mm c H) (.load t x) ty u:= .of_run λa w ha hw=>by
 obtain⟨ρ,hm⟩:=hw.out
 have ho:off<R.size:=by have:=(eD.1 hu).1;rwa[R.len]at this
 obtain⟨b,o,h1,h2⟩:=CH hm hd hk
 have h3:=h2 0 (by simpa using ho)
 simp only[Nat.add_zero]at h3
 rw[h1]at hx
 simp[execOp,hx.eval ha,Instr.loadAt,Instr.sureAddr,eM ht jv (h3.trans hu)]
theorem Ev.jj {k:Nat}{e:α}{d:TypeDesc}{L:List Value}[hd:sQ v H α R xs](hx:aZ F x (dR v R.size k 0))(hk:xs[k]?=some e)(ht:P.underlying t=some d)(jv:(match d with| .struct _| .array _ _=>True|_=>False))
 (hs:(P.info? t).map (·.size)=some R.size) (hL:R.cells e=L):Ev P n F (Mm c H) (.load t x) ty (.agg L.toArray):= .of_run λa w ha hw=>by
 obtain⟨ρ,hm⟩:=hw.out;obtain⟨b,o,h1,h2⟩:=CH hm hd hk (off:=0);subst hL;rw[h1]at hx
 have h4:=de (P:=P) (w:=w) (b:=b) (off:=o) (L:=R.cells e) ht jv (by rw[hs,R.len]) (λj u hj=>by
  have iX:=(eD.1 hj).1
  rw[R.len]at iX
  have:=h2 j (by omega)
  rw[gP]at this
  rw[this];exact hj)
 simp[execOp,hx.eval ha,Instr.loadAt,Instr.sureAddr,h4]
def bQ (P:Program)(s i:Nat):Option Nat:=
 match P.underlying s with
 |some (.struct fs)=>match fs[i]? with
  |some f=>match P.info? f.type with
   |some inf=>if inf.size=0 then none else some f.offset
   |none=>none
  |none=>none
 |_=>none
theorem ma {w:World}{s i o:Nat}{ad:Addr}(h:bQ P s i=some o):(Instr.fieldAt s (.pointer (some ad)) i).run P w= .ok (.pointer (some (ad.add o))) w:=by
 unfold bQ at h
 split at h
 ·rename_i fs hu
  split at h
  ·rename_i f hf
   split at h
   ·rename_i inf nb
    split at h
    ·simp at h
    ·rename_i hz
     simp only[Option.some.injEq]at h
     subst h
     simp[Instr.fieldAt,run_underlying hu,hf,Instr.sureAddr,fieldPlace,sizeOf,typeInfo,nb,hz]
   ·simp at h
  ·simp at h
 ·simp at h
theorem Ev.JR {k off o i:Nat}{s:TypeId}[hd:sQ v H α R xs](hx:aZ F x (dR v R.size k off))(hk:k<xs.length)(ho:bQ P s i=some o):Ev P n F (Mm c H) (.fieldAddr s x i) ty (dR v R.size k (off+o)):= .of_run λa w ha hw=>by
 obtain⟨ρ,hm⟩:=hw.out;obtain⟨ad,cap,rfl,_,_,_,h5⟩:=hm.sl hd
 rcases h5 with rfl|⟨b,of,C,e',fr,rfl,h6,h7⟩
 ·simp at hk
 ·rw[dS]at hx
  simp[execOp,hx.eval ha,ma ho,dS,Addr.add_lit,Nat.add_assoc]
end slices
section blocks
variable {t:TypeId}{b off:Nat}{C:Array Value}{e:TypeId}{fr:Nat×Nat}
theorem Ev.Xg {o i:Nat}{s:TypeId}(hx:aZ F x (.pointer (some ⟨b,off,none⟩)))(ho:bQ P s i=some o):Ev P n F A (.fieldAddr s x i) ty (.pointer (some ⟨b,off+o,none⟩)):= .of_run λa w ha hw=>by
 simp[execOp,hx.eval ha,ma ho,Addr.add_lit]
theorem Ev.dB {o i:Nat}{s:TypeId}(hx:aZ F x (.pointer (some ⟨b,0,none⟩)))(ho:bQ P s i=some o):Ev P n F A (.fieldAddr s x i) ty (.pointer (some ⟨b,o,none⟩)):=by
 have:=Ev.Xg (P:=P) (n:=n) (A:=A) (ty:=ty) hx ho
 rwa[gP]at this
theorem Ev.kU {d:TypeDesc}{u:Value}{L:List Value}[hb:Az b H (.cells L.toArray e fr)](hx:aZ F x (.pointer (some ⟨b,off,none⟩)))(ht:P.underlying t=some d)(jv:(match d with| .struct _| .array _ _=>False|_=>True))
 (hu:L[off]?=some u):Ev P n F (Mm c H) (.load t x) ty u:= .of_run λa w ha hw=>by
 obtain⟨ρ,hm⟩:=hw.out
 have h1:=ep.1 (hm.dK _ hb.mem)
 have h2:w.cell? ⟨b,off,none⟩=some u:=by rw[bh h1];simpa using hu
 simp[execOp,hx.eval ha,Instr.loadAt,Instr.sureAddr,eM ht jv h2]
theorem Ev.Xh {d:TypeDesc}{L:List Value}[hb:Az b H (.cells L.toArray e fr)](hx:aZ F x (.pointer (some ⟨b,0,none⟩)))(ht:P.underlying t=some d)(jv:(match d with| .struct _| .array _ _=>True|_=>False))
 (hs:(P.info? t).map (·.size)=some L.length):Ev P n F (Mm c H) (.load t x) ty (.agg L.toArray):= .of_run λa w ha hw=>by
 obtain⟨ρ,hm⟩:=hw.out
 have h1:=ep.1 (hm.dK _ hb.mem)
 have h4:=de (P:=P) (w:=w) (b:=b) (off:=0) (L:=L) ht jv hs (λj u hj=>by rw[bh h1];simpa using hj)
 simp[execOp,hx.eval ha,Instr.loadAt,Instr.sureAddr,h4]
end blocks
def bF (F:Fr):List Operand→List Value→Prop
 | [],[]=>True
 |x::xs,v::vs=>aZ F x v∧bF F xs vs
 |_,_=>False
theorem bF.nil:bF F [] []:=trivial
theorem bF.cons {xs:List Operand}{vs:List Value}(h:aZ F x v)(k:bF F xs vs):bF F (x::xs) (v::vs):=⟨h,k⟩
theorem bF.eval {a:Act}(ha:Has n a F):∀{xs:List Operand} {vs:List Value},bF F xs vs→xs.map a.eval=vs
 | [],[],_=>rfl
 |x::xs,v::vs,h=>by rw[eW,h.1.eval ha,bF.eval ha h.2]
theorem Ev.build {t:TypeId}{ps:List (Nat×Operand)}{vs:List Value}(hp:bF F (ps.map (·.2)) vs)(hr:∀w,(Instr.build t ((ps.map (·.1)).zip vs).toArray).run P w= .ok v w):Ev P n F A (.build t ps.toArray) ty v:= .of_run λa w ha _=>by
 have h1:ps.map (λp=>(p.1,a.eval p.2))=(ps.map (·.1)).zip vs:=by
  rw[←bF.eval ha hp]
  clear hp hr
  induction ps with
  |nil=>rfl
  |cons p ps ih=>simp[ih]
 have h2:(ps.toArray.map λ(i,x)=>(i,a.eval x))=((ps.map (·.1)).zip vs).toArray:=by
  rw[←h1];simp
 simp only[execOp,h2,Sem.run_bind,hr,Result.andThen_ok,Sem.run_pure]
theorem CI {f : FuncId} {args : Array Value} {w : World} {fn : Func} (hf : P.funcs[f]? = some fn) (hb : fn.body.isSome = true) (hn : (fn.name == "runtime.NumGoroutine") = false) : (callFunc f args).run P w = .ok (.enter f args) w := by
 unfold callFunc
 simp[hf]
 cases hbb:fn.body with
 |none=>simp[hbb]at hb
 |some cd=>simpa using hn
end
theorem eQ.A4 {c:Ctx}{H:List ao}{ρ:Ro}{w w':World}{E:ao}(h:eQ c H ρ w)(hos:w'.os=w.os)(ht:w'.tape=w.tape∧w.drawn≤w'.drawn)(ho:w'.output=w.output)(hs:w.heap.size≤w'.heap.size)
 (hk:∀k,k<w.heap.size→w'.heap[k]?=w.heap[k]?) (hE:E.ok ρ w') (CJ:∀b,E.key=some b→w.heap.size≤b):eQ c (E::H) ρ w':=by
 have h':eQ c ([]++H) ρ w:=h
 refine eQ.step (H2:=[E]) h' ⟨hos,⟨ht.1,λ_=>ht.2⟩,ho,hs,λk jv _=>hk k jv,λk o hr=> ?_,Ro.le_refl _,λ_ _ _=>rfl,?_,?_,?_⟩
 ·rw[hk k (h.xS hr)];exact h.fits k o hr
 ·intro E' A3;simp at A3;subst A3;exact hE
 ·intro E' A3 b hb
  simp at A3;subst A3
  refine⟨?_,.inl (CJ b hb)⟩
  cases hr:ρ b with
  |none=>rfl
  |some o=>have h1:=h.xS hr;have h2:=CJ b hb;omega
 ·exact Dy ..
theorem eQ.alter {c:Ctx}{H:List ao}{ρ:Ro}{w w':World}{E E':ao}(h:eQ c (E::H) ρ w)(hos:w'.os=w.os)(ht:w'.tape=w.tape∧w.drawn≤w'.drawn)(ho:w'.output=w.output)(hs:w.heap.size≤w'.heap.size)
 (hk:∀k,k<w.heap.size→E.key≠some k→w'.heap[k]?=w.heap[k]?) (hE:E'.ok ρ w') (CJ:∀b,E'.key=some b→E.key=some b∨w.heap.size≤b):eQ c (E'::H) ρ w':=by
 have h':eQ c ([E]++H) ρ w:=h
 refine eQ.step (H2:=[E']) h' ⟨hos,⟨ht.1,λ_=>ht.2⟩,ho,hs,λk jv rf=>hk k jv (λe=>rf ⟨E,by simp,e⟩),λk o hr=> ?_,Ro.le_refl _,λ_ _ _=>rfl,?_,?_,?_⟩
 ·rw[hk k (h.xS hr)]
  ·exact h.fits k o hr
  ·intro e
   have:=(h.own E (by simp) k e).1
   rw[hr]at this;cases this
 ·intro E'' H0;simp at H0;subst H0;exact hE
 ·intro E'' H0 b hb
  simp at H0;subst H0
  rcases CJ b hb with h1|h1
  ·exact⟨(h.own E (by simp) b h1).1,.inr ⟨E,by simp,h1⟩⟩
  ·refine⟨?_,.inl h1⟩
   cases hr:ρ b with
   |none=>rfl
   |some o=>have:=h.xS hr;omega
 ·exact Dy ..
theorem eQ.alloc {c:Ctx}{H:List ao}{ρ:Ro}{w:World}(h:eQ c H ρ w)(o:Obj):eQ c (aX w.heap.size o::H) ρ (w.alloc o):=
 h.A4 rfl ⟨rfl,aW _⟩ rfl (by simp) (λk hk=>RowKit.Below.heap_alloc w _ k hk) (ep.2 (heap_alloc_new w o)) (λb hb=>by rw[gY]at hb;simp at hb;omega)
class E6 (L:List Value)(off:Nat)(v:Value)(L':outParam (List Value)):Prop where
 eq:L.set off v=L'
instance E6.here (x:Value)(L:List Value)(v:Value):E6 (x::L) 0 v (v::L):=⟨rfl⟩
instance E6.there (x:Value)(L:List Value)(v:Value)(k:Nat)(L':List Value)[h:E6 L k v L']:E6 (x::L) (k+1) v (x::L'):=⟨by rw[vd,h.eq]⟩
class wH (v:Value)(H:List ao)(e:outParam TypeId)(size n:outParam Nat)(cs:outParam (List Value)):Prop where
 mem:row v e size n cs∈H
instance (priority:=high) wH.here (v:Value)(e:TypeId)(size n:Nat)(cs:List Value)(H:List ao):wH v (row v e size n cs::H) e size n cs:=⟨aU ..⟩
instance wH.there (v:Value)(e:TypeId)(size n:Nat)(cs:List Value)(E:ao)(H:List ao)[h:wH v H e size n cs]:wH v (E::H) e size n cs:=⟨cE _ h.mem⟩
theorem bT (C:Array Value):(Value.agg C).cells=C:=rfl
theorem cells_one {v:Value}(h:v.oneCell'=true):v.cells= #[v]:=by
 cases v<;>first|rfl|simp[Value.oneCell']at h
section
variable {P:Program}{n:Nat}{F:Fr}{A:World→Prop}{c:Ctx}{H R:List ao}{ty:TypeId}{x y z:Operand}{v:Value}{Q:Exit→Act→World→Prop}{ops:Array Oper}{rest:List Oper}
 {d:Nat} {pos:String} {after:Array Edge} {t e:TypeId}
theorem St.alloc {Z:Array Value}(hz:(P.info? t).bind (λi=>i.zero.map Value.cells)=some Z)(hd:Nat.ble (d+1) n=true)
 (h:∀b,St n ((d,.pointer (some ⟨b,0,none⟩))::F) (Mm c (aX b (.cells Z t (0,0))::H)) (wpList P ops Q rest)):
 St n F (Mm c H) (wpList P ops Q ({dst:=some d,op:= .alloc t,type:=ty,pos:=pos,after:=after,guard:=none}::rest)):=by
 refine St.SA (K:=λu H'=>∃b,u= .pointer (some ⟨b,0,none⟩)∧H'=aX b (.cells Z t (0,0))::H) ?_ hd ?_
 ·intro a w ρ ha hm
  obtain⟨i,hi,hz'⟩:=oT.1 hz;obtain⟨zv,Xi,rfl⟩:=dG.1 hz';refine⟨.value (.pointer (some ⟨w.heap.size,0,none⟩)),w.alloc (.cells zv.cells t),ρ,_,?_,⟨_,.inl rfl,_,rfl,rfl⟩,hm.alloc _⟩
  simp[execOp,Instr.alloc,zeroValue,typeInfo,hi,Xi,newVar,newRow]
 ·rintro _ _ ⟨b,rfl,rfl⟩
  exact h b
theorem St.NG (hx:aZ F x v)(h1:v.oneCell'=true)(hd:Nat.ble (d+1) n=true)
 (h:∀b,St n ((d,.pointer (some ⟨b,0,none⟩))::F) (Mm c (aX b (.cells #[v] t (0,0))::H)) (wpList P ops Q rest)):
 St n F (Mm c H) (wpList P ops Q ({dst:=some d,op:= .box t x,type:=ty,pos:=pos,after:=after,guard:=none}::rest)):=by
 refine St.SA (K:=λu H'=>∃b,u= .pointer (some ⟨b,0,none⟩)∧H'=aX b (.cells #[v] t (0,0))::H) ?_ hd ?_
 ·intro a w ρ ha hm
  refine⟨.value (.pointer (some ⟨w.heap.size,0,none⟩)),w.alloc (.cells #[v] t),ρ,_,?_,⟨_,.inl rfl,_,rfl,rfl⟩,hm.alloc _⟩
  simp[execOp,Instr.box,hx.eval ha,newVar,newRow,cells_one h1]
 ·rintro _ _ ⟨b,rfl,rfl⟩
  exact h b
theorem St.cz {L:List Value}(hx:aZ F x (.agg L.toArray))(hd:Nat.ble (d+1) n=true)
 (h:∀b,St n ((d,.pointer (some ⟨b,0,none⟩))::F) (Mm c (aX b (.cells L.toArray t (0,0))::H)) (wpList P ops Q rest)):
 St n F (Mm c H) (wpList P ops Q ({dst:=some d,op:= .box t x,type:=ty,pos:=pos,after:=after,guard:=none}::rest)):=by
 refine St.SA (K:=λu H'=>∃b,u= .pointer (some ⟨b,0,none⟩)∧H'=aX b (.cells L.toArray t (0,0))::H) ?_ hd ?_
 ·intro a w ρ ha hm
  refine⟨.value (.pointer (some ⟨w.heap.size,0,none⟩)),w.alloc (.cells L.toArray t),ρ,_,?_,⟨_,.inl rfl,_,rfl,rfl⟩,hm.alloc _⟩
  simp[execOp,Instr.box,hx.eval ha,newVar,newRow,Value.cells]
 ·rintro _ _ ⟨b,rfl,rfl⟩
  exact h b
theorem mc {w:World}{b off:Nat}{C:Array Value}{v:Value}(h:w.heap[b]?=some (.cells C e (0,0))):(w.setCell ⟨b,off,none⟩ v).heap[b]?=some (.cells (C.setIfInBounds off v) e (0,0)):=by
 simp[World.setCell,Array.getElem?_modify,h]
theorem St.cO {b off:Nat}{L L':List Value}[tk:lY b H (.cells L.toArray e (0,0)) R](hx:aZ F x (.pointer (some ⟨b,off,none⟩)))(hy:aZ F y v)[sl:E6 L off v L'](hs:(P.info? t).map (·.size)=some 1)(h1:v.oneCell'=true)
 (xU:Nat.ble (off+1) L.length=true) (h:St n F (Mm c (aX b (.cells L'.toArray e (0,0))::R)) (wpList P ops Q rest)):
 St n F (Mm c H) (wpList P ops Q ({dst:=none,op:= .store t x y,type:=ty,pos:=pos,after:=after,guard:=none}::rest)):=by
 refine St.oU (K:=λu H'=>H'=aX b (.cells L'.toArray e (0,0))::R) ?_ ?_
 ·intro a w ρ ha hm
  have jc:=hm.perm tk.perm
  have hb:=ep.1 (jc.dK _ (aU ..))
  have ho:=eX xU
  have hc:w.cell? ⟨b,off,none⟩=some L[off]:=by rw[bh hb];simp
  have hf:w.frozen? ⟨b,off,none⟩=false:=by simp[World.frozen?,hb]
  obtain⟨i,hi,gQ⟩:=dG.1 hs;refine⟨.skip,w.setCell ⟨b,off,none⟩ v,ρ,_,?_,⟨_,.inr ⟨rfl,rfl⟩,rfl⟩,?_⟩
  ·simp[execOp,hx.eval ha,hy.eval ha,Instr.storeAt,Instr.sureAddr,storeVar,sizeOf,typeInfo,hi,gQ,cells_one h1,storeCells,run_store P w _ v _ h1,hc,hf,Addr.add_zero']
  ·refine jc.alter rfl ⟨rfl,aW _⟩ rfl (by simp) (λk hk fP=> ?_) (ep.2 ?_) (λb' jZ=>by rw[gY]at jZ⊢;exact .inl jZ)
   ·rw[gY]at fP
    simp only[World.setCell,Array.getElem?_modify]
    rw[aA (λe=>fP (by rw[e]))]
   ·rw[mc hb,←sl.eq]
    simp
 ·rintro _ _ rfl
  exact h
theorem St.NH {b:Nat}{L L':List Value}[tk:lY b H (.cells L.toArray t (0,0)) R](hx:aZ F x (.pointer (some ⟨b,0,none⟩)))(hy:aZ F y (.agg L'.toArray))(hs:(P.info? e).map (·.size)=some L'.length)(hl:L.length=L'.length)
 (h1:L'.all (·.oneCell')=true) (h:St n F (Mm c (aX b (.cells L'.toArray t (0,0))::R)) (wpList P ops Q rest)):
 St n F (Mm c H) (wpList P ops Q ({dst:=none,op:= .store e x y,type:=ty,pos:=pos,after:=after,guard:=none}::rest)):=by
 refine St.oU (K:=λu H'=>H'=aX b (.cells L'.toArray t (0,0))::R) ?_ ?_
 ·intro a w ρ ha hm
  have jc:=hm.perm tk.perm
  have hb:=ep.1 (jc.dK _ (aU ..))
  have hr:=run_storeVar_row (P:=P) w b t e L.toArray L'.toArray hb (by simpa using hs) (by simpa using hl) (by simpa using h1)
  refine⟨.skip,w.setRow b L'.toArray,ρ,_,?_,⟨_,.inr ⟨rfl,rfl⟩,rfl⟩,?_⟩
  ·simp[execOp,hx.eval ha,hy.eval ha,Instr.storeAt,Instr.sureAddr,hr]
  ·refine jc.alter rfl ⟨rfl,aW _⟩ rfl (by simp) (λk hk fP=> ?_) (ep.2 ?_) (λb' jZ=>by rw[gY]at jZ⊢;exact .inl jZ)
   ·rw[gY]at fP
    exact setRow_other w b k _ (λe=>fP (by rw[e]))
   ·exact setRow_heap w b L.toArray L'.toArray t _ hb
 ·rintro _ _ rfl
  exact h
theorem Ev.func {f:FuncId}{cs:List Operand}{vs:List Value}(hc:bF F cs vs):Ev P n F A (.makeFunc (.func f) #[] cs.toArray) ty (.func (.func f) #[] vs.toArray):= .of_run λa w ha _=>by
 have:=bF.eval ha hc
 simp[execOp,Instr.makeFunc,this]
theorem E7 (size:Nat):∀(vs:List Value) (k:Nat) (pre post:List Value),pre.length=k*size→(∀u∈vs,u.cells.size=size)→post.length=vs.length*size→
 Instr.fill (λi=>some (i*size,size)) (pre++post).toArray ((vs.zipIdx k).map λp=>(p.2,p.1))=some (pre++vs.flatMap λu=>u.cells.toList).toArray
 | [],k,pre,post,_,_,hp=>by
  have:post=[]:=kf (by simpa using hp)
  subst this
  simp[Instr.fill]
 |u::vs,k,pre,post,ahF,hu,abO=>by
  have hu1:=hu u (by simp)
  have hlen:post.length=size+vs.length*size:=by rw[abO,dy,lW];omega
  have ahG:∀(l:List Value) (m:Nat) (Z:List Value),m+l.length≤Z.length→((l.zipIdx m).foldl (λcs p=>cs.setIfInBounds (k*size+p.2) p.1) (pre++Z).toArray)=(pre++(Z.take m++l++Z.drop (m+l.length))).toArray:=by
   intro l
   induction l with
   |nil=>intro m Z _;simp
   |cons y l ih=>
    intro m Z hZ
    simp only[List.length_cons]at hZ
    simp only[List.zipIdx_cons,List.foldl_cons]
    have e1:(pre++Z).toArray.setIfInBounds (k*size+m) y=(pre++Z.set m y).toArray:=by
     simp only[List.setIfInBounds_toArray]
     rw[kn _ _ (by omega)]
     congr 2
     rw[show k*size+m-pre.length=m by omega]
    rw[e1,ih (m+1) (Z.set m y) (by simp;omega)]
    congr 2
    simp only[List.length_cons]
    rw[List.drop_set_of_lt (by omega),show m+1+l.length=m+(l.length+1) by omega];rw[List.take_set]
    have:(Z.take (m+1)).set m y=Z.take m++ [y]:=by
     rw[JO (by omega),kn _ _ (by simp[Nat.min_le_left])]
     simp[show min m Z.length=m by omega]
    rw[this]
    simp
  simp only[List.zipIdx_cons,List.map_cons,Instr.fill]
  have hb:¬(u.cells.size≠size∨(pre++post).toArray.size<k*size+u.cells.size):=by simp;omega
  have jZ:((decide (u.cells.size≠size))||decide (k*size+u.cells.size>(pre++post).toArray.size))=false:=by
   simp;omega
  simp only[jZ,Bool.false_eq_true,if_false]
  have hf:=ahG u.cells.toList 0 post (by simp;omega)
  have hz:u.cells.zipIdx.foldl (λcs (c,j)=>cs.setIfInBounds (k*size+j) c) (pre++post).toArray=(pre++(u.cells.toList++post.drop size)).toArray:=by
   rw[←Array.foldl_toList]
   simp only[Array.toList_zipIdx]
   rw[hf]
   simp[hu1]
  rw[hz,←cg]
  have ih:=E7 size vs (k+1) (pre++u.cells.toList) (post.drop size) (by simp[hu1,ahF,Nat.add_mul]) (λx hx=>hu x (by simp[hx])) (by simp;omega)
  rw[ih]
  simp
theorem St.Sk {size:Nat}{xs:List Operand}{vs:List Value}{ps:List (Nat×Operand)}{zv:Value}(hp:ps=xs.zipIdx.map λp=>(p.2,p.1))(hx:bF F xs vs)(ht:P.underlying t=some (.slice e))(hs:(P.info? e).map (·.size)=some size)
 (hz:(P.info? e).bind (·.zero)=some zv) (nc:Nat.ble 1 size=true) (hlen:Nat.ble (vs.length*size) 16777216=true) (kq:∀u∈vs,u.cells.size=size) (hd:Nat.ble (d+1) n=true)
 {m:Nat} (hm:m=vs.length)
 (h:∀b,St n ((d,.slice (some ⟨b,0,none⟩) m m)::F) (Mm c (row (.slice (some ⟨b,0,none⟩) m m) e size m (vs.flatMap λu=>u.cells.toList)::H)) (wpList P ops Q rest)):
 St n F (Mm c H) (wpList P ops Q ({dst:=some d,op:= .buildSlice t m ps.toArray,type:=ty,pos:=pos,after:=after,guard:=none}::rest)):=by
 subst hm;refine St.SA (K:=λu H'=>∃b,u= .slice (some ⟨b,0,none⟩) vs.length vs.length∧H'=row (.slice (some ⟨b,0,none⟩) vs.length vs.length) e size vs.length (vs.flatMap λu=>u.cells.toList)::H) ?_ hd ?_
 ·intro a w ρ ha nD
  have hle:=eX hlen
  have hxv:=bF.eval ha hx
  have wI:xs.length=vs.length:=by rw[←hxv,aQ]
  obtain⟨i,hi,gQ⟩:=dG.1 hs
  have hzi:i.zero=some zv:=by rw[hi]at hz;simpa using hz
  have NI:(vs.flatMap λu=>u.cells.toList).length=vs.length*size:=by
   clear hx hxv wI hle hlen h
   induction vs with
   |nil=>simp
   |cons u vs ih=>
    simp only[List.flatMap_cons,List.length_append,List.length_cons,Nat.add_mul]
    rw[ih (λx hx=>kq x (by simp[hx]))]
    have:=kq u (by simp)
    simp[this];omega
  have H6:(ps.toArray.map λ(i,x)=>(i,a.eval x)).toList=(vs.zipIdx).map λp=>(p.2,p.1):=by
   subst hp;rw[←hxv]
   simp[List.zipIdx_map,Function.comp_def]
  refine⟨.value (.slice (some ⟨w.heap.size,0,none⟩) vs.length vs.length),w.alloc (.cells (vs.flatMap λu=>u.cells.toList).toArray e),ρ,_,?_,⟨_,.inl rfl,_,rfl,rfl⟩,?_⟩
  ·by_cases h0:vs.length*size=0
   ·have hv0:vs=[]:=by
     rcases Nat.mul_eq_zero.1 h0 with h1|h1
     ·exact kf h1
     ·have:=eX nc;omega
    rw[hv0]at H6⊢
    simp only[execOp,Instr.buildSlice,Sem.run_bind,run_underlying ht,Result.andThen_ok,sizeOf,typeInfo,Sem.run_pure,H6,run_program,hi,gQ]
    simp[Instr.fill,newRow,Array.range_zero']
   ·obtain⟨z,hzz⟩:∃z:List Value,((Array.range (vs.length*size)).map (zv.cells[· %zv.cells.size]!))=z.toArray:=⟨_,(Array.toArray_toList).symm⟩
    have hzl:z.length=vs.length*size:=by have:=congrArg Array.size hzz;simpa using this.symm
    have hf:=E7 size vs 0 [] z (by simp) kq hzl
    simp only[List.nil_append]at hf
    have k9:¬vs.length*size>2^24:=by simp;omega
    simp only[execOp,Instr.buildSlice,Sem.run_bind,run_underlying ht,Result.andThen_ok,sizeOf,typeInfo,Sem.run_pure,H6,run_program,hi,gQ,zeroValue,hzi,k9,h0,if_false,hzz,Sem.run_ite]
    simp[hf,newRow]
  ·refine nD.A4 rfl ⟨rfl,aW _⟩ rfl (by simp) (λk hk=>RowKit.Below.heap_alloc w _ k hk) (dZ.2 ⟨NI,.inr ⟨w.heap.size,vs.length,_,rfl,aR _,heap_alloc_new w _,aW _,?_,?_,?_⟩⟩) ?_
   ·have:vs.length≤vs.length*size:=Nat.le_mul_of_pos_right _ (eX nc)
    unfold maxLen;omega
   ·rw[List.size_toArray,NI]
   ·rw[←NI,jy]
   ·intro b hb;rw[dV]at hb;simp[Value.ownBlock]at hb;omega
 ·rintro _ _ ⟨b,rfl,rfl⟩
  exact h b
def aJ (P : Program) (f : FuncId) : Prop := ∃ fn, P.funcs[f]? = some fn ∧ fn.body.isSome = true ∧ (fn.name == "runtime.NumGoroutine") = false
theorem aJ.run {f:FuncId}(h:aJ P f){args:Array Value}{w:World}:(callFunc f args).run P w= .ok (.enter f args) w:=
 let⟨_,h1,h2,h3⟩:=h;CI h1 h2 h3
theorem Mm.B3 {dr:Prop}{f:FuncId}{args:Array Value}{pre R:List ao}{post:Value→List ao→Prop}(hc:H3 dr P f args pre post)(lf:c.dr→dr){w:World}(hm:Mm c (pre++R) w):
 Calls P f args w λe w'=>∃v H',e= .returned v∧post v H'∧Mm c (H'++R) w':=by
 obtain⟨ρ,hm⟩:=hm.out;refine(hc w ρ hm.start).mono ?_;rintro e w' ⟨v,H',he,hp,jc⟩;obtain⟨mY,jc⟩:=jc.out;exact⟨v,H',he,hp,Mm.mk (hm.step (jc.dr lf))⟩
theorem Mm.call {f:FuncId}{args:Array Value}{pre R:List ao}{post:Value→List ao→Prop}(hc:dt P f args pre post){w:World}(hm:Mm c (pre++R) w):
 Calls P f args w λe w'=>∃v H',e= .returned v∧post v H'∧Mm c (H'++R) w':=Mm.B3 hc.gen (λ_=>trivial) hm
theorem Mm.ng {ds:List df}[hd:nZ ds H]{w:World}(hm:Mm c H w):Mm c (ds.map aF++H) w:=
 let⟨_,k⟩:=hm.out;Mm.mk (k.E4 ds λd h=>dm.1 (k.dK _ (hd.mem d h)))
theorem lK {f:FuncId}{xs:List Operand}{pG:Array TypeId}{vs caps:List Value}(nh:aJ P f)(hx:bF F (x::xs) (.func (.func f) #[] caps.toArray::vs)){a:Act}(ha:Has n a F)(w:World):
 (execOp a.eval (bare (.call {callee:= .value x,args:=xs.toArray,argTypes:=pG}) ty)).run P w= .ok (.enter f (vs++caps).toArray) w:=by
 have h1:=hx.1.eval ha
 have h2:=bF.eval ha hx.2
 simp only[execOp,resolve,h1,Deferred.ofValue,Sem.run_bind,Sem.run_pure,Result.andThen_ok,invoke]
 have e:(#[]++xs.toArray.map a.eval++caps.toArray)=(vs++caps).toArray:=by simp[h2]
 rw[e];exact nh.run
theorem Ev.call {f:FuncId}{xs:List Operand}{pG:Array TypeId}{vs:List Value}{ds:List df}(hc:dA P f vs.toArray ds v)(nh:aJ P f)(hx:bF F xs vs)[hd:nZ ds H]:
 Ev P n F (Mm c H) (.call {callee:= .value (.func f),args:=xs.toArray,argTypes:=pG}) ty v:=by
 intro a w ha hw;rw[lK (caps:=[]) nh (bF.cons (aZ.mk rfl) hx) ha w]
 simp only[List.append_nil,Oper.quietUpon,true_and]
 refine(Mm.call hc hw.ng).mono ?_;rintro e w' ⟨u,H',rfl,rfl,hm⟩;refine⟨rfl,?_⟩;obtain⟨ρ,hm⟩:=hm.out;exact Mm.mk ((hm.perm jJ).left)
theorem Ev.ni {f:FuncId}{xs:List Operand}{pG:Array TypeId}{vs:List Value}{ds:List df}(lf:¬c.dr)(hc:iz P f vs.toArray ds v)(nh:aJ P f)(hx:bF F xs vs)[hd:nZ ds H]:
 Ev P n F (Mm c H) (.call {callee:= .value (.func f),args:=xs.toArray,argTypes:=pG}) ty v:=by
 intro a w ha hw;rw[lK (caps:=[]) nh (bF.cons (aZ.mk rfl) hx) ha w]
 simp only[List.append_nil,Oper.quietUpon,true_and]
 refine(Mm.B3 hc (λh=>absurd h lf) hw.ng).mono ?_;rintro e w' ⟨u,H',rfl,rfl,hm⟩;refine⟨rfl,?_⟩;obtain⟨ρ,hm⟩:=hm.out;exact Mm.mk ((hm.perm jJ).left)
theorem Ev.j5 {f:FuncId}{xs:List Operand}{pG:Array TypeId}{vs caps:List Value}{ds:List df}(hc:dA P f (vs++caps).toArray ds v)(nh:aJ P f)(hf:aZ F x (.func (.func f) #[] caps.toArray))(hx:bF F xs vs)[hd:nZ ds H]:
 Ev P n F (Mm c H) (.call {callee:= .value x,args:=xs.toArray,argTypes:=pG}) ty v:=by
 intro a w ha hw;rw[lK nh (bF.cons hf hx) ha w]
 simp only[Oper.quietUpon,true_and]
 refine(Mm.call hc hw.ng).mono ?_;rintro e w' ⟨u,H',rfl,rfl,hm⟩;refine⟨rfl,?_⟩;obtain⟨ρ,hm⟩:=hm.out;exact Mm.mk ((hm.perm jJ).left)
theorem iE {f:FuncId}{xs:List Operand}{pG:Array TypeId}{vs caps:List Value}(nh:aJ P f)(hx:bF F (x::xs) (.func (.func f) #[] caps.toArray::vs)){a:Act}(ha:Has n a F)(w:World){K:Act→World→Prop}
 {dd:Option Tmp} {g:Option (Nat×Bool)}
 (hk:Calls P f (vs++caps).toArray w λe w'=>∃v,e= .returned v∧K (a.put dd v) w'):
 ({dst:=dd,op:= .call {callee:= .value x,args:=xs.toArray,argTypes:=pG},type:=ty,pos:=pos,after:=after,guard:=g}:Oper).wp P a w K Q:=by
 unfold Oper.wp Oper.upon;rw[fa,lK nh hx ha w]
 exact hk.mono λe w' ⟨v,he,h⟩=>by subst he;exact h
theorem St.call {f:FuncId}{xs:List Operand}{pG:Array TypeId}{vs:List Value}{pre R:List ao}{post:Value→List ao→Prop}(hc:dt P f vs.toArray pre post)(nh:aJ P f)(hx:bF F xs vs)(hd:Nat.ble (d+1) n=true)[tk:eE pre H R]
 (h:∀v H',post v H'→St n ((d,v)::F) (Mm c (H'++R)) (wpList P ops Q rest)):
 St n F (Mm c H) (wpList P ops Q ({dst:=some d,op:= .call {callee:= .value (.func f),args:=xs.toArray,argTypes:=pG},type:=ty,pos:=pos,after:=after,guard:=none}::rest)):=by
 intro a w ha hw;refine gD rfl (iE (caps:=[]) nh (bF.cons (aZ.mk rfl) hx) ha w ?_)
 simp only[List.append_nil]
 refine(Mm.call hc (hw.take (L:=pre))).mono ?_;rintro e w' ⟨u,H',rfl,hp,hm⟩;exact⟨u,rfl,h u H' hp _ w' (ha.put (eX hd) u) hm⟩
theorem St.fE {f:FuncId}{xs:List Operand}{pG:Array TypeId}{vs:List Value}{ds:List df}{post:Value→List ao→Prop}(hc:dt P f vs.toArray (ds.map aF) post)(nh:aJ P f)(hx:bF F xs vs)(hd:Nat.ble (d+1) n=true)[hds:nZ ds H]
 (h:∀v H',post v H'→St n ((d,v)::F) (Mm c (H'++H)) (wpList P ops Q rest)):
 St n F (Mm c H) (wpList P ops Q ({dst:=some d,op:= .call {callee:= .value (.func f),args:=xs.toArray,argTypes:=pG},type:=ty,pos:=pos,after:=after,guard:=none}::rest)):=by
 intro a w ha hw;refine gD rfl (iE (caps:=[]) nh (bF.cons (aZ.mk rfl) hx) ha w ?_)
 simp only[List.append_nil]
 refine(Mm.call hc (hw.ng (ds:=ds))).mono ?_;rintro e w' ⟨u,H',rfl,hp,hm⟩;exact⟨u,rfl,h u H' hp _ w' (ha.put (eX hd) u) hm⟩
theorem St.pe {f:FuncId}{xs:List Operand}{pG:Array TypeId}{vs:List Value}{ds:List df}{post:Value→List ao→Prop}(lf:¬c.dr)(hc:xT P f vs.toArray (ds.map aF) post)(nh:aJ P f)(hx:bF F xs vs)(hd:Nat.ble (d+1) n=true)[hds:nZ ds H]
 (h:∀v H',post v H'→St n ((d,v)::F) (Mm c (H'++H)) (wpList P ops Q rest)):
 St n F (Mm c H) (wpList P ops Q ({dst:=some d,op:= .call {callee:= .value (.func f),args:=xs.toArray,argTypes:=pG},type:=ty,pos:=pos,after:=after,guard:=none}::rest)):=by
 intro a w ha hw;refine gD rfl (iE (caps:=[]) nh (bF.cons (aZ.mk rfl) hx) ha w ?_)
 simp only[List.append_nil]
 refine(Mm.B3 hc (λh=>absurd h lf) (hw.ng (ds:=ds))).mono ?_;rintro e w' ⟨u,H',rfl,hp,hm⟩;exact⟨u,rfl,h u H' hp _ w' (ha.put (eX hd) u) hm⟩
theorem St.j5 {f:FuncId}{xs:List Operand}{pG:Array TypeId}{vs caps:List Value}{pre R:List ao}{post:Value→List ao→Prop}(hc:dt P f (vs++caps).toArray pre post)(nh:aJ P f)(hf:aZ F x (.func (.func f) #[] caps.toArray))(hx:bF F xs vs)(hd:Nat.ble (d+1) n=true)[tk:eE pre H R]
 (h:∀v H',post v H'→St n ((d,v)::F) (Mm c (H'++R)) (wpList P ops Q rest)):
 St n F (Mm c H) (wpList P ops Q ({dst:=some d,op:= .call {callee:= .value x,args:=xs.toArray,argTypes:=pG},type:=ty,pos:=pos,after:=after,guard:=none}::rest)):=by
 intro a w ha hw;refine gD rfl (iE nh (bF.cons hf hx) ha w ?_);refine(Mm.call hc (hw.take (L:=pre))).mono ?_;rintro e w' ⟨u,H',rfl,hp,hm⟩;exact⟨u,rfl,h u H' hp _ w' (ha.put (eX hd) u) hm⟩
def cu (P:Program)(t:TypeId)(w:World):Result (Array (Nat×Nat)):=
 match P.underlying t with
 |some (.struct fs)=>(fs.mapM λf=>(do pure (f.offset,←sizeOf f.type):Sem (Nat×Nat))).run P w
 | _ => .halt (.stuck "") w
theorem bU {Z C:Array Value}{pl:Array (Nat×Nat)}{parts:List (Nat×Value)}{w:World}(hz:(P.info? t).bind (λi=>i.zero.map Value.cells)=some Z)(hp:cu P t w= .ok pl w)(hf:Instr.fill (pl[·]?) Z parts=some C):
 (Instr.build t parts.toArray).run P w= .ok (.agg C) w:=by
 obtain⟨i,hi,hz'⟩:=oT.1 hz;obtain⟨zv,Xi,rfl⟩:=dG.1 hz';unfold cu at hp
 split at hp
 ·rename_i fs hu
  simp only[Instr.build,zeroValue,typeInfo,Sem.run_bind,run_program,Result.andThen_ok,hi,Xi,Sem.run_pure,run_underlying hu,hp,hf]
 ·cases hp
end
def aC:Fr→Fr→Prop
 |F,F0=>Sub F0 F
theorem aC.nil {F:Fr}:aC F []:=trivial
theorem aC.cons {F F0:Fr}(k:Nat){v:Value}(h:look F k=some v)(h':aC F F0):aC F ((k,v)::F0):=⟨h,h'⟩
section
variable {P:Program}{n:Nat}{F F0:Fr}{A:World→Prop}{c:Ctx}{H R:List ao}{ty:TypeId}{x y z:Operand}{v:Value}{Q:Exit→Act→World→Prop}{ops:Array Oper}{rest:List Oper}
 {d:Nat} {pos:String} {after:Array Edge} {t e:TypeId}
def vf {ι:Type}(n:Nat)(G:ι→Fr→Fr)(F0:Fr)(φ:ι→Prop)(μ:ι→Nat)(c:Ctx)(Hf:ι→List ao)(k:Nat)(a:Act)(w:World):Prop:=
 ∃y,μ y<k∧Has n a (G y F0)∧φ y∧Mm c (Hf y) w
def Met {ι:Type}(n:Nat)(G:ι→Fr→Fr)(F0:Fr)(φ:ι→Prop)(c:Ctx)(Hf:ι→List ao)(a:Act)(w:World):Prop:=
 ∃y,Has n a (G y F0)∧φ y∧Mm c (Hf y) w
theorem St.E8 {ι:Type}{body:Code}(G:ι→Fr→Fr)(Hf:ι→List ao)(φ:ι→Prop)(μ:ι→Nat)(ic:ι)(_hk:aC F F0)(h0:φ ic)(hF:Sub (G ic F0) F)(hH:∀w,Mm c H w→Mm c (Hf ic) w)
 (round:∀x,φ x→St n (G x F0) (Mm c (Hf x)) (body.wp P (Exit.then (vf n G F0 φ μ c Hf (μ x)) Q))):
 St n F (Mm c H) ((Code.loop body).wp P Q):=by
 refine St.loop (λx=>G x F0) (λx w=>φ x∧Mm c (Hf x) w) μ ic hF (λw hw=>⟨h0,hH w hw⟩) λx=> ?_
 exact St.and λhx=>round x hx
theorem St.xV {ι:Type}{G:ι→Fr→Fr}{Hf:ι→List ao}{φ:ι→Prop}{μ:ι→Nat}{k:Nat}(y:ι)(H7:φ y)(hm:μ y<k)(hF:Sub (G y F0) F)(hA:∀w,Mm c H w→Mm c (Hf y) w):
 St n F (Mm c H) (vf n G F0 φ μ c Hf k):=
 λ_ w ha hw=>⟨y,hm,ha.sub hF,H7,hA w hw⟩
theorem St.abP {ι:Type}{body:Code}(G:ι→Fr→Fr)(φ:ι→Prop)(μ:ι→Nat)(ic:ι)(hk:aC F F0)(h0:φ ic)(hF:Sub (G ic F0) F)
 (round:∀x,φ x→St n (G x F0) (Mm c H) (body.wp P (Exit.then (vf n G F0 φ μ c (λ_=>H) (μ x)) Q))):
 St n F (Mm c H) ((Code.loop body).wp P Q):=St.E8 G (λ_=>H) φ μ ic hk h0 hF (λ_ hw=>hw) round
theorem St.NJ {ι:Type}{G:ι→Fr→Fr}{φ:ι→Prop}{μ:ι→Nat}{k:Nat}{H':List ao}(y:ι)(H7:φ y)(hm:μ y<k)(hF:Sub (G y F0) F)(hA:∀w,Mm c H w→Mm c H' w):
 St n F (Mm c H) (vf n G F0 φ μ c (λ_=>H') k):=St.xV y H7 hm hF hA
def CK {ι κ:Type}(n:Nat)(G:ι→κ→Fr→Fr)(F0:Fr)(φ:ι→κ→Prop)(μ:ι→κ→Nat)(c:Ctx)(Hf:ι→κ→List ao)(k:Nat)(a:Act)(w:World):Prop:=
 ∃y z,μ y z<k∧Has n a (G y z F0)∧φ y z∧Mm c (Hf y z) w
theorem St.Xj {ι κ:Type}{body:Code}(G:ι→κ→Fr→Fr)(Hf:ι→κ→List ao)(φ:ι→κ→Prop)(μ:ι→κ→Nat)(ic:ι)(CL:κ)(_hk:aC F F0)(h0:φ ic CL)(hF:Sub (G ic CL F0) F)(hH:∀w,Mm c H w→Mm c (Hf ic CL) w)
 (round:∀x z,φ x z→St n (G x z F0) (Mm c (Hf x z)) (body.wp P (Exit.then (CK n G F0 φ μ c Hf (μ x z)) Q))):
 St n F (Mm c H) ((Code.loop body).wp P Q):=by
 refine St.loop (ι:=ι×κ) (λx=>G x.1 x.2 F0) (λx w=>φ x.1 x.2∧Mm c (Hf x.1 x.2) w) (λx=>μ x.1 x.2) (ic,CL) hF (λw hw=>⟨h0,hH w hw⟩) λx=> ?_
 refine St.and λhx=>λa w ha hw=>wp_mono (round x.1 x.2 hx a w ha hw) ?_
 intro ex a' w' hq
 cases ex with
 |normal=>obtain⟨y,z,h1,h2,h3,h4⟩:=hq;exact⟨(y,z),h1,h2,h3,h4⟩
 |exit id=>exact hq
 |goto l=>exact hq
 |ret=>exact hq
 |panic ch=>exact hq
 |outgrown=>exact hq
theorem St.mf {ι κ:Type}{G:ι→κ→Fr→Fr}{Hf:ι→κ→List ao}{φ:ι→κ→Prop}{μ:ι→κ→Nat}{k:Nat}(y:ι)(z:κ)(H7:φ y z)(hm:μ y z<k)(hF:Sub (G y z F0) F)(hA:∀w,Mm c H w→Mm c (Hf y z) w):
 St n F (Mm c H) (CK n G F0 φ μ c Hf k):=
 λ_ w ha hw=>⟨y,z,hm,ha.sub hF,H7,hA w hw⟩
theorem St.join {ι:Type}{p q:Code}(G:ι→Fr→Fr)(Hf:ι→List ao)(φ:ι→Prop)(_hk:aC F F0)
 (h1:St n F (Mm c H) (p.wp P (Exit.then (Met n G F0 φ c Hf) Q))) (h2:∀y,φ y→St n (G y F0) (Mm c (Hf y)) (q.wp P Q)):
 St n F (Mm c H) ((Code.seq p q).wp P Q):=by
 intro a w ha hw;refine wp_seq (wp_mono (h1 a w ha hw) ?_);intro ex a' w' hq
 cases ex with
 |normal=>obtain⟨y,h3,h4,h5⟩:=hq;exact h2 y h4 a' w' h3 h5
 |exit id=>exact hq
 |goto l=>exact hq
 |ret=>exact hq
 |panic ch=>exact hq
 |outgrown=>exact hq
theorem St.met {ι:Type}{G:ι→Fr→Fr}{Hf:ι→List ao}{φ:ι→Prop}(y:ι)(H7:φ y)(hF:Sub (G y F0) F)(hA:∀w,Mm c H w→Mm c (Hf y) w):
 St n F (Mm c H) (Met n G F0 φ c Hf):=
 λ_ w ha hw=>⟨y,ha.sub hF,H7,hA w hw⟩
theorem St.wf {α:Type}{Rr:Rp α}{xs:List α}{T:Act→World→Prop}(v:Value)[hd:sQ v H α Rr xs](h:(∀x∈xs,Rr.wf x)→xs.length≤9223372036854775807→St n F (Mm c H) T):St n F (Mm c H) T:=by
 intro a w ha hw;obtain⟨ρ,hm⟩:=hw.out;obtain⟨ad,cap,_,h2,h3,h4,_⟩:=hm.sl hd;exact h h4 (by simp only[maxLen]at h3;omega) a w ha hw
theorem St.dc {T:Act→World→Prop}(e:TypeId)(size:Nat)(h:St n F (Mm c (row (.slice none 0 0) e size 0 []::H)) T):St n F (Mm c H) T:=by
 refine h.pQ λw hw=> ?_
 obtain⟨ρ,hm⟩:=hw.out;exact Mm.mk (hm.A4 rfl ⟨rfl,aW _⟩ rfl (aW _) (λ_ _=>rfl) (dZ.2 (World.ownsRow_nil _ _ _ _)) (λb hb=>by rw[dV]at hb;simp[Value.ownBlock]at hb))
theorem run_equalIn_bool (k:Nat){p q:Bool}{w:World}(ht:P.underlying t=some .bool):(Op.equalIn (k+1) t (.bool p) (.bool q)).run P w= .ok (p==q) w:=by
 simp only[Op.equalIn,Sem.run_bind,run_underlying ht,Result.andThen_ok,Sem.run_pure]
theorem run_equal_bool {p q:Bool}{w:World}(ht:P.underlying t=some .bool):(Op.equal t (.bool p) (.bool q)).run P w= .ok (p==q) w:=by
 have:=run_equalIn_bool (P:=P) (w:=w) 9999 (p:=p) (q:=q) ht
 unfold Op.equal Op.maxDepth;exact this
theorem Ev.Sl {p q:Bool}{u:TypeId}(hx:aZ F x (.bool p))(hy:aZ F y (.bool q))(ht:P.underlying t=some .bool):Ev P n F A (.binOp .eql t x y u) ty (.bool (p==q)):= .of_run λa w ha _=>by
 simp only[execOp,hx.eval ha,hy.eval ha,eqGuard_at_bool,binOp,Sem.run_bind,Sem.run_pure,Result.andThen_ok,run_equal_bool ht]
theorem Ev.JS {p q:Bool}{u:TypeId}(hx:aZ F x (.bool p))(hy:aZ F y (.bool q))(ht:P.underlying t=some .bool):Ev P n F A (.binOp .neq t x y u) ty (.bool (!(p==q))):= .of_run λa w ha _=>by
 simp only[execOp,hx.eval ha,hy.eval ha,eqGuard_at_bool,binOp,Sem.run_bind,Sem.run_pure,Result.andThen_ok,run_equal_bool ht]
section rows
variable {size m k:Nat}{cs:List Value}
theorem eQ.row {H:List ao}{ρ:Ro}{w:World}(h:eQ c H ρ w)(hr:wH v H e size m cs):w.ownsRow 0 e size v m cs:=dZ.1 (h.dK _ hr.mem)
theorem Ev.Xk {e':TypeId}[hr:wH v H e size m cs](hx:aZ F x v)(ht:P.underlying t=some (.slice e')):
 Ev P n F (Mm c H) (.call {callee:= .builtin .len,args:= #[x],argTypes:= #[t]}) ty (iv m):= .of_run λa w ha hw=>by
 obtain⟨ρ,hm⟩:=hw.out
 rcases(hm.row hr).2 with⟨rfl,rfl⟩|⟨g,cap,cur,rfl,_⟩
 ·simp[execOp,resolve,invoke,builtin,hx.eval ha,Builtin.len_,run_underlying ht,goInt]
 ·simp[execOp,resolve,invoke,builtin,hx.eval ha,Builtin.len_,run_underlying ht,goInt]
theorem Ev.dT {i:Int}{kd:IntKind}[hr:wH v H e size m cs](hx:aZ F x v)(hy:aZ F y (.int kd i))(ht:P.underlying t=some (.slice e))(hs:(P.info? e).map (·.size)=some size)
 (hi:i=k) (hk:k<m):Ev P n F (Mm c H) (.indexAddr t x y) ty (dR v size k 0):= .of_run λa w ha hw=>by
 obtain⟨ρ,hm⟩:=hw.out
 rcases(hm.row hr).2 with⟨rfl,rfl⟩|⟨g,cap,cur,rfl,_⟩
 ·omega
 ·obtain⟨inf,nb,gQ⟩:=dG.1 hs
  subst hi
  simp[execOp,hx.eval ha,hy.eval ha,Instr.indexAt,asIntOf,run_underlying ht,sizeOf,typeInfo,nb,gQ,hk,dS,Addr.add_lit]
theorem jN {w:World}(h:w.ownsRow 0 e size v m cs){k off:Nat}{u:Value}(hk:k<m)(hu:cs[k*size+off]?=some u):
 ∃b,dR v size k off= .pointer (some ⟨b,k*size+off,none⟩)∧w.cell? ⟨b,k*size+off,none⟩=some u∧v.ownBlock=some b∧w.frozen? ⟨b,k*size+off,none⟩=false:=by
 obtain⟨hl,h2⟩:=h
 rcases h2 with⟨rfl,rfl⟩|⟨g,cap,cur,rfl,_,hg,kV,kS,kq,nS⟩
 ·omega
 ·refine⟨g,by rw[dS];simp,?_,rfl,by simp[World.frozen?,hg]⟩
  rw[bh hg];rw[←nS]at hu
  have iX:=(eD.1 hu).1
  rw[rA]at hu
  split at hu
  ·simpa using hu
  ·simp at hu
theorem Ev.cB {off:Nat}{dd:TypeDesc}{u:Value}[hr:wH v H e size m cs](hx:aZ F x (dR v size k off))(ht:P.underlying t=some dd)(jv:(match dd with| .struct _| .array _ _=>False|_=>True))
 (hk:k<m) (hu:cs[k*size+off]?=some u):Ev P n F (Mm c H) (.load t x) ty u:= .of_run λa w ha hw=>by
 obtain⟨ρ,hm⟩:=hw.out;obtain⟨b,h1,h2,_⟩:=jN (hm.row hr) hk hu;rw[h1]at hx
 simp[execOp,hx.eval ha,Instr.loadAt,Instr.sureAddr,eM ht jv h2]
theorem Ev.Xl {off o i:Nat}{s:TypeId}[hr:wH v H e size m cs](hx:aZ F x (dR v size k off))(hk:k<m)(ho:bQ P s i=some o):Ev P n F (Mm c H) (.fieldAddr s x i) ty (dR v size k (off+o)):= .of_run λa w ha hw=>by
 obtain⟨ρ,hm⟩:=hw.out
 rcases(hm.row hr).2 with⟨rfl,rfl⟩|⟨g,cap,cur,rfl,_⟩
 ·omega
 ·rw[dS]at hx
  simp[execOp,hx.eval ha,ma ho,dS,Addr.add_lit,Nat.add_assoc]
theorem St.bj {off:Nat}{u:Value}[tk:ko v H e size m cs R](hx:aZ F x (dR v size k off))(hy:aZ F y u)(hs:(P.info? t).map (·.size)=some 1)(h1:u.oneCell'=true)
 (hk:k<m) (xU:off<size) (h:St n F (Mm c (row v e size m (cs.set (k*size+off) u)::R)) (wpList P ops Q rest)):
 St n F (Mm c H) (wpList P ops Q ({dst:=none,op:= .store t x y,type:=ty,pos:=pos,after:=after,guard:=none}::rest)):=by
 refine St.oU (K:=λu' H'=>H'=row v e size m (cs.set (k*size+off) u)::R) ?_ ?_
 ·intro a w ρ ha hm
  have jc:=hm.perm tk.perm
  have hr:=dZ.1 (jc.dK _ (aU ..))
  have iX:k*size+off<cs.length:=by
   rw[hr.1]
   have:(k+1)*size≤m*size:=gO _ hk
   rw[lW]at this;omega
  obtain⟨b,h2,h3,h4,h5⟩:=jN hr hk (bO iX);rw[h2]at hx;obtain⟨i,hi,gQ⟩:=dG.1 hs;refine⟨.skip,w.setCell ⟨b,k*size+off,none⟩ u,ρ,_,?_,⟨_,.inr ⟨rfl,rfl⟩,rfl⟩,?_⟩
  ·simp[execOp,hx.eval ha,hy.eval ha,Instr.storeAt,Instr.sureAddr,storeVar,sizeOf,typeInfo,hi,gQ,cells_one h1,storeCells,run_store P w _ u _ h1,h3,h5,Addr.add_zero']
  ·refine jc.alter rfl ⟨rfl,aW _⟩ rfl (by simp) (λj hj fP=> ?_) (dZ.2 ?_) (λb' jZ=>by rw[dV]at jZ⊢;exact .inl jZ)
   ·rw[dV,h4]at fP
    simp only[World.setCell,Array.getElem?_modify]
    rw[aA (λe=>fP (by rw[e]))]
   ·obtain⟨hl,h6⟩:=hr
    refine⟨by rw[cG];exact hl,?_⟩
    rcases h6 with⟨rfl,rfl⟩|⟨g,cap,cur,rfl,H8,hg,kV,kS,kq,nS⟩
    ·omega
    ·simp only[Value.ownBlock,Option.some.injEq]at h4
     subst h4;refine .inr ⟨_,cap,_,rfl,H8,mc hg,kV,kS,by simp[kq],?_⟩;rw[←nS,Array.toList_setIfInBounds,List.take_set]
 ·rintro _ _ rfl
  exact h
theorem pf {i:TypeInfo}{zv:Value}{xW:Nat}(hs:(P.info? e).map (·.size)=some size)(hz:(P.info? e).bind (·.zero)=some zv)(hb:(P.info? e).map (·.bytes)=some xW)(hi:P.info? e=some i):i.size=size∧i.zero=some zv∧i.bytes=xW:=by
 rw[hi]at hs hz hb;exact⟨by simpa using hs,by simpa using hz,by simpa using hb⟩
theorem rF {w:World}{i:TypeInfo}{zv:Value}{xW:Nat}(t ty e:TypeId)(ht:P.underlying t=some (.slice e))(hi:P.info? e=some i)(hz:i.zero=some zv)(abQ:i.size=size)(hby:i.bytes=xW)(W5:zv.cells.size=size)(gQ:0<size)
 (v:Value) (m:Nat) (cs:List Value) (nE:w.ownsRow 0 e size v m cs) (a:Addr) (k cc:Nat) (news:List Value) (hl:news.length=k*size) (vg:∀j u,news[j]?=some u→w.cell? (a.add j)=some u) (h1:∀u∈news,u.oneCell'=true)
 (h63:m+k≤maxLen) (uL:(m+k)*xW≤140737488355328):
 ∃v' w',(Builtin.append_ #[t,t] ty #[v,.slice (some a) k cc]).run P w= .ok v' w'∧w'.ownsRow 0 e size v' (m+k) (cs++news)∧w.grownBy w' v.ownBlock∧
  (v'= .slice none 0 0↔v= .slice none 0 0∧k=0)∧(∀b,v'.ownBlock=some b→v.ownBlock=some b∨w.heap.size≤b)∧w.drawn≤w'.drawn:=by
 subst abQ;subst hby;obtain⟨v',w',hr,h2,h3,h4⟩:=run_append_own (P:=P) w 0 t ty e i zv i.size i.bytes ht hi hz rfl rfl W5 gQ v m cs nE a k cc news hl vg h1 h63 uL (aR _);refine⟨v',w',hr,h2,h3,h4,?_⟩
 rcases nE.2 with⟨rfl,rfl⟩|⟨g,cap,cur,rfl,hbg,hg,hnc,hcm,kq,akZ⟩
 ·obtain⟨v'',w'',NK,h2',_⟩:=run_append_own (P:=P) w w.heap.size t ty e i zv i.size i.bytes ht hi hz rfl rfl W5 gQ (.slice none 0 0) 0 cs ⟨nE.1,.inl ⟨rfl,rfl⟩⟩ a k cc news hl vg h1 h63 uL (aW _)
  rw[hr]at NK
  simp only[Result.ok.injEq]at NK
  obtain⟨rfl,rfl⟩:=NK;refine⟨?_,?_⟩
  ·intro b hb
   rcases h2'.2 with⟨rfl,_⟩|⟨g,cap,cur,rfl,hbg,_⟩
   ·simp[Value.ownBlock]at hb
   ·simp only[Value.ownBlock,Option.some.injEq]at hb
    subst hb;exact .inr hbg
  ·have alK:cs=[]:=by
    have:=nE.1
    simpa using this
   rcases Nat.eq_zero_or_pos k with rfl|hk
   ·have Sm:news=[]:=by simpa using hl
    subst Sm
    have Xm:(Builtin.append_ #[t,t] ty #[.slice none 0 0,.slice (some a) 0 cc]).run P w= .ok (.slice none 0 0) w:=by
     simp[Builtin.append_,run_underlying ht,sizeOf,typeInfo,hi,Builtin.lenOf,Builtin.firstCells,loadCells,loadCellsFrom]
    rw[hr]at Xm
    simp only[Result.ok.injEq]at Xm
    rw[Xm.2];exact aW _
   ·have Xm:=run_append_nil (P:=P) w t ty e i zv ht hi hz a k cc news hl vg hk (by simp only[maxLen]at h63;omega) (by have:(0+k)*i.bytes=k*i.bytes:=by rw[gP]
                                                                                                                      omega)
    rw[hr]at Xm
    simp only[Result.ok.injEq]at Xm
    rw[Xm.2];exact Nat.le_succ _
 ·by_cases mg:m+k≤cap
  ·have ahH:m*i.size+news.length≤cur.size:=by rw[hl,kq,←lW];exact gO _ mg
   have NK:=run_append_room (P:=P) w t ty e i ht hi g m cap cur hg a k cc news hl vg h1 mg ahH
   rw[hr]at NK
   simp only[Result.ok.injEq]at NK
   obtain⟨rfl,rfl⟩:=NK;exact⟨λb hb=> .inl hb,aW _⟩
  ·have holds:∀j u,cs[j]?=some u→w.cell? ((⟨g,0,none⟩:Addr).add j)=some u:=nE.cells (g:=g) rfl
   have NK:=run_append_grow (P:=P) w t ty e i zv ht hi hz ⟨g,0,none⟩ m cap cs nE.1 holds a k cc news hl vg (by omega) (by simp only[maxLen]at h63;omega) (growslice_fits (by omega) uL)
   rw[hr]at NK
   simp only[Result.ok.injEq]at NK
   obtain⟨rfl,rfl⟩:=NK;refine⟨λb hb=> ?_,Nat.le_succ _⟩
   simp only[Value.ownBlock,Option.some.injEq]at hb
   exact .inr (by omega)
theorem St.aj {v2:Value}{m2:Nat}{news:List Value}{R1:List ao}{zv:Value}{xW:Nat}[t2:ko v2 H e size m2 news R1][t1:ko v R1 e size m cs R]
 (hx:aZ F x v) (hy:aZ F y v2) (ht:P.underlying t=some (.slice e)) (hs:(P.info? e).map (·.size)=some size) (hz:(P.info? e).bind (·.zero)=some zv) (hb:(P.info? e).map (·.bytes)=some xW)
 (Sn:∀u∈news,u.oneCell'=true) (hlen:m+m2≤9223372036854775807) (mg:(m+m2)*xW≤140737488355328) (W5:zv.cells.size=size) (nc:Nat.ble 1 size=true) (fP:Nat.ble 1 m2=true) (hd:Nat.ble (d+1) n=true)
 (h:∀v',(v'= .slice none 0 0↔v= .slice none 0 0∧m2=0)→St n ((d,v')::F) (Mm c (row v' e size (m+m2) (cs++news)::R)) (wpList P ops Q rest)):
 St n F (Mm c H) (wpList P ops Q ({dst:=some d,op:= .call {callee:= .builtin .append,args:= #[x,y],argTypes:= #[t,t]},type:=ty,pos:=pos,after:=after,guard:=none}::rest)):=by
 refine St.SA (K:=λv' H'=>(v'= .slice none 0 0↔v= .slice none 0 0∧m2=0)∧H'=row v' e size (m+m2) (cs++news)::R) ?_ hd ?_
 ·intro a w ρ ha hm
  have H9:=hm.perm t2.perm
  have sU:=dZ.1 (H9.dK _ (aU ..))
  have pa:=H9.drop.perm t1.perm
  have hr:=dZ.1 (pa.dK _ (aU ..))
  have ahI:=eX fP
  obtain⟨i,hi,gQ⟩:=dG.1 hs;obtain⟨q1,q2,q3⟩:=pf hs hz hb hi
  rcases sU.2 with⟨_,rfl⟩|⟨g2,NL,ahJ,rfl,_,hg2,kV,kS,ahK,Xn⟩
  ·omega
  ·obtain⟨v',w',uM,how,E9,Xo,hob,lf⟩:=rF (P:=P) (w:=w) t ty e ht hi q2 q1 q3 W5 (eX nc) v m cs hr ⟨g2,0,none⟩ m2 NL news sU.1
    (λj u hj=>by
     rw[Addr.add_lit,gP,bh hg2];rw[←Xn,rA]at hj
     split at hj
     ·simpa using hj
     ·simp at hj) Sn (by unfold maxLen;omega) mg
   refine⟨.value v',w',ρ,_,?_,⟨_,.inl rfl,Xo,rfl⟩,?_⟩
   ·simp[execOp,resolve,invoke,builtin,hx.eval ha,hy.eval ha,uM]
   ·refine pa.alter E9.os ⟨E9.tape,lf⟩ E9.output E9.size (λj hj fP=> ?_) (dZ.2 how) (λb' jZ=> ?_)
    ·rw[dV]at fP;exact E9.block j hj (λe=>fP e.symm)
    ·rw[dV]at jZ⊢;exact hob b' jZ
 ·rintro _ _ ⟨h1,rfl⟩
  exact h _ h1
theorem St.xX {α:Type}{Rr:Rp α}{xs:List α}{v2:Value}{zv:Value}{xW:Nat}[t2:sQ v2 H α Rr xs][t1:ko v H e Rr.size m cs R]
 (hx:aZ F x v) (hy:aZ F y v2) (ht:P.underlying t=some (.slice e)) (hs:(P.info? e).map (·.size)=some Rr.size) (hz:(P.info? e).bind (·.zero)=some zv) (hb:(P.info? e).map (·.bytes)=some xW)
 (Sn:∀u∈rows Rr xs,u.oneCell'=true) (hlen:m+xs.length≤9223372036854775807) (mg:(m+xs.length)*xW≤140737488355328) (W5:zv.cells.size=Rr.size) (nc:Nat.ble 1 Rr.size=true) (alL:True) (hd:Nat.ble (d+1) n=true)
 (h:∀v',(v'= .slice none 0 0↔v= .slice none 0 0∧xs.length=0)∨xs=[]→St n ((d,v')::F) (Mm c (row v' e Rr.size (m+xs.length) (cs++rows Rr xs)::R)) (wpList P ops Q rest)):
 St n F (Mm c H) (wpList P ops Q ({dst:=some d,op:= .call {callee:= .builtin .append,args:= #[x,y],argTypes:= #[t,t]},type:=ty,pos:=pos,after:=after,guard:=none}::rest)):=by
 refine St.SA (K:=λv' H'=>((v'= .slice none 0 0↔v= .slice none 0 0∧xs.length=0)∨xs=[])∧H'=row v' e Rr.size (m+xs.length) (cs++rows Rr xs)::R) ?_ hd ?_
 ·intro a w ρ ha hm
  obtain⟨ad,cap,rfl,_,_,_,h5⟩:=hm.sl t2
  have pa:=hm.perm t1.perm
  have hr:=dZ.1 (pa.dK _ (aU ..))
  obtain⟨i,hi,gQ⟩:=dG.1 hs;obtain⟨q1,q2,q3⟩:=pf hs hz hb hi
  cases wi:xs with
  |nil=>
   subst wi
   have uM:(Builtin.append_ #[t,t] ty #[v,.slice ad ([]:List α).length cap]).run P w= .ok v w:=by
    rcases hr.2 with⟨rfl,rfl⟩|⟨g,CM,cur,rfl,_,hg,kV,_⟩
    ·cases ad<;>simp[Builtin.append_,run_underlying ht,sizeOf,typeInfo,hi,Builtin.lenOf,Builtin.firstCells,loadCells,loadCellsFrom]
    ·cases ad<;>simp[Builtin.append_,run_underlying ht,sizeOf,typeInfo,hi,Builtin.lenOf,Builtin.firstCells,loadCells,loadCellsFrom,kV,storeCells]
   refine⟨.value v,w,ρ,_,?_,⟨_,.inl rfl,.inr rfl,rfl⟩,?_⟩
   ·simp only[execOp,resolve,invoke,builtin,hx.eval ha,hy.eval ha,List.map_toArray,List.map_cons,List.map_nil,Sem.run_bind,Sem.run_pure,Result.andThen_ok]
    rw[uM];rfl
   ·simpa[rows]using pa
  |cons x0 xs0=>
   rcases h5 with h5|⟨b,off,C,e',fr,rfl,h6,h7⟩
   ·rw[h5]at wi;cases wi
   ·rw[←wi]
    obtain⟨v',w',uM,how,E9,Xo,hob,lf⟩:=rF (P:=P) (w:=w) t ty e ht hi q2 q1 q3 W5 (eX nc) v m cs hr ⟨b,off,none⟩ xs.length cap (rows Rr xs) (gn Rr xs)
     (λj u hj=>by
      rw[Addr.add_lit,bh (hm.fits _ _ h6)]
      exact h7 j u hj) Sn (by unfold maxLen;omega) mg
    refine⟨.value v',w',ρ,_,?_,⟨_,.inl rfl,.inl Xo,rfl⟩,?_⟩
    ·simp[execOp,resolve,invoke,builtin,hx.eval ha,hy.eval ha,uM]
    ·refine pa.alter E9.os ⟨E9.tape,lf⟩ E9.output E9.size (λj hj fP=> ?_) (dZ.2 how) (λb' jZ=> ?_)
     ·rw[dV]at fP;exact E9.block j hj (λe=>fP e.symm)
     ·rw[dV]at jZ⊢;exact hob b' jZ
 ·rintro _ _ ⟨h1,rfl⟩
  exact h _ h1
theorem xY {α:Type}(Rr:Rp α)(xs:List α):∀u∈rows Rr xs,u.oneCell'=true:=by
 intro u hu
 simp only[rows,List.mem_flatMap]at hu
 obtain⟨x,_,hx⟩:=hu;exact Rr.one x u hx
theorem St.pg {zv:Value}{xW:Nat}{i j:Int}{kl kc:IntKind}{m:Nat}(hx:aZ F x (.int kl i))(hy:aZ F y (.int kc j))(ht:P.underlying t=some (.slice e))(hs:(P.info? e).map (·.size)=some 1)(hz:(P.info? e).bind (·.zero)=some zv)(hb:(P.info? e).map (·.bytes)=some xW)
 (hm:i=m) (pa:j=m) (mg:xW*m≤281474976710656∧m≤9223372036854775807) (h1:zv.cells= #[zv]) (hd:Nat.ble (d+1) n=true)
 (h:∀b,St n ((d,.slice (some ⟨b,0,none⟩) m m)::F) (Mm c (row (.slice (some ⟨b,0,none⟩) m m) e 1 m (List.replicate m zv)::H)) (wpList P ops Q rest)):
 St n F (Mm c H) (wpList P ops Q ({dst:=some d,op:= .makeSlice t x y,type:=ty,pos:=pos,after:=after,guard:=none}::rest)):=by
 subst hm pa;refine St.SA (K:=λu H'=>∃b,u= .slice (some ⟨b,0,none⟩) m m∧H'=row (.slice (some ⟨b,0,none⟩) m m) e 1 m (List.replicate m zv)::H) ?_ hd ?_
 ·intro a w ρ ha nD
  obtain⟨i,hi,gQ⟩:=dG.1 hs;obtain⟨q1,q2,q3⟩:=pf hs hz hb hi
  have uM:=run_make (P:=P) w t e i zv ht hi q2 kl kc m m (by omega) (by omega) (by rw[q3,←Int.natCast_mul];exact Int.ofNat_le.2 mg.1) (by omega)
  have xZ:madeCells zv.cells (m*i.size)=(List.replicate m zv).toArray:=by
   rw[q1,h1]
   apply Array.ext
   ·simp[madeCells]
   ·intro k jv rf
    simp[madeCells,Nat.mod_one]
  simp only[Int.toNat_natCast,xZ]at uM
  refine⟨.value (.slice (some ⟨w.heap.size,0,none⟩) m m),w.alloc (.cells (List.replicate m zv).toArray e),ρ,_,?_,⟨_,.inl rfl,_,rfl,rfl⟩,?_⟩
  ·simp[execOp,hx.eval ha,hy.eval ha,uM]
  ·refine nD.A4 rfl ⟨rfl,aW _⟩ rfl (by simp) (λk hk=>RowKit.Below.heap_alloc w _ k hk) (dZ.2 ⟨by simp,.inr ⟨w.heap.size,m,_,rfl,aR _,heap_alloc_new w _,aW _,by unfold maxLen;omega,by simp,by simp⟩⟩) ?_
   intro b hb;rw[dV]at hb;simp[Value.ownBlock]at hb;omega
 ·rintro _ _ ⟨b,rfl,rfl⟩
  exact h b
theorem eQ.bZ {α:Type}(Rr:Rp α)(xs:List α){H:List ao}{ρ:Ro}{w:World}(h:eQ c (J.row v e Rr.size m cs::H) ρ w)(kq:cs=rows Rr xs)(hm:m=xs.length)(vh:∀x∈xs,Rr.wf x):Mm c (J.aF (J.sl Rr v xs)::H) w:=by
 subst kq hm
 have hr:=dZ.1 (h.dK _ (aU ..))
 rcases hr.2 with⟨rfl,h0⟩|⟨g,cap,cur,rfl,_,hg,kV,kS,kq,nS⟩
 ·have hx:xs=[]:=kf h0
  subst hx;exact Mm.mk (h.drop.fact _ ⟨none,0,rfl,aW _,by unfold maxLen;omega,λx hx=>by simp at hx,.inl rfl⟩)
 ·have CJ:(J.row (Value.slice (some ⟨g,0,none⟩) xs.length cap) e Rr.size xs.length (rows Rr xs)).key=some g:=by rw[dV];rfl
  have nE:=h.own _ (aU ..) g CJ
  have A5:g<w.heap.size:=(pP.1 hg).1
  have Mw:=ib.1 h.Gz
  refine Mm.mk (ρ:=λk=>if k=g then some (.cells cur e (0,0))else ρ k) ?_
  have hle:Ro.le ρ (λk=>if k=g then some (.cells cur e (0,0))else ρ k):=by
   intro k o hk
   by_cases e1:k=g
   ·subst e1;rw[nE.1]at hk;cases hk
   ·simp only[e1,if_false];exact hk
  refine eQ.fact ⟨h.os,h.tape,h.output,h.size,h.A2,?_,Ro.le_trans h.le hle,?_,?_,?_,Mw.2⟩ _ ?_
  ·intro k o hk
   by_cases e1:k=g
   ·subst e1;simp only[if_true,Option.some.injEq]at hk;subst hk;exact hg
   ·simp only[e1,if_false]at hk;exact h.fits k o hk
  ·intro k hk hM
   by_cases e1:k=g
   ·subst e1
    rcases nE.2 with h2|h2
    ·omega
    ·exact absurd h2 hM
   ·simp only[e1,if_false];exact h.new k hk hM
  ·intro E hE
   exact E.loc hle (λ_ _=>rfl) (h.dK E (cE _ hE))
  ·intro E hE b hb
   have h1:=h.own E (cE _ hE) b hb
   refine⟨?_,h1.2⟩
   by_cases e1:b=g
   ·subst e1;exact absurd hb (Mw.1 E hE _ CJ)
   ·simp only[e1,if_false];exact h1.1
  ·refine⟨some ⟨g,0,none⟩,cap,rfl,kV,kS,vh,?_⟩
   refine .inr ⟨g,0,cur,e,(0,0),rfl,by simp,λj u hj=> ?_⟩;rw[←nS,rA]at hj
   split at hj
   ·simpa using hj
   ·simp at hj
theorem St.bZ {α:Type}{T:Act→World→Prop}(v:Value)(Rr:Rp α)(xs:List α)[tk:ko v H e Rr.size m cs R](kq:cs=rows Rr xs)(hm:m=xs.length)(vh:∀x∈xs,Rr.wf x)
 (h:St n F (Mm c (aF (sl Rr v xs)::R)) T):St n F (Mm c H) T:=
 h.pQ λ_ hw=>let⟨_,k⟩:=hw.out;(k.perm tk.perm).bZ Rr xs kq hm vh
end rows
end
section
variable {P:Program}{ops:Array Oper}{C:World→Prop}{Q:Exit→Act→World→Prop}
def xc (ops:Array Oper)(m:Nat):Bool:=
 (List.range ops.size).all λi=>match ops[i]? with
  |some o=>(o.after.all λe=>Nat.ble (e.on+1) i)&&(match o.guard with|some (j,_)=>Nat.ble (j+1) i|none=>true)&&
   (Nat.ble (i+1) m||(List.range i).all λj=>o.after.any λe=>Region.binds .any e&&e.on==j)
  |none=>false
theorem oV {m i:Nat}{o:Oper}(h:xc ops m=true)(ho:ops[i]?=some o):∀e∈o.after,e.on<i:=by
 have hi:i<ops.size:=(pP.1 ho).1
 have h1:=eO.1 h i (cy.2 hi)
 simp only[ho,Bool.and_eq_true]at h1
 intro e he;exact eX ((Array.all_eq_true_iff_forall_mem.1 h1.1.1) e he)
theorem EA {m i j:Nat}{b:Bool}{o:Oper}(h:xc ops m=true)(ho:ops[i]?=some o)(hg:o.guard=some (j,b)):j<i:=by
 have hi:i<ops.size:=(pP.1 ho).1
 have h1:=eO.1 h i (cy.2 hi)
 simp only[ho,hg,Bool.and_eq_true]at h1
 exact eX h1.1.2
theorem xd {m i j:Nat}{o:Oper}(h:xc ops m=true)(ho:ops[i]?=some o)(hm:m≤i)(hj:j<i):∃e∈o.after,Region.binds .any e=true∧e.on=j:=by
 have hi:i<ops.size:=(pP.1 ho).1
 have h1:=eO.1 h i (cy.2 hi)
 simp only[ho,Bool.and_eq_true,Bool.or_eq_true]at h1
 rcases h1.2 with h2|h2
 ·have:=eX h2;omega
 ·have h3:=eO.1 h2 j (cy.2 hj)
  obtain⟨e,he,hb⟩:=Array.any_eq_true'.1 h3
  simp only[Bool.and_eq_true,beq_iff_eq]at hb
  exact⟨e,he,hb.1,hb.2⟩
def CN (k:Nat)(listed:Array Bool)(N:Nat):Prop:=listed.size=N∧∀j,j<N→listed[j]?=some (decide (j<k))
theorem CN.getD {k N:Nat}{listed:Array Bool}(h:CN k listed N)(j:Nat)(d:Bool)(hj:j<N):listed.getD j d=decide (j<k):=by
 rw[uE,h.2 j hj];rfl
theorem CN.out {k N:Nat}{listed:Array Bool}(h:CN k listed N)(j:Nat)(d:Bool)(hj:N≤j):listed.getD j d=d:=by
 rw[uE,Array.getElem?_eq_none (by rw[h.1];exact hj)];rfl
theorem CN.set {k N:Nat}{listed:Array Bool}(h:CN k listed N):CN (k+1) (listed.setIfInBounds k true) N:=by
 refine⟨by simp[h.1],λj hj=> ?_⟩;rw[Sh]
 by_cases e:k=j
 ·subst e;simp[h.1,hj]
 ·rw[aA e,h.2 j hj];congr 1
  rw[uF];simp only[decide_eq_true_eq];omega
theorem vj {m:Nat}(hB:xc ops m=true):∀(l:List Oper) (k:Nat) (listed:Array Bool) (a:Act) (w:World),m≤k→(∀j,l[j]?=ops[k+j]?)→k+l.length=ops.size→CN k listed ops.size→
 wpList P ops Q l a w→wpAny P .any ops Q l.length listed a w
 | [],k,listed,a,w,_,_,hs,hu,h=>by
  refine⟨?_,h⟩;unfold Region.ready;rw[List.filter_eq_nil_iff];intro i hi
  have JT:=cy.1 hi
  have:listed.getD i true=true:=by rw[hu.getD i true JT];simp at hs;simp;omega
  simp[this]
 |o::l,k,listed,a,w,hmk,hl,hs,hu,h=>by
  have hk:k<ops.size:=by simp at hs;omega
  have ho:ops[k]?=some o:=by simpa using (hl 0).symm
  have hr:Region.ready .any ops listed=[k]:=by
   have key:∀i,i<ops.size→((!listed.getD i true&&((ops[i]?).map (·.after.all λe=> !Region.binds .any e||listed.getD e.on false)).getD false)=true↔i=k):=by
    intro i hi
    have hoi:ops[i]?=some ops[i]:=wE hi
    rw[hu.getD i true hi,hoi]
    simp only[Option.map_some,Option.getD_some,Bool.and_eq_true,Bool.not_eq_true',decide_eq_false_iff_not]
    constructor
    ·rintro ⟨h1,h2⟩
     rcases e7 k i with h3|h3
     ·obtain⟨e,he,hb,hon⟩:=xd hB hoi (by omega) h3
      have:=(Array.all_eq_true_iff_forall_mem.1 h2) e he
      rw[hb,hon,hu.getD k false hk]at this
      simp at this
     ·omega
    ·rintro rfl
     refine⟨by omega,Array.all_eq_true_iff_forall_mem.2 λe he=> ?_⟩
     have h1:=oV hB hoi e he
     rw[hu.getD e.on false (by omega)]
     simp[h1]
   unfold Region.ready
   have h1:∀(N:Nat),N≤ops.size→(List.range N).filter (λi=> !listed.getD i true&&((ops[i]?).map (·.after.all λe=> !Region.binds .any e||listed.getD e.on false)).getD false)=if k<N then [k]else []:=by
    intro N
    induction N with
    |zero=>intro _;simp
    |succ N ih=>
     intro hN;rw[vc,List.filter_append,ih (by omega)]
     have h2:=key N (by omega)
     by_cases e:N=k
     ·subst e
      have h3:=h2.2 rfl
      simp only[List.filter_cons,h3,if_true,List.filter_nil]
      simp
     ·have h3:¬_:=λh=>e (h2.1 h)
      simp only[List.filter_cons,h3,if_false,List.filter_nil,List.append_nil]
      by_cases e2:k<N
      ·simp[e2,show k<N+1 by omega]
      ·simp[e2,show ¬k<N+1 by omega]
   rw[h1 ops.size (aW _),aB hk]
  refine wpAny_all (rs:=[k]) hr (by simp) ?_;intro i hi
  simp only[List.mem_singleton]at hi
  subst hi;unfold wpOp;rw[ho]
  simp only[wpList]at h
  have ih:=vj hB l (i+1) (listed.setIfInBounds i true)
  have ih':∀a w,wpList P ops Q l a w→wpAny P .any ops Q l.length (listed.setIfInBounds i true) a w:=λa w h=>
   ih a w (by omega) (λj=>by have:=hl (j+1);simpa[Nat.add_assoc,Nat.add_comm 1 j]using this) (by simp at hs⊢;omega) hu.set h
  simp only
  split
  ·rename_i hw
   simp only[hw,if_true]at h
   exact h.imp (Oper.wp_mono ih') id
  ·rename_i hw
   simp only[hw]at h
   exact ih' _ _ h
theorem A6 {ops':Array Oper}{listed:Array Bool}(hs:listed.size=ops'.size)(hE:∀(i:Nat) (o:Oper),ops'[i]?=some o→∀e∈o.after,e.on<i)(hu:∃i,i<ops'.size∧listed.getD i true=false):Region.ready .any ops' listed≠ []:=by
 obtain⟨i,hi⟩:=exists_least hu;obtain⟨⟨NM,Xp⟩,ahL⟩:=hi;intro h0
 have:i∈Region.ready .any ops' listed:=by
  refine mem_ready.2 ⟨Xp,ops'[i],wE NM,λe he _=> ?_⟩
  have h1:=hE i _ (wE NM) e he
  have iX:e.on<listed.size:=by omega
  cases hl:listed.getD e.on true with
  |false=>
   have:=ahL e.on ⟨by omega,hl⟩
   omega
  |true=>rw[uE,wE iX]at hl⊢;exact hl
 rw[h0]at this
 cases this
theorem CO {ops':Array Oper}{m j:Nat}{tmps:Array Value}(hh:∀j,j<m→ops'[j]?=ops[j]?)(hj:j<m):yielded ops' tmps j=yielded ops tmps j:=by
 unfold yielded;rw[hh j hj]
theorem NN {ops':Array Oper}{m:Nat}{Qa:Act→Prop}(hB:xc ops m=true)(hm:ops'.size=m)(hmN:m≤ops.size)(hh:∀j,j<m→ops'[j]?=ops[j]?)
 (hQ:∀a',Qa a'→∀w',C w'→∀listed,CN m listed ops.size→wpAny P .any ops Q (ops.size-m) listed a' w'):
 ∀(f:Nat) (eI listed:Array Bool) (a:Act) (w:World),eI.size=m→listed.size=ops.size→(∀j,j<m→listed[j]?=eI[j]?)→(∀j,m≤j→j<ops.size→listed[j]?=some false)→
  eI.toList.count false=f→wpAnyQ P .any ops' C Qa f eI a→C w→wpAny P .any ops Q (f+(ops.size-m)) listed a w:=by
 intro f
 induction f with
 |zero=>
  intro eI listed a w hs' hs h1 h2 hc h hw;rw[gP];refine hQ a h.2 w hw listed ⟨hs,λj hj=> ?_⟩
  by_cases hjm:j<m
  ·have h3:=List.count_eq_zero.1 hc
   rw[h1 j hjm]
   have iX:j<eI.size:=by omega
   rw[wE iX]
   cases hv:eI[j]with
   |true=>simp[hjm]
   |false=>exact absurd (by rw[←hv];simp) h3
  ·rw[h2 j (by omega) hj];simp[hjm]
 |succ f ih=>
  intro eI listed a w hs' hs h1 h2 hc h hw
  have hex:∃i,i<ops'.size∧eI.getD i true=false:=by
   have h3:false∈eI.toList:=by
    rw[←List.count_pos_iff];omega
   obtain⟨i,hi,he⟩:=Dx.1 h3
   simp only[Array.length_toList]at hi
   refine⟨i,by omega,?_⟩;rw[uE,wE hi]
   simpa using he
  have A3:∀(i:Nat) (o:Oper),ops'[i]?=some o→∀e∈o.after,e.on<i:=by
   intro i o ho
   have hi:i<ops'.size:=(pP.1 ho).1
   rw[hh i (by omega)]at ho;exact oV hB ho
  have fP:=A6 (by omega) A3 hex
  have EB:∀i,i∈Region.ready .any ops listed↔i∈Region.ready .any ops' eI:=by
   intro i;rw[mem_ready,mem_ready]
   by_cases hi:i<m
   ·rw[hh i hi]
    have e1:listed.getD i true=eI.getD i true:=by rw[uE,uE,h1 i hi]
    rw[e1]
    constructor
    ·rintro ⟨q1,o,q2,q3⟩
     refine⟨q1,o,q2,λe he hb=> ?_⟩
     have:=oV hB q2 e he
     have q4:=q3 e he hb
     rwa[uE,h1 e.on (by omega),←uE]at q4
    ·rintro ⟨q1,o,q2,q3⟩
     refine⟨q1,o,q2,λe he hb=> ?_⟩
     have:=oV hB q2 e he
     have q4:=q3 e he hb
     rwa[uE,h1 e.on (by omega),←uE]
   ·constructor
    ·rintro ⟨q1,o,q2,q3⟩
     exfalso
     obtain⟨k,hk,rf⟩:=hex;obtain⟨e,he,hb,hon⟩:=xd hB q2 (by omega) (show k<i by omega)
     have q4:=q3 e he hb
     rw[hon,uE,h1 k (by omega)]at q4
     have iX:k<eI.size:=by omega
     rw[uE,wE iX]at rf;rw[wE iX]at q4
     simp only[Option.getD_some]at rf q4
     rw[rf]at q4;cases q4
    ·rintro ⟨q1,o,q2,_⟩
     have:=(pP.1 q2).1
     omega
  rw[show f+1+(ops.size-m)=(f+(ops.size-m))+1 by omega];refine⟨λh0=> ?_,λi hi=> ?_⟩
  ·exfalso
   cases hr:Region.ready .any ops' eI with
   |nil=>exact fP hr
   |cons i l=>
    have:=(EB i).2 (by rw[hr];exact aU ..)
    rw[h0]at this;cases this
  ·have JT:=(EB i).1 hi
   have hq:=h.2 i JT
   obtain⟨q1,o,q2,q3⟩:=mem_ready.1 JT
   have W6:i<m:=by have:=(pP.1 q2).1;omega
   have hli:eI[i]?=some false:=by
    have iX:i<eI.size:=by omega
    rw[uE,wE iX]at q1;rw[wE iX]
    simpa using q1
   have next:∀a' w',C w'→wpAnyQ P .any ops' C Qa f (eI.setIfInBounds i true) a'→wpAny P .any ops Q (f+(ops.size-m)) (listed.setIfInBounds i true) a' w':=by
    intro a' w' Ay hk;refine ih (eI.setIfInBounds i true) (listed.setIfInBounds i true) a' w' (by simp[hs']) (by simp[hs]) ?_ ?_ ?_ hk Ay
    ·intro j hj
     rw[Sh,Sh,h1 j hj]
     by_cases e:i=j
     ·subst e;simp only[if_true];rw[aB (by omega),aB (by omega)]
     ·simp only[e,if_false]
    ·intro j hj hjN
     rw[Sh,aA (by omega)];exact h2 j hj hjN
    ·rw[Array.toList_setIfInBounds,List.count_set (by simp;omega)]
     have iX:i<eI.size:=by omega
     have he:eI.toList[i]'(by simpa using iX)=false:=by
      rw[wE iX]at hli;simpa using hli
     rw[he]
     simp only[beq_self_eq_true,if_true]
     rw[hc];simp
   unfold wpOp;unfold qOp at hq
   have ho:ops[i]?=some o:=by rw[←hh i W6];exact q2
   rw[ho];rw[q2]at hq
   have abR:Region.wanted o (yielded ops' a.tmps)=Region.wanted o (yielded ops a.tmps):=by
    unfold Region.wanted
    split
    ·rfl
    ·rename_i j b hg
     have:=EA hB ho hg
     rw[CO hh (by omega)]
   simp only[abR]at hq
   simp only
   split
   ·rename_i pZ
    simp only[pZ,if_true]at hq
    exact .inl (Oper.wp_of_quiet hw next hq)
   ·rename_i pZ
    simp only[pZ]at hq
    exact next _ w hw hq
theorem St.rqt {n:Nat}{F:Fr}{A:World→Prop}{id:Nat}(hd tl:List Oper){l:List Oper}(hl:l=hd++tl)(hm:P.follows .mixedOrders=true)(hB:Region.lexB .any hd.toArray=true)(hB2:xc l.toArray hd.length=true)(hA:E0 A)
 (h:Sq n F (wpQuiet P hd.toArray A (λa'=>∀w',A w'→wpList P l.toArray Q tl a' w') hd)):St n F A ((Code.region id l.toArray true).wp P Q):=by
 intro a w ha hw;subst hl
 simp only[Region.lexB,Bool.and_eq_true]at hB
 refine wp_region_any hm ?_
 have NO:=wpAnyQ_lex (P:=P) (C:=A) (md:= .any) (ops:=hd.toArray) hB.1 hd 0 (Array.replicate hd.toArray.size false) a (by simp) (by simpa using hB.2) (h a ha)
 have gQ:(hd++tl).toArray.size=hd.length+((hd++tl).toArray.size-hd.length):=by simp
 rw[gQ];refine NN (ops':=hd.toArray) hB2 (by simp) (by simp) (λj hj=> ?_) ?_ hd.length _ _ a _ (by simp) (by simp) ?_ ?_ ?_ NO (hA w hw)
 ·simp[List.getElem?_append_left hj]
 ·intro a' ha' w' Ay listed hu
  have h1:=vj (P:=P) (Q:=Q) hB2 tl hd.length listed a' w' (aW _) (λj=>by simp[List.getElem?_append_right]) (by simp) hu (ha' w' Ay)
  have h2:(hd++tl).toArray.size-hd.length=tl.length:=by simp
  rw[h2];exact h1
 ·intro j hj
  rw[Array.getElem?_replicate,Array.getElem?_replicate,aB (by simp;omega),aB (by simpa using hj)]
 ·intro j hj hjN
  rw[Array.getElem?_replicate,aB (by simpa using hjN)]
 ·simp
theorem St.any {n:Nat}{F:Fr}{A:World→Prop}{id:Nat}{l:List Oper}(hm:P.follows .mixedOrders=true)(hA:E0 A)
 (h:St n F A (wpAny P .any l.toArray Q l.length (Array.replicate l.length false))):St n F A ((Code.region id l.toArray true).wp P Q):=
 λa w ha hw=>wp_region_any hm (by simpa using h a _ ha (hA w hw))
theorem St.one {n:Nat}{F:Fr}{A:World→Prop}{i:Nat}{o:Oper}{K:Act→World→Prop}(ho:ops[i]?=some o)(h:St n F A (wpList P ops (Exit.then K Q) [o])):St n F A (wpOp P ops Q i K):=by
 intro a w ha hw
 have h1:=h a w ha hw
 unfold wpOp;rw[ho]
 simp only[wpList]at h1
 simp only
 split
 ·rename_i pZ
  simp only[pZ,if_true]at h1
  rcases h1 with h1|⟨h1,a0,w0,h2⟩
  ·refine .inl ?_
   unfold Oper.wp at h1⊢
   generalize (execOp a.eval o).run P w=r at h1⊢
   cases r with
   |ok nx w'=>
    cases nx<;>simp only[Oper.upon]at h1⊢ <;>
     first
      |exact h1
      |exact Calls.mono h1 (λe w'' he=>by cases e<;>exact he)
      |exact Rows.mono h1 (λ_ _ he=>he)
   |halt x w'=>cases x<;>simp only[Oper.upon]at h1⊢ <;>exact h1
  ·exact .inr ⟨h1,a0,w0,h2⟩
 ·rename_i pZ
  simp only[pZ]at h1
  exact h1
class Split (m:Nat)(l:List Oper)(hd tl:outParam (List Oper)):Prop where
 eq:l=hd++tl
 len:hd.length=m
instance Split.zero (l:List Oper):Split 0 l [] l:=⟨rfl,rfl⟩
instance Split.succ (m:Nat)(o:Oper)(l hd tl:List Oper)[h:Split m l hd tl]:Split (m+1) (o::l) (o::hd) tl:=⟨by rw[h.eq];rfl,by rw[dy,h.len]⟩
theorem St.rqs {n:Nat}{F:Fr}{A:World→Prop}{id:Nat}{l hd tl:List Oper}(m:Nat)[sp:Split m l hd tl](hm:P.follows .mixedOrders=true)(hB:Region.lexB .any hd.toArray=true)(hB2:xc l.toArray m=true)(hA:E0 A)
 (h:Sq n F (wpQuiet P hd.toArray A (λa'=>∀w',A w'→wpList P l.toArray Q tl a' w') hd)):St n F A ((Code.region id l.toArray true).wp P Q):=
 St.rqt hd tl sp.eq hm hB (by rw[sp.len];exact hB2) hA h
theorem Sq.tail {n:Nat}{F:Fr}{A:World→Prop}{ops':Array Oper}{tl:List Oper}(h:St n F A (wpList P ops Q tl)):Sq n F (wpQuiet P ops' A (λa'=>∀w',A w'→wpList P ops Q tl a' w') []):=λa ha w hw=>h a w ha hw
end
def oW (b:Nat)(v:Value):df where
 f ρ:=∃C e fr,ρ b=some (.cells C e fr)∧C[0]?=some v
 mono ρ mY h:=by
  rintro ⟨C,e,fr,h1,h2⟩;exact⟨C,e,fr,h _ _ h1,h2⟩
class rG (b:Nat)(H:List ao)(v:outParam Value):Prop where
 mem:aF (oW b v)∈H
instance (priority:=high) rG.here (b:Nat)(v:Value)(H:List ao):rG b (aF (oW b v)::H) v:=⟨aU ..⟩
instance rG.there (b:Nat)(v:Value)(E:ao)(H:List ao)[h:rG b H v]:rG b (E::H) v:=⟨cE _ h.mem⟩
instance nZ.map (ds:List df):nZ ds (ds.map aF):=⟨λ_ h=>dq h⟩
instance (priority:=low) nZ.lift (ds:List df)(E:ao)(H:List ao)[h:nZ ds H]:nZ ds (E::H):=⟨λd hd=>cE _ (h.mem d hd)⟩
def all (w:World):Ro:=λk=>w.heap[k]?
theorem eQ.Xq {c:Ctx}{H:List ao}{ρ:Ro}{w:World}(h:eQ c H ρ w):Ro.le ρ (J.all w):=λk o hk=>h.fits k o hk
def cw (c:Ctx)(H:List ao)(ds:List df):Prop:=∀ρ w,eQ c H ρ w→∀d∈ds,d.f (J.all w)
section
variable {c:Ctx}{H R:List ao}{ds:List df}{v:Value}
theorem cw.nil:cw c H []:=λ_ _ _ _ h=>by simp at h
theorem cw.aF {d:df}(h:cw c H ds)[hd:uI d H]:cw c H (d::ds):=λρ w hm d' nY=>by
 rcases cD.1 nY with rfl|nY
 ·exact d'.mono _ _ hm.Xq (hm.aF hd)
 ·exact h ρ w hm d' nY
theorem B4 {α:Type}{Rr:Rp α}{xs:List α}{e:TypeId}{m:Nat}{cs:List Value}{w:World}(h:w.ownsRow 0 e Rr.size v m cs)(kq:cs=rows Rr xs)(hm:m=xs.length)(vh:∀x∈xs,Rr.wf x):(sl Rr v xs).f (J.all w):=by
 subst kq hm
 rcases h.2 with⟨rfl,h0⟩|⟨g,cap,cur,rfl,_,hg,kV,kS,kq,nS⟩
 ·have hx:xs=[]:=kf h0
  subst hx;exact⟨none,0,rfl,aW _,by unfold maxLen;omega,λx hx=>by simp at hx,.inl rfl⟩
 ·refine⟨some ⟨g,0,none⟩,cap,rfl,kV,kS,vh,.inr ⟨g,0,cur,e,(0,0),rfl,hg,λj u hj=> ?_⟩⟩
  rw[←nS,rA]at hj
  split at hj
  ·simpa using hj
  ·simp at hj
theorem cw.row {α:Type}{Rr:Rp α}{xs:List α}{e:TypeId}{size m:Nat}{cs:List Value}(h:cw c H ds)[hr:wH v H e size m cs](gQ:size=Rr.size)(kq:cs=rows Rr xs)(hm:m=xs.length)(vh:∀x∈xs,Rr.wf x):cw c H (sl Rr v xs::ds):=λρ w nD d' nY=>by
 subst gQ
 rcases cD.1 nY with rfl|nY
 ·exact B4 (nD.row hr) kq hm vh
 ·exact h ρ w nD d' nY
theorem cw.aX {b:Nat}{u:Value}{e:TypeId}{fr:Nat×Nat}{L:List Value}(h:cw c H ds)[hb:Az b H (.cells (u::L).toArray e fr)]:cw c H (oW b u::ds):=λρ w nD d' nY=>by
 rcases cD.1 nY with rfl|nY
 ·exact⟨_,e,fr,ep.1 (nD.dK _ hb.mem),by simp⟩
 ·exact h ρ w nD d' nY
def fb (H:List ao):Prop:=∀E∈H,∀ρ mY w,E.ok ρ w→E.ok mY w
theorem fb.nil:fb []:=λ_ h=>by simp at h
theorem fb.row {H:List ao}{e:TypeId}{size m:Nat}{cs:List Value}(h:fb H):fb (J.row v e size m cs::H):=λE hE ρ mY w k=>by
 rcases cD.1 hE with rfl|hE
 ·exact dZ.2 (dZ.1 k)
 ·exact h E hE ρ mY w k
theorem fb.aX {H:List ao}{b:Nat}{o:Obj}(h:fb H):fb (J.aX b o::H):=λE hE ρ mY w k=>by
 rcases cD.1 hE with rfl|hE
 ·exact ep.2 (ep.1 k)
 ·exact h E hE ρ mY w k
theorem iG (ds:List df)(b:Nat):¬kT (ds.map aF) b:=by
 rintro ⟨E,hE,hb⟩;obtain⟨d,_,rfl⟩:=ct.1 hE
 rw[jL]at hb;cases hb
theorem Mm.abS {dr:Prop}{P:Program}{f:FuncId}{args:Array Value}{post:Value→List ao→Prop}(hc:H3 dr P f args (ds.map J.aF) post)(lf:c.dr→dr)(hl:cw c H ds)(hs:∀v H',post v H'→fb H'){w:World}(hm:Mm c H w):
 Calls P f args w λe w'=>∃v H',e= .returned v∧post v H'∧Mm c (H'++H) w':=by
 obtain⟨ρ,hm⟩:=hm.out
 have st:Start (ds.map J.aF) (J.all w) w:=
  ⟨rfl,⟨rfl,λ_=>aW _⟩,rfl,aW _,λ_ _ _=>rfl,λ_ _ h=>h,Ro.le_refl _,λ_ _ _=>rfl,λE hE=>by
   obtain⟨d,hd,rfl⟩:=ct.1 hE;exact dm.2 (hl ρ w hm d hd),
   (λE hE b hb=>by
    obtain⟨d,hd,rfl⟩:=ct.1 hE
    rw[jL]at hb;cases hb),
   by
    refine rC.2 (vY (R:=λ_ _=>True) ?_ (List.pairwise_of_forall λ_ _=>trivial));intro d d' _ _ _ b hb
    rw[jL]at hb;cases hb⟩
 refine(hc w (J.all w) st).mono ?_;rintro e w' ⟨v,H',he,hp,jc⟩;obtain⟨mY,jc⟩:=jc.out;refine⟨v,H',he,hp,?_⟩
 have hold:∀k,k<w.heap.size→w'.heap[k]?=w.heap[k]?:=λk hk=>jc.A2 k hk (iG ds k)
 have xg:∀E∈H',∀b,E.key=some b→w.heap.size≤b:=λE hE b hb=>by
  rcases(jc.own E hE b hb).2 with h1|h1
  ·exact h1
  ·exact absurd h1 (iG ds b)
 refine Mm.mk (ρ:=ρ) ?_
 have h0:eQ c ([]++H) ρ w:=hm
 refine eQ.step h0 ⟨jc.os,⟨jc.tape.1,λq=>jc.tape.2 (lf q)⟩,jc.output,jc.size,λk hk _=>hold k hk,λk o hk=> ?_,Ro.le_refl _,λ_ _ _=>rfl,λE hE=>hs v H' hp E hE mY ρ w' (jc.dK E hE),?_,jc.Gz⟩
 ·rw[hold k (hm.xS hk)];exact hm.fits k o hk
 ·intro E hE b hb
  refine⟨?_,.inl (xg E hE b hb)⟩
  cases hr:ρ b with
  |none=>rfl
  |some o=>have h1:=hm.xS hr;have h2:=xg E hE b hb;omega
theorem Mm.Xr {P:Program}{f:FuncId}{args:Array Value}{post:Value→List ao→Prop}(hc:dt P f args (ds.map J.aF) post)(hl:cw c H ds)(hs:∀v H',post v H'→fb H'){w:World}(hm:Mm c H w):
 Calls P f args w λe w'=>∃v H',e= .returned v∧post v H'∧Mm c (H'++H) w':=Mm.abS hc.gen (λ_=>trivial) hl hs hm
end
section
variable {P:Program}{n:Nat}{F:Fr}{A:World→Prop}{c:Ctx}{H R:List ao}{ty:TypeId}{x y z:Operand}{v:Value}{Q:Exit→Act→World→Prop}{ops:Array Oper}{rest:List Oper}
 {d:Nat} {pos:String} {after:Array Edge} {t e:TypeId}
theorem Ev.EC {b:Nat}{u:Value}{dd:TypeDesc}[hc:rG b H u](hx:aZ F x (.pointer (some ⟨b,0,none⟩)))(ht:P.underlying t=some dd)(jv:(match dd with| .struct _| .array _ _=>False|_=>True)):
 Ev P n F (Mm c H) (.load t x) ty u:= .of_run λa w ha hw=>by
 obtain⟨ρ,hm⟩:=hw.out;obtain⟨C,e,fr,h1,h2⟩:=dm.1 (hm.dK _ hc.mem)
 simp[execOp,hx.eval ha,Instr.loadAt,Instr.sureAddr,eM ht jv ((bh (hm.fits _ _ h1)).trans h2)]
theorem Ev.xh {f:FuncId}{xs:List Operand}{pG:Array TypeId}{vs:List Value}{ds:List df}(hc:dA P f vs.toArray ds v)(nh:aJ P f)(hx:bF F xs vs)(hl:cw c H ds):
 Ev P n F (Mm c H) (.call {callee:= .value (.func f),args:=xs.toArray,argTypes:=pG}) ty v:=by
 intro a w ha hw;rw[lK (caps:=[]) nh (bF.cons (aZ.mk rfl) hx) ha w]
 simp only[List.append_nil,Oper.quietUpon,true_and]
 refine(Mm.Xr (post:=λu H'=>u=v∧H'=[]) (λw ρ hs=>(hc w ρ hs).mono λe w' ⟨u,H',h1,h2,h3⟩=>⟨u,[],h1,⟨h2,rfl⟩,?_⟩) hl (λ_ _ h=>by rw[h.2];exact fb.nil) hw).mono ?_
 ·obtain⟨mY,h3⟩:=h3.out
  exact Mm.mk (eQ.left (L:=[]) h3)
 ·rintro e w' ⟨u,H',rfl,⟨rfl,rfl⟩,hm⟩
  exact⟨rfl,hm⟩
theorem Ev.nF {f:FuncId}{xs:List Operand}{pG:Array TypeId}{vs caps:List Value}{ds:List df}(hc:dA P f (vs++caps).toArray ds v)(nh:aJ P f)(hf:aZ F x (.func (.func f) #[] caps.toArray))(hx:bF F xs vs)(hl:cw c H ds):
 Ev P n F (Mm c H) (.call {callee:= .value x,args:=xs.toArray,argTypes:=pG}) ty v:=by
 intro a w ha hw;rw[lK nh (bF.cons hf hx) ha w]
 simp only[Oper.quietUpon,true_and]
 refine(Mm.Xr (post:=λu H'=>u=v∧H'=[]) (λw ρ hs=>(hc w ρ hs).mono λe w' ⟨u,H',h1,h2,h3⟩=>⟨u,[],h1,⟨h2,rfl⟩,?_⟩) hl (λ_ _ h=>by rw[h.2];exact fb.nil) hw).mono ?_
 ·obtain⟨mY,h3⟩:=h3.out
  exact Mm.mk (eQ.left (L:=[]) h3)
 ·rintro e w' ⟨u,H',rfl,⟨rfl,rfl⟩,hm⟩
  exact⟨rfl,hm⟩
@[irreducible] def pR (v:Value)(size l h:Nat):Value:=
 match v with
 | .slice a _ cap=> .slice (if cap=l then a else a.map (·.add (l*size))) (h-l) (cap-l)
 |_=>undef
theorem jk (a:Option Addr)(m cap size l h:Nat):pR (.slice a m cap) size l h= .slice (if cap=l then a else a.map (·.add (l*size))) (h-l) (cap-l):=by unfold pR;rfl
theorem Sp {α:Type}{Rr:Rp α}{xs:List α}{l h:Nat}{ρ:Ro}(hs:(sl Rr v xs).f ρ)(hl:l≤h)(hh:h≤xs.length):(sl Rr (pR v Rr.size l h) ((xs.drop l).take (h-l))).f ρ:=by
 obtain⟨a,cap,rfl,h2,h3,h4,h5⟩:=hs
 have hlen:((xs.drop l).take (h-l)).length=h-l:=by simp;omega
 refine⟨if cap=l then a else a.map (·.add (l*Rr.size)),cap-l,by rw[jk,hlen],by omega,by omega,λx hx=>h4 x (List.mem_of_mem_drop (xO hx)),?_⟩
 by_cases h0:(xs.drop l).take (h-l)=[]
 ·exact .inl h0
 ·right
  have iX:l<h:=by
   rcases e7 l h with h6|h6
   ·exact h6
   ·exact absurd (by rw[show h-l=0 by omega];rfl) h0
  have xi:cap≠l:=by omega
  rcases h5 with rfl|⟨b,off,C,e,fr,rfl,h6,h7⟩
  ·simp at hh;omega
  ·refine⟨b,off+l*Rr.size,C,e,fr,by rw[aA xi];simp[Addr.add_lit],h6,λj u hj=> ?_⟩
   rw[Nat.add_assoc]
   apply h7
   -- the cells of the part are the cells of the whole,from there on
   have key:∀(ys:List α) (l:Nat),l≤ys.length→rows Rr ys=rows Rr (ys.take l)++rows Rr (ys.drop l):=λys l _=>by
    unfold rows;rw[←Am,sO]
   have k1:=key xs l (by omega)
   have k2:=key (xs.drop l) (h-l) (by simp;omega)
   have e1:(xs.take l).length=l:=by simp;omega
   rw[k1,mW (by rw[gn,e1];omega),gn,k2];rw[e1,show l*Rr.size+j-l*Rr.size=j by omega]
   have LS:=(eD.1 hj).1
   rw[pd LS];exact hj
theorem St.part {α:Type}{Rr:Rp α}{xs:List α}{T:Act→World→Prop}(v:Value)(l h:Nat)[hd:sQ v H α Rr xs](hl:l≤h)(hh:h≤xs.length)
 (k:St n F (Mm c (aF (sl Rr (pR v Rr.size l h) ((xs.drop l).take (h-l)))::H)) T):St n F (Mm c H) T:=
 St.fact _ (λ_ _ hm=>Sp (hm.sl hd) hl hh) k
theorem Ev.qP {α:Type}{Rr:Rp α}{xs:List α}{i:Int}{l:Nat}{ki:IntKind}{lo:Operand}[hd:sQ v H α Rr xs](hx:aZ F x v)(hlo:aZ F lo (.int ki i))(ht:P.underlying t=some (.slice e))(hs:(P.info? e).map (·.size)=some Rr.size)
 (JT:i=l) (hl:l≤xs.length):Ev P n F (Mm c H) (.slice t x (some lo) none none) ty (pR v Rr.size l xs.length):= .of_run λa w ha hw=>by
 obtain⟨ρ,hm⟩:=hw.out;obtain⟨ad,cap,rfl,h2,_⟩:=hm.sl hd;obtain⟨inf,nb,gQ⟩:=dG.1 hs;subst JT
 have b2:(0:Int)≤(l:Int)∧(l:Int)≤(xs.length:Int):=by omega
 simp only[execOp,hx.eval ha,hlo.eval ha,Option.map_some,Option.map_none,Instr.sliceAt,Instr.slice,Instr.sliceBounds,Instr.sliceBound,asIntOf,Sem.run_bind,run_underlying ht,Result.andThen_ok,Sem.run_pure,b2,and_self,if_true,Int.toNat_natCast,sizeOf,typeInfo,run_program,nb,gQ,jk]
def isNil:Value→Bool
 | .slice none _ _=>true
 |_=>false
theorem sV (k:Nat){ad:Option Addr}{m cap:Nat}{w:World}(ht:P.underlying t=some (.slice e)):(Op.equalIn (k+1) t (.slice ad m cap) (.slice none 0 0)).run P w= .ok (isNil (.slice ad m cap)) w:=by
 cases ad<;>simp[Op.equalIn,run_underlying ht,isNil]
theorem Ev.slnil {ad:Option Addr}{m cap:Nat}{u:TypeId}(hx:aZ F x (.slice ad m cap))(ht:P.underlying t=some (.slice e)):Ev P n F A (.binOp .eql t x (.const (.slice none 0 0)) u) ty (.bool (isNil (.slice ad m cap))):= .of_run λa w ha _=>by
 have h1:=sV (P:=P) (w:=w) 9999 (ad:=ad) (m:=m) (cap:=cap) ht
 have h2:a.eval (.const (.slice none 0 0))= .slice none 0 0:=rfl
 simp only[execOp,hx.eval ha,h2,eqGuard_at_slice,binOp,Sem.run_bind,Sem.run_pure,Result.andThen_ok]
 unfold Op.equal Op.maxDepth;rw[h1];rfl
theorem St.aO {size m m':Nat}{cs eh:List Value}{T:Act→World→Prop}(v:Value)[tk:ko v H e size m cs R](hm:m=m')(h:cs=eh)(k:St n F (Mm c (row v e size m' eh::R)) T):St n F (Mm c H) T:=by
 subst h hm
 exact k.pQ λ_ hw=>let⟨_,q⟩:=hw.out;Mm.mk (q.perm tk.perm)
theorem B5 {α:Type}{Rr:Rp α}(h1:Rr.size=1){u:Value}{x:α}(hx:Rr.cells x=[u]):∀(xs:List α) (k:Nat),(rows Rr xs).set k u=rows Rr (xs.set k x)
 | [],_=>by simp[rows]
 |y::xs,0=>by
  have:=Rr.len y
  rw[h1]at this
  obtain⟨v,hv⟩:∃v,Rr.cells y=[v]:=by
   match hc:Rr.cells y,this with
   | [v],_=>exact⟨v,rfl⟩
  simp[rows,hv,hx]
 |y::xs,k+1=>by
  have:=Rr.len y
  rw[h1]at this
  obtain⟨v,hv⟩:∃v,Rr.cells y=[v]:=by
   match hc:Rr.cells y,this with
   | [v],_=>exact⟨v,rfl⟩
  have ih:=B5 h1 hx xs k
  simp only[rows,List.flatMap_cons,hv,List.singleton_append,List.set_cons_succ]at ih⊢
  rw[ih]
theorem aw {α:Type}(Rr:Rp α)(xs:List α)(x:α):rows Rr (xs++ [x])=rows Rr xs++Rr.cells x:=by simp[rows]
theorem xj {α:Type}{Rr:Rp α}{u:Value}{x:α}(hx:Rr.cells x=[u])(m:Nat):rows Rr (List.replicate m x)=List.replicate m u:=by
 induction m with
 |zero=>rfl
 |succ m ih=>simp only[List.replicate_succ,rows,List.flatMap_cons,hx,List.singleton_append]at ih⊢;rw[ih]
end
instance (priority:=high) eE.self (L:List ao):eE L L []:=⟨by simp⟩
instance (priority:=low) eE.skip (L:List ao)(E:ao)(H R:List ao)[h:eE L H R]:eE L (E::H) (E::R):=⟨(h.perm.cons E).trans rD.symm⟩
open Classical in
noncomputable def oX (L:List ao) (w:World):Ro:=λk=>if kT L k then none else w.heap[k]?
def gp (c:Ctx)(L R:List ao)(ds:List df):Prop:=∀ρ w,eQ c (L++R) ρ w→∀d∈ds,d.f (oX L w)
section
variable {c:Ctx}{L R:List ao}{ds:List df}{v:Value}
theorem eQ.Xs {ρ:Ro}{w:World}(h:eQ c (L++R) ρ w):Ro.le ρ (oX L w):=λk o hk=>by
 unfold oX;rw[aA]
 ·exact h.fits k o hk
 ·rintro ⟨E,hE,hb⟩
  have:=(h.own E (km _ hE) k hb).1
  rw[hk]at this;cases this
theorem B6 {ρ:Ro}{w:World}(h:eQ c (L++R) ρ w){E:ao}(hE:E∈R){b:Nat}(hb:E.key=some b):oX L w b=w.heap[b]?:=by
 unfold oX;rw[aA];rintro ⟨E',A3,jZ⟩;exact(rB.1 h.Gz).2.2 E' A3 E hE b jZ hb
theorem gp.nil:gp c L R []:=λ_ _ _ _ h=>by simp at h
theorem gp.aF {d:df}(h:gp c L R ds)[hd:uI d R]:gp c L R (d::ds):=λρ w hm d' nY=>by
 rcases cD.1 nY with rfl|nY
 ·exact d'.mono _ _ hm.Xs (dm.1 (hm.dK _ (mX _ hd.mem)))
 ·exact h ρ w hm d' nY
theorem gp.row {α:Type}{Rr:Rp α}{xs:List α}{e:TypeId}{size m:Nat}{cs:List Value}(h:gp c L R ds)[hr:wH v R e size m cs](gQ:size=Rr.size)(kq:cs=rows Rr xs)(hm:m=xs.length)(vh:∀x∈xs,Rr.wf x):gp c L R (sl Rr v xs::ds):=λρ w nD d' nY=>by
 subst gQ
 rcases cD.1 nY with rfl|nY
 ·have HD:=dZ.1 (nD.dK _ (mX _ hr.mem))
  obtain⟨a,cap,h1,h2,h3,h4,h5⟩:=B4 (w:=w) HD kq hm vh;refine⟨a,cap,h1,h2,h3,h4,?_⟩
  rcases h5 with h5|⟨b,off,C,e',fr,rfl,h6,h7⟩
  ·exact .inl h5
  ·refine .inr ⟨b,off,C,e',fr,rfl,?_,h7⟩
   rw[B6 nD hr.mem (b:=b) (by rw[dV,h1];rfl)];exact h6
 ·exact h ρ w nD d' nY
theorem gp.aX {b:Nat}{u:Value}{e:TypeId}{fr:Nat×Nat}{l:List Value}(h:gp c L R ds)[hb:Az b R (.cells (u::l).toArray e fr)]:gp c L R (oW b u::ds):=λρ w nD d' nY=>by
 rcases cD.1 nY with rfl|nY
 ·refine⟨(u::l).toArray,e,fr,?_,rfl⟩
  rw[B6 nD hb.mem (b:=b) (gY _ _)];exact ep.1 (nD.dK _ (mX _ hb.mem))
 ·exact h ρ w nD d' nY
theorem Mm.Xt {dr:Prop}{P:Program}{f:FuncId}{args:Array Value}{post:Value→List ao→Prop}(hc:H3 dr P f args (ds.map J.aF++L) post)(lf:c.dr→dr)(hl:gp c L R ds)(hsL:fb L)(hs:∀v H',post v H'→fb H'){w:World}(hm:Mm c (L++R) w):
 Calls P f args w λe w'=>∃v H',e= .returned v∧post v H'∧Mm c (H'++R) w':=by
 obtain⟨ρ,hm⟩:=hm.out
 have nE:∀b,kT (ds.map J.aF++L) b↔kT L b:=λb=>by
  constructor
  ·rintro ⟨E,hE,hb⟩
   rcases ba.1 hE with hE|hE
   ·exact absurd ⟨E,hE,hb⟩ (iG ds b)
   ·exact⟨E,hE,hb⟩
  ·rintro ⟨E,hE,hb⟩;exact⟨E,mX _ hE,hb⟩
 have st:Start (ds.map J.aF++L) (oX L w) w:=by
  refine⟨rfl,⟨rfl,λ_=>aW _⟩,rfl,aW _,λ_ _ _=>rfl,λk o hk=> ?_,Ro.le_refl _,λ_ _ _=>rfl,λE hE=> ?_,λE hE b hb=> ?_,?_⟩
  ·unfold oX at hk
   split at hk
   ·cases hk
   ·exact hk
  ·rcases ba.1 hE with hE|hE
   ·obtain⟨d,hd,rfl⟩:=ct.1 hE
    exact dm.2 (hl ρ w hm d hd)
   ·exact hsL E hE ρ _ w (hm.dK E (km _ hE))
  ·have jZ:kT L b:=(nE b).1 ⟨E,hE,hb⟩
   exact⟨by unfold oX;rw[aB jZ],.inr ((nE b).2 jZ)⟩
  ·refine rB.2 ⟨?_,(rB.1 hm.Gz).1,?_⟩
   ·refine rC.2 (vY (R:=λ_ _=>True) ?_ (List.pairwise_of_forall λ_ _=>trivial))
    intro d d' _ _ _ b hb
    rw[jL]at hb;cases hb
   ·intro E hE E' _ b hb
    obtain⟨d,_,rfl⟩:=ct.1 hE
    rw[jL]at hb;cases hb
 refine(hc w (oX L w) st).mono ?_;rintro e w' ⟨v,H',he,hp,jc⟩;obtain⟨mY,jc⟩:=jc.out;refine⟨v,H',he,hp,?_⟩
 have hold:∀k,k<w.heap.size→¬kT L k→w'.heap[k]?=w.heap[k]?:=λk hk h=>jc.A2 k hk (λh'=>h ((nE k).1 h'))
 refine Mm.mk (ρ:=ρ) ?_;refine eQ.step hm ⟨jc.os,⟨jc.tape.1,λq=>jc.tape.2 (lf q)⟩,jc.output,jc.size,λk hk h=>hold k hk h,λk o hk=> ?_,Ro.le_refl _,λ_ _ _=>rfl,λE hE=>hs v H' hp E hE mY ρ w' (jc.dK E hE),?_,jc.Gz⟩
 ·rw[hold k (hm.xS hk)]
  ·exact hm.fits k o hk
  ·rintro ⟨E,hE,hb⟩
   have:=(hm.own E (km _ hE) k hb).1
   rw[hk]at this;cases this
 ·intro E hE b hb
  rcases(jc.own E hE b hb).2 with h1|h1
  ·refine⟨?_,.inl h1⟩
   cases hr:ρ b with
   |none=>rfl
   |some o=>have h2:=hm.xS hr;simp only at h1;omega
  ·have hL:=(nE b).1 h1
   obtain⟨E',A3,jZ⟩:=hL;exact⟨(hm.own E' (km _ A3) b jZ).1,.inr ⟨E',A3,jZ⟩⟩
theorem Mm.abT {P:Program}{f:FuncId}{args:Array Value}{post:Value→List ao→Prop}(hc:dt P f args (ds.map J.aF++L) post)(hl:gp c L R ds)(hsL:fb L)(hs:∀v H',post v H'→fb H'){w:World}(hm:Mm c (L++R) w):
 Calls P f args w λe w'=>∃v H',e= .returned v∧post v H'∧Mm c (H'++R) w':=Mm.Xt hc.gen (λ_=>trivial) hl hsL hs hm
end
section
variable {P:Program}{n:Nat}{F:Fr}{A:World→Prop}{c:Ctx}{H R:List ao}{ty:TypeId}{x y z:Operand}{v:Value}{Q:Exit→Act→World→Prop}{ops:Array Oper}{rest:List Oper}
 {d:Nat} {pos:String} {after:Array Edge} {t e:TypeId}
theorem St.abU {f:FuncId}{xs:List Operand}{pG:Array TypeId}{vs:List Value}{ds:List df}{L R:List ao}{post:Value→List ao→Prop}(hc:dt P f vs.toArray (ds.map aF++L) post)(nh:aJ P f)(hx:bF F xs vs)[tk:eE L H R]
 (hl:gp c L R ds) (hsL:fb L) (hs:∀v H',post v H'→fb H') (hd:Nat.ble (d+1) n=true)
 (h:∀v H',post v H'→St n ((d,v)::F) (Mm c (H'++R)) (wpList P ops Q rest)):
 St n F (Mm c H) (wpList P ops Q ({dst:=some d,op:= .call {callee:= .value (.func f),args:=xs.toArray,argTypes:=pG},type:=ty,pos:=pos,after:=after,guard:=none}::rest)):=by
 intro a w ha hw;refine gD rfl (iE (caps:=[]) nh (bF.cons (aZ.mk rfl) hx) ha w ?_)
 simp only[List.append_nil]
 refine(Mm.abT hc hl hsL hs (hw.take (L:=L))).mono ?_;rintro e w' ⟨u,H',rfl,hp,hm⟩;exact⟨u,rfl,h u H' hp _ w' (ha.put (eX hd) u) hm⟩
theorem St.split {T:Act→World→Prop}(k:Nat)(b:Bool)(hk:look F k=some (.bool b))(ht:b=true→St n ((k,.bool true)::F) A T)(hf:b=false→St n ((k,.bool false)::F) A T):St n F A T:=by
 intro a w ha hw
 have key:∀u,u=Value.bool b→Has n a ((k,u)::F):=λu hu=>⟨ha.size,ha.defers,λt v hv=>by
  simp only[look]at hv
  cases hb:Nat.beq t k with
  |true=>
   have e:t=k:=ve hb
   subst e
   simp only[hb,cond_true,Option.some.injEq]at hv
   subst hv
   rw[hu];exact ha.slot _ _ hk
  |false=>simp only[hb,cond_false]at hv;exact ha.slot _ _ hv⟩
 cases hb:b with
 |true=>exact ht hb a w (key _ (by rw[hb])) hw
 |false=>exact hf hb a w (key _ (by rw[hb])) hw
theorem St.ag {j dj:Nat}{want:Bool}{op:Op}(hj:(ops[j]?).bind (·.dst)=some dj)(hl:look F dj=some (.bool (!want)))(hd:Nat.ble (d+1) n=true)
 (h:St n ((d,undef)::F) A (wpList P ops Q rest)):St n F A (wpList P ops Q ({dst:=some d,op:=op,type:=ty,pos:=pos,after:=after,guard:=some (j,want)}::rest)):=by
 intro a w ha hw
 have pZ:=lJ (l:=ops) (c:=false) (o:={dst:=some d,op:=op,type:=ty,pos:=pos,after:=after,guard:=some (j,want)}) rfl hj (ha.slot _ _ hl) ⟨(λh=>by cases h),λ_=> .inl rfl⟩
 simp only[wpList,pZ]
 exact h _ w (ha.put (eX hd) undef) hw
theorem St.cj {j dj:Nat}{want:Bool}{op:Op}(hj:(ops[j]?).bind (·.dst)=some dj)(hl:look F dj=some undef)(hd:Nat.ble (d+1) n=true)
 (h:St n ((d,undef)::F) A (wpList P ops Q rest)):St n F A (wpList P ops Q ({dst:=some d,op:=op,type:=ty,pos:=pos,after:=after,guard:=some (j,want)}::rest)):=by
 intro a w ha hw
 have pZ:=lJ (l:=ops) (c:=false) (o:={dst:=some d,op:=op,type:=ty,pos:=pos,after:=after,guard:=some (j,want)}) rfl hj (ha.slot _ _ hl) ⟨(λh=>by cases h),λ_=> .inr rfl⟩
 simp only[wpList,pZ]
 exact h _ w (ha.put (eX hd) undef) hw
theorem St.aa {j dj:Nat}{want:Bool}{op:Op}{dd:Option Tmp}(hj:(ops[j]?).bind (·.dst)=some dj)(hl:look F dj=some (.bool want))
 (h:St n F A (wpList P ops Q ({dst:=dd,op:=op,type:=ty,pos:=pos,after:=after,guard:=none}::rest))):
 St n F A (wpList P ops Q ({dst:=dd,op:=op,type:=ty,pos:=pos,after:=after,guard:=some (j,want)}::rest)):=by
 intro a w ha hw
 have pZ:=lJ (l:=ops) (c:=true) (o:={dst:=dd,op:=op,type:=ty,pos:=pos,after:=after,guard:=some (j,want)}) rfl hj (ha.slot _ _ hl) ⟨λ_=>rfl,(λh=>by cases h)⟩
 have h1:=h a w ha hw
 simp only[wpList,pZ,if_true]
 simp only[wpList,Region.wanted,if_true]at h1
 rcases h1 with h1|⟨h1,h2⟩
 ·left
  unfold Oper.wp Oper.upon at h1⊢;rw[fa]at h1⊢;exact h1
 ·right
  refine⟨?_,h2⟩;unfold Oper.asks at h1⊢;rw[fa]at h1⊢;exact h1
section rows
variable {size m:Nat}{cs:List Value}
theorem St.bS {T:Act→World→Prop}(v:Value)[hr:wH v H e size m cs](h:v.oneCell'=true→cs.length=m*size→St n F (Mm c H) T):St n F (Mm c H) T:=by
 intro a w ha hw;obtain⟨ρ,hm⟩:=hw.out
 have h1:=hm.row hr
 refine h ?_ h1.1 a w ha hw
 rcases h1.2 with⟨rfl,_⟩|⟨g,cap,cur,rfl,_⟩<;>rfl
theorem Ev.oY {j:Int}{h:Nat}{kj:IntKind}{hi:Operand}[hr:wH v H e size m cs](hx:aZ F x v)(hhi:aZ F hi (.int kj j))(ht:P.underlying t=some (.slice e))(hs:(P.info? e).map (·.size)=some size)
 (hj:j=h) (hh:h≤m):Ev P n F (Mm c H) (.slice t x none (some hi) none) ty (pR v size 0 h):= .of_run λa w ha hw=>by
 obtain⟨ρ,hm⟩:=hw.out;obtain⟨inf,nb,gQ⟩:=dG.1 hs;subst hj
 rcases(hm.row hr).2 with⟨rfl,rfl⟩|⟨g,cap,cur,rfl,_,_,kV,_⟩
 ·have b1:(0:Int)≤(h:Int)∧(h:Int)≤((0:Nat):Int):=by omega
  simp only[execOp,hx.eval ha,hhi.eval ha,Option.map_some,Option.map_none,Instr.sliceAt,Instr.slice,Instr.sliceBounds,Instr.sliceBound,asIntOf,Sem.run_bind,run_underlying ht,Result.andThen_ok,Sem.run_pure,b1,and_self,if_true,Int.toNat_natCast,sizeOf,typeInfo,run_program,nb,gQ,jk]
 ·have b1:(0:Int)≤(h:Int)∧(h:Int)≤(cap:Int):=by omega
  simp only[execOp,hx.eval ha,hhi.eval ha,Option.map_some,Option.map_none,Instr.sliceAt,Instr.slice,Instr.sliceBounds,Instr.sliceBound,asIntOf,Sem.run_bind,run_underlying ht,Result.andThen_ok,Sem.run_pure,b1,and_self,if_true,Int.toNat_natCast,sizeOf,typeInfo,run_program,nb,gQ,jk]
theorem St.CP {T:Act→World→Prop}(v:Value)(h:Nat)[tk:ko v H e size m cs R](hh:h≤m)(k:St n F (Mm c (row (pR v size 0 h) e size h (cs.take (h*size))::R)) T):St n F (Mm c H) T:=by
 refine k.pQ λw hw=> ?_
 obtain⟨ρ,hm⟩:=hw.out
 have hm:=hm.perm tk.perm
 have hr:=dZ.1 (hm.dK _ (aU ..))
 have hlen:(cs.take (h*size)).length=h*size:=by
  rw[e9,hr.1];exact ji (gO _ hh)
 rcases hr.2 with⟨rfl,rfl⟩|⟨g,cap,cur,rfl,h0,hg,kV,kS,kq,nS⟩
 ·have:h=0:=by omega
  subst this;refine Mm.mk (hm.alter rfl ⟨rfl,aW _⟩ rfl (aW _) (λ_ _ _=>rfl) (dZ.2 ⟨hlen,.inl ⟨?_,rfl⟩⟩) (λb hb=> ?_))
  ·rw[jk];simp
  ·rw[dV,jk]at hb;simp[Value.ownBlock]at hb
 ·have e1:pR (.slice (some ⟨g,0,none⟩) m cap) size 0 h= .slice (some ⟨g,0,none⟩) h cap:=by
   rw[jk]
   simp[Addr.add_zero']
  rw[e1];refine Mm.mk (hm.alter rfl ⟨rfl,aW _⟩ rfl (aW _) (λ_ _ _=>rfl) (dZ.2 ⟨hlen,.inr ⟨g,cap,cur,rfl,h0,hg,by omega,kS,kq,?_⟩⟩) (λb hb=> ?_))
  ·rw[←nS,List.take_take,ji (gO _ hh)]
  ·rw[dV]at hb⊢;exact .inl hb
end rows
theorem St.ED {T:Act→World→Prop}(b:Nat){u:Value}{L:List Value}[tk:lY b H (.cells (u::L).toArray e (0,0)) R](h:St n F (Mm c (aF (oW b u)::R)) T):St n F (Mm c H) T:=by
 refine h.pQ λw hw=> ?_
 obtain⟨ρ,hm⟩:=hw.out
 have hm:=hm.perm tk.perm
 have hg:=ep.1 (hm.dK _ (aU ..))
 have nE:=hm.own _ (aU ..) b (gY _ _)
 have A5:b<w.heap.size:=(pP.1 hg).1
 have Mw:=ib.1 hm.Gz
 refine Mm.mk (ρ:=λk=>if k=b then some (.cells (u::L).toArray e (0,0))else ρ k) ?_
 have hle:Ro.le ρ (λk=>if k=b then some (.cells (u::L).toArray e (0,0))else ρ k):=by
  intro k o hk
  by_cases e1:k=b
  ·subst e1;rw[nE.1]at hk;cases hk
  ·simp only[e1,if_false];exact hk
 refine eQ.fact ⟨hm.os,hm.tape,hm.output,hm.size,hm.A2,?_,Ro.le_trans hm.le hle,?_,?_,?_,Mw.2⟩ _ ?_
 ·intro k o hk
  by_cases e1:k=b
  ·subst e1;simp only[if_true,Option.some.injEq]at hk;subst hk;exact hg
  ·simp only[e1,if_false]at hk;exact hm.fits k o hk
 ·intro k hk hM
  by_cases e1:k=b
  ·subst e1
   rcases nE.2 with h2|h2
   ·omega
   ·exact absurd h2 hM
  ·simp only[e1,if_false];exact hm.new k hk hM
 ·intro E hE
  exact E.loc hle (λ_ _=>rfl) (hm.dK E (cE _ hE))
 ·intro E hE b' hb
  have h1:=hm.own E (cE _ hE) b' hb
  refine⟨?_,h1.2⟩
  by_cases e1:b'=b
  ·subst e1;exact absurd hb (Mw.1 E hE _ (gY _ _))
  ·simp only[e1,if_false];exact h1.1
 ·exact⟨(u::L).toArray,e,(0,0),by simp,by simp⟩
end
theorem EE {P:Program}{t:TypeId}{xs:Array Value}{k:Nat}{v:Value}{w:World}(h:(match P.underlying t with|some (.struct _)|some (.array _ _)|none=>false|_=>true)=true)(hv:xs[k]?=some v):(part t xs k).run P w= .ok v w:=by
 unfold part
 cases hu:P.underlying t with
 |none=>rw[hu]at h;cases h
 |some d=>
  rw[hu]at h
  cases d<;>simp_all [isAgg,run_underlying hu]
theorem Sr (d:Nat)(xs ys:Array Value)(P:Program)(w:World):(Op.eqFields d xs ys []).run P w= .ok true w:=rfl
theorem EF {d : Nat} {xs ys : Array Value} {P : Program} {f : Field} {fs : List Field} {r s : Bool} {a b : Value} (hn : (f.name != "_") = true) (ha : ∀ w, (part f.type xs f.offset).run P w = .ok a w) (hb : ∀ w, (part f.type ys f.offset).run P w = .ok b w) (hr : ∀ w, (Op.equalIn d f.type a b).run P w = .ok r w) (hs : ∀ w, (Op.eqFields d xs ys fs).run P w = .ok s w) (w : World) :
 (Op.eqFields d xs ys (f::fs)).run P w= .ok (r&&s) w:=by
 have hn : f.name ≠ "_" := by simpa using hn
 simp only[Op.eqFields,if_pos hn,Sem.run_bind,ha,hb,hr,Result.andThen_ok]
 cases r with
 |true=>simp only[Bool.not_true,Bool.false_eq_true,if_false,hs,Bool.true_and]
 |false=>simp
class App (A B:List ao)(C:outParam (List ao)):Prop where
 eq:A++B=C
instance App.nil (B:List ao):App [] B B:=⟨rfl⟩
instance App.cons (E:ao)(A B C:List ao)[h:App A B C]:App (E::A) B (E::C):=⟨by rw[r7,h.eq]⟩
section
variable {P:Program}{n:Nat}{F:Fr}{A:World→Prop}{c:Ctx}{H R C:List ao}{ty:TypeId}{x y z:Operand}{u v:Value}{T:Act→World→Prop}
theorem St.known (k:Nat)(b u:Bool)(hk:look F k=some (.bool b))(hb:b=u)(h:St n ((k,.bool u)::F) A T):St n F A T:=by
 subst hb
 cases b with
 |true=>exact St.split k true hk (λ_=>h) (λh=>by cases h)
 |false=>exact St.split k false hk (λh=>by cases h) (λ_=>h)
theorem Ev.LU {t u':TypeId}{xs ys:Array Value}{r:Bool}(hx:aZ F x (.agg xs))(hy:aZ F y (.agg ys))(hg:P.eqGuardType P.depth t=false)(h:∀w,(Op.equalIn 10000 t (.agg xs) (.agg ys)).run P w= .ok r w):Ev P n F A (.binOp .eql t x y u') ty (.bool r):= .of_run λa w ha _=>by
 simp only[execOp,hx.eval ha,hy.eval ha,Sem.run_bind,run_eqGuard_agg w .eql t x y xs ys hg,run_eql_struct,h,Result.andThen_ok,Sem.run_pure]
theorem Ev.lL {t u':TypeId}{xs ys:Array Value}{r:Bool}(hx:aZ F x (.agg xs))(hy:aZ F y (.agg ys))(hg:P.eqGuardType P.depth t=false)(h:∀w,(Op.equalIn 10000 t (.agg xs) (.agg ys)).run P w= .ok r w):Ev P n F A (.binOp .neq t x y u') ty (.bool (!r)):= .of_run λa w ha _=>by
 simp only[execOp,hx.eval ha,hy.eval ha,Sem.run_bind,run_eqGuard_agg w .neq t x y xs ys hg,run_neq_struct,h,Result.andThen_ok,Sem.run_pure]
theorem Ev.eo {p:Bool}(hx:aZ F x (.bool p))(hp:p=true)(hy:aZ F y v):Ev P n F A (.pick x y z) ty v:= .of_run λa w ha _=>by
 subst hp;simp only[execOp,hx.eval ha,hy.eval ha];simp[asBool]
theorem Ev.ec {p:Bool}(hx:aZ F x (.bool p))(hp:p=false)(hz:aZ F z v):Ev P n F A (.pick x y z) ty v:= .of_run λa w ha _=>by
 subst hp;simp only[execOp,hx.eval ha,hz.eval ha];simp[asBool]
end
abbrev aY:={v:Value//v.oneCell'=true}
section
variable {n:Nat}{F:Fr}{c:Ctx}{H R:List ao}{T:Act→World→Prop}{e:TypeId}
theorem uN {α:Type}(Rr:Rp α)(ρ:Ro):(sl Rr (.slice none 0 0) []).f ρ:=⟨none,0,rfl,aW _,by unfold maxLen;omega,(λx hx=>by cases hx),.inl rfl⟩
theorem uO (vs:List aY):rows cN vs=vs.map Subtype.val:=by
 induction vs with
 |nil=>rfl
 |cons v vs ih=>simp only[rows,List.flatMap_cons,List.map_cons]at ih⊢;rw[ih];rfl
end
end Go.J
namespace Go.J
open Go Go.ChangeShapes Go.WideShapes Go.ChangeAt Go.RowKit Go.Deep
theorem H3.below {dr:Prop}{P:Program}{f:FuncId}{args:Array Value}{ds:List df}{v:Value}{W:World}(h:H3 dr P f args (ds.map J.aF) λu _=>u=v)(hd:∀d∈ds,d.f (J.all W)):Calls P f args W λe W'=>e= .returned v∧Below W.heap.size W W':=by
 have st:Start (ds.map J.aF) (J.all W) W:=
  ⟨rfl,⟨rfl,λ_=>aW _⟩,rfl,aW _,λ_ _ _=>rfl,λ_ _ h=>h,Ro.le_refl _,λ_ _ _=>rfl,λE hE=>by
   obtain⟨d,nY,rfl⟩:=ct.1 hE;exact dm.2 (hd d nY),
   (λE hE b hb=>by
    obtain⟨d,hd,rfl⟩:=ct.1 hE
    rw[jL]at hb;cases hb),
   by
    refine rC.2 (vY (R:=λ_ _=>True) ?_ (List.pairwise_of_forall λ_ _=>trivial));intro d d' _ _ _ b hb
    rw[jL]at hb;cases hb⟩
 refine(h W (J.all W) st).mono ?_;rintro e w' ⟨u,H',rfl,rfl,hm⟩;obtain⟨mY,hm⟩:=hm.out;exact⟨rfl,hm.os,hm.tape.1,hm.output,hm.size,λk hk=>hm.A2 k hk (iG ds k)⟩
theorem iz.below {P:Program}{f:FuncId}{args:Array Value}{ds:List df}{v:Value}{W:World}(h:iz P f args ds v)(hd:∀d∈ds,d.f (J.all W)):Calls P f args W λe W'=>e= .returned v∧Below W.heap.size W W':=H3.below (dr:=False) h hd
section
variable {H:Type}{enc:TypeId×Value→H}{P:Program}{W:World}{α:Type}
theorem j6 {a:Addr}{v:Value}(h:W.cell? a=some v):a.spot=none∧∃C e fr,W.heap[a.block]?=some (.cells C e fr)∧C[a.off]?=some v:=by
 refine⟨World.cell?_spot h,?_⟩;unfold World.cell? at h
 split at h
 ·rename_i C e fr hb
  split at h
  ·cases h
  ·exact⟨C,e,fr,hb,h⟩
 ·cases h
theorem CQ {R:Rp α}:∀(xs:List α) (j:Nat) (u:Value),(rows R xs)[j]?=some u→∃i k x,xs[i]?=some x∧k<R.size∧j=i*R.size+k∧(R.cells x)[k]?=some u
 | [],j,u,h=>by simp[rows]at h
 |x::xs,j,u,h=>by
  simp only[rows,List.flatMap_cons]at h
  by_cases hj:j<R.size
  ·rw[pd (by rw[R.len];exact hj)]at h
   exact⟨0,j,x,rfl,hj,by omega,h⟩
  ·rw[mW (by rw[R.len];omega),R.len]at h
   obtain⟨i,k,y,h1,h2,h3,h4⟩:=CQ xs (j-R.size) u h;exact⟨i+1,k,y,by simpa using h1,h2,by rw[Nat.add_mul,Nat.one_mul];omega,h4⟩
abbrev nT (l:List Nat):Bool:=l.all (· ≤reachBytes)
theorem CR {e:TypeId}:∀{ds:List (DataW H)} {x:DataW H},nT (DataW.weightsAll P e ds)=true→x∈ds→nT (x.weights P e)=true
 | [],_,_,h=>by cases h
 |d::ds,x,h,hx=>by
  simp only[nT,DataW.weightsAll,List.all_append,Bool.and_eq_true]at h
  rcases cD.1 hx with rfl|hx
  ·exact h.1
  ·exact CR h.2 hx
theorem sW:∀{ts:List TypeId} {ds:List (DataW H)} {j:Nat} {t:TypeId} {d:DataW H},nT (DataW.weightsEach P ts ds)=true→ts[j]?=some t→ds[j]?=some d→nT (d.weights P t)=true
 | [],_,_,_,_,_,h,_=>by simp at h
 |_::_,[],_,_,_,_,_,h=>by simp at h
 |t::ts,d::ds,0,_,_,h,h1,h2=>by
  simp only[List.getElem?_cons_zero,Option.some.injEq]at h1 h2
  subst h1 h2
  simp only[nT,DataW.weightsEach,List.all_append,Bool.and_eq_true]at h
  exact h.1
 |t::ts,d::ds,j+1,_,_,h,h1,h2=>by
  simp only[nT,DataW.weightsEach,List.all_append,Bool.and_eq_true]at h
  exact sW (j:=j) h.2 (by simpa using h1) (by simpa using h2)
theorem B7 {t e:TypeId}{es sp:List (DataW H)}(ht:P.underlying t=some (.slice e))(h:nT ((DataW.slice es sp).weights P t)=true){x:DataW H}(hx:x∈es∨x∈sp):nT (x.weights P e)=true:=by
 simp only[nT,DataW.weights,ht,List.all_cons,List.all_append,Bool.and_eq_true]at h
 rcases hx with hx|hx
 ·exact CR h.2.1 hx
 ·exact CR h.2.2 hx
theorem NQ (R:Rp α){t e:TypeId}{LV:List Value}{d:DataW H}{p:List MemPlace}{fuel:Nat}(ht:P.underlying t=some (.slice e))(hc:P.cellsOf e=R.size)
 (lA:∀(n:Nat) (cs:List Value) (y:DataW H×List MemPlace),cs.length=R.size→DataW.trod enc P W 0 (λ_=>true) true n e cs=some y→nT (y.1.weights P e)=true→∃x:α,cs=R.cells x∧R.wf x)
 (pZ:nT (d.weights P t)=true) (hf:DataW.trod enc P W 0 (λ_=>true) true fuel t LV=some (d,p)):∃(v:Value) (xs:List α),LV=[v]∧v.oneCell'=true∧(sl R v xs).f (J.all W)∧((d= .nil∧xs=[])∨∃es sp,d= .slice es sp∧es.length=xs.length):=by
 rcases open_slice ht hf with⟨kq,NR⟩|⟨a,len,cap,m,n,D,Pl,kq,_,hl,hm,nD,NR,hx⟩
 ·exact⟨.slice none 0 0,[],kq,rfl,uN _ _,.inl ⟨by simpa using (Prod.mk.inj NR).1,rfl⟩⟩
 ·refine⟨.slice (some a) len cap,?_⟩
  rw[kq]
  suffices hs:∃xs:List α,(sl R (.slice (some a) len cap) xs).f (J.all W)∧((d= .nil∧xs=[])∨∃es sp,d= .slice es sp∧es.length=xs.length) by
   obtain⟨xs,h1,h2⟩:=hs;exact⟨xs,rfl,rfl,h1,h2⟩
  simp only[if_true]at nD
  subst nD
  rcases Nat.eq_zero_or_pos len with rfl|nc
  ·exact⟨[],⟨_,m,rfl,aR _,hm,(λx hx=>by cases hx),.inl rfl⟩,.inr ⟨_,_,(Prod.mk.inj NR).1,by simp⟩⟩
  have each:∀i,i<m→∃x:α,R.wf x∧∀k u,k<R.size→(R.cells x)[k]?=some u→W.cell? ((a.add (i*R.size)).add k)=some u:=λi hi=>by
   obtain⟨cs,h1,h2⟩:=hx i hi;rw[hc]at h1;obtain⟨_,h4,h5⟩:=World.cells?_some h1
   obtain⟨x,rfl,hw⟩:=lA n cs _ h4 h2 (B7 ht (by rw[(Prod.mk.inj NR).1]at pZ;exact pZ) (by
    rcases e7 i len with q|q
    ·exact .inl (by simp only[List.mem_map,List.mem_range];exact⟨i,q,rfl⟩)
    ·exact .inr (by simp;exact⟨i-len,by omega,by congr 1;omega⟩)))
   exact⟨x,hw,λk u hk hu=>by rw[h5 k hk,hu]⟩
  obtain⟨x0,wi⟩:=each 0 (by omega)
  haveI:Inhabited α:=⟨x0⟩
  obtain⟨X,hX⟩:=choose_lt (α:=α) each
  have wI:((List.range len).map X).length=len:=by simp
  obtain⟨b,off,spot⟩:=a
  have Xu:∃u,(R.cells (X 0))[0]?=some u:=by
   have:=R.len (X 0)
   have:=R.pos
   exact⟨_,bO (by omega)⟩
  obtain⟨u0,Xu⟩:=Xu
  have LW:=(hX 0 (by omega)).2 0 u0 R.pos Xu
  rw[Nat.zero_mul,Deep.add_add]at LW;obtain⟨hs,C,e',fr,hb,_⟩:=j6 LW
  have NS:spot=none:=by simpa[Addr.add]using hs
  subst NS
  have hb:W.heap[b]?=some (.cells C e' fr):=by simpa[Addr.add]using hb
  refine⟨(List.range len).map X,⟨some ⟨b,off,none⟩,m,by rw[wI],by rw[wI];exact hl,hm,?_,.inr ⟨b,off,C,e',fr,rfl,hb,?_⟩⟩,.inr ⟨_,_,(Prod.mk.inj NR).1,by simp⟩⟩
  ·intro x Mx
   obtain⟨i,hi,rfl⟩:=ct.1 Mx;exact(hX i (by have:=cy.1 hi;omega)).1
  ·intro j u hj
   obtain⟨i,k,x,h1,h2,h3,h4⟩:=CQ _ _ _ hj
   have qQ:=EG h1
   rw[wI]at qQ
   have Gg:x=X i:=by simpa[qQ]using h1.symm
   subst Gg
   have:=(hX i (by omega)).2 k u h2 h4
   rw[Deep.add_add,←h3]at this;obtain⟨_,C',e'',fr',jZ,mh⟩:=j6 this
   have jZ:W.heap[b]?=some (.cells C' e'' fr'):=by
    by_cases h0:j=0
    ·subst h0;simpa[Addr.add]using jZ
    ·simpa[Addr.add,h0]using jZ
   have mh:C'[off+j]?=some u:=by
    by_cases h0:j=0
    ·subst h0;simpa[Addr.add]using mh
    ·simpa[Addr.add,h0]using mh
   rw[hb]at jZ
   simp only[Option.some.injEq,Obj.cells.injEq]at jZ
   rw[jZ.1];exact mh
where EG {β:Type} {l:List β} {i:Nat} {x:β} (h:l[i]?=some x):i<l.length:=(eD.1 h).1
theorem Ss (R:Rp α){t e:TypeId}{v:Value}{d:DataW H}{p:List MemPlace}{NT:Nat}(ht:P.underlying t=some (.slice e))(hc:P.cellsOf e=R.size)
 (lA:∀(n:Nat) (cs:List Value) (y:DataW H×List MemPlace),cs.length=R.size→DataW.trod enc P W 0 (λ_=>true) true n e cs=some y→nT (y.1.weights P e)=true→∃x:α,cs=R.cells x∧R.wf x)
 (hv:Value.okWide P W .any NT t v) (pZ:nT (d.weights P t)=true) (h:DataW.Trod enc P W 0 (λ_=>true) true t v d p):∃xs:List α,(sl R v xs).f (J.all W)∧((d= .nil∧xs=[])∨∃es sp,d= .slice es sp∧es.length=xs.length):=by
 obtain⟨a0,ahM,ahN,rfl⟩:=okWide_slice ht hv;obtain⟨fuel,hf⟩:=h;obtain⟨v,xs,h1,_,h2,h3⟩:=NQ R ht hc lA pZ hf
 obtain rfl:Value.slice a0 ahM ahN=v:=by simpa[Value.cells]using h1
 exact⟨xs,h2,h3⟩
theorem NU {ts:List TypeId}{ds:List (DataW H)}(h:(DataW.weightsEach P ts ds).all (· ≤reachBytes)=true)(j:Nat){t e:TypeId}{d:DataW H}{xs:List α}(ht:ts[j]?=some t)(hd:ds[j]?=some d)(hu:P.underlying t=some (.slice e))
 (hf:(d= .nil∧xs=[])∨∃es sp,d= .slice es sp∧es.length=xs.length) (n:Nat) (hn:P.bytesOf e=n):xs.length*n≤140737488351232:=by
 subst hn
 rcases hf with⟨_,rfl⟩|⟨es,sp,rfl,hl⟩
 ·simp
 ·have h1:=sized_slice h ht hd hu
  rw[←hl]
  have h2:es.length*P.bytesOf e≤(es.length+sp.length)*P.bytesOf e:=gO _ (by omega)
  unfold reachBytes at h1;omega
theorem wf_i64 {n:Int}(h:(Lit.int .i64 n).wf=true):bP n:=by
 have e1:IntKind.i64.min= -9223372036854775808:=rfl
 have e2:IntKind.i64.max=9223372036854775807:=rfl
 simpa[Lit.wf,e1,e2,bP]using h
theorem W7 (s:ByteArray):Value.string s=sv s.data.toList:=by
 cases s;rfl
theorem Xv {e:TypeId}(he:P.underlying e=some .string)(n:Nat)(cs:List Value)(y:DataW H×List MemPlace)(_:cs.length=1)(h:DataW.trod enc P W 0 (λ_=>true) true n e cs=some y)(JU:nT (y.1.weights P e)=true):∃x:bI,cs=dY.cells x∧dY.wf x:=by
 obtain⟨s,rfl,hy,hw⟩:=DataW.trod_string he h;refine⟨s.data.toList,by rw[W7];rfl,?_⟩;subst hy
 have SB:s.data.toList.length≤140737488351232:=by
  simp only[nT,DataW.weights,reachBytes,List.all_cons,List.all_nil,Bool.and_true]at JU
  exact eS JU
 exact SB
end
end Go.J
namespace Go.J
open Go
def Es (P:Program)(n:Nat)(F:Fr)(op:Op)(ty:TypeId)(v:Value):Prop:=∀a w,Has n a F→(execOp a.eval (bare op ty)).run P w= .ok (.value v) w
def NP (Q:Exit→Act→World→Prop):Prop:=∀c a w,¬Q (.panic c) a w
theorem NP.then {K:Act→World→Prop}{Q:Exit→Act→World→Prop}(h:NP Q):NP (Exit.then K Q):=λc a w k=>h c a w k
theorem NP.inBlock {id:Nat}{Q:Exit→Act→World→Prop}(h:NP Q):NP (Exit.inBlock id Q):=λc a w k=>h c a w k
section
variable {P:Program}{ops:Array Oper}{Q:Exit→Act→World→Prop}
theorem wpOp_put {j:Nat}{oi oj:Oper}{v:Value}(hj:ops[j]?=some oj)(hap:oi.apart ops oj=true)
 (hsi:∀cs b,oi.op≠ .select cs b) (hsj:∀cs b,oj.op≠ .select cs b) (hQ:NP Q) {K:Act→World→Prop} {a:Act} {w:World}
 (hy:∀w,(execOp a.eval oi).run P w= .ok (.value v) w) (h:wpOp P ops Q j K (a.put oi.dst v) w):
 wpOp P ops Q j (λa' w'=>(∀w,(execOp a'.eval oi).run P w= .ok (.value v) w)∧K (a'.put oi.dst v) w') a w:=by
 obtain⟨h1,h2,h3⟩:=Oper.apart_spec hap
 have re:∀u,∀w,(execOp (a.put oj.dst u).eval oi).run P w= .ok (.value v) w:=λu w=>by
  rw[execOp_put (ops:=ops) oi hsi a oj.dst u h3];exact hy w
 have put_defers:∀(d:Deferred) (u:Value),({a with defers:=d::a.defers}:Act).put oj.dst u={(a.put oj.dst u)with defers:=d::a.defers}:=λd u=>by
  cases oj.dst<;>rfl
 unfold wpOp at*
 simp only[hj]at*
 rw[wanted_put oj a oi.dst v h1]at h
 split
 ·rename_i hw
  simp only[hw,if_true]at h
  rcases h with h|⟨h,hl⟩
  ·left
   unfold Oper.wp at*;rw[execOp_put oj hsj a oi.dst v h1]at h
   generalize (execOp a.eval oj).run P w=r at*
   cases r with
   |ok nx w'=>
    cases nx<;>simp only[Oper.upon]at h⊢
    case value u=>exact⟨re u,by rw[←Act.put_comm a v u h2];exact h⟩
    case skip=>exact⟨re _,by rw[←Act.put_comm a v undef h2];exact h⟩
    case defer d=>
     refine⟨λw=> ?_,?_⟩
     ·rw[put_defers];exact re undef w
     ·have e:({(a.put oi.dst v)with defers:=d::(a.put oi.dst v).defers}:Act).put oj.dst undef=(({a with defers:=d::a.defers}:Act).put oj.dst undef).put oi.dst v:=by
       have:=Act.put_comm ({a with defers:=d::a.defers}:Act) v undef h2
       rw[←this]
       cases oi.dst<;>rfl
      rw[←e];exact h
    case enter f args=>
     refine Calls.mono h λe w'' he=> ?_
     cases e with
     |returned u=>exact⟨re u,by rw[←Act.put_comm a v u h2];exact he⟩
     |panicked c=>exact(hQ _ _ _ he).elim
     |outgrown=>exact he
    case row rw_ args=>exact Rows.mono h λu w'' he=>⟨re u,by rw[←Act.put_comm a v u h2];exact he⟩
    all_goals exact h
   |halt x w'=>
    cases x<;>simp only[Oper.upon]at h⊢
    all_goals first|exact(hQ _ _ _ h).elim|exact h
  ·right
   refine⟨?_,hl⟩;unfold Oper.asks at*;rw[execOp_put oj hsj a oi.dst v h1]at h;exact h
 ·rename_i hw
  simp only[hw]at h
  exact⟨re _,by rw[←Act.put_comm a v undef h2];exact h⟩
theorem wpOp_mono {j:Nat}{K K':Act→World→Prop}{a:Act}{w:World}(h:∀a w,K a w→K' a w)(hh:wpOp P ops Q j K a w):wpOp P ops Q j K' a w:=by
 unfold wpOp at*
 split
 ·rename_i ho;simp only[ho]at hh;exact h _ _ hh
 ·rename_i o ho
  simp only[ho]at hh
  split
  ·rename_i hw;simp only[hw,if_true]at hh;exact hh.imp (Oper.wp_mono h) id
  ·rename_i hw;simp only[hw]at hh;exact h _ _ hh
theorem wpAny_first {md:Region.Mode}{i:Nat}{oi:Oper}{v:Value}(hi:ops[i]?=some oi)(hg:oi.guard=none)(hQ:NP Q)(NV:∀(j:Nat) (o:Oper) cs b,ops[j]?=some o→o.op≠ .select cs b):
 ∀(fuel:Nat) (listed:Array Bool) (a:Act) (w:World),
  (∀j oj,ops[j]?=some oj→j≠i→listed.getD j true=false→(∀e∈oj.after,Region.binds md e=true→e.on≠i)→oi.apart ops oj=true)→
  i∈Region.ready md ops listed→(∀w,(execOp a.eval oi).run P w= .ok (.value v) w)→
  wpAny P md ops Q fuel (listed.setIfInBounds i true) (a.put oi.dst v) w→wpAny P md ops Q (fuel+1) listed a w:=by
 have self:∀{K:Act→World→Prop} {a:Act} {w:World},(∀w,(execOp a.eval oi).run P w= .ok (.value v) w)→K (a.put oi.dst v) w→wpOp P ops Q i K a w:=by
  intro K a w hy hK;unfold wpOp
  simp only[hi,Region.wanted,hg,if_true]
  left
  unfold Oper.wp;rw[hy w];exact hK
 intro fuel
 induction fuel with
 |zero=>
  intro listed a w _ hr hy H;refine⟨λh=>(by rw[h]at hr;cases hr),λj hj=> ?_⟩
  by_cases CS:j=i
  ·subst CS;exact self hy H
  ·have:=ready_mono hj CS
   rw[H.1]at this
   cases this
 |succ fuel ih=>
  intro listed a w EH hr hy H;refine⟨λh=>(by rw[h]at hr;cases hr),λj hj=> ?_⟩
  by_cases CS:j=i
  ·subst CS;exact self hy H
  ·have h1:=H.2 j (ready_mono hj CS)
   obtain⟨NW,oj,Xw,ig⟩:=mem_ready.1 hj
   have Xx:∀e∈oj.after,Region.binds md e=true→e.on≠i:=λe he hb heq=>by
    have h1:=ig e he hb
    have h0:=(mem_ready.1 hr).1
    rw[heq]at h1
    rcases e7 i listed.size with h'|h'
    ·simp[h']at h0 h1;rw[h0]at h1;cases h1
    ·simp[Array.getElem?_eq_none h']at h1
   have h2:=wpOp_put Xw (EH j oj Xw CS NW Xx) (λcs b=>NV i oi cs b hi) (λcs b=>NV j oj cs b Xw) hQ hy h1
   have HE:∀k ok,ops[k]?=some ok→k≠i→(listed.setIfInBounds j true).getD k true=false→
    (∀e∈ok.after,Region.binds md e=true→e.on≠i)→oi.apart ops ok=true:=λk ok hk W8 Gh A7=>by
    refine EH k ok hk W8 ?_ A7
    by_cases Xy:j=k
    ·subst Xy;exact NW
    ·rw[getD_set_ne true Xy]at Gh;exact Gh
   refine wpOp_mono (λa' w' h3=>ih (listed.setIfInBounds j true) a' w' HE (ready_mono hr (Ne.symm CS)) h3.1 ?_) h2;rw[Array.setIfInBounds_comm _ _ CS];exact h3.2
theorem St.defer {n:Nat}{F:Fr}{A:World→Prop}{f d:Nat}{listed:Array Bool}{op:Op}{ty:TypeId}{pos:String}{after:Array Edge}{v:Value}(i:Nat)
 (hQ:NP Q) (hs:Region.noSelect ops=true) (hi:ops[i]?=some {dst:=some d,op:=op,type:=ty,pos:=pos,after:=after,guard:=none}) (nX:Es P n F op ty v)
 (hr:((Region.ready .any ops listed).contains i&&Region.free .any ops listed i)=true) (hd:Nat.ble (d+1) n=true)
 (h:St n ((d,v)::F) A (wpAny P .any ops Q f (listed.setIfInBounds i true))):St n F A (wpAny P .any ops Q (f+1) listed):=by
 intro a w ha hw
 simp only[Bool.and_eq_true]at hr
 refine wpAny_first hi rfl hQ (Region.noSelect_spec hs) f listed a w (Region.free_spec hi hr.2) (by simpa using hr.1) (λw'=> ?_) (h _ w (ha.put (eX hd) v) hw);rw[fa];exact nX a w' ha
end
section
variable {P:Program}{n:Nat}{F:Fr}{c:Ctx}{H:List ao}{ty:TypeId}{x y:Operand}{v:Value}{t e:TypeId}
theorem NP.body {fn:Func}{R:Value→List ao→World→Prop}:NP (bodyPost P fn λe w'=>∃v H',e= .returned v∧R v H' w'):=λc a w h=>by
 obtain⟨_,_,_,h1,_⟩:=h
 cases h1
theorem Es.move (hx:aZ F x v):Es P n F (.move x) ty v:=λa w ha=>by simp[execOp,hx.eval ha]
theorem Es.assign (hx:aZ F x v):Es P n F (.assign x) ty v:=λa w ha=>by simp[execOp,hx.eval ha]
theorem Es.extract {vs:List Value}{i:Nat}(hx:aZ F x (.tuple vs.toArray))(hi:vs[i]?=some v):Es P n F (.extract x i) ty v:=λa w ha=>by
 simp[execOp,hx.eval ha,Instr.extract,hi]
theorem Es.idx {b o m cap size k:Nat}{i:Int}{kd:IntKind}(hv:v= .slice (some ⟨b,o,none⟩) m cap)(hx:aZ F x v)(hy:aZ F y (.int kd i))(ht:P.underlying t=some (.slice e))(hs:(P.info? e).map (·.size)=some size)
 (hi:i=k) (hk:k<m):Es P n F (.indexAddr t x y) ty (dR v size k 0):=λa w ha=>by
 subst hv;obtain⟨inf,nb,gQ⟩:=dG.1 hs;subst hi
 simp[execOp,hx.eval ha,hy.eval ha,Instr.indexAt,asIntOf,run_underlying ht,sizeOf,typeInfo,nb,gQ,hk,dS,Addr.add_lit]
theorem St.kA {T:Act→World→Prop}{size m:Nat}{cs:List Value}(v:Value)[hr:wH v H e size m cs](hm:0<m)(h:∀b cap,v= .slice (some ⟨b,0,none⟩) m cap→St n F (Mm c H) T):St n F (Mm c H) T:=by
 intro a w ha hw;obtain⟨ρ,jc⟩:=hw.out
 rcases(jc.row hr).2 with⟨rfl,rfl⟩|⟨g,cap,cur,h1,_⟩
 ·omega
 ·exact h g cap h1 a w ha hw
theorem St.JV {α:Type}{Rr:Rp α}{xs:List α}{T:Act→World→Prop}(v:Value)[hd:sQ v H α Rr xs](hm:0<xs.length)(h:∀b o cap,v= .slice (some ⟨b,o,none⟩) xs.length cap→St n F (Mm c H) T):St n F (Mm c H) T:=by
 intro a w ha hw;obtain⟨ρ,jc⟩:=hw.out;obtain⟨ad,cap,h1,_,_,_,h5⟩:=jc.sl hd
 rcases h5 with h5|⟨b,off,C,e,fr,h6,_⟩
 ·subst h5;simp at hm
 ·subst h6;exact h b off cap h1 a w ha hw
end
theorem St.slot {n:Nat}{F:Fr}{A:World→Prop}{T:Act→World→Prop}{v:Value}(k:Nat)(v':Value)(hk:look F k=some v)(h:v=v')(hT:St n ((k,v')::F) A T):St n F A T:=by
 subst h
 refine λa w ha hw=>hT a w ⟨ha.size,ha.defers,λt u hu=> ?_⟩ hw
 simp only[look]at hu
 cases hb:Nat.beq t k with
 |true=>
  have e:=ve hb
  subst e
  simp only[hb,cond_true,Option.some.injEq]at hu
  subst hu;exact ha.slot _ _ hk
 |false=>
  simp only[hb,cond_false]at hu
  exact ha.slot _ _ hu
section
variable {ι:Type}{P:Program}{C:ι→World→Prop}{ops:Array Oper}{Q:Exit→Act→World→Prop}
def WR (P:Program)(C:ι→World→Prop)(ops:Array Oper)(Q:Exit→Act→World→Prop):Nat→Array Bool→Act→ι→Prop
 |0,listed,a,r=>Region.ready .any ops listed=[]∧∀w,C r w→Q .normal a w
 |fuel+1,listed,a,r=>(Region.ready .any ops listed=[]→∀w,C r w→Q .normal a w)∧
  ∀i∈Region.ready .any ops listed,∀w,C r w→wpOp P ops Q i (λa' w'=>∃r',C r' w'∧WR P C ops Q fuel (listed.setIfInBounds i true) a' r') a w
theorem WR.any:∀(fuel:Nat) (listed:Array Bool) (a:Act) (r:ι) (w:World),C r w→WR P C ops Q fuel listed a r→wpAny P .any ops Q fuel listed a w
 |0,_,_,_,_,hw,h=>⟨h.1,h.2 _ hw⟩
 |fuel+1,_,_,_,_,hw,h=>⟨λh0=>h.1 h0 _ hw,λi hi=>wpOp_mono (λa' w' ⟨r',hr,hk⟩=>WR.any fuel _ a' r' w' hr hk) (h.2 i hi _ hw)⟩
def YS (P:Program)(C:ι→World→Prop)(ops:Array Oper)(o:Oper)(v:Value)(a:Act):Prop:=
 (Region.wanted o (yielded ops a.tmps)=true∧∀r w,C r w→o.quietAt P a (C r) w v)∨(Region.wanted o (yielded ops a.tmps)=false∧v=undef)
theorem YS.of_same {o:Oper}{v:Value}{a a':Act}(hy:YS P C ops o v a)(he:execOp a'.eval o=execOp a.eval o)
 (hw:Region.wanted o (yielded ops a'.tmps)=Region.wanted o (yielded ops a.tmps)):YS P C ops o v a':=by
 unfold YS Oper.quietAt at*;rw[he,hw];exact hy
theorem YS.self {i:Nat}{o:Oper}{v:Value}{a:Act}(hi:ops[i]?=some o)(hy:YS P C ops o v a){K:Act→World→Prop}{r:ι}{w:World}(hw:C r w)(h:∀w',C r w'→K (a.put o.dst v) w'):wpOp P ops Q i K a w:=by
 have h1:YieldsIn P ops (C r) o v a:=hy.imp (λ⟨h1,h2⟩=>⟨h1,h2 r⟩) id
 exact wpOp_of_qOp hw (K:=λa'=>a'=a.put o.dst v) (λa' w' Ay e=>by rw[e];exact h w' Ay) (h1.qOp hi rfl)
theorem LX {j:Nat}{oi oj:Oper}{v:Value}(hj:ops[j]?=some oj)(hap:oi.apart ops oj=true)
 (hsi:∀cs b,oi.op≠ .select cs b) (hsj:∀cs b,oj.op≠ .select cs b) (hQ:NP Q) {K:Act→World→Prop} {a:Act} {w:World}
 (hy:YS P C ops oi v a) (h:wpOp P ops Q j K (a.put oi.dst v) w):
 wpOp P ops Q j (λa' w'=>YS P C ops oi v a'∧K (a'.put oi.dst v) w') a w:=by
 obtain⟨h1,h2,h3⟩:=Oper.apart_spec hap
 have re:∀u,YS P C ops oi v (a.put oj.dst u):=λu=>hy.of_same (execOp_put (ops:=ops) oi hsi a oj.dst u h3) (wanted_put oi a oj.dst u h3)
 have put_defers:∀(d:Deferred) (u:Value),({a with defers:=d::a.defers}:Act).put oj.dst u={(a.put oj.dst u)with defers:=d::a.defers}:=λd u=>by
  cases oj.dst<;>rfl
 unfold wpOp at*
 simp only[hj]at*
 rw[wanted_put oj a oi.dst v h1]at h
 split
 ·rename_i hw
  simp only[hw,if_true]at h
  rcases h with h|⟨h,hl⟩
  ·left
   unfold Oper.wp at*;rw[execOp_put oj hsj a oi.dst v h1]at h
   generalize (execOp a.eval oj).run P w=r at*
   cases r with
   |ok nx w'=>
    cases nx<;>simp only[Oper.upon]at h⊢
    case value u=>exact⟨re u,by rw[←Act.put_comm a v u h2];exact h⟩
    case skip=>exact⟨re _,by rw[←Act.put_comm a v undef h2];exact h⟩
    case defer d=>
     refine⟨?_,?_⟩
     ·rw[put_defers];exact(re undef).of_same rfl rfl
     ·have e:({(a.put oi.dst v)with defers:=d::(a.put oi.dst v).defers}:Act).put oj.dst undef=(({a with defers:=d::a.defers}:Act).put oj.dst undef).put oi.dst v:=by
       have:=Act.put_comm ({a with defers:=d::a.defers}:Act) v undef h2
       rw[←this]
       cases oi.dst<;>rfl
      rw[←e];exact h
    case enter f args=>
     refine Calls.mono h λe w'' he=> ?_
     cases e with
     |returned u=>exact⟨re u,by rw[←Act.put_comm a v u h2];exact he⟩
     |panicked c=>exact(hQ _ _ _ he).elim
     |outgrown=>exact he
    case row rw_ args=>exact Rows.mono h λu w'' he=>⟨re u,by rw[←Act.put_comm a v u h2];exact he⟩
    all_goals exact h
   |halt x w'=>
    cases x<;>simp only[Oper.upon]at h⊢
    all_goals first|exact(hQ _ _ _ h).elim|exact h
  ·right
   refine⟨?_,hl⟩;unfold Oper.asks at*;rw[execOp_put oj hsj a oi.dst v h1]at h;exact h
 ·rename_i hw
  simp only[hw]at h
  exact⟨re _,by rw[←Act.put_comm a v undef h2];exact h⟩
theorem WR.first {i:Nat}{oi:Oper}{v:Value}(hi:ops[i]?=some oi)(hQ:NP Q)(NV:∀(j:Nat) (o:Oper) cs b,ops[j]?=some o→o.op≠ .select cs b):
 ∀(fuel:Nat) (listed:Array Bool) (a:Act) (r:ι),
  (∀j oj,ops[j]?=some oj→j≠i→listed.getD j true=false→(∀e∈oj.after,Region.binds .any e=true→e.on≠i)→oi.apart ops oj=true)→
  i∈Region.ready .any ops listed→YS P C ops oi v a→
  WR P C ops Q fuel (listed.setIfInBounds i true) (a.put oi.dst v) r→WR P C ops Q (fuel+1) listed a r:=by
 intro fuel
 induction fuel with
 |zero=>
  intro listed a r _ hr hy H;refine⟨λh=>(by rw[h]at hr;cases hr),λj hj w hw=> ?_⟩
  by_cases CS:j=i
  ·subst CS;exact hy.self hi hw λw' Ay=>⟨r,Ay,H⟩
  ·have:=ready_mono hj CS
   rw[H.1]at this
   cases this
 |succ fuel ih=>
  intro listed a r EH hr hy H;refine⟨λh=>(by rw[h]at hr;cases hr),λj hj w hw=> ?_⟩
  by_cases CS:j=i
  ·subst CS;exact hy.self hi hw λw' Ay=>⟨r,Ay,H⟩
  ·have h1:=H.2 j (ready_mono hj CS) w hw
   obtain⟨NW,oj,Xw,ig⟩:=mem_ready.1 hj
   have Xx:∀e∈oj.after,Region.binds .any e=true→e.on≠i:=λe he hb heq=>by
    have h1:=ig e he hb
    have h0:=(mem_ready.1 hr).1
    rw[heq]at h1
    rcases e7 i listed.size with h'|h'
    ·simp[h']at h0 h1;rw[h0]at h1;cases h1
    ·simp[Array.getElem?_eq_none h']at h1
   have h2:=LX Xw (EH j oj Xw CS NW Xx) (λcs b=>NV i oi cs b hi) (λcs b=>NV j oj cs b Xw) hQ hy h1
   have HE:∀k ok,ops[k]?=some ok→k≠i→(listed.setIfInBounds j true).getD k true=false→
    (∀e∈ok.after,Region.binds .any e=true→e.on≠i)→oi.apart ops ok=true:=λk ok hk W8 Gh A7=>by
    refine EH k ok hk W8 ?_ A7
    by_cases Xy:j=k
    ·subst Xy;exact NW
    ·rw[getD_set_ne true Xy]at Gh;exact Gh
   refine wpOp_mono (λa' w' h3=> ?_) h2;obtain⟨h3,r',h4,h5⟩:=h3;refine⟨r',h4,ih (listed.setIfInBounds j true) a' r' HE (ready_mono hr (Ne.symm CS)) h3 ?_⟩;rw[Array.setIfInBounds_comm _ _ CS];exact h5
end
class xk (bs:List Nat)(H:List ao)(r R:outParam (List ao)):Prop where
 perm:H.Perm (R++r)
instance xk.nil (H:List ao):xk [] H [] H:=⟨by simp⟩
instance xk.cons (b:Nat)(bs:List Nat)(H H1 r R:List ao)(o:Obj)[h:lY b H o H1][k:xk bs H1 r R]:xk (b::bs) H (aX b o::r) R:=
 ⟨(h.perm.trans (k.perm.cons _)).trans rD.symm⟩
section app
instance (priority:=low) uI.app (d:df)(L R:List ao)[h:uI d L]:uI d (L++R):=⟨km _ h.mem⟩
instance (priority:=low) Az.app (b:Nat)(o:Obj)(L R:List ao)[h:Az b L o]:Az b (L++R) o:=⟨km _ h.mem⟩
instance (priority:=low) sQ.app {α:Type}(v:Value)(Rr:Rp α)(xs:List α)(L R:List ao)[h:sQ v L α Rr xs]:sQ v (L++R) α Rr xs:=⟨km _ h.mem⟩
instance (priority:=low) rG.app (b:Nat)(v:Value)(L R:List ao)[h:rG b L v]:rG b (L++R) v:=⟨km _ h.mem⟩
instance (priority:=low) wH.app (v:Value)(e:TypeId)(size n:Nat)(cs:List Value)(L R:List ao)[h:wH v L e size n cs]:wH v (L++R) e size n cs:=⟨km _ h.mem⟩
end app
def SW (P:Program)(ops:Array Oper)(Q:Exit→Act→World→Prop)(n:Nat)(F:Fr)(c:Ctx)(Fp r:List ao)(f:Nat)(listed:Array Bool):Prop:=
 ∀a,Has n a F→WR P (λR=>Mm c (Fp++R)) ops Q f listed a r
def KW (P:Program)(ops:Array Oper)(Q:Exit→Act→World→Prop)(n:Nat)(c:Ctx)(Fp:List ao)(f:Nat)(listed:Array Bool)(a:Act)(w:World):Prop:=
 ∃F r,Has n a F∧Mm c (Fp++r) w∧SW P ops Q n F c Fp r f listed
section
variable {P:Program}{ops:Array Oper}{Q:Exit→Act→World→Prop}{n:Nat}{F:Fr}{c:Ctx}{H Fp r r' C':List ao}{f:Nat}{listed:Array Bool}
theorem St.par {id:Nat}{l:List Oper}(bs:List Nat)[tk:xk bs H r Fp](hm:P.follows .mixedOrders=true)
 (h:SW P l.toArray Q n F c Fp r l.length (Array.replicate l.length false)):St n F (Mm c H) ((Code.region id l.toArray true).wp P Q):=by
 intro a w ha hw;refine wp_region_any hm ?_
 have h1:=h a ha
 have h2:Mm c (Fp++r) {w with drawn:=w.drawn+1}:=by
  obtain⟨ρ,k⟩:=((Mm.drawn c H) w hw).out;exact Mm.mk (k.perm tk.perm)
 simpa using WR.any (C:=λR=>Mm c (Fp++R)) l.length _ a r _ h2 h1
theorem SW.done (hr:Region.ready .any ops listed=[])[ap:App Fp r C'](h:St n F (Mm c C') (Q .normal)):SW P ops Q n F c Fp r f listed:=by
 intro a ha
 have h1:∀w,Mm c (Fp++r) w→Q .normal a w:=λw hw=>h a w ha (by rw[←ap.eq];exact hw)
 cases f with
 |zero=>exact⟨hr,h1⟩
 |succ f=>exact⟨λ_=>h1,λi hi=>by rw[hr]at hi;cases hi⟩
theorem SW.perm {F':Fr}(hF:Sub F F')(hp:∀w,Mm c (Fp++r') w→Mm c (Fp++r) w)(h:SW P ops Q n F c Fp r (f+1) listed):SW P ops Q n F' c Fp r' (f+1) listed:=by
 intro a ha
 have h1:=h a (ha.sub hF)
 exact⟨λh0 w hw=>h1.1 h0 w (hp w hw),λi hi w hw=>h1.2 i hi w (hp w hw)⟩
theorem SW.go [tk:eE Fp H r'](h:SW P ops Q n F c Fp r' f listed):St n F (Mm c H) (KW P ops Q n c Fp f listed):=
 λ_ _ ha hw=>⟨F,r',ha,hw.take,h⟩
theorem SW.each [ap:App Fp r C'](fP:Region.ready .any ops listed≠ [])(h:∀i∈Region.ready .any ops listed,St n F (Mm c C') (wpOp P ops Q i (KW P ops Q n c Fp f (listed.setIfInBounds i true)))):SW P ops Q n F c Fp r (f+1) listed:=by
 intro a ha;refine⟨λh0=>absurd h0 fP,λi hi w hw=> ?_⟩;refine wpOp_mono ?_ (h i hi a w ha (by rw[←ap.eq];exact hw));rintro a' w' ⟨F',r',h1,h2,h3⟩;exact⟨r',h2,h3 a' h1⟩
theorem SW.abV {i:Nat}{o:Oper}[ap:App Fp r C'](hr:Region.ready .any ops listed=[i])(ho:ops[i]?=some o)
 (h:St n F (Mm c C') (wpList P ops (Exit.then (KW P ops Q n c Fp f (listed.setIfInBounds i true)) Q) [o])):SW P ops Q n F c Fp r (f+1) listed:=
 SW.each (by rw[hr];simp) (by rw[hr];intro k hk;rw[bJ.1 hk];exact St.one ho h)
theorem SW.abW {i j:Nat}{o o':Oper}[ap:App Fp r C'](hr:Region.ready .any ops listed=[i,j])(ho:ops[i]?=some o)(ho':ops[j]?=some o')
 (h:St n F (Mm c C') (wpList P ops (Exit.then (KW P ops Q n c Fp f (listed.setIfInBounds i true)) Q) [o]))
 (h':St n F (Mm c C') (wpList P ops (Exit.then (KW P ops Q n c Fp f (listed.setIfInBounds j true)) Q) [o'])):SW P ops Q n F c Fp r (f+1) listed:=
 SW.each (by rw[hr];simp) (by
  rw[hr];intro k hk
  simp only[List.mem_cons,List.not_mem_nil,or_false]at hk
  rcases hk with rfl|rfl
  ·exact St.one ho h
  ·exact St.one ho' h')
theorem SW.NX {i j k:Nat}{o o' o'':Oper}[ap:App Fp r C'](hr:Region.ready .any ops listed=[i,j,k])(ho:ops[i]?=some o)(ho':ops[j]?=some o')(ahO:ops[k]?=some o'')
 (h:St n F (Mm c C') (wpList P ops (Exit.then (KW P ops Q n c Fp f (listed.setIfInBounds i true)) Q) [o]))
 (h':St n F (Mm c C') (wpList P ops (Exit.then (KW P ops Q n c Fp f (listed.setIfInBounds j true)) Q) [o']))
 (h'':St n F (Mm c C') (wpList P ops (Exit.then (KW P ops Q n c Fp f (listed.setIfInBounds k true)) Q) [o''])):SW P ops Q n F c Fp r (f+1) listed:=
 SW.each (by rw[hr];simp) (by
  rw[hr];intro m hm
  simp only[List.mem_cons,List.not_mem_nil,or_false]at hm
  rcases hm with rfl|rfl|rfl
  ·exact St.one ho h
  ·exact St.one ho' h'
  ·exact St.one ahO h'')
section
variable {d:Nat}{op:Op}{ty:TypeId}{pos:String}{after:Array Edge}{v:Value}
theorem SW.defer (i:Nat)(hQ:NP Q)(hs:Region.noSelect ops=true)(hi:ops[i]?=some {dst:=some d,op:=op,type:=ty,pos:=pos,after:=after,guard:=none})(nX:∀R,Ev P n F (Mm c (Fp++R)) op ty v)
 (hr:((Region.ready .any ops listed).contains i&&Region.free .any ops listed i)=true) (hd:Nat.ble (d+1) n=true)
 (h:SW P ops Q n ((d,v)::F) c Fp r f (listed.setIfInBounds i true)):SW P ops Q n F c Fp r (f+1) listed:=by
 intro a ha
 simp only[Bool.and_eq_true]at hr
 refine WR.first (v:=v) hi hQ (Region.noSelect_spec hs) f listed a r (Region.free_spec hi hr.2) (by simpa using hr.1) ?_ (h _ (ha.put (eX hd) v));exact .inl ⟨rfl,λR w hw=>(nX R).quietAt ha hw⟩
theorem SW.NY (i:Nat){j dj:Nat}{want:Bool}{u:Value}(cd:Bool)(hQ:NP Q)(hs:Region.noSelect ops=true)(hi:ops[i]?=some {dst:=some d,op:=op,type:=ty,pos:=pos,after:=after,guard:=some (j,want)})
 (hj:(ops[j]?).bind (·.dst)=some dj) (hl:look F dj=some u) (hu:(cd=true→u= .bool want)∧(cd=false→u= .bool (!want)∨u=undef))
 (nX:∀R,cd=true→Ev P n F (Mm c (Fp++R)) op ty v)
 (hr:((Region.ready .any ops listed).contains i&&Region.free .any ops listed i)=true) (hd:Nat.ble (d+1) n=true)
 (h:SW P ops Q n ((d,gv cd v)::F) c Fp r f (listed.setIfInBounds i true)):SW P ops Q n F c Fp r (f+1) listed:=by
 intro a ha
 simp only[Bool.and_eq_true]at hr
 have pZ:=lJ (l:=ops) (o:={dst:=some d,op:=op,type:=ty,pos:=pos,after:=after,guard:=some (j,want)}) rfl hj (ha.slot _ _ hl) hu
 refine WR.first (v:=gv cd v) hi hQ (Region.noSelect_spec hs) f listed a r (Region.free_spec hi hr.2) (by simpa using hr.1) ?_ (h _ (ha.put (eX hd) _))
 cases hc:cd with
 |true=>
  rw[hc]at pZ;rw[fD rfl];exact .inl ⟨pZ,λR w hw=>(nX R hc).quietAt ha hw⟩
 |false=>
  rw[hc]at pZ;rw[bf rfl];exact .inr ⟨pZ,rfl⟩
end
section
variable {d:Nat}{op:Op}{ty:TypeId}{pos:String}{after:Array Edge}{dj:Nat}{j:Nat}(i:Nat)(v:Value)
theorem SW.gt {g:Bool}(hQ:NP Q)(hs:Region.noSelect ops=true)(hi:ops[i]?=some {dst:=some d,op:=op,type:=ty,pos:=pos,after:=after,guard:=some (j,true)})(hj:(ops[j]?).bind (·.dst)=some dj)(hl:look F dj=some (.bool g))
 (nX:∀R,g=true→Ev P n F (Mm c (Fp++R)) op ty v) (hr:((Region.ready .any ops listed).contains i&&Region.free .any ops listed i)=true) (hd:Nat.ble (d+1) n=true)
 (h:SW P ops Q n ((d,J.gv g v)::F) c Fp r f (listed.setIfInBounds i true)):SW P ops Q n F c Fp r (f+1) listed:=SW.NY i g hQ hs hi hj hl (Xd g) nX hr hd h
theorem SW.gf {g:Bool}(hQ:NP Q)(hs:Region.noSelect ops=true)(hi:ops[i]?=some {dst:=some d,op:=op,type:=ty,pos:=pos,after:=after,guard:=some (j,false)})(hj:(ops[j]?).bind (·.dst)=some dj)(hl:look F dj=some (.bool g))
 (nX:∀R,(!g)=true→Ev P n F (Mm c (Fp++R)) op ty v) (hr:((Region.ready .any ops listed).contains i&&Region.free .any ops listed i)=true) (hd:Nat.ble (d+1) n=true)
 (h:SW P ops Q n ((d,J.gv (!g) v)::F) c Fp r f (listed.setIfInBounds i true)):SW P ops Q n F c Fp r (f+1) listed:=SW.NY i (!g) hQ hs hi hj hl (Xe g) nX hr hd h
end
theorem SW.slot (k:Nat){v:Value}(v':Value)(hk:look F k=some v)(h:v=v')(hT:SW P ops Q n ((k,v')::F) c Fp r f listed):SW P ops Q n F c Fp r f listed:=by
 subst h
 refine λa ha=>hT a ⟨ha.size,ha.defers,λt u hu=> ?_⟩
 simp only[look]at hu
 cases hb:Nat.beq t k with
 |true=>
  have e:=ve hb
  subst e
  simp only[hb,cond_true,Option.some.injEq]at hu
  subst hu;exact ha.slot _ _ hk
 |false=>
  simp only[hb,cond_false]at hu
  exact ha.slot _ _ hu
theorem Has.swap {a:Act}{k1 k2:Nat}{v1 v2:Value}(fP:Nat.beq k1 k2=false)(h:Has n a ((k1,v1)::(k2,v2)::F)):Has n a ((k2,v2)::(k1,v1)::F):=by
 refine⟨h.size,h.defers,λt u hu=>h.slot t u ?_⟩
 simp only[look]at hu⊢
 cases hb:Nat.beq t k1 with
 |true=>
  have e:=ve hb
  subst e
  simp only[fP,cond_false,hb,cond_true]at hu⊢
  exact hu
 |false=>
  simp only[hb,cond_false]at hu⊢
  exact hu
end
theorem Ev.CT {P:Program}{n:Nat}{F:Fr}{A:World→Prop}{ty t:TypeId}{x:Operand}{xs:Array Value}{fs:Array Field}{fd:Field}{i:Nat}{v:Value}(hx:aZ F x (.agg xs))(ht:P.underlying t=some (.struct fs))(hf:fs[i]?=some fd)
 (hk:(match P.underlying fd.type with|some (.struct _)|some (.array _ _)|none=>false|_=>true)=true) (hv:xs[fd.offset]?=some v):Ev P n F A (.field t x i) ty v:= .of_run λa w ha _=>by
 simp[execOp,hx.eval ha,Instr.field,run_underlying ht,hf,asAgg,EE hk hv]
theorem dA.abX {P:Program}{f:FuncId}{fn:Func}{cd:Code}{args:List Value}{u:Value}{d1 d2 d3 d4 d5:df}(n:Nat)
 (hf:P.funcs[f]?=some fn) (hb:fn.body=some cd) (hn:fn.ntmps=n) (jM:Nat.ble args.length n=true)
 (h:∀c:Ctx,St n (sP 0 args) (Mm c [aF d1,aF d2,aF d3,aF d4,aF d5]) (cd.wp P (bodyPost P fn λe w'=>∃v H',e= .returned v∧v=u∧Mm c H' w'))):dA P f args.toArray [d1,d2,d3,d4,d5] u:=dt.body n hf hb hn jM h
theorem br:(∀b:Bool,(b&&true)=b)∧(∀b:Bool,(true&&b)=b)∧(∀(p:Prop) [Decidable p],(decide p=true)=p)∧(∀(p:Prop) [Decidable p],(decide p=false)↔¬p)∧(∀a b:Bool,((a&&b)=true)=(a=true∧b=true))∧(∀a b:Bool,((a||b)=true)=(a=true∨b=true))∧
 (∀a b:Bool,(a&&b)=false↔a=false∨b=false)∧(∀a b:Bool,(a||b)=false↔a=false∧b=false)∧(∀b:Bool,((!b)=true)=(b=false))∧(∀b:Bool,((!b)=false)=(b=true))∧(∀{α:Type} [BEq α] [LawfulBEq α] (a b:α),(a==b)=true↔a=b)∧(∀{α:Type} [BEq α] [LawfulBEq α] (a b:α),(a==b)=false↔a≠b)∧
 (∀a b:Int,¬a<b↔b≤a)∧(∀a b:Int,¬a≤b↔b<a):=
 ⟨λ_=>Bool.and_true _,λ_=>Bool.true_and _,λ_ _=>fS,λ_ _=>decide_eq_false_iff_not,wF,Bool.or_eq_true,λ_ _=>Bool.and_eq_false_iff,λ_ _=>Bool.or_eq_false_iff,λ_=>Bool.not_eq_true' _,λ_=>Bool.not_eq_false' _,λ_ _=>beq_iff_eq,λ_ _=>rZ,λ_ _=>Int.not_lt,λ_ _=>Int.not_le⟩
section
variable {P:Program}{n:Nat}{F:Fr}{A:World→Prop}{Q:Exit→Act→World→Prop}{ops:Array Oper}{d:Nat}{ty:TypeId}{pos:String}{after:Array Edge}{rest:List Oper}{x:Operand}{v:Value}{c:Ctx}{H:List ao}{t e:TypeId}
theorem St.mv (h:St n ((d,v)::F) A (wpList P ops Q rest))(hx:aZ F x v:=by exact .mk rfl)(hd:Nat.ble (d+1) n=true:=by rfl):St n F A (wpList P ops Q ({dst:=some d,op:= .move x,type:=ty,pos:=pos,after:=after,guard:=none}::rest)):=St.ev _ (Ev.move hx) hd h
theorem St.asg (h:St n ((d,v)::F) A (wpList P ops Q rest))(hx:aZ F x v:=by exact .mk rfl)(hd:Nat.ble (d+1) n=true:=by rfl):St n F A (wpList P ops Q ({dst:=some d,op:= .assign x,type:=ty,pos:=pos,after:=after,guard:=none}::rest)):=St.ev _ (Ev.assign hx) hd h
theorem sX {α:Type}:∀(ps:List (Nat×α)) (k:Nat),ps.map (·.1)=List.range' k ps.length→ps=((ps.map (·.2)).zipIdx k).map λp=>(p.2,p.1)
 | [],_,_=>rfl
 |(i,a)::ps,k,h=>by
  simp only[List.map_cons,List.length_cons,List.range'_succ,List.cons.injEq]at h
  simp only[List.map_cons,List.zipIdx_cons]
  rw[←sX ps (k+1) h.2,h.1]
theorem St.gb {size:Nat}{vs:List Value}{ps:List (Nat×Operand)}{zv:Value}(hp:ps.map (·.1)=List.range' 0 ps.length)(hx:bF F (ps.map (·.2)) vs)(ht:P.underlying t=some (.slice e))(hs:(P.info? e).map (·.size)=some size)
 (hz:(P.info? e).bind (·.zero)=some zv) (nc:Nat.ble 1 size=true) (hlen:Nat.ble (vs.length*size) 16777216=true) (kq:∀u∈vs,u.cells.size=size) (hd:Nat.ble (d+1) n=true)
 {m:Nat} (hm:m=vs.length)
 (h:∀b,St n ((d,.slice (some ⟨b,0,none⟩) m m)::F) (Mm c (row (.slice (some ⟨b,0,none⟩) m m) e size m (vs.flatMap λu=>u.cells.toList)::H)) (wpList P ops Q rest)):
 St n F (Mm c H) (wpList P ops Q ({dst:=some d,op:= .buildSlice t m ps.toArray,type:=ty,pos:=pos,after:=after,guard:=none}::rest)):=St.Sk (sX ps 0 hp) hx ht hs hz nc hlen kq hd hm h
theorem St.cq {o:Operand}{x y:Code}{b:Bool}{p q:Prop}(ht:p→St n F A (x.wp P Q))(hf:q→St n F A (y.wp P Q))(hc:vl F o=some (.bool b):=by exact rfl)
 (hp:b=true→p:=by intro h;first|(simp only[br]at h;exact h)|exact h) (hq:b=false→q:=by intro h;first|(simp only[br]at h;exact h)|exact h):St n F A ((Code.cond o x y).wp P Q):=St.cond b hc (λh=>ht (hp h)) (λh=>hf (hq h))
theorem SW.tg {Q2:Exit→Act→World→Prop}{Fp:List ao}{f:Nat}{o:Oper}{listed:Array Bool}(i:Nat)(h:St n F A (wpList P ops (Exit.then (KW P ops Q n c Fp f (listed.setIfInBounds i true)) Q2) [o])):
 St n F A (wpList P ops (Exit.then (KW P ops Q n c Fp f (listed.setIfInBounds i true)) Q2) [o]):=h
end
structure MK (κ:Type) where
 enc:κ→Value
 kd:TypeDesc
 same:∀a b:κ,∀ [DecidableEq κ],Instr.sameNow kd (enc a) (enc b)=some (decide (a=b))
 key:∀a,MapKept.IsKey kd (enc a)
 bits:∀a,Instr.sameBits 10000 (enc a) (enc a)=true
def mkStr:MK bI:=⟨λs=>sv s,.string,λa b _=>by
    simp only[Instr.sameNow,Option.some.injEq];rw[uF,MapKept.bytes_beq];simp,λa=>by simp[MapKept.IsKey],λa=>by simp only[Instr.sameBits];exact(MapKept.bytes_beq _ _).2 rfl⟩
section assoc
variable {κ:Type}[DecidableEq κ]
def ph:List (κ×Value)→κ→Option Value
 | [],_=>none
 |p::l,k=>if k=p.1 then some p.2 else ph l k
def kB:List (κ×Value)→κ→Value→List (κ×Value)
 | [],k,v=>[(k,v)]
 |p::l,k,v=>if k=p.1 then(k,v)::l else p::kB l k v
theorem EI (l:List (κ×Value))(k:κ)(v:Value)(k':κ):ph (kB l k v) k'=if k'=k then some v else ph l k':=by
 induction l with
 |nil=>simp[kB,ph]
 |cons p l ih=>
  unfold kB
  by_cases h:k=p.1
  ·rw[aB h]
   simp only[ph]
   by_cases h2:k'=k
   ·rw[aB h2,aB h2]
   ·rw[aA h2,aA h2,aA (by rw[←h];exact h2)]
  ·rw[aA h]
   simp only[ph,ih]
   by_cases h2:k'=p.1
   ·rw[aB h2,aB h2,aA (λe=>h (by rw[←e,h2]))]
   ·rw[aA h2,aA h2]
end assoc
section
variable {κ:Type}[DecidableEq κ]
def jd (K:MK κ):List (κ×Value)→Nat→List MapEntry
 | [],_=>[]
 |p::l,i=>⟨K.enc p.1,p.2,i⟩::jd K l (i+1)
def dh (K:MK κ)(l:List (κ×Value)):Obj:= .map (jd K l 0).toArray l.length
omit [DecidableEq κ]in
def NZ:List (κ×Value)→κ→Nat→Option (Nat×Value)
 | [],_,_=>none
 |p::l,k,i=>if k=p.1 then some (i,p.2)else NZ l k (i+1)
theorem Su (l:List (κ×Value))(k:κ)(i:Nat):(NZ l k i).map (·.2)=ph l k:=by
 induction l generalizing i with
 |nil=>rfl
 |cons p l ih=>simp only[NZ,ph];split
               ·rfl
               ·exact ih _
theorem nG (K:MK κ)(k:κ):∀(l:List (κ×Value)) (i c:Nat),Instr.findNow K.kd (K.enc k) (jd K l i) c=some (NZ l k c)
 | [],i,c=>rfl
 |p::l,i,c=>by
  simp only[jd,Instr.findNow,K.same k p.1,NZ]
  by_cases h:k=p.1
  ·simp[h]
  ·simp only[h,decide_false,if_false]
   exact nG K k l _ _
omit [DecidableEq κ]in
theorem xm (K:MK κ)(k:κ)(v:Value):∀(l:List (κ×Value)) (i:Nat),jd K (l++ [(k,v)]) i=jd K l i++ [⟨K.enc k,v,i+l.length⟩]
 | [],i=>by simp[jd]
 |p::l,i=>by simp only[List.cons_append,jd,xm K k v l (i+1),List.length_cons];congr 4;omega
theorem LY {l:List (κ×Value)}{k:κ}{v:Value}{c:Nat}(h:NZ l k c=none):kB l k v=l++ [(k,v)]:=by
 induction l generalizing c with
 |nil=>rfl
 |cons p l ih=>
  simp only[NZ]at h
  split at h
  ·cases h
  ·rename_i h1;unfold kB;rw[aA h1,ih h];rfl
theorem B8 {K:MK κ}{k:κ}{v u:Value}:∀{l:List (κ×Value)} {c j:Nat} (i:Nat),NZ l k c=some (j,u)→c≤j∧j-c<l.length∧((jd K l i)[j-c]?).map (·.key)=some (K.enc k)∧
 jd K (kB l k v) i=(jd K l i).modify (j-c) (λe=>{e with key:=K.enc k,val:=v})∧(kB l k v).length=l.length
 | [],c,j,i,h=>by cases h
 |p::l,c,j,i,h=>by
  simp only[NZ]at h
  split at h
  ·rename_i h1
   simp only[Option.some.injEq,Prod.mk.injEq]at h
   obtain⟨rfl,rfl⟩:=h;unfold kB;rw[aB h1];subst h1
   simp[jd]
  ·rename_i h1
   obtain⟨q1,q2,q3,q4,q5⟩:=B8 (K:=K) (v:=v) (i+1) h
   have e:j-c=(j-(c+1))+1:=by omega
   unfold kB;rw[aA h1];refine⟨by omega,by simp only[List.length_cons];omega,?_,?_,by simp[q5]⟩
   ·rw[e];simpa[jd]using q3
   ·rw[e];simp only[jd,List.modify_succ_cons,q4]
variable {P:Program}{n:Nat}{F:Fr}{A:World→Prop}{c:Ctx}{H R:List ao}{ty t kt et:TypeId}{x y z:Operand}{v:Value}{Q:Exit→Act→World→Prop}{ops:Array Oper}{rest:List Oper}{d:Nat}{pos:String}{after:Array Edge}
class Xz (b:Nat)(H:List ao)(κ:outParam Type)(K:outParam (MK κ))(l:outParam (List (κ×Value))):Prop where
 mem:aX b (dh K l)∈H
instance (priority:=high) Xz.here {κ:Type}(b:Nat)(K:MK κ)(l:List (κ×Value))(H:List ao):Xz b (aX b (dh K l)::H) κ K l:=⟨aU ..⟩
instance Xz.there {κ:Type}(b:Nat)(K:MK κ)(l:List (κ×Value))(E:ao)(H:List ao)[h:Xz b H κ K l]:Xz b (E::H) κ K l:=⟨cE _ h.mem⟩
class B9 (b:Nat)(H:List ao)(κ:outParam Type)(K:outParam (MK κ))(l:outParam (List (κ×Value)))(R:outParam (List ao)):Prop where
 perm:H.Perm (aX b (dh K l)::R)
instance (priority:=high) B9.here {κ:Type}(b:Nat)(K:MK κ)(l:List (κ×Value))(H:List ao):B9 b (aX b (dh K l)::H) κ K l H:=⟨.refl _⟩
instance B9.there {κ:Type}(b:Nat)(K:MK κ)(l:List (κ×Value))(E:ao)(H R:List ao)[h:B9 b H κ K l R]:B9 b (E::H) κ K l (E::R):=⟨(h.perm.cons E).trans (.swap ..)⟩
omit [DecidableEq κ]in
theorem St.makeMap (K:MK κ)(hd:Nat.ble (d+1) n=true)(h:∀b,St n ((d,.map (some b))::F) (Mm c (aX b (dh K [])::H)) (wpList P ops Q rest)):
 St n F (Mm c H) (wpList P ops Q ({dst:=some d,op:= .makeMap t none,type:=ty,pos:=pos,after:=after,guard:=none}::rest)):=by
 refine St.SA (K:=λu H'=>∃b,u= .map (some b)∧H'=aX b (dh K [])::H) ?_ hd ?_
 ·intro a w ρ ha hm
  refine⟨.value (.map (some w.heap.size)),w.alloc (.map #[] 0),ρ,_,?_,⟨_,.inl rfl,_,rfl,rfl⟩,hm.alloc _⟩
  simp[execOp,RowKit.run_makeMap]
 ·rintro _ _ ⟨b,rfl,rfl⟩
  exact h b
theorem Na {zv:Value}{w:World}(hz:(P.info? et).bind (·.zero)=some zv):(zeroValue et).run P w= .ok zv w:=by
 obtain⟨i,hi,hzi⟩:=oT.1 hz
 simp[zeroValue,typeInfo,hi,hzi]
theorem xo (K:MK κ){l:List (κ×Value)}{b:Nat}{k:κ}{zv:Value}{w:World}(ok:Bool)(ht:P.underlying t=some (.map kt et))(hk:P.underlying kt=some K.kd)(hz:(P.info? et).bind (·.zero)=some zv)(hb:w.heap[b]?=some (dh K l)):
 (Instr.lookup t (.map (some b)) (K.enc k) ok).run P w= .ok (if ok then .tuple #[(ph l k).getD zv,.bool (ph l k).isSome]else(ph l k).getD zv) w:=by
 have h1:=MapKept.run_findKey (w:=w) hk (nG K k l 0 0)
 have h2:=Na (P:=P) (w:=w) hz
 have h3:=MapKept.run_getObj_map (P:=P) hb
 have h4:=MapKept.run_checkKey (w:=w) hk (K.key k) (jd K l 0).toArray.isEmpty 9999
 simp only[Instr.lookup,Sem.run_bind,run_underlying ht,Result.andThen_ok,h3,Sem.run_pure,h4,h1,←Su l k 0]
 cases hm:NZ l k 0 with
 |none=>simp[h2]
 |some p=>simp
theorem Ev.lookup (K:MK κ){l:List (κ×Value)}{b:Nat}{k:κ}{zv:Value}[hb:Xz b H κ K l](hx:aZ F x (.map (some b)))(hy:aZ F y (K.enc k))(ht:P.underlying t=some (.map kt et))(hk:P.underlying kt=some K.kd)(hz:(P.info? et).bind (·.zero)=some zv):
 Ev P n F (Mm c H) (.lookup t x y false) ty ((ph l k).getD zv):= .of_run λa w ha hw=>by
 obtain⟨ρ,hm⟩:=hw.out
 have:=xo (P:=P) K (k:=k) false ht hk hz (ep.1 (hm.dK _ hb.mem))
 simp[execOp,hx.eval ha,hy.eval ha,this]
theorem Ev.sY (K:MK κ){l:List (κ×Value)}{b:Nat}{k:κ}{zv:Value}[hb:Xz b H κ K l](hx:aZ F x (.map (some b)))(hy:aZ F y (K.enc k))(ht:P.underlying t=some (.map kt et))(hk:P.underlying kt=some K.kd)(hz:(P.info? et).bind (·.zero)=some zv):
 Ev P n F (Mm c H) (.lookup t x y true) ty (.tuple #[(ph l k).getD zv,.bool (ph l k).isSome]):= .of_run λa w ha hw=>by
 obtain⟨ρ,hm⟩:=hw.out
 have:=xo (P:=P) K (k:=k) true ht hk hz (ep.1 (hm.dK _ hb.mem))
 simp[execOp,hx.eval ha,hy.eval ha,this]
omit [DecidableEq κ]in
theorem Nb (K:MK κ)(k:κ)(w:World):(Instr.keyThatStays (K.enc k) (K.enc k)).run P w= .ok (K.enc k) w:=by
 simp[Instr.keyThatStays,K.bits k]
theorem A8 (K:MK κ){l:List (κ×Value)}{b:Nat}{k:κ}{w:World}(ht:P.underlying t=some (.map kt et))(hk:P.underlying kt=some K.kd)(hb:w.heap[b]?=some (dh K l)):
 (Instr.mapUpdate t (.map (some b)) (K.enc k) v).run P w= .ok () {w with heap:=w.heap.setIfInBounds b (dh K (kB l k v))}:=by
 have h1:=MapKept.run_findKey (w:=w) hk (nG K k l 0 0)
 have h3:=MapKept.run_getObj_map (P:=P) hb
 have h4:=MapKept.run_checkKey (w:=w) hk (K.key k) false 9999
 simp only[Instr.mapUpdate,Sem.run_bind,run_underlying ht,Result.andThen_ok,h3,h4,h1]
 cases hm:NZ l k 0 with
 |none=>
  have e:dh K (kB l k v)= .map ((jd K l 0).toArray.push {key:=K.enc k,val:=v,born:=l.length}) (l.length+1):=by
   rw[LY hm]
   simp[dh,xm]
  rw[e];exact MapKept.run_setObj_map (P:=P) _ hb
 |some p=>
  obtain⟨j,u⟩:=p;obtain⟨_,q2,q3,q4,q5⟩:=B8 (K:=K) (v:=v) 0 hm
  have e:dh K (kB l k v)= .map ((jd K l 0).toArray.modify j λe=>{e with key:=K.enc k,val:=v}) l.length:=by
   unfold dh;rw[q4,q5]
   simp
  rw[e]
  have q3':(((jd K l 0).toArray[j]?).map (·.key)).getD (K.enc k)=K.enc k:=by
   simp only[Nat.sub_zero]at q3
   simp[q3]
  simp only[q3',Sem.run_bind,Nb,Result.andThen_ok]
  exact MapKept.run_setObj_map (P:=P) _ hb
theorem St.mapUpdate (K:MK κ){l:List (κ×Value)}{b:Nat}{k:κ}[tk:B9 b H κ K l R](hx:aZ F x (.map (some b)))(hy:aZ F y (K.enc k))(hz:aZ F z v)(ht:P.underlying t=some (.map kt et))(hk:P.underlying kt=some K.kd)
 (h:St n F (Mm c (aX b (dh K (kB l k v))::R)) (wpList P ops Q rest)):
 St n F (Mm c H) (wpList P ops Q ({dst:=none,op:= .mapUpdate t x y z,type:=ty,pos:=pos,after:=after,guard:=none}::rest)):=by
 refine St.oU (K:=λu H'=>H'=aX b (dh K (kB l k v))::R) ?_ ?_
 ·intro a w ρ ha hm
  have jc:=hm.perm tk.perm
  have hb:=ep.1 (jc.dK _ (aU ..))
  have hr:=A8 (P:=P) K (k:=k) (v:=v) ht hk hb
  refine⟨.skip,{w with heap:=w.heap.setIfInBounds b (dh K (kB l k v))},ρ,_,?_,⟨_,.inr ⟨rfl,rfl⟩,rfl⟩,?_⟩
  ·simp[execOp,hx.eval ha,hy.eval ha,hz.eval ha,hr]
  ·have hs:=MapKept.heap_set (o':=dh K (kB l k v)) hb
   refine jc.alter rfl ⟨rfl,aW _⟩ rfl (by simp) (λj hj fP=> ?_) (ep.2 hs.1) (λb' jZ=>by rw[gY]at jZ⊢;exact .inl jZ);rw[gY]at fP;exact hs.2 j (λe=>fP (by rw[e]))
 ·rintro _ _ rfl
  exact h
omit [DecidableEq κ]in
end
section
variable {n:Nat}{F:Fr}{c:Ctx}{H R:List ao}{T:Act→World→Prop}
theorem St.j7 {ι:Sort _}(d:df)[hd:uI d H](L:ι→List df)(h:∀ρ,d.f ρ→∃x,∀e∈L x,e.f ρ)(k:∀x,St n F (Mm c ((L x).map aF++H)) T):St n F (Mm c H) T:=by
 intro a w ha hw;obtain⟨ρ,hm⟩:=hw.out;obtain⟨x,hx⟩:=h ρ (dm.1 (hm.dK _ hd.mem));exact k x a w ha (Mm.mk (hm.E4 (L x) hx))
theorem St.eT (d:df)(L:List df)[hd:nZ L H](h:∀ρ,(∀e∈L,e.f ρ)→d.f ρ)(k:St n F (Mm c (aF d::H)) T):St n F (Mm c H) T:=
 St.fact d (λρ w hm=>h ρ λe he=>dm.1 (hm.dK _ (hd.mem e he))) k
theorem cV {α:Type}{xs:List α}{x:α}:xs.length+1=(xs++ [x]).length:=by rw[bA];rfl
theorem St.fq {α:Type}(Rr:Rp α)(k:St n F (Mm c (aF (sl Rr (.slice none 0 0) [])::H)) T):St n F (Mm c H) T:=St.fact _ (λ_ _ _=>uN Rr _) k
end
section
variable {P:Program}{Q:Exit→Act→World→Prop}{n:Nat}{F:Fr}{c:Ctx}{H Fp:List ao}
theorem SW.split {ops:Array Oper}{r:List ao}{f:Nat}{listed:Array Bool}(k:Nat)(b:Bool)(hk:look F k=some (.bool b))(ht:b=true→SW P ops Q n ((k,.bool true)::F) c Fp r f listed)(hf:b=false→SW P ops Q n ((k,.bool false)::F) c Fp r f listed):SW P ops Q n F c Fp r f listed:=by
 cases b with
 |true=>exact SW.slot k (.bool true) hk rfl (ht rfl)
 |false=>exact SW.slot k (.bool false) hk rfl (hf rfl)
theorem St.ahP {id:Nat}{l:List Oper}(L:List ao)[tk:eE L H Fp](hm:P.follows .mixedOrders=true)
 (h:SW P l.toArray Q n F c Fp L l.length (Array.replicate l.length false)):St n F (Mm c H) ((Code.region id l.toArray true).wp P Q):=by
 intro a w ha hw;refine wp_region_any hm ?_
 have h1:=h a ha
 have h2:Mm c (Fp++L) {w with drawn:=w.drawn+1}:=by
  obtain⟨ρ,k⟩:=((Mm.drawn c H) w hw).out;exact Mm.mk (k.perm (tk.perm.trans jJ))
 simpa using WR.any (C:=λR=>Mm c (Fp++R)) l.length _ a L _ h2 h1
end
section
variable {P:Program}{Q:Exit→Act→World→Prop}{n:Nat}{F:Fr}{c:Ctx}{H Fp r:List ao}
theorem St.cx {id:Nat}{l:List Oper}(L:List ao)[tk:eE L H Fp](hm:P.follows .mixedOrders=true)
 (h:NP Q→Region.noSelect l.toArray=true→SW P l.toArray Q n F c Fp L l.length (Array.replicate l.length false)) (hQ:NP Q:=by repeat(first|refine NP.then ?_|refine NP.inBlock ?_|exact NP.body)) (hs:Region.noSelect l.toArray=true:=by kernel_rfl):St n F (Mm c H) ((Code.region id l.toArray true).wp P Q):=
 St.ahP L hm (h hQ hs)
theorem St.sZ {id:Nat}{l:List Oper}(bs:List Nat)[tk:xk bs H r Fp](hm:P.follows .mixedOrders=true)
 (h:NP Q→Region.noSelect l.toArray=true→SW P l.toArray Q n F c Fp r l.length (Array.replicate l.length false)) (hQ:NP Q:=by repeat(first|refine NP.then ?_|refine NP.inBlock ?_|exact NP.body)) (hs:Region.noSelect l.toArray=true:=by kernel_rfl):St n F (Mm c H) ((Code.region id l.toArray true).wp P Q):=
 St.par bs hm (h hQ hs)
end
end Go.J
