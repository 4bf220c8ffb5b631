/-
  Laws of walks through programs, and facts on grammars, trees and queries.
  Conditions: none.
-/
import Derived.WalkKit
import Derived.Deep.Quiet
import Derived.Deep.LoopGhost
import Derived.Laws.StructEq
import Derived.ProofKit
import Derived.OpenShut
import Derived.JoinedCond
import Derived.Carry
import Derived.Deep.Slices
import Derived.SizedLaws
import Derived.Still
import Derived.MapKept
import Derived.Lib.LaidU8
import Derived.LaidMore
import Derived.Lay
import Derived.Stop.Joined
import Derived.Deep.DeepHandedRow
set_option linter.unusedVariables false
set_option linter.unusedSimpArgs false
namespace Go
theorem px:type_of% @Array.getD_eq_getD_getElem?.{0}:= @Array.getD_eq_getD_getElem?
theorem Dn:type_of% @Array.getElem?_eq_getElem.{0}:= @Array.getElem?_eq_getElem
theorem wG:type_of% @Array.getElem?_eq_some_iff.{0}:= @Array.getElem?_eq_some_iff
theorem QR:type_of% @Array.getElem?_setIfInBounds.{0}:= @Array.getElem?_setIfInBounds
theorem QS:type_of% @Array.getElem?_toList.{0}:= @Array.getElem?_toList
theorem Lw:type_of% @BitVec.ofInt_natCast:= @BitVec.ofInt_natCast
theorem Lx:type_of% @BitVec.toNat_ofNat:= @BitVec.toNat_ofNat
theorem qi:type_of% @Bool.and_eq_true:= @Bool.and_eq_true
theorem B7:type_of% @Bool.eq_iff_iff:= @Bool.eq_iff_iff
theorem IY:type_of% @Bool.true_and:= @Bool.true_and
theorem ez:type_of% @Decidable.not_not:= @Decidable.not_not
theorem iZ:type_of% @Eq.symm.{1}:= @Eq.symm
theorem ua:type_of% @Int.toNat_of_nonneg:= @Int.toNat_of_nonneg
theorem wi:type_of% @List.Pairwise.imp_of_mem.{0}:= @List.Pairwise.imp_of_mem
theorem GH:type_of% @List.Perm.append_left.{0}:= @List.Perm.append_left
theorem eW:type_of% @List.all_eq_true.{0}:= @List.all_eq_true
theorem nb:type_of% @List.any_eq_true.{0}:= @List.any_eq_true
theorem dq:type_of% @List.append_assoc.{0}:= @List.append_assoc
theorem gx:type_of% @List.append_nil.{0}:= @List.append_nil
theorem wj:type_of% @List.cons_append.{0}:= @List.cons_append
theorem rz:type_of% @List.countP_cons.{0}:= @List.countP_cons
theorem KD:type_of% @List.countP_eq_length_filter.{0}:= @List.countP_eq_length_filter
theorem j4:type_of% @List.drop_of_length_le.{0}:= @List.drop_of_length_le
theorem lG:type_of% @List.eq_nil_of_length_eq_zero.{0}:= @List.eq_nil_of_length_eq_zero
theorem wm:type_of% @List.eq_of_mem_replicate.{0}:= @List.eq_of_mem_replicate
theorem pa:type_of% @List.ext_getElem?.{0}:= @List.ext_getElem?
theorem CA:type_of% @List.flatMap_append.{0,0}:= @List.flatMap_append
theorem jS:type_of% @List.flatMap_cons.{0,0}:= @List.flatMap_cons
theorem wo:type_of% @List.foldl_append.{0,0}:= @List.foldl_append
theorem s6:type_of% @List.foldl_cons.{0,0}:= @List.foldl_cons
theorem CB:type_of% @List.getD_cons_succ.{0}:= @List.getD_cons_succ
theorem ar:type_of% @List.getD_eq_getElem?_getD.{0}:= @List.getD_eq_getElem?_getD
theorem oc:type_of% @List.getElem?_append_left.{0}:= @List.getElem?_append_left
theorem lp:type_of% @List.getElem?_append_right.{0}:= @List.getElem?_append_right
theorem s7:type_of% @List.getElem?_cons_succ.{0}:= @List.getElem?_cons_succ
theorem AD:type_of% @List.getElem?_drop.{0}:= @List.getElem?_drop
theorem bU:type_of% @List.getElem?_eq_getElem.{0}:= @List.getElem?_eq_getElem
theorem ib:type_of% @List.getElem?_eq_none.{0}:= @List.getElem?_eq_none
theorem fA:type_of% @List.getElem?_eq_some_iff.{0}:= @List.getElem?_eq_some_iff
theorem bP:type_of% @List.getElem?_map.{0,0}:= @List.getElem?_map
theorem CC:type_of% @List.getElem?_of_mem.{0}:= @List.getElem?_of_mem
theorem nc:type_of% @List.getElem?_range:= @List.getElem?_range
theorem s8:type_of% @List.getElem?_replicate.{0}:= @List.getElem?_replicate
theorem ic:type_of% @List.getElem?_set_ne.{0}:= @List.getElem?_set_ne
theorem fV:type_of% @List.getElem?_set_self.{0}:= @List.getElem?_set_self
theorem s9:type_of% @List.getElem?_take.{0}:= @List.getElem?_take
theorem gy:type_of% @List.getElem_mem.{0}:= @List.getElem_mem
theorem bQ:type_of% @List.length_append.{0}:= @List.length_append
theorem fB:type_of% @List.length_cons.{0}:= @List.length_cons
theorem AE:type_of% @List.length_drop.{0}:= @List.length_drop
theorem CD:type_of% @List.length_filter_le.{0}:= @List.length_filter_le
theorem aO:type_of% @List.length_map.{0,0}:= @List.length_map
theorem pb:type_of% @List.length_modify.{0}:= @List.length_modify
theorem jT:type_of% @List.length_range:= @List.length_range
theorem kF:type_of% @List.length_replicate.{0}:= @List.length_replicate
theorem CE:type_of% @List.length_reverse.{0}:= @List.length_reverse
theorem cn:type_of% @List.length_set.{0}:= @List.length_set
theorem pc:type_of% @List.length_singleton.{0}:= @List.length_singleton
theorem eX:type_of% @List.length_take.{0}:= @List.length_take
theorem cP:type_of% @List.map_append.{0,0}:= @List.map_append
theorem CF:type_of% @List.map_congr_left.{0,0}:= @List.map_congr_left
theorem fN:type_of% @List.map_cons.{0,0}:= @List.map_cons
theorem kG:type_of% @List.map_map.{0,0,0}:= @List.map_map
theorem lI:type_of% @List.map_nil.{0,0}:= @List.map_nil
theorem sB:type_of% @List.map_replicate.{0,0}:= @List.map_replicate
theorem jk:type_of% @List.map_set.{0,0}:= @List.map_set
theorem cD:type_of% @List.mem_append.{0}:= @List.mem_append
theorem kV:type_of% @List.mem_append_left.{0}:= @List.mem_append_left
theorem mz:type_of% @List.mem_append_right.{0}:= @List.mem_append_right
theorem cJ:type_of% @List.mem_cons.{0}:= @List.mem_cons
theorem cO:type_of% @List.mem_cons_of_mem.{0}:= @List.mem_cons_of_mem
theorem aQ:type_of% @List.mem_cons_self.{0}:= @List.mem_cons_self
theorem qh:type_of% @List.mem_filter.{0}:= @List.mem_filter
theorem GI:type_of% @List.mem_iff_getElem.{0}:= @List.mem_iff_getElem
theorem cz:type_of% @List.mem_map.{0,0}:= @List.mem_map
theorem eP:type_of% @List.mem_map_of_mem.{0,0}:= @List.mem_map_of_mem
theorem ae:type_of% @List.mem_of_getElem?.{0}:= @List.mem_of_getElem?
theorem GJ:type_of% @List.mem_of_mem_drop.{0}:= @List.mem_of_mem_drop
theorem CG:type_of% @List.mem_of_mem_take.{0}:= @List.mem_of_mem_take
theorem lJ:type_of% @List.mem_or_eq_of_mem_set.{0}:= @List.mem_or_eq_of_mem_set
theorem dt:type_of% @List.mem_range:= @List.mem_range
theorem bO:type_of% @List.mem_singleton.{0}:= @List.mem_singleton
theorem CH:type_of% @List.mem_singleton_self.{0}:= @List.mem_singleton_self
theorem AF:type_of% @List.nil_append.{0}:= @List.nil_append
theorem sC:type_of% @List.pairwise_append.{0}:= @List.pairwise_append
theorem jU:type_of% @List.pairwise_cons.{0}:= @List.pairwise_cons
theorem sD:type_of% @List.pairwise_map.{0,0}:= @List.pairwise_map
theorem GK:type_of% @List.pairwise_singleton.{0}:= @List.pairwise_singleton
theorem jV:type_of% @List.perm_append_comm.{0}:= @List.perm_append_comm
theorem qj:type_of% @List.perm_middle.{0}:= @List.perm_middle
theorem ub:type_of% @List.range_succ:= @List.range_succ
theorem lK:type_of% @List.set_append_right.{0}:= @List.set_append_right
theorem wq:type_of% @List.set_cons_succ.{0}:= @List.set_cons_succ
theorem sF:type_of% @List.set_cons_zero.{0}:= @List.set_cons_zero
theorem CI:type_of% @List.singleton_append.{0}:= @List.singleton_append
theorem od:type_of% @List.sum_cons.{0}:= @List.sum_cons
theorem wu:type_of% @List.take_add_one.{0}:= @List.take_add_one
theorem qk:type_of% @List.take_append_drop.{0}:= @List.take_append_drop
theorem kH:type_of% @List.take_length.{0}:= @List.take_length
theorem fF:type_of% @List.take_of_length_le.{0}:= @List.take_of_length_le
theorem Dm:type_of% @List.take_succ_eq_append_getElem.{0}:= @List.take_succ_eq_append_getElem
theorem sg:type_of% @List.take_zero.{0}:= @List.take_zero
theorem qg:type_of% @Nat.add_assoc:= @Nat.add_assoc
theorem jc:type_of% @Nat.add_mul:= @Nat.add_mul
theorem j3:type_of% @Nat.add_zero:= @Nat.add_zero
theorem mr:type_of% @Nat.eq_of_beq_eq_true:= @Nat.eq_of_beq_eq_true
theorem dR:type_of% @Nat.le_of_ble_eq_true:= @Nat.le_of_ble_eq_true
theorem aR:type_of% @Nat.le_refl:= @Nat.le_refl
theorem dS:type_of% @Nat.le_trans:= @Nat.le_trans
theorem wF:type_of% @Nat.lt_of_le_of_lt:= @Nat.lt_of_le_of_lt
theorem fR:type_of% @Nat.lt_of_lt_of_le:= @Nat.lt_of_lt_of_le
theorem eO:type_of% @Nat.lt_or_ge:= @Nat.lt_or_ge
theorem pP:type_of% @Nat.lt_succ_self:= @Nat.lt_succ_self
theorem ko:type_of% @Nat.min_eq_left:= @Nat.min_eq_left
theorem mw:type_of% @Nat.mod_eq_of_lt:= @Nat.mod_eq_of_lt
theorem AA:type_of% @Nat.mul_le_mul_left:= @Nat.mul_le_mul_left
theorem iU:type_of% @Nat.mul_le_mul_right:= @Nat.mul_le_mul_right
theorem gW:type_of% @Nat.mul_one:= @Nat.mul_one
theorem si:type_of% @Nat.pow_le_pow_right:= @Nat.pow_le_pow_right
theorem AB:type_of% @Nat.pow_lt_pow_right:= @Nat.pow_lt_pow_right
theorem ff:type_of% @Nat.sub_self:= @Nat.sub_self
theorem hP:type_of% @Nat.zero_add:= @Nat.zero_add
theorem aP:type_of% @Nat.zero_le:= @Nat.zero_le
theorem pQ:type_of% @Option.bind_eq_some_iff.{0,0}:= @Option.bind_eq_some_iff
theorem dp:type_of% @Option.map_eq_some_iff.{0,0}:= @Option.map_eq_some_iff
theorem sj:type_of% @beq_eq_false_iff_ne.{0}:= @beq_eq_false_iff_ne
theorem fL:type_of% @decide_eq_false:= @decide_eq_false
theorem sk:type_of% @decide_eq_false_iff_not:= @decide_eq_false_iff_not
theorem eB:type_of% @decide_eq_true:= @decide_eq_true
theorem fy:type_of% @decide_eq_true_eq:= @decide_eq_true_eq
theorem aA:type_of% @if_neg.{1}:= @if_neg
theorem aC:type_of% @if_pos.{1}:= @if_pos
theorem iV:type_of% @of_decide_eq_false:= @of_decide_eq_false
theorem fM:type_of% @of_decide_eq_true:= @of_decide_eq_true
end Go
namespace Go.J
open Go
abbrev Fr:=List (Nat×Value)
def look:Fr→Nat→Option Value
 | [],_=>none
 |(k,v)::F,t=>bif Nat.beq t k then some v else look F t
def vl (F:Fr):Operand→Option Value
 | .tmp t=>look F t
 | .const v=>some v
 | .func f=>some (.func (.func f) #[] #[])
 | .global g=>some (.pointer (some ⟨g,0,none⟩))
structure Has (n:Nat)(a:Act)(F:Fr):Prop where
 size:a.tmps.size=n
 defers:a.defers=[]
 slot:∀t v,look F t=some v→a.tmps[t]?=some v
theorem Has.eval {n:Nat}{a:Act}{F:Fr}{x:Operand}{v:Value}(h:Has n a F)(hx:vl F x=some v):a.eval x=v:=by
 cases x with
 |tmp t=>simp only[vl]at hx;simp[Act.eval,Array.getD_eq_getD_getElem?,h.slot _ _ hx]
 |const u=>simp only[vl,Option.some.injEq]at hx;exact hx
 |func f=>simp only[vl,Option.some.injEq]at hx;exact hx
 |global g=>simp only[vl,Option.some.injEq]at hx;exact hx
theorem Has.put {n:Nat}{a:Act}{F:Fr}(h:Has n a F){d:Nat}(hd:d<n)(v:Value):Has n (a.put (some d) v) ((d,v)::F):=by
 refine⟨by simp[Act.put,h.size],by simp[Act.put,h.defers],λt u hu=> ?_⟩
 simp only[look]at hu
 cases b:Nat.beq t d with
 |true=>
  have e:t=d:=mr b
  subst e
  simp only[b,cond_true,Option.some.injEq]at hu
  subst hu
  simp[Act.put,h.size,hd]
 |false=>
  have e:t≠d:=Nat.ne_of_beq_eq_false b
  simp only[b,cond_false]at hu
  simp[Act.put,Ne.symm e,h.slot _ _ hu]
theorem Has.Ow {n:Nat}{a:Act}{F:Fr}(h:Has n a F)(v:Value):Has n (a.put none v) F:=h
def Sub:Fr→Fr→Prop
 | [],_=>True
 |(k,v)::a,F=>look F k=some v∧Sub a F
theorem Sub.look {b F:Fr}(h:Sub b F):∀t v,look b t=some v→J.look F t=some v:=by
 induction b with
 |nil=>intro t v a;simp[J.look]at a
 |cons p b d=>
  obtain⟨k,u⟩:=p;intro t v a
  simp only[J.look]at a
  cases c:Nat.beq t k with
  |true=>
   have e:t=k:=mr c
   subst e
   simp only[c,cond_true,Option.some.injEq]at a
   subst a;exact h.1
  |false=>
   simp only[c,cond_false]at a
   exact d h.2 t v a
theorem Has.sub {n:Nat}{a:Act}{F b:Fr}(h:Has n a F)(c:Sub b F):Has n a b:=⟨h.size,h.defers,λt v d=>h.slot t v (c.look t v d)⟩
def St (n:Nat)(F:Fr)(A:World→Prop)(T:Act→World→Prop):Prop:=∀a w,Has n a F→A w→T a w
section
variable {P:Program}{n:Nat}{F:Fr}{A:World→Prop}{Q:Exit→Act→World→Prop}{ops:Array Oper}
theorem St.o9 {A':World→Prop}{T:Act→World→Prop}(b:∀w,A w→A' w)(h:St n F A' T):St n F A T:=
 λa w c hw=>h a w c (b w hw)
theorem St.ex {ι:Sort _}{B:ι→World→Prop}{T:Act→World→Prop}(h:∀x,St n F (B x) T):St n F (λw=>∃x,B x w) T:=
 λa w b ⟨x,hx⟩=>h x a w b hx
theorem St.and {p:Prop}{T:Act→World→Prop}(h:p→St n F A T):St n F (λw=>p∧A w) T:=
 λa w b hw=>h hw.1 a w b hw.2
theorem St.seq {x y:Code}(h:St n F A (x.wp P (Exit.then (y.wp P Q) Q))):St n F A ((Code.seq x y).wp P Q):=
 λa w b hw=>wp_seq (h a w b hw)
theorem St.skip (h:St n F A (Q .normal)):St n F A (Code.skip.wp P Q):=λa w b hw=>wp_skip (h a w b hw)
theorem St.alW (h:St n F A (Q .ret)):St n F A (Code.ret.wp P Q):=λa w b hw=>wp_ret (h a w b hw)
theorem St.exit {id:Nat}(h:St n F A (Q (.exit id))):St n F A ((Code.exit id).wp P Q):=λa w b hw=>wp_exit (h a w b hw)
theorem St.block {id:Nat}{c:Code}(h:St n F A (c.wp P (Exit.inBlock id Q))):St n F A ((Code.block id c).wp P Q):=
 λa w b hw=>wp_block (h a w b hw)
theorem St.cond {c:Operand}{x y:Code}(t:Bool)(d:vl F c=some (.bool t))(ht:t=true→St n F A (x.wp P Q))(e:t=false→St n F A (y.wp P Q)):
 St n F A ((Code.cond c x y).wp P Q):=
 λa w b hw=>wp_cond_split (b.eval d) (λh=>ht h a w b hw) (λh=>e h a w b hw)
theorem St.Iu {c:Operand}{x y:Code}(t:Bool)(d:vl F c=some (.bool t))(h:t=true)(ht:St n F A (x.wp P Q)):
 St n F A ((Code.cond c x y).wp P Q):=
 λa w b hw=>wp_cond_true (by rw[b.eval d,h]) (ht a w b hw)
theorem St.ri {c:Operand}{x y:Code}(t:Bool)(d:vl F c=some (.bool t))(h:t=false)(e:St n F A (y.wp P Q)):
 St n F A ((Code.cond c x y).wp P Q):=
 λa w b hw=>wp_cond_false (by rw[b.eval d,h]) (e a w b hw)
theorem St.wa {K:Act→World→Prop}(h:St n F A K):St n F A (Exit.then K Q .normal):=h
theorem St.Lk {K:Act→World→Prop}{id:Nat}(h:St n F A (Q (.exit id))):St n F A (Exit.then K Q (.exit id)):=h
theorem St.Pk {K:Act→World→Prop}(h:St n F A (Q .ret)):St n F A (Exit.then K Q .ret):=h
theorem St.Ky {id:Nat}(h:St n F A (Q .normal)):St n F A (Exit.inBlock id Q .normal):=h
theorem St.Wy {id:Nat}(h:St n F A (Q .ret)):St n F A (Exit.inBlock id Q .ret):=h
theorem St.Wx {id:Nat}(h:St n F A (Q .normal)):St n F A (Exit.inBlock id Q (.exit id)):=by
 intro a w b hw
 simp only[Exit.inBlock,if_true]
 exact h a w b hw
theorem St.Se {id b:Nat}(c:Nat.beq b id=false)(h:St n F A (Q (.exit b))):St n F A (Exit.inBlock id Q (.exit b)):=by
 intro a w d hw
 simp only[Exit.inBlock,if_neg (Nat.ne_of_beq_eq_false c)]
 exact h a w d hw
theorem St.loop {ι:Type _}{body:Code}(c:ι→Fr)(d:ι→World→Prop)(μ:ι→Nat)(f:ι)(i:Sub (c f) F)(j:∀w,A w→d f w)
 (round:∀x,St n (c x) (d x) (body.wp P (Exit.then (λh w'=>∃y,μ y<μ x∧Has n h (c y)∧d y w') Q))):
 St n F A ((Code.loop body).wp P Q):=by
 intro a w m hw;refine wp_loop_ghost (λk a w=>∃x,μ x=k∧Has n a (c x)∧d x w) (μ f) ⟨f,rfl,m.sub i,j w hw⟩ ?_;rintro k a w ⟨x,rfl,hx,g⟩;refine wp_mono (round x a w hx g) ?_;intro e h w' b
 cases e with
 |normal=>obtain⟨y,h1,o,p⟩:=b;exact⟨μ y,h1,y,rfl,o,p⟩
 |exit id=>exact b
 |goto l=>exact b
 |ret=>exact b
 |panic ch=>exact b
 |outgrown=>exact b
theorem St.rg {id:Nat}{l:List Oper}(h:St n F A (wpList P l.toArray Q l)):St n F A ((Code.region id l.toArray false).wp P Q):=
 λa w b hw=>wp_region_lit (h a w b hw)
theorem St.nil (h:St n F A (Q .normal)):St n F A (wpList P ops Q []):=h
abbrev bare (op : Op) (ty : TypeId) : Oper := { dst := none, op := op, type := ty, pos := "", after := #[], guard := none }
theorem gu (ρ:Operand→Value)(o:Oper):execOp ρ o=execOp ρ (bare o.op o.type):=by
 obtain⟨d,op,ty,p,a,g⟩:=o
 cases op<;>rfl
def Ev (P:Program)(n:Nat)(F:Fr)(A:World→Prop)(op:Op)(ty:TypeId)(v:Value):Prop:=
 ∀a w,Has n a F→A w→Oper.quietUpon P A w v ((execOp a.eval (bare op ty)).run P w)
theorem Ev.quietAt {op:Op}{ty:TypeId}{v:Value}(h:Ev P n F A op ty v){d:Option Tmp}{pos:String}{after:Array Edge}{g:Option (Nat×Bool)}{a:Act}{w:World}
 (b:Has n a F) (hw:A w):({dst:=d,op:=op,type:=ty,pos:=pos,after:=after,guard:=g}:Oper).quietAt P a A w v:=by
 unfold Oper.quietAt;rw[gu];exact h a w b hw
theorem Ev.wp {op:Op}{ty:TypeId}{v:Value}(h:Ev P n F A op ty v){d:Option Tmp}{pos:String}{after:Array Edge}{g:Option (Nat×Bool)}{a:Act}{w:World}
 (c:Has n a F) (hw:A w) {K:Act→World→Prop} (hk:∀w',A w'→K (a.put d v) w'):
 ({dst:=d,op:=op,type:=ty,pos:=pos,after:=after,guard:=g}:Oper).wp P a w K Q:=by
 unfold Oper.wp Oper.upon;rw[gu]
 have b:=h a w c hw
 simp only at b⊢
 generalize (execOp a.eval (bare op ty)).run P w=r at b
 cases r with
 |ok f w'=>
  cases f<;>simp only[Oper.quietUpon]at b<;>(try exact b.elim)
  ·obtain⟨rfl,rfl⟩:=b;exact hk _ hw
  ·obtain⟨rfl,rfl⟩:=b;exact hk _ hw
  ·obtain⟨rfl,i⟩:=b
   exact i.mono λe k he=>by
    obtain⟨rfl,j⟩:=he;exact hk _ j
 |halt x w'=>simp only[Oper.quietUpon]at b
theorem gB {o:Oper}{rest:List Oper}{a:Act}{w:World}(b:o.guard=none)(h:o.wp P a w (wpList P ops Q rest) Q):wpList P ops Q (o::rest) a w:=by
 simp only[wpList,Region.wanted,b,if_true]
 exact .inl h
theorem St.ev {d:Nat}{op:Op}{ty:TypeId}{pos:String}{after:Array Edge}{rest:List Oper}(v:Value)(c:Ev P n F A op ty v)(hd:Nat.ble (d+1) n=true)
 (h:St n ((d,v)::F) A (wpList P ops Q rest)):
 St n F A (wpList P ops Q ({dst:=some d,op:=op,type:=ty,pos:=pos,after:=after,guard:=none}::rest)):=
 λa w b hw=>gB rfl (c.wp b hw λw' e=>h _ w' (b.put (dR hd) v) e)
@[irreducible] def gv (c:Bool)(v:Value):Value:=bif c then v else undef
theorem cr {c:Bool}(h:c=true)(v:Value):gv c v=v:=by unfold gv;simp[h]
theorem cL {c:Bool}(h:c=false)(v:Value):gv c v=undef:=by unfold gv;simp[h]
def ai (F:Fr)(x:Operand)(v:Value):Prop:=∃u,vl F x=some u∧u=v
theorem ai.mk {x:Operand}{v:Value}(h:vl F x=some v):ai F x v:=⟨v,h,rfl⟩
theorem ai.gv {x:Operand}{v:Value}{c:Bool}(h:vl F x=some (gv c v))(a:c=true):ai F x v:=⟨_,h,cr a v⟩
theorem ai.eval {x:Operand}{v:Value}(h:ai F x v){a:Act}(b:Has n a F):a.eval x=v:=by
 obtain⟨u,h1,rfl⟩:=h;exact b.eval h1
theorem U8 {a b:Bool}(h:a=true)(k:b=true):(a&&b)=true:=by simp[h,k]
def Vp:Value→Option Bool
 | .bool b=>some b
 |_=>none
theorem IX {l:Array Oper}{j dj:Nat}{u:Value}{tmps:Array Value}(a:(l[j]?).bind (·.dst)=some dj)(h:tmps[dj]?=some u):
 yielded l tmps j=Vp u:=by
 unfold yielded;rw[a]
 simp only[Option.bind_some,h]
 cases u<;>rfl
theorem mL {l:Array Oper}{o:Oper}{j dj:Nat}{want c:Bool}{a:Act}{u:Value}(b:o.guard=some (j,want))(d:(l[j]?).bind (·.dst)=some dj)(h:a.tmps[dj]?=some u)
 (hu:(c=true→u= .bool want)∧(c=false→u= .bool (!want)∨u=undef)):Region.wanted o (yielded l a.tmps)=c:=by
 unfold Region.wanted;rw[b]
 simp only[]
 rw[IX d h]
 cases c with
 |true=>rw[hu.1 rfl];cases want<;>rfl
 |false=>
  rcases hu.2 rfl with h|h
  ·rw[h];cases want<;>rfl
  ·rw[h];cases want<;>rfl
theorem St.guarded {j:Nat}{want:Bool}{d:Nat}{op:Op}{ty:TypeId}{pos:String}{after:Array Edge}{rest:List Oper}(c:Bool){dj:Nat}{u:Value}(v:Value)
 (g:(ops[j]?).bind (·.dst)=some dj) (i:look F dj=some u) (hu:(c=true→u= .bool want)∧(c=false→u= .bool (!want)∨u=undef))
 (k:c=true→Ev P n F A op ty v) (hd:Nat.ble (d+1) n=true) (h:St n ((d,gv c v)::F) A (wpList P ops Q rest)):
 St n F A (wpList P ops Q ({dst:=some d,op:=op,type:=ty,pos:=pos,after:=after,guard:=some (j,want)}::rest)):=by
 intro a w b hw
 have f:=dR hd
 have m:=mL (l:=ops) (o:={dst:=some d,op:=op,type:=ty,pos:=pos,after:=after,guard:=some (j,want)}) rfl g (b.slot _ _ i) hu
 simp only[wpList,m]
 cases e:c with
 |true=>
  rw[e]at h
  simp only[if_true]
  refine .inl ((k e).wp b hw λw' p=> ?_)
  have:=h _ w' (b.put f (gv true v)) p
  rwa[cr rfl]at this
 |false=>
  rw[e]at h
  have:=h _ w (b.put f (gv false v)) hw
  rw[cL rfl]at this
  simpa using this
theorem WO (g:Bool):(g=true→Value.bool g= .bool true)∧(g=false→Value.bool g= .bool (!true)∨Value.bool g=undef):=by cases g<;>simp
theorem WN (g:Bool):((!g)=true→Value.bool g= .bool false)∧((!g)=false→Value.bool g= .bool (!false)∨Value.bool g=undef):=by cases g<;>simp
theorem aaH (c g:Bool):((c&&g)=true→J.gv c (.bool g)= .bool true)∧((c&&g)=false→J.gv c (.bool g)= .bool (!true)∨J.gv c (.bool g)=undef):=by
 cases c<;>cases g<;>simp[gv]
section
variable {j:Nat}{d:Nat}{op:Op}{ty:TypeId}{pos:String}{after:Array Edge}{rest:List Oper}{dj:Nat}(v:Value)
theorem St.gt {g:Bool}(a:(ops[j]?).bind (·.dst)=some dj)(b:look F dj=some (.bool g))(c:g=true→Ev P n F A op ty v)(hd:Nat.ble (d+1) n=true)
 (h:St n ((d,gv g v)::F) A (wpList P ops Q rest)):
 St n F A (wpList P ops Q ({dst:=some d,op:=op,type:=ty,pos:=pos,after:=after,guard:=some (j,true)}::rest)):=St.guarded g v a b (WO g) c hd h
theorem St.gf {g:Bool}(a:(ops[j]?).bind (·.dst)=some dj)(b:look F dj=some (.bool g))(c:(!g)=true→Ev P n F A op ty v)(hd:Nat.ble (d+1) n=true)
 (h:St n ((d,gv (!g) v)::F) A (wpList P ops Q rest)):
 St n F A (wpList P ops Q ({dst:=some d,op:=op,type:=ty,pos:=pos,after:=after,guard:=some (j,false)}::rest)):=St.guarded (!g) v a b (WN g) c hd h
theorem St.YM {c g:Bool}(a:(ops[j]?).bind (·.dst)=some dj)(b:look F dj=some (gv c (.bool g)))(e:(c&&g)=true→Ev P n F A op ty v)(hd:Nat.ble (d+1) n=true)
 (h:St n ((d,gv (c&&g) v)::F) A (wpList P ops Q rest)):
 St n F A (wpList P ops Q ({dst:=some d,op:=op,type:=ty,pos:=pos,after:=after,guard:=some (j,true)}::rest)):=St.guarded (c&&g) v a b (aaH c g) e hd h
end
def Sq (n:Nat)(F:Fr)(T:Act→Prop):Prop:=∀a,Has n a F→T a
theorem Sq.nil (h:St n F A (Q .normal)):Sq n F (wpQuiet P ops A (λb=>∀w',A w'→Q .normal b w') []):=λa c w hw=>h a w c hw
theorem Sq.ev {d:Nat}{op:Op}{ty:TypeId}{pos:String}{after:Array Edge}{rest:List Oper}{T:Act→Prop}(v:Value)(c:Ev P n F A op ty v)(hd:Nat.ble (d+1) n=true)
 (h:Sq n ((d,v)::F) (wpQuiet P ops A T rest)):
 Sq n F (wpQuiet P ops A T ({dst:=some d,op:=op,type:=ty,pos:=pos,after:=after,guard:=none}::rest)):=by
 intro a b
 simp only[wpQuiet,Region.wanted,if_true]
 exact⟨v,λw hw=>c.quietAt b hw,h _ (b.put (dR hd) v)⟩
theorem Sq.guarded {j:Nat}{want:Bool}{d:Nat}{op:Op}{ty:TypeId}{pos:String}{after:Array Edge}{rest:List Oper}{T:Act→Prop}(c:Bool){dj:Nat}{u:Value}(v:Value)
 (g:(ops[j]?).bind (·.dst)=some dj) (i:look F dj=some u) (hu:(c=true→u= .bool want)∧(c=false→u= .bool (!want)∨u=undef))
 (k:c=true→Ev P n F A op ty v) (hd:Nat.ble (d+1) n=true) (h:Sq n ((d,gv c v)::F) (wpQuiet P ops A T rest)):
 Sq n F (wpQuiet P ops A T ({dst:=some d,op:=op,type:=ty,pos:=pos,after:=after,guard:=some (j,want)}::rest)):=by
 intro a b
 have f:=dR hd
 have m:=mL (l:=ops) (o:={dst:=some d,op:=op,type:=ty,pos:=pos,after:=after,guard:=some (j,want)}) rfl g (b.slot _ _ i) hu
 simp only[wpQuiet,m]
 cases e:c with
 |true=>
  rw[e]at h
  simp only[if_true]
  refine⟨v,λw hw=>(k e).quietAt b hw,?_⟩
  have:=h _ (b.put f (gv true v))
  rwa[cr rfl]at this
 |false=>
  rw[e]at h
  have:=h _ (b.put f (gv false v))
  rw[cL rfl]at this
  simpa using this
section
variable {j:Nat}{d:Nat}{op:Op}{ty:TypeId}{pos:String}{after:Array Edge}{rest:List Oper}{dj:Nat}{T:Act→Prop}(v:Value)
theorem Sq.gt {g:Bool}(a:(ops[j]?).bind (·.dst)=some dj)(b:look F dj=some (.bool g))(c:g=true→Ev P n F A op ty v)(hd:Nat.ble (d+1) n=true)
 (h:Sq n ((d,gv g v)::F) (wpQuiet P ops A T rest)):
 Sq n F (wpQuiet P ops A T ({dst:=some d,op:=op,type:=ty,pos:=pos,after:=after,guard:=some (j,true)}::rest)):=Sq.guarded g v a b (WO g) c hd h
theorem Sq.gf {g:Bool}(a:(ops[j]?).bind (·.dst)=some dj)(b:look F dj=some (.bool g))(c:(!g)=true→Ev P n F A op ty v)(hd:Nat.ble (d+1) n=true)
 (h:Sq n ((d,gv (!g) v)::F) (wpQuiet P ops A T rest)):
 Sq n F (wpQuiet P ops A T ({dst:=some d,op:=op,type:=ty,pos:=pos,after:=after,guard:=some (j,false)}::rest)):=Sq.guarded (!g) v a b (WN g) c hd h
end
def M7 (A:World→Prop):Prop:=∀w,A w→A {w with drawn:=w.drawn+1}
theorem St.rq {id:Nat}{l:List Oper}(hm:P.follows .mixedOrders=true)(b:Region.lexB .any l.toArray=true)(c:M7 A)
 (h:Sq n F (wpQuiet P l.toArray A (λd=>∀w',A w'→Q .normal d w') l)):St n F A ((Code.region id l.toArray true).wp P Q):=
 λa w e hw=>wp_region_quiet hm b (c w hw) (by simpa using h a e)
end
abbrev Ro:=Nat→Option Obj
def Ro.le (ρ jn:Ro):Prop:=∀k o,ρ k=some o→jn k=some o
theorem Ro.le_refl (ρ:Ro):ρ.le ρ:=λ_ _ h=>h
theorem Ro.le_trans {a b c:Ro}(h:a.le b)(k:b.le c):a.le c:=λ_ _ x=>k _ _ (h _ _ x)
structure du where
 f:Ro→Prop
 mono:∀ρ jn,Ro.le ρ jn→f ρ→f jn
structure ak where
 key:Option Nat
 ok:Ro→World→Prop
 loc:∀{ρ jn w w'},Ro.le ρ jn→(∀b,key=some b→w'.heap[b]?=w.heap[b]?)→ok ρ w→ok jn w'
 lt:∀{ρ w b},ok ρ w→key=some b→b<w.heap.size
@[irreducible] def aB (d:du):ak:=⟨none,λρ _=>d.f ρ,λh _ k=>d.mono _ _ h k,λ_ h=>by simp at h⟩
@[irreducible] def aW (b:Nat)(o:Obj):ak:=⟨some b,λ_ w=>w.heap[b]?=some o,λ_ h k=>by rw[h b rfl];exact k,λh a=>by
 simp only[Option.some.injEq]at a
 subst a
 exact(wG.1 h).1⟩
theorem FI {w w':World}{e:TypeId}{size n:Nat}{v:Value}{cs:List Value}(h:∀b,v.ownBlock=some b→w'.heap[b]?=w.heap[b]?)(k:w.ownsRow 0 e size v n cs):w'.ownsRow 0 e size v n cs:=by
 obtain⟨h1,a⟩:=k;refine⟨h1,?_⟩
 rcases a with a|⟨g,cap,cur,rfl,c,d,f⟩
 ·exact .inl a
 ·exact .inr ⟨g,cap,cur,rfl,c,by rw[h g rfl];exact d,f⟩
@[irreducible] def row (v:Value)(e:TypeId)(size n:Nat)(cs:List Value):ak:=⟨v.ownBlock,λ_ w=>w.ownsRow 0 e size v n cs,λ_ h k=>FI h k,λh a=>(h.lt _ a).2⟩
theorem jv (d:du):(aB d).key=none:=by unfold aB;rfl
theorem dB {d:du}{ρ:Ro}{w:World}:(aB d).ok ρ w↔d.f ρ:=by unfold aB;exact Iff.rfl
theorem iW (b:Nat)(o:Obj):(aW b o).key=some b:=by unfold aW;rfl
theorem fp {b:Nat}{o:Obj}{ρ:Ro}{w:World}:(aW b o).ok ρ w↔w.heap[b]?=some o:=by unfold aW;exact Iff.rfl
theorem eI (v:Value)(e:TypeId)(size n:Nat)(cs:List Value):(row v e size n cs).key=v.ownBlock:=by unfold row;rfl
theorem eM {v:Value}{e:TypeId}{size n:Nat}{cs:List Value}{ρ:Ro}{w:World}:(row v e size n cs).ok ρ w↔w.ownsRow 0 e size v n cs:=by unfold row;exact Iff.rfl
def Ia (E a:ak):Prop:=∀b,E.key=some b→a.key≠some b
theorem Ia.symm {E a:ak}(h:Ia E a):Ia a E:=λb h1 c=>h b c h1
def jm (H:List ak)(b:Nat):Prop:=∃E∈H,E.key=some b
structure Ctx where
 w:World
 ρ:Ro
 M:Nat→Prop
 dr:Prop
structure ew (c:Ctx)(H:List ak)(ρ:Ro)(w:World):Prop where
 os:w.os=c.w.os
 tape:w.tape=c.w.tape∧(c.dr→c.w.drawn≤w.drawn)
 output:w.output=c.w.output
 size:c.w.heap.size≤w.heap.size
 AJ:∀k,k<c.w.heap.size→¬c.M k→w.heap[k]?=c.w.heap[k]?
 fits:∀k o,ρ k=some o→w.heap[k]?=some o
 le:Ro.le c.ρ ρ
 new:∀k,k<c.w.heap.size→¬c.M k→ρ k=c.ρ k
 dM:∀E∈H,E.ok ρ w
 own:∀E∈H,∀b,E.key=some b→ρ b=none∧(c.w.heap.size≤b∨c.M b)
 ES:H.Pairwise Ia
@[irreducible] def Mm (c:Ctx)(H:List ak)(w:World):Prop:=∃ρ,ew c H ρ w
theorem Mm.out {c:Ctx}{H:List ak}{w:World}(h:Mm c H w):∃ρ,ew c H ρ w:=by unfold Mm at h;exact h
theorem Mm.mk {c:Ctx}{H:List ak}{w:World}{ρ:Ro}(h:ew c H ρ w):Mm c H w:=by unfold Mm;exact⟨ρ,h⟩
theorem ew.lt {c:Ctx}{H:List ak}{ρ:Ro}{w:World}(h:ew c H ρ w){E:ak}(a:E∈H){b:Nat}(d:E.key=some b):b<w.heap.size:=E.lt (h.dM E a) d
theorem ew.AK {c:Ctx}{H:List ak}{ρ:Ro}{w:World}(h:ew c H ρ w){b:Nat}{o:Obj}(a:ρ b=some o):b<w.heap.size:=(wG.1 (h.fits b o a)).1
theorem ew.step {c:Ctx}{H1 H2 R:List ak}{ρ jn:Ro}{w w':World}(h:ew c (H1++R) ρ w)(k:ew ⟨w,ρ,jm H1,c.dr⟩ H2 jn w'):ew c (H2++R) jn w':=by
 have hd:=sC.1 h.ES
 have o:∀E∈R,∀b,E.key=some b→w'.heap[b]?=w.heap[b]?:=by
  intro E a b e;refine k.AJ b (h.lt (mz _ a) e) ?_;rintro ⟨j,g,l⟩;exact hd.2.2 j g E a b l e
 refine⟨k.os.trans h.os,⟨k.tape.1.trans h.tape.1,λd=>dS (h.tape.2 d) (k.tape.2 d)⟩,k.output.trans h.output,dS h.size k.size,?_,k.fits,Ro.le_trans h.le k.le,?_,?_,?_,?_⟩
 ·intro i m hm
  rw[←h.AJ i m hm];refine k.AJ i (fR m h.size) ?_;rintro ⟨E,a,e⟩
  rcases(h.own E (kV _ a) i e).2 with f|f
  ·omega
  ·exact hm f
 ·intro i m hm
  rw[←h.new i m hm];refine k.new i (fR m h.size) ?_;rintro ⟨E,a,e⟩
  rcases(h.own E (kV _ a) i e).2 with f|f
  ·omega
  ·exact hm f
 ·intro E a
  rcases cD.1 a with a|a
  ·exact k.dM E a
  ·exact E.loc k.le (o E a) (h.dM E (mz _ a))
 ·intro E a b e
  rcases cD.1 a with a|a
  ·refine⟨(k.own E a b e).1,?_⟩
   rcases(k.own E a b e).2 with f|⟨j,g,f⟩
   ·exact .inl (dS h.size f)
   ·exact(h.own j (kV _ g) b f).2
  ·have h1:=h.own E (mz _ a) b e
   refine⟨?_,h1.2⟩;rw[k.new b (h.lt (mz _ a) e)]
   ·exact h1.1
   ·rintro ⟨j,g,l⟩
    exact hd.2.2 j g E a b l e
 ·refine sC.2 ⟨k.ES,hd.2.1,?_⟩
  intro E a j g b e l
  rcases(k.own E a b e).2 with f|⟨n,p,f⟩
  ·have:=h.lt (mz _ g) l
   exact absurd this (by simpa using f)
  ·exact hd.2.2 n p j g b f l
theorem ew.perm {c:Ctx}{H H':List ak}{ρ:Ro}{w:World}(h:ew c H ρ w)(hp:H.Perm H'):ew c H' ρ w:=
 ⟨h.os,h.tape,h.output,h.size,h.AJ,h.fits,h.le,h.new,λE a=>h.dM E (hp.mem_iff.2 a),λE a=>h.own E (hp.mem_iff.2 a),
  (hp.pairwise_iff λh=>h.symm).1 h.ES⟩
theorem ew.drop {c:Ctx}{E:ak}{H:List ak}{ρ:Ro}{w:World}(h:ew c (E::H) ρ w):ew c H ρ w:=
 ⟨h.os,h.tape,h.output,h.size,h.AJ,h.fits,h.le,h.new,λE a=>h.dM E (cO _ a),λE a=>h.own E (cO _ a),(jU.1 h.ES).2⟩
theorem ew.fact {c:Ctx}{H:List ak}{ρ:Ro}{w:World}(h:ew c H ρ w)(d:du)(hd:d.f ρ):ew c (aB d::H) ρ w:=
 ⟨h.os,h.tape,h.output,h.size,h.AJ,h.fits,h.le,h.new,λE a=>by
  rcases cJ.1 a with rfl|a
  ·exact dB.2 hd
  ·exact h.dM E a,
  λE a b e=>by
   rcases cJ.1 a with rfl|a
   ·rw[jv]at e;cases e
   ·exact h.own E a b e,
  jU.2 ⟨λE _ b e=>(by rw[jv]at e;cases e),h.ES⟩⟩
theorem ew.drawn {c:Ctx}{H:List ak}{ρ:Ro}{w:World}(h:ew c H ρ w):ew c H ρ {w with drawn:=w.drawn+1}:=
 ⟨h.os,⟨h.tape.1,λd=>Nat.le_succ_of_le (h.tape.2 d)⟩,h.output,h.size,h.AJ,h.fits,h.le,h.new,λE a=>E.loc (w:=w) (Ro.le_refl _) (λ_ _=>rfl) (h.dM E a),h.own,h.ES⟩
theorem Mm.drawn (c:Ctx)(H:List ak):M7 (Mm c H):=λ_ h=>let⟨_,k⟩:=h.out;Mm.mk k.drawn
def Start (H:List ak)(ρ:Ro)(w:World):Prop:=ew ⟨w,ρ,jm H,True⟩ H ρ w
theorem ew.start {c:Ctx}{H R:List ak}{ρ:Ro}{w:World}(h:ew c (H++R) ρ w):Start H ρ w:=
 ⟨rfl,⟨rfl,λ_=>aR _⟩,rfl,aR _,λ_ _ _=>rfl,h.fits,Ro.le_refl _,λ_ _ _=>rfl,λE a=>h.dM E (kV _ a),
  λE a b d=>⟨(h.own E (kV _ a) b d).1,.inr ⟨E,a,d⟩⟩,(sC.1 h.ES).1⟩
def dz (P:Program)(f:FuncId)(args:Array Value)(pre:List ak)(post:Value→List ak→Prop):Prop:=
 ∀w ρ,Start pre ρ w→Calls P f args w λe w'=>∃v H',e= .returned v∧post v H'∧Mm ⟨w,ρ,jm pre,True⟩ H' w'
def Dv (dr:Prop)(P:Program)(f:FuncId)(args:Array Value)(pre:List ak)(post:Value→List ak→Prop):Prop:=
 ∀w ρ,Start pre ρ w→Calls P f args w λe w'=>∃v H',e= .returned v∧post v H'∧Mm ⟨w,ρ,jm pre,dr⟩ H' w'
theorem ew.dr {a:World}{b:Ro}{M:Nat→Prop}{d c:Prop}{H:List ak}{ρ:Ro}{w:World}(h:ew ⟨a,b,M,d⟩ H ρ w)(hd:c→d):ew ⟨a,b,M,c⟩ H ρ w:=
 ⟨h.os,⟨h.tape.1,λq=>h.tape.2 (hd q)⟩,h.output,h.size,h.AJ,h.fits,h.le,h.new,h.dM,h.own,h.ES⟩
theorem Mm.dr {a:World}{b:Ro}{M:Nat→Prop}{d c:Prop}{H:List ak}{w:World}(h:Mm ⟨a,b,M,d⟩ H w)(hd:c→d):Mm ⟨a,b,M,c⟩ H w:=let⟨_,k⟩:=h.out;Mm.mk (k.dr hd)
theorem dz.gen {P:Program}{f:FuncId}{args:Array Value}{pre:List ak}{post:Value→List ak→Prop}(h:dz P f args pre post):Dv True P f args pre post:=h
theorem Dv.dr {d a:Prop}{P:Program}{f:FuncId}{args:Array Value}{pre:List ak}{post:Value→List ak→Prop}(h:Dv d P f args pre post)(hd:a→d):Dv a P f args pre post:=
 λw ρ b=>(h w ρ b).mono λ_ _ ⟨v,H',h1,c,e⟩=>⟨v,H',h1,c,e.dr hd⟩
theorem Dv.mono {d:Prop}{P:Program}{f:FuncId}{args:Array Value}{pre:List ak}{post a:Value→List ak→Prop}(h:Dv d P f args pre post)(hp:∀v H,post v H→a v H):Dv d P f args pre a:=
 λw ρ b=>(h w ρ b).mono λ_ _ ⟨v,H',h1,c,e⟩=>⟨v,H',h1,hp v H' c,e⟩
abbrev sm:=Dv False
def kW (P:Program)(f:FuncId)(args:Array Value)(ds:List du)(v:Value):Prop:=sm P f args (ds.map aB) λu _=>u=v
def eC (P:Program)(f:FuncId)(args:Array Value)(ds:List du)(v:Value):Prop:=dz P f args (ds.map aB) λu _=>u=v
theorem dz.mono {P:Program}{f:FuncId}{args:Array Value}{pre:List ak}{post a:Value→List ak→Prop}(h:dz P f args pre post)(hp:∀v H,post v H→a v H):dz P f args pre a:=
 λw ρ b=>(h w ρ b).mono λ_ _ ⟨v,H',h1,c,d⟩=>⟨v,H',h1,hp v H' c,d⟩
theorem ew.Ab {c:Ctx}{H:List ak}{ρ:Ro}{w:World}(h:ew c H ρ w):∀ds:List du,(∀d∈ds,d.f ρ)→ew c (ds.map aB++H) ρ w
 | [],_=>h
 |d::ds,hd=>(h.Ab ds λa b=>hd a (cO _ b)).fact d (hd d (aQ ..))
section classes
class lW (d:du)(H:List ak):Prop where
 mem:aB d∈H
instance (priority:=high) lW.here (d:du)(H:List ak):lW d (aB d::H):=⟨aQ ..⟩
instance lW.there (d:du)(E:ak)(H:List ak)[h:lW d H]:lW d (E::H):=⟨cO _ h.mem⟩
class kX (ds:List du)(H:List ak):Prop where
 mem:∀d∈ds,aB d∈H
instance kX.nil (H:List ak):kX [] H:=⟨λ_ h=>by simp at h⟩
instance kX.cons (d:du)(ds:List du)(H:List ak)[h:lW d H][k:kX ds H]:kX (d::ds) H:=
 ⟨λb a=>by rcases cJ.1 a with rfl|a;exact h.mem;exact k.mem b a⟩
class B8 (b:Nat)(H:List ak)(o:outParam Obj):Prop where
 mem:aW b o∈H
instance (priority:=high) B8.here (b:Nat)(o:Obj)(H:List ak):B8 b (aW b o::H) o:=⟨aQ ..⟩
instance B8.there (b:Nat)(o:Obj)(E:ak)(H:List ak)[h:B8 b H o]:B8 b (E::H) o:=⟨cO _ h.mem⟩
class l3 (b:Nat)(H:List ak)(o:outParam Obj)(R:outParam (List ak)):Prop where
 perm:H.Perm (aW b o::R)
instance (priority:=high) l3.here (b:Nat)(o:Obj)(H:List ak):l3 b (aW b o::H) o H:=⟨.refl _⟩
instance l3.there (b:Nat)(o:Obj)(E:ak)(H R:List ak)[h:l3 b H o R]:l3 b (E::H) o (E::R):=⟨(h.perm.cons E).trans (.swap ..)⟩
class lX (v:Value)(H:List ak)(e:outParam TypeId)(size n:outParam Nat)(cs:outParam (List Value))(R:outParam (List ak)):Prop where
 perm:H.Perm (row v e size n cs::R)
instance (priority:=high) lX.here (v:Value)(e:TypeId)(size n:Nat)(cs:List Value)(H:List ak):lX v (row v e size n cs::H) e size n cs H:=⟨.refl _⟩
instance lX.there (v:Value)(e:TypeId)(size n:Nat)(cs:List Value)(E:ak)(H R:List ak)[h:lX v H e size n cs R]:lX v (E::H) e size n cs (E::R):=⟨(h.perm.cons E).trans (.swap ..)⟩
class BD (E:ak)(H:List ak)(R:outParam (List ak)):Prop where
 perm:H.Perm (E::R)
instance (priority:=high) BD.here (E:ak)(H:List ak):BD E (E::H) H:=⟨.refl _⟩
instance BD.there (E a:ak)(H R:List ak)[h:BD E H R]:BD E (a::H) (a::R):=⟨(h.perm.cons a).trans (.swap ..)⟩
class eT (L H:List ak)(R:outParam (List ak)):Prop where
 perm:H.Perm (L++R)
instance eT.nil (H:List ak):eT [] H H:=⟨.refl _⟩
instance eT.cons (E:ak)(L H R a:List ak)[h:BD E H R][k:eT L R a]:eT (E::L) H a:=⟨h.perm.trans (k.perm.cons E)⟩
end classes
theorem Mm.take {c:Ctx}{L H R:List ak}{w:World}[t:eT L H R](h:Mm c H w):Mm c (L++R) w:=let⟨_,k⟩:=h.out;Mm.mk (k.perm t.perm)
theorem ew.left {c:Ctx}{L R:List ak}{ρ:Ro}{w:World}(h:ew c (L++R) ρ w):ew c L ρ w:=by
 induction R generalizing L with
 |nil=>simpa using h
 |cons E R a=>exact a (h.perm qj).drop
theorem Mm.sub {c:Ctx}{L H R:List ak}{w:World}[t:eT L H R](h:Mm c H w):Mm c L w:=let⟨_,k⟩:=h.out;Mm.mk (k.perm t.perm).left
theorem Mm.fact {c:Ctx}{H:List ak}{w:World}(h:Mm c H w)(d:du)(hd:∀ρ,ew c H ρ w→d.f ρ):Mm c (aB d::H) w:=let⟨_,k⟩:=h.out;Mm.mk (k.fact d (hd _ k))
section
variable {P:Program}{n:Nat}{F:Fr}{c:Ctx}{H R:List ak}{Q:Exit→Act→World→Prop}{ops:Array Oper}{T:Act→World→Prop}
theorem St.fact (d:du)(hd:∀ρ w,ew c H ρ w→d.f ρ)(h:St n F (Mm c (aB d::H)) T):St n F (Mm c H) T:=
 h.o9 λ_ hw=>hw.fact d λρ k=>hd ρ _ k
theorem St.sub (L:List ak)[t:eT L H R](h:St n F (Mm c L) T):St n F (Mm c H) T:=h.o9 λ_ hw=>hw.sub
theorem St.take (L:List ak)[t:eT L H R](h:St n F (Mm c (L++R)) T):St n F (Mm c H) T:=h.o9 λ_ hw=>hw.take
theorem St.aK (h:St n F (Mm c R) T):St n F (Mm c ([]++R)) T:=h
theorem St.ao {a:ak}(h:St n F (Mm c (a::R)) T):St n F (Mm c ([a]++R)) T:=h
theorem St.dQ {a b:ak}(h:St n F (Mm c (a::b::R)) T):St n F (Mm c ([a,b]++R)) T:=h
theorem St.iP {a b d:ak}(h:St n F (Mm c (a::b::d::R)) T):St n F (Mm c ([a,b,d]++R)) T:=h
theorem St.Yx {a b d e:ak}(h:St n F (Mm c (a::b::d::e::R)) T):St n F (Mm c ([a,b,d,e]++R)) T:=h
def Do (P:Program)(n:Nat)(F:Fr)(c:Ctx)(H:List ak)(op:Op)(ty:TypeId)(K:Value→List ak→Prop):Prop:=
 ∀a w ρ,Has n a F→ew c H ρ w→∃v w' jn H',(execOp a.eval (bare op ty)).run P w= .ok v w'∧(∃u,(v= .value u∨(v= .skip∧u=undef))∧K u H')∧ew c H' jn w'
theorem Do.wp {op:Op}{ty:TypeId}{K:Value→List ak→Prop}(h:Do P n F c H op ty K){d:Option Tmp}{pos:String}{after:Array Edge}{g:Option (Nat×Bool)}{a:Act}{w:World}
 (i:Has n a F) (hw:Mm c H w) {J:Act→World→Prop} (hk:∀u H' w',K u H'→Mm c H' w'→J (a.put d u) w'):
 ({dst:=d,op:=op,type:=ty,pos:=pos,after:=after,guard:=g}:Oper).wp P a w J Q:=by
 obtain⟨ρ,hm⟩:=hw.out;obtain⟨v,w',jn,H',b,⟨u,j,e⟩,f⟩:=h a w ρ i hm;unfold Oper.wp Oper.upon;rw[gu]
 simp only at b⊢
 rw[b]
 rcases j with rfl|⟨rfl,rfl⟩
 ·exact hk _ _ _ e (Mm.mk f)
 ·exact hk _ _ _ e (Mm.mk f)
theorem St.Qa {d:Nat}{op:Op}{ty:TypeId}{pos:String}{after:Array Edge}{rest:List Oper}{K:Value→List ak→Prop}(b:Do P n F c H op ty K)(hd:Nat.ble (d+1) n=true)
 (h:∀v H',K v H'→St n ((d,v)::F) (Mm c H') (wpList P ops Q rest)):
 St n F (Mm c H) (wpList P ops Q ({dst:=some d,op:=op,type:=ty,pos:=pos,after:=after,guard:=none}::rest)):=
 λ_ _ a hw=>gB rfl (b.wp a hw λu H' w' e f=>h u H' e _ w' (a.put (dR hd) u) f)
theorem St.lx {op:Op}{ty:TypeId}{pos:String}{after:Array Edge}{rest:List Oper}{K:Value→List ak→Prop}(b:Do P n F c H op ty K)
 (h:∀v H',K v H'→St n F (Mm c H') (wpList P ops Q rest)):
 St n F (Mm c H) (wpList P ops Q ({dst:=none,op:=op,type:=ty,pos:=pos,after:=after,guard:=none}::rest)):=
 λ_ _ a hw=>gB rfl (b.wp a hw λu H' w' d e=>h u H' d _ w' (a.Ow u) e)
end
def tH:Nat→List Value→Fr
 |_,[]=>[]
 |k,v::vs=>(k,v)::tH (k+1) vs
theorem uo {t:Nat}{v:Value}:∀(l:List Value) (i:Nat),look (tH i l) t=some v→i≤t∧l[t-i]?=some v
 | [],i,h=>by simp[tH,look]at h
 |x::l,i,h=>by
  simp only[tH,look]at h
  cases a:Nat.beq t i with
  |true=>
   have e:t=i:=mr a
   subst e
   simp only[a,cond_true,Option.some.injEq]at h
   subst h
   simp
  |false=>
   have e:t≠i:=Nat.ne_of_beq_eq_false a
   simp only[a,cond_false]at h
   obtain⟨h1,b⟩:=uo l (i+1) h;refine⟨by omega,?_⟩
   have:t-i=(t-(i+1))+1:=by omega
   rw[this,s7];exact b
theorem dz.body {P:Program}{f:FuncId}{fn:Func}{cd:Code}{args:List Value}{pre:List ak}{post:Value→List ak→Prop}(n:Nat)
 (b:P.funcs[f]?=some fn) (d:fn.body=some cd) (g:fn.ntmps=n) (i:Nat.ble args.length n=true)
 (h:∀c:Ctx,St n (tH 0 args) (Mm c pre) (cd.wp P (bodyPost P fn λe w'=>∃v H',e= .returned v∧post v H'∧Mm c H' w'))):
 dz P f args.toArray pre post:=by
 intro w ρ j;refine calls_of_wp b d (h ⟨w,ρ,jm pre,True⟩ _ w ⟨?_,rfl,?_⟩ (Mm.mk j))
 ·have:=dR i
  simp[g]
  omega
 ·intro t v ht
  obtain⟨_,a⟩:=uo args 0 ht
  simp only[Nat.sub_zero]at a
  have k:t<args.length:=(fA.1 a).1
  simp only[List.size_toArray,Array.getElem?_append,k,if_true]
  simpa using a
theorem sm.body {P:Program}{f:FuncId}{fn:Func}{cd:Code}{args:List Value}{pre:List ak}{post:Value→List ak→Prop}(n:Nat)
 (b:P.funcs[f]?=some fn) (d:fn.body=some cd) (g:fn.ntmps=n) (i:Nat.ble args.length n=true)
 (h:∀c:Ctx,¬c.dr→St n (tH 0 args) (Mm c pre) (cd.wp P (bodyPost P fn λe w'=>∃v H',e= .returned v∧post v H'∧Mm c H' w'))):
 sm P f args.toArray pre post:=by
 intro w ρ j;refine calls_of_wp b d (h ⟨w,ρ,jm pre,False⟩ (λh=>h) _ w ⟨?_,rfl,?_⟩ (Mm.mk (j.dr λh=>h.elim)))
 ·have:=dR i
  simp[g]
  omega
 ·intro t v ht
  obtain⟨_,a⟩:=uo args 0 ht
  simp only[Nat.sub_zero]at a
  have k:t<args.length:=(fA.1 a).1
  simp only[List.size_toArray,Array.getElem?_append,k,if_true]
  simpa using a
theorem kW.body {P:Program}{f:FuncId}{fn:Func}{cd:Code}{args:List Value}{u:Value}{ds:List du}(n:Nat)
 (a:P.funcs[f]?=some fn) (b:fn.body=some cd) (d:fn.ntmps=n) (g:Nat.ble args.length n=true)
 (h:∀c:Ctx,¬c.dr→St n (tH 0 args) (Mm c (ds.map aB)) (cd.wp P (bodyPost P fn λe w'=>∃v H',e= .returned v∧v=u∧Mm c H' w'))):kW P f args.toArray ds u:=sm.body n a b d g h
theorem eC.qC {P:Program}{f:FuncId}{fn:Func}{cd:Code}{args:List Value}{u:Value}(n:Nat)
 (a:P.funcs[f]?=some fn) (b:fn.body=some cd) (d:fn.ntmps=n) (g:Nat.ble args.length n=true)
 (h:∀c:Ctx,St n (tH 0 args) (Mm c []) (cd.wp P (bodyPost P fn λe w'=>∃v H',e= .returned v∧v=u∧Mm c H' w'))):eC P f args.toArray [] u:=dz.body n a b d g h
theorem eC.nJ {P:Program}{f:FuncId}{fn:Func}{cd:Code}{args:List Value}{u:Value}{d1:du}(n:Nat)
 (a:P.funcs[f]?=some fn) (b:fn.body=some cd) (d:fn.ntmps=n) (g:Nat.ble args.length n=true)
 (h:∀c:Ctx,St n (tH 0 args) (Mm c [aB d1]) (cd.wp P (bodyPost P fn λe w'=>∃v H',e= .returned v∧v=u∧Mm c H' w'))):eC P f args.toArray [d1] u:=dz.body n a b d g h
theorem eC.nK {P:Program}{f:FuncId}{fn:Func}{cd:Code}{args:List Value}{u:Value}{d1 d2:du}(n:Nat)
 (a:P.funcs[f]?=some fn) (b:fn.body=some cd) (d:fn.ntmps=n) (g:Nat.ble args.length n=true)
 (h:∀c:Ctx,St n (tH 0 args) (Mm c [aB d1,aB d2]) (cd.wp P (bodyPost P fn λe w'=>∃v H',e= .returned v∧v=u∧Mm c H' w'))):eC P f args.toArray [d1,d2] u:=dz.body n a b d g h
theorem eC.UA {P:Program}{f:FuncId}{fn:Func}{cd:Code}{args:List Value}{u:Value}{d1 d2 d3:du}(n:Nat)
 (a:P.funcs[f]?=some fn) (b:fn.body=some cd) (d:fn.ntmps=n) (g:Nat.ble args.length n=true)
 (h:∀c:Ctx,St n (tH 0 args) (Mm c [aB d1,aB d2,aB d3]) (cd.wp P (bodyPost P fn λe w'=>∃v H',e= .returned v∧v=u∧Mm c H' w'))):eC P f args.toArray [d1,d2,d3] u:=dz.body n a b d g h
theorem eC.Me {P:Program}{f:FuncId}{fn:Func}{cd:Code}{args:List Value}{u:Value}{d1 d2 d3 d4:du}(n:Nat)
 (a:P.funcs[f]?=some fn) (b:fn.body=some cd) (d:fn.ntmps=n) (g:Nat.ble args.length n=true)
 (h:∀c:Ctx,St n (tH 0 args) (Mm c [aB d1,aB d2,aB d3,aB d4]) (cd.wp P (bodyPost P fn λe w'=>∃v H',e= .returned v∧v=u∧Mm c H' w'))):eC P f args.toArray [d1,d2,d3,d4] u:=dz.body n a b d g h
theorem eC.Ck {P:Program}{f:FuncId}{fn:Func}{cd:Code}{args:List Value}{u:Value}{d1:du}{ds:List du}(n:Nat)
 (a:P.funcs[f]?=some fn) (b:fn.body=some cd) (d:fn.ntmps=n) (g:Nat.ble args.length n=true)
 (h:∀c:Ctx,St n (tH 0 args) (Mm c (aB d1::ds.map aB)) (cd.wp P (bodyPost P fn λe w'=>∃v H',e= .returned v∧v=u∧Mm c H' w'))):eC P f args.toArray (d1::ds) u:=dz.body n a b d g h
theorem Sub.nil {F:Fr}:Sub [] F:=trivial
theorem Sub.cons {F a:Fr}{k:Nat}{v:Value}(h:J.look F k=some v)(b:Sub a F):Sub ((k,v)::a) F:=⟨h,b⟩
def RV (P:Program)(F:Fr)(H:List ak):ResultVar→Value→Prop
 | .tmp t,v=>look F t=some v
 | .cell t ty,v=>∃b C e fr,look F t=some (.pointer (some ⟨b,0,none⟩))∧aW b (.cells C e fr)∈H∧
  ((∃a,P.underlying ty=some (.struct a))∧(P.info? ty).map (·.size)=some C.size∧v= .agg C∨
   (match P.underlying ty with|some (.struct _)|some (.array _ _)|none=>False|some _=>True)∧C[0]?=some v)
theorem cV {w:World}{b off:Nat}{C:Array Value}{e:TypeId}{fr:Nat×Nat}(h:w.heap[b]?=some (.cells C e fr)):w.cell? ⟨b,off,none⟩=C[off]?:=by
 simp[World.cell?,h]
theorem eR {P:Program}{w:World}{ty:TypeId}{b off:Nat}{L:List Value}{d:TypeDesc}(hd:P.underlying ty=some d)(hk:(match d with| .struct _| .array _ _=>True|_=>False))
 (a:(P.info? ty).map (·.size)=some L.length) (c:∀j v,L[j]?=some v→w.cell? ⟨b,off+j,none⟩=some v):(loadVar ty ⟨b,off,none⟩).run P w= .ok (.agg L.toArray) w:=by
 obtain⟨i,e,f⟩:=dp.1 a
 have h1:=run_loadCells_list (P:=P) w ⟨b,off,none⟩ L (λj v h=>by rw[Addr.add_lit];exact c j v h)
 have g:(isAgg ty).run P w= .ok true w:=by
  cases d<;>simp at hk<;>simp[isAgg,run_underlying hd]
 simp[loadVar,g,sizeOf,typeInfo,e,f,h1]
theorem fQ {P:Program}{w:World}{ty:TypeId}{a:Addr}{v:Value}{d:TypeDesc}(hd:P.underlying ty=some d)(hk:(match d with| .struct _| .array _ _=>False|_=>True))
 (b:w.cell? a=some v):(loadVar ty a).run P w= .ok v w:=by
 have c:(isAgg ty).run P w= .ok false w:=by
  cases d<;>simp at hk<;>simp[isAgg,run_underlying hd]
 simp[loadVar,c,b]
def Fh (a:Act):ResultVar→Sem Value
 | .tmp t=>pure (a.tmps.getD t undef)
 | .cell t ty=>do loadVar ty (←asAddr (a.tmps.getD t undef))
theorem RV.run {P:Program}{n:Nat}{F:Fr}{H:List ak}{r:ResultVar}{v:Value}(h:RV P F H r v){a:Act}(i:Has n a F){c:Ctx}{w:World}(hw:Mm c H w):
 (Fh a r).run P w= .ok v w:=by
 obtain⟨ρ,hm⟩:=hw.out
 cases r with
 |tmp t=>simp[RV]at h;simp[Fh,Array.getD_eq_getD_getElem?,i.slot _ _ h]
 |cell t ty=>
  obtain⟨b,C,e,fr,h1,l,m⟩:=h
  have o:=fp.1 (hm.dM _ l)
  have k:∀off,w.cell? ⟨b,off,none⟩=C[off]?:=λoff=>cV o
  have ht:=i.slot _ _ h1
  simp only[Fh,Array.getD_eq_getD_getElem?,ht,Option.getD_some,asAddr,Sem.run_bind,Sem.run_pure,Result.andThen_ok]
  rcases m with⟨⟨q,f⟩,g,rfl⟩|⟨f,g⟩
  ·have:=eR (P:=P) (w:=w) (ty:=ty) (b:=b) (off:=0) (L:=C.toList) f trivial (by simpa using g) (λj v p=>by rw[k,Nat.zero_add];simpa using p)
   simpa using this
  ·cases hd:P.underlying ty with
   |none=>rw[hd]at f;exact f.elim
   |some d=>rw[hd]at f;exact fQ hd (by cases d<;>simp_all) (by rw[k];exact g)
def Qt (P:Program)(F:Fr)(H:List ak):List ResultVar→List Value→Prop
 | [],[]=>True
 |r::rs,v::vs=>RV P F H r v∧Qt P F H rs vs
 |_,_=>False
theorem Qt.run {P:Program}{n:Nat}{F:Fr}{H:List ak}{a:Act}(b:Has n a F){c:Ctx}{w:World}(hw:Mm c H w):∀{rs:List ResultVar} {vs:List Value},Qt P F H rs vs→
 (rs.mapM (Fh a)).run P w= .ok vs w
 | [],[],_=>by simp
 |r::rs,v::vs,h=>by
  have h1:=RV.run h.1 b hw
  have d:=Qt.run b hw h.2
  simp only[List.mapM_cons,Sem.run_bind,h1,Result.andThen_ok,d,Sem.run_pure]
def Hq:List Value→Value
 | [v]=>v
 |vs=> .tuple vs.toArray
theorem Ho (fn:Func)(a:Act):results fn a.tmps=(fn.results.mapM (Fh a)>>=λvs=>pure (if h:vs.size=1 then vs[0]else .tuple vs)):=by
 unfold results
 congr 2
theorem St.DR {P:Program}{n:Nat}{F:Fr}{c:Ctx}{H:List ak}{fn:Func}{post:Value→List ak→Prop}{b:List ResultVar}(vs:List Value)(H':List ak)
 (f:fn.results=b.toArray) (g:Qt P F H b vs) (hp:post (Hq vs) H') (hH:∀w,Mm c H w→Mm c H' w):
 St n F (Mm c H) (bodyPost P fn (λe w'=>∃v H',e= .returned v∧post v H'∧Mm c H' w') .ret):=by
 intro a w d hw;refine⟨d.defers,_,?_,_,H',rfl,hp,hH w hw⟩
 have h:=Qt.run d hw g
 rw[Ho,f]
 simp only[List.mapM_toArray,Sem.run_bind,Sem.run_map,h,Result.andThen_ok,Sem.run_pure]
 congr 1
 cases vs with
 |nil=>rfl
 |cons v vs=>cases vs<;>rfl
theorem St.eH {P:Program}{n:Nat}{F:Fr}{c:Ctx}{H:List ak}{fn:Func}{R:Ending→World→Prop}
 (h:St n F (Mm c H) (bodyPost P fn R .ret)):St n F (Mm c H) (bodyPost P fn R .normal):=h
abbrev ax:=List UInt8
abbrev sv (l:ax):Value:= .string ⟨l.toArray⟩
abbrev iv (n:Int):Value:= .int .i64 n
structure Rp (α:Type) where
 size:Nat
 pos:0<size
 cells:α→List Value
 wf:α→Prop
 len:∀x,(cells x).length=size
 one:∀x,∀u∈cells x,u.oneCell'=true
def aZ (n:Int):Prop:= -9223372036854775808≤n∧n≤9223372036854775807
def aJ:Rp Int:=⟨1,by decide,λx=>[.int .i64 x],aZ,λ_=>rfl,λ_ u h=>by simp at h;subst h;rfl⟩
def bI:Rp ax:=⟨1,by decide,λx=>[sv x],λx=>x.length≤140737488351232,λ_=>rfl,λ_ u h=>by simp at h;subst h;rfl⟩
def eK:Rp Bool:=⟨1,by decide,λx=>[.bool x],λ_=>True,λ_=>rfl,λ_ u h=>by simp at h;subst h;rfl⟩
def bT:Rp {v:Value//v.oneCell'=true}:=⟨1,by decide,λx=>[x.1],λ_=>True,λ_=>rfl,λx u h=>by simp at h;subst h;exact x.2⟩
def rows {α:Type}(R:Rp α)(xs:List α):List Value:=xs.flatMap R.cells
theorem iz {α:Type}(R:Rp α)(xs:List α):(rows R xs).length=xs.length*R.size:=by
 induction xs with
 |nil=>simp[rows]
 |cons x xs a=>simp only[rows,List.flatMap_cons,List.length_append,R.len,List.length_cons,Nat.add_mul]at a⊢;omega
theorem eN {α:Type}(R:Rp α):∀(xs:List α) (k j:Nat) (x:α),xs[k]?=some x→j<R.size→(rows R xs)[k*R.size+j]?=(R.cells x)[j]?
 | [],_,_,_,h,_=>by simp at h
 |y::xs,0,j,x,h,a=>by
  simp only[List.getElem?_cons_zero,Option.some.injEq]at h
  subst h
  simp only[rows,List.flatMap_cons,Nat.zero_mul,Nat.zero_add]
  rw[oc (by rw[R.len];exact a)]
 |y::xs,k+1,j,x,h,a=>by
  simp only[List.getElem?_cons_succ]at h
  have b:=eN R xs k j x h a
  simp only[rows,List.flatMap_cons]at b⊢
  rw[lp (by rw[R.len,jc];omega),R.len]
  have e:(k+1)*R.size+j-R.size=k*R.size+j:=by rw[jc];omega
  rw[e];exact b
def sl {α:Type}(R:Rp α)(v:Value)(xs:List α):du where
 f ρ:=∃a cap,v= .slice a xs.length cap∧xs.length≤cap∧cap≤maxLen∧(∀x∈xs,R.wf x)∧
  (xs=[]∨∃b off C e fr,a=some ⟨b,off,none⟩∧ρ b=some (.cells C e fr)∧∀j u,(rows R xs)[j]?=some u→C[off+j]?=some u)
 mono ρ jn h:=by
  rintro ⟨a,cap,h1,d,g,i,c⟩;refine⟨a,cap,h1,d,g,i,?_⟩
  rcases c with c|⟨b,off,C,e,fr,k,l,m⟩
  ·exact .inl c
  ·exact .inr ⟨b,off,C,e,fr,k,h _ _ l,m⟩
class sH (v:Value)(H:List ak)(α:outParam Type)(R:outParam (Rp α))(xs:outParam (List α)):Prop where
 mem:aB (sl R v xs)∈H
instance (priority:=high) sH.here {α:Type}(v:Value)(R:Rp α)(xs:List α)(H:List ak):sH v (aB (sl R v xs)::H) α R xs:=⟨aQ ..⟩
instance sH.there {α:Type}(v:Value)(R:Rp α)(xs:List α)(E:ak)(H:List ak)[h:sH v H α R xs]:sH v (E::H) α R xs:=⟨cO _ h.mem⟩
class j5 {α:Type}(R:Rp α)(x:α)(L:outParam (List Value)):Prop where
 eq:R.cells x=L
@[irreducible] def cZ (v:Value)(size k off:Nat):Value:=
 match v with
 | .slice (some a) _ _=> .pointer (some (a.add (k*size+off)))
 |_=>undef
theorem eG (b o n c size k off:Nat):cZ (.slice (some ⟨b,o,none⟩) n c) size k off= .pointer (some ⟨b,o+(k*size+off),none⟩):=by
 unfold cZ;simp only[Addr.add_lit]
section
variable {P:Program}{n:Nat}{F:Fr}{A:World→Prop}{c:Ctx}{H:List ak}{ty:TypeId}{x y z:Operand}{v:Value}
theorem Ev.of_run {op:Op}(h:∀a w,Has n a F→A w→(execOp a.eval (bare op ty)).run P w= .ok (.value v) w):Ev P n F A op ty v:=
 λa w b hw=>by rw[h a w b hw];exact⟨rfl,rfl⟩
theorem Ev.move (hx:ai F x v):Ev P n F A (.move x) ty v:= .of_run λa w b _=>by simp[execOp,hx.eval b]
theorem Ev.assign (hx:ai F x v):Ev P n F A (.assign x) ty v:= .of_run λa w b _=>by simp[execOp,hx.eval b]
theorem Ev.and {p q:Bool}(hx:ai F x (.bool p))(hy:p=true→ai F y (.bool q)):Ev P n F A (.pick x y (.const (.bool false))) ty (.bool (p&&q)):= .of_run λa w b _=>by
 cases p with
 |true=>simp only[execOp,hx.eval b,(hy rfl).eval b];simp[asBool]
 |false=>simp only[execOp,hx.eval b];simp[asBool,Act.eval]
theorem Ev.or {p q:Bool}(hx:ai F x (.bool p))(hy:(!p)=true→ai F y (.bool q)):Ev P n F A (.pick x (.const (.bool true)) y) ty (.bool (p||q)):= .of_run λa w b _=>by
 cases p with
 |true=>simp only[execOp,hx.eval b];simp[asBool,Act.eval]
 |false=>simp only[execOp,hx.eval b,(hy rfl).eval b];simp[asBool]
theorem Ev.not {p:Bool}(hx:ai F x (.bool p)){t:TypeId}:Ev P n F A (.unOp .not t x) ty (.bool (!p)):= .of_run λa w b _=>by
 simp[execOp,hx.eval b,Op.unary]
section ints
variable {k:IntKind}{i j:Int}{t u:TypeId}
theorem Ev.lss (hx:ai F x (.int k i))(hy:ai F y (.int k j)):Ev P n F A (.binOp .lss t x y u) ty (.bool (decide (i<j))):= .of_run λa w ha _=>by simp only[execOp,hx.eval ha,hy.eval ha];simp[go_sem]
theorem Ev.leq (hx:ai F x (.int k i))(hy:ai F y (.int k j)):Ev P n F A (.binOp .leq t x y u) ty (.bool (decide (i≤j))):= .of_run λa w ha _=>by simp only[execOp,hx.eval ha,hy.eval ha];simp[go_sem]
theorem Ev.gtr (hx:ai F x (.int k i))(hy:ai F y (.int k j)):Ev P n F A (.binOp .gtr t x y u) ty (.bool (decide (j<i))):= .of_run λa w ha _=>by simp only[execOp,hx.eval ha,hy.eval ha];simp[go_sem]
theorem Ev.geq (hx:ai F x (.int k i))(hy:ai F y (.int k j)):Ev P n F A (.binOp .geq t x y u) ty (.bool (decide (j≤i))):= .of_run λa w ha _=>by simp only[execOp,hx.eval ha,hy.eval ha];simp[go_sem]
theorem Ev.eql (hx:ai F x (.int k i))(hy:ai F y (.int k j)):Ev P n F A (.binOp .eql t x y u) ty (.bool (decide (i=j))):= .of_run λa w ha _=>by
 simp only[execOp,hx.eval ha,hy.eval ha];simp[go_sem]
 rfl
theorem Ev.neq (hx:ai F x (.int k i))(hy:ai F y (.int k j)):Ev P n F A (.binOp .neq t x y u) ty (.bool (!decide (i=j))):= .of_run λa w ha _=>by
 simp only[execOp,hx.eval ha,hy.eval ha];simp[go_sem]
 rfl
theorem Ev.rJ (hx:ai F x (.int k i))(hy:ai F y (.int k j)):Ev P n F A (.binOp .add t x y u) ty (.int k (k.wrap (i+j))):= .of_run λa w ha _=>by simp only[execOp,hx.eval ha,hy.eval ha];simp[go_sem,Op.intArith]
theorem Ev.alZ (hx:ai F x (.int k i))(hy:ai F y (.int k j)):Ev P n F A (.binOp .sub t x y u) ty (.int k (k.wrap (i-j))):= .of_run λa w ha _=>by simp only[execOp,hx.eval ha,hy.eval ha];simp[go_sem,Op.intArith]
theorem Ev.alL (hx:ai F x (.int k i))(hy:ai F y (.int k j)):Ev P n F A (.binOp .mul t x y u) ty (.int k (k.wrap (i*j))):= .of_run λa w ha _=>by simp only[execOp,hx.eval ha,hy.eval ha];simp[go_sem,Op.intArith]
theorem uY {i:Int}(h: -9223372036854775808≤i∧i≤9223372036854775807):IntKind.i64.wrap i=i:=by
 simp only[IntKind.wrap,IntKind.bits,IntKind.signed]
 simp
 omega
theorem Ev.add (hx:ai F x (iv i))(hy:ai F y (iv j))(h: -9223372036854775808≤i+j∧i+j≤9223372036854775807):Ev P n F A (.binOp .add t x y u) ty (iv (i+j)):=by
 have:=Ev.rJ (P:=P) (n:=n) (A:=A) (ty:=ty) (t:=t) (u:=u) hx hy;rwa[uY h]at this
theorem Ev.sub (hx:ai F x (iv i))(hy:ai F y (iv j))(h: -9223372036854775808≤i-j∧i-j≤9223372036854775807):Ev P n F A (.binOp .sub t x y u) ty (iv (i-j)):=by
 have:=Ev.alZ (P:=P) (n:=n) (A:=A) (ty:=ty) (t:=t) (u:=u) hx hy;rwa[uY h]at this
theorem Ev.mul (hx:ai F x (iv i))(hy:ai F y (iv j))(h: -9223372036854775808≤i*j∧i*j≤9223372036854775807):Ev P n F A (.binOp .mul t x y u) ty (iv (i*j)):=by
 have:=Ev.alL (P:=P) (n:=n) (A:=A) (ty:=ty) (t:=t) (u:=u) hx hy;rwa[uY h]at this
theorem Ev.ae3 (hx:ai F x (.int k i))(hy:ai F y (.int k j))(h:j≠0):Ev P n F A (.binOp .quo t x y u) ty (.int k (k.wrap (i.tdiv j))):= .of_run λa w ha _=>by simp only[execOp,hx.eval ha,hy.eval ha];simp[go_sem,Op.intDiv,h]
theorem Ev.alY {k':IntKind}(hx:ai F x (.int k i))(hy:ai F y (.int k' j))(h:0≤j):Ev P n F A (.binOp .shl t x y u) ty (.int k (k.wrap (i*2^(min j.toNat k.bits)))):= .of_run λa w ha _=>by
 simp only[execOp,hx.eval ha,hy.eval ha];simp[go_sem,Op.shift,Int.not_lt.2 h]
theorem Ev.shr {k':IntKind}(hx:ai F x (.int k i))(hy:ai F y (.int k' j))(h:0≤j):Ev P n F A (.binOp .shr t x y u) ty (.int k (i.fdiv (2^(min j.toNat k.bits)))):= .of_run λa w ha _=>by
 simp only[execOp,hx.eval ha,hy.eval ha];simp[go_sem,Op.shift,Int.not_lt.2 h]
theorem Ev.tM {b:IntKind}{s d:TypeId}(hx:ai F x (.int k i))(c:(P.underlying s).isSome=true)(hd:P.underlying d=some (.int b)):Ev P n F A (.convert s d x) ty (.int b (b.wrap i)):= .of_run λa w e _=>by
 obtain⟨d0,f⟩:=Option.isSome_iff_exists.mp c
 simp[execOp,hx.eval e,convert,run_underlying f,run_underlying hd,Conv.intToInt]
end ints
section strings
variable {s r:ax}{t u:TypeId}
theorem Ev.PY (hx:ai F x (sv s))(hy:ai F y (sv r)):Ev P n F A (.binOp .eql t x y u) ty (.bool (s==r)):= .of_run λa w ha _=>by simp only[execOp,hx.eval ha,hy.eval ha];simp[go_sem]
theorem Ev.ae9 (hx:ai F x (sv s))(hy:ai F y (sv r)):Ev P n F A (.binOp .neq t x y u) ty (.bool (!(s==r))):= .of_run λa w ha _=>by simp only[execOp,hx.eval ha,hy.eval ha];simp[go_sem]
theorem Ev.O8 {o:TypeId}(hx:ai F x (sv s))(ht:P.underlying o=some .string):Ev P n F A (.call {callee:= .builtin .len,args:= #[x],argTypes:= #[o]}) ty (iv s.length):= .of_run λa w b _=>by
 have h1:=run_len_string (P:=P) w o ty ⟨s.toArray⟩ ht
 simp[execOp,resolve,invoke,builtin,hx.eval b,h1,goInt,ByteArray.size]
theorem Ev.Ww {k:Nat}{i:Int}{b:UInt8}(hx:ai F x (sv s))(hy:ai F y (iv i))(ht:P.underlying t=some .string)(e:i=k)(c:s[k]?=some b):
 Ev P n F A (.index t x y) ty (.int .u8 b.toNat):= .of_run λa w d _=>by
 subst e
 have f:k<(⟨s.toArray⟩:ByteArray).size:=by simpa[ByteArray.size]using (fA.1 c).1
 have h1:(⟨s.toArray⟩:ByteArray)[k]?=some b:=by
  rw[ByteArray.getElem?_lt' _ _ f]
  have:=(fA.1 c).2
  simpa[ByteArray.getElem_eq_getElem_data]using this
 simp[execOp,hx.eval d,hy.eval d,Instr.index,asIntOf,run_underlying ht,h1]
theorem Ev.DA {k:Nat}{i:Int}(hx:ai F x (sv s))(hy:ai F y (iv i))(ht:P.underlying t=some .string)(a:i=k)(b:k<s.length):
 Ev P n F A (.index t x y) ty (.int .u8 (s.getD k 0).toNat):=Ev.Ww hx hy ht a (by simp[List.getD_eq_getElem?_getD,List.getElem?_eq_getElem b])
theorem Ev.extract {vs:List Value}{i:Nat}(hx:ai F x (.tuple vs.toArray))(b:vs[i]?=some v):Ev P n F A (.extract x i) ty v:= .of_run λa w c _=>by
 simp[execOp,hx.eval c,Instr.extract,b]
end strings
section slices
variable {α:Type}{R:Rp α}{xs:List α}{t:TypeId}
theorem ew.aB {H:List ak}{ρ:Ro}{w:World}{d:du}(h:ew c H ρ w)(hd:lW d H):d.f ρ:=dB.1 (h.dM _ hd.mem)
theorem ew.sl {H:List ak}{ρ:Ro}{w:World}(h:ew c H ρ w)(hd:sH v H α R xs):(J.sl R v xs).f ρ:=dB.1 (h.dM _ hd.mem)
theorem Ev.fk {e:TypeId}[hd:sH v H α R xs](hx:ai F x v)(ht:P.underlying t=some (.slice e)):
 Ev P n F (Mm c H) (.call {callee:= .builtin .len,args:= #[x],argTypes:= #[t]}) ty (iv xs.length):= .of_run λa w b hw=>by
 obtain⟨ρ,hm⟩:=hw.out;obtain⟨ad,cap,rfl,_⟩:=hm.sl hd
 simp[execOp,resolve,invoke,builtin,hx.eval b,Builtin.len_,run_underlying ht,goInt]
theorem Ev.cM {e:TypeId}{k:Nat}{i:Int}{kd:IntKind}[hd:sH v H α R xs](hx:ai F x v)(hy:ai F y (.int kd i))(ht:P.underlying t=some (.slice e))(f:(P.info? e).map (·.size)=some R.size)
 (g:i=k) (hk:k<xs.length):Ev P n F (Mm c H) (.indexAddr t x y) ty (cZ v R.size k 0):= .of_run λa w d hw=>by
 obtain⟨ρ,hm⟩:=hw.out;obtain⟨ad,cap,rfl,_,_,_,h⟩:=hm.sl hd
 rcases h with rfl|⟨b,off,C,m,fr,rfl,o,p⟩
 ·simp at hk
 ·obtain⟨inf,j,l⟩:=dp.1 f
  subst g
  simp[execOp,hx.eval d,hy.eval d,Instr.indexAt,asIntOf,run_underlying ht,sizeOf,typeInfo,j,l,hk,eG,Addr.add_lit]
theorem DW {H:List ak}{ρ:Ro}{w:World}(hm:ew c H ρ w)(hd:sH v H α R xs){k off:Nat}{x:α}(hk:xs[k]?=some x):
 ∃b o,cZ v R.size k off= .pointer (some ⟨b,o,none⟩)∧∀j,off+j<R.size→w.cell? ⟨b,o+j,none⟩=(R.cells x)[off+j]?:=by
 obtain⟨ad,cap,rfl,_,_,_,e⟩:=hm.sl hd
 rcases e with rfl|⟨b,o,C,i,fr,rfl,f,g⟩
 ·simp at hk
 ·refine⟨b,_,eG ..,λj a=> ?_⟩
  have d:=eN R xs k (off+j) x hk a
  rw[cV (hm.fits _ _ f)]
  have h:off+j<(R.cells x).length:=by rw[R.len];exact a
  rw[bU h]at d⊢;rw[show o+(k*R.size+off)+j=o+(k*R.size+(off+j)) by omega];exact g _ _ d
theorem Lf {β:Type}(d:β){l:List β}{k:Nat}(h:k<l.length):l[k]?=some (l.getD k d):=by rw[ar,bU h];rfl
theorem Ev.ld1 {k off:Nat}{e:α}{d:TypeDesc}{u:Value}[hd:sH v H α R xs](hx:ai F x (cZ v R.size k off))(hk:xs[k]?=some e)(ht:P.underlying t=some d)(g:(match d with| .struct _| .array _ _=>False|_=>True))
 (hu:(R.cells e)[off]?=some u):Ev P n F (Mm c H) (.load t x) ty u:= .of_run λa w h hw=>by
 obtain⟨ρ,hm⟩:=hw.out
 have i:off<R.size:=by have:=(fA.1 hu).1;rwa[R.len]at this
 obtain⟨b,o,h1,j⟩:=DW hm hd hk
 have f:=j 0 (by simpa using i)
 simp only[Nat.add_zero]at f
 rw[h1]at hx
 simp[execOp,hx.eval h,Instr.loadAt,Instr.sureAddr,fQ ht g (f.trans hu)]
theorem Ev.jq {k:Nat}{e:α}{d:TypeDesc}{L:List Value}[hd:sH v H α R xs](hx:ai F x (cZ v R.size k 0))(hk:xs[k]?=some e)(ht:P.underlying t=some d)(g:(match d with| .struct _| .array _ _=>True|_=>False))
 (h:(P.info? t).map (·.size)=some R.size) (i:R.cells e=L):Ev P n F (Mm c H) (.load t x) ty (.agg L.toArray):= .of_run λa w l hw=>by
 obtain⟨ρ,hm⟩:=hw.out;obtain⟨b,o,h1,m⟩:=DW hm hd hk (off:=0);subst i;rw[h1]at hx
 have p:=eR (P:=P) (w:=w) (b:=b) (off:=o) (L:=R.cells e) ht g (by rw[h,R.len]) (λj u f=>by
  have q:=(fA.1 f).1
  rw[R.len]at q
  have:=m j (by omega)
  rw[hP]at this
  rw[this];exact f)
 simp[execOp,hx.eval l,Instr.loadAt,Instr.sureAddr,p]
def bf (P:Program)(s i:Nat):Option Nat:=
 match P.underlying s with
 |some (.struct a)=>match a[i]? with
  |some f=>match P.info? f.type with
   |some inf=>if inf.size=0 then none else some f.offset
   |none=>none
  |none=>none
 |_=>none
theorem nT {w:World}{s i o:Nat}{ad:Addr}(h:bf P s i=some o):(Instr.fieldAt s (.pointer (some ad)) i).run P w= .ok (.pointer (some (ad.add o))) w:=by
 unfold bf at h
 split at h
 ·rename_i c hu
  split at h
  ·rename_i f a
   split at h
   ·rename_i inf b
    split at h
    ·simp at h
    ·rename_i hz
     simp only[Option.some.injEq]at h
     subst h
     simp[Instr.fieldAt,run_underlying hu,a,Instr.sureAddr,fieldPlace,sizeOf,typeInfo,b,hz]
   ·simp at h
  ·simp at h
 ·simp at h
theorem Ev.UY {k off o i:Nat}{s:TypeId}[hd:sH v H α R xs](hx:ai F x (cZ v R.size k off))(hk:k<xs.length)(d:bf P s i=some o):Ev P n F (Mm c H) (.fieldAddr s x i) ty (cZ v R.size k (off+o)):= .of_run λa w e hw=>by
 obtain⟨ρ,hm⟩:=hw.out;obtain⟨ad,cap,rfl,_,_,_,f⟩:=hm.sl hd
 rcases f with rfl|⟨b,of,C,g,fr,rfl,h,j⟩
 ·simp at hk
 ·rw[eG]at hx
  simp[execOp,hx.eval e,nT d,eG,Addr.add_lit,Nat.add_assoc]
end slices
section blocks
variable {t:TypeId}{b off:Nat}{C:Array Value}{e:TypeId}{fr:Nat×Nat}
theorem Ev.WI {o i:Nat}{s:TypeId}(hx:ai F x (.pointer (some ⟨b,off,none⟩)))(c:bf P s i=some o):Ev P n F A (.fieldAddr s x i) ty (.pointer (some ⟨b,off+o,none⟩)):= .of_run λa w d hw=>by
 simp[execOp,hx.eval d,nT c,Addr.add_lit]
theorem Ev.da {o i:Nat}{s:TypeId}(hx:ai F x (.pointer (some ⟨b,0,none⟩)))(a:bf P s i=some o):Ev P n F A (.fieldAddr s x i) ty (.pointer (some ⟨b,o,none⟩)):=by
 have:=Ev.WI (P:=P) (n:=n) (A:=A) (ty:=ty) hx a
 rwa[hP]at this
theorem Ev.ke {d:TypeDesc}{u:Value}{L:List Value}[f:B8 b H (.cells L.toArray e fr)](hx:ai F x (.pointer (some ⟨b,off,none⟩)))(ht:P.underlying t=some d)(g:(match d with| .struct _| .array _ _=>False|_=>True))
 (hu:L[off]?=some u):Ev P n F (Mm c H) (.load t x) ty u:= .of_run λa w h hw=>by
 obtain⟨ρ,hm⟩:=hw.out
 have h1:=fp.1 (hm.dM _ f.mem)
 have i:w.cell? ⟨b,off,none⟩=some u:=by rw[cV h1];simpa using hu
 simp[execOp,hx.eval h,Instr.loadAt,Instr.sureAddr,fQ ht g i]
theorem Ev.XC {d:TypeDesc}{L:List Value}[f:B8 b H (.cells L.toArray e fr)](hx:ai F x (.pointer (some ⟨b,0,none⟩)))(ht:P.underlying t=some d)(g:(match d with| .struct _| .array _ _=>True|_=>False))
 (h:(P.info? t).map (·.size)=some L.length):Ev P n F (Mm c H) (.load t x) ty (.agg L.toArray):= .of_run λa w i hw=>by
 obtain⟨ρ,hm⟩:=hw.out
 have h1:=fp.1 (hm.dM _ f.mem)
 have k:=eR (P:=P) (w:=w) (b:=b) (off:=0) (L:=L) ht g h (λj u l=>by rw[cV h1];simpa using l)
 simp[execOp,hx.eval i,Instr.loadAt,Instr.sureAddr,k]
end blocks
def bF (F:Fr):List Operand→List Value→Prop
 | [],[]=>True
 |x::xs,v::vs=>ai F x v∧bF F xs vs
 |_,_=>False
theorem bF.nil:bF F [] []:=trivial
theorem bF.cons {xs:List Operand}{vs:List Value}(h:ai F x v)(k:bF F xs vs):bF F (x::xs) (v::vs):=⟨h,k⟩
theorem bF.eval {a:Act}(b:Has n a F):∀{xs:List Operand} {vs:List Value},bF F xs vs→xs.map a.eval=vs
 | [],[],_=>rfl
 |x::xs,v::vs,h=>by rw[fN,h.1.eval b,bF.eval b h.2]
theorem Ev.build {t:TypeId}{ps:List (Nat×Operand)}{vs:List Value}(hp:bF F (ps.map (·.2)) vs)(b:∀w,(Instr.build t ((ps.map (·.1)).zip vs).toArray).run P w= .ok v w):Ev P n F A (.build t ps.toArray) ty v:= .of_run λa w c _=>by
 have h1:ps.map (λp=>(p.1,a.eval p.2))=(ps.map (·.1)).zip vs:=by
  rw[←bF.eval c hp]
  clear hp b
  induction ps with
  |nil=>rfl
  |cons p ps d=>simp[d]
 have e:(ps.toArray.map λ(i,x)=>(i,a.eval x))=((ps.map (·.1)).zip vs).toArray:=by
  rw[←h1];simp
 simp only[execOp,e,Sem.run_bind,b,Result.andThen_ok,Sem.run_pure]
theorem Co {f : FuncId} {args : Array Value} {w : World} {fn : Func} (b : P.funcs[f]? = some fn) (c : fn.body.isSome = true) (d : (fn.name == "runtime.NumGoroutine") = false) : (callFunc f args).run P w = .ok (.enter f args) w := by
 unfold callFunc
 simp[b]
 cases a:fn.body with
 |none=>simp[a]at c
 |some cd=>simpa using d
end
theorem ew.Aq {c:Ctx}{H:List ak}{ρ:Ro}{w w':World}{E:ak}(h:ew c H ρ w)(e:w'.os=w.os)(ht:w'.tape=w.tape∧w.drawn≤w'.drawn)(i:w'.output=w.output)(j:w.heap.size≤w'.heap.size)
 (hk:∀k,k<w.heap.size→w'.heap[k]?=w.heap[k]?) (l:E.ok ρ w') (f:∀b,E.key=some b→w.heap.size≤b):ew c (E::H) ρ w':=by
 have m:ew c ([]++H) ρ w:=h
 refine ew.step (H2:=[E]) m ⟨e,⟨ht.1,λ_=>ht.2⟩,i,j,λk n _=>hk k n,λk o d=> ?_,Ro.le_refl _,λ_ _ _=>rfl,?_,?_,?_⟩
 ·rw[hk k (h.AK d)];exact h.fits k o d
 ·intro p a;simp at a;subst a;exact l
 ·intro p a b g
  simp at a;subst a
  refine⟨?_,.inl (f b g)⟩
  cases d:ρ b with
  |none=>rfl
  |some o=>have h1:=h.AK d;have q:=f b g;omega
 ·exact GK ..
theorem ew.alter {c:Ctx}{H:List ak}{ρ:Ro}{w w':World}{E f:ak}(h:ew c (E::H) ρ w)(g:w'.os=w.os)(ht:w'.tape=w.tape∧w.drawn≤w'.drawn)(j:w'.output=w.output)(l:w.heap.size≤w'.heap.size)
 (hk:∀k,k<w.heap.size→E.key≠some k→w'.heap[k]?=w.heap[k]?) (m:f.ok ρ w') (n:∀b,f.key=some b→E.key=some b∨w.heap.size≤b):ew c (f::H) ρ w':=by
 have p:ew c ([E]++H) ρ w:=h
 refine ew.step (H2:=[f]) p ⟨g,⟨ht.1,λ_=>ht.2⟩,j,l,λk q r=>hk k q (λe=>r ⟨E,by simp,e⟩),λk o a=> ?_,Ro.le_refl _,λ_ _ _=>rfl,?_,?_,?_⟩
 ·rw[hk k (h.AK a)]
  ·exact h.fits k o a
  ·intro e
   have:=(h.own E (by simp) k e).1
   rw[a]at this;cases this
 ·intro i d;simp at d;subst d;exact m
 ·intro i d b s
  simp at d;subst d
  rcases n b s with h1|h1
  ·exact⟨(h.own E (by simp) b h1).1,.inr ⟨E,by simp,h1⟩⟩
  ·refine⟨?_,.inl h1⟩
   cases a:ρ b with
   |none=>rfl
   |some o=>have:=h.AK a;omega
 ·exact GK ..
theorem ew.alloc {c:Ctx}{H:List ak}{ρ:Ro}{w:World}(h:ew c H ρ w)(o:Obj):ew c (aW w.heap.size o::H) ρ (w.alloc o):=
 h.Aq rfl ⟨rfl,aR _⟩ rfl (by simp) (λk hk=>RowKit.Below.heap_alloc w _ k hk) (fp.2 (heap_alloc_new w o)) (λb a=>by rw[iW]at a;simp at a;omega)
class E4 (L:List Value)(off:Nat)(v:Value)(L':outParam (List Value)):Prop where
 eq:L.set off v=L'
instance E4.here (x:Value)(L:List Value)(v:Value):E4 (x::L) 0 v (v::L):=⟨rfl⟩
instance E4.there (x:Value)(L:List Value)(v:Value)(k:Nat)(L':List Value)[h:E4 L k v L']:E4 (x::L) (k+1) v (x::L'):=⟨by rw[wq,h.eq]⟩
class xB (v:Value)(H:List ak)(e:outParam TypeId)(size n:outParam Nat)(cs:outParam (List Value)):Prop where
 mem:row v e size n cs∈H
instance (priority:=high) xB.here (v:Value)(e:TypeId)(size n:Nat)(cs:List Value)(H:List ak):xB v (row v e size n cs::H) e size n cs:=⟨aQ ..⟩
instance xB.there (v:Value)(e:TypeId)(size n:Nat)(cs:List Value)(E:ak)(H:List ak)[h:xB v H e size n cs]:xB v (E::H) e size n cs:=⟨cO _ h.mem⟩
theorem bK (C:Array Value):(Value.agg C).cells=C:=rfl
theorem cells_one {v:Value}(h:v.oneCell'=true):v.cells= #[v]:=by
 cases v<;>first|rfl|simp[Value.oneCell']at h
section
variable {P:Program}{n:Nat}{F:Fr}{A:World→Prop}{c:Ctx}{H R:List ak}{ty:TypeId}{x y z:Operand}{v:Value}{Q:Exit→Act→World→Prop}{ops:Array Oper}{rest:List Oper}
 {d:Nat} {pos:String} {after:Array Edge} {t e:TypeId}
theorem St.alloc {Z:Array Value}(hz:(P.info? t).bind (λi=>i.zero.map Value.cells)=some Z)(hd:Nat.ble (d+1) n=true)
 (h:∀b,St n ((d,.pointer (some ⟨b,0,none⟩))::F) (Mm c (aW b (.cells Z t (0,0))::H)) (wpList P ops Q rest)):
 St n F (Mm c H) (wpList P ops Q ({dst:=some d,op:= .alloc t,type:=ty,pos:=pos,after:=after,guard:=none}::rest)):=by
 refine St.Qa (K:=λu H'=>∃b,u= .pointer (some ⟨b,0,none⟩)∧H'=aW b (.cells Z t (0,0))::H) ?_ hd ?_
 ·intro a w ρ j hm
  obtain⟨i,f,g⟩:=pQ.1 hz;obtain⟨zv,e,rfl⟩:=dp.1 g;refine⟨.value (.pointer (some ⟨w.heap.size,0,none⟩)),w.alloc (.cells zv.cells t),ρ,_,?_,⟨_,.inl rfl,_,rfl,rfl⟩,hm.alloc _⟩
  simp[execOp,Instr.alloc,zeroValue,typeInfo,f,e,newVar,newRow]
 ·rintro _ _ ⟨b,rfl,rfl⟩
  exact h b
theorem St.Mf (hx:ai F x v)(h1:v.oneCell'=true)(hd:Nat.ble (d+1) n=true)
 (h:∀b,St n ((d,.pointer (some ⟨b,0,none⟩))::F) (Mm c (aW b (.cells #[v] t (0,0))::H)) (wpList P ops Q rest)):
 St n F (Mm c H) (wpList P ops Q ({dst:=some d,op:= .box t x,type:=ty,pos:=pos,after:=after,guard:=none}::rest)):=by
 refine St.Qa (K:=λu H'=>∃b,u= .pointer (some ⟨b,0,none⟩)∧H'=aW b (.cells #[v] t (0,0))::H) ?_ hd ?_
 ·intro a w ρ e hm
  refine⟨.value (.pointer (some ⟨w.heap.size,0,none⟩)),w.alloc (.cells #[v] t),ρ,_,?_,⟨_,.inl rfl,_,rfl,rfl⟩,hm.alloc _⟩
  simp[execOp,Instr.box,hx.eval e,newVar,newRow,cells_one h1]
 ·rintro _ _ ⟨b,rfl,rfl⟩
  exact h b
theorem St.dJ {L:List Value}(hx:ai F x (.agg L.toArray))(hd:Nat.ble (d+1) n=true)
 (h:∀b,St n ((d,.pointer (some ⟨b,0,none⟩))::F) (Mm c (aW b (.cells L.toArray t (0,0))::H)) (wpList P ops Q rest)):
 St n F (Mm c H) (wpList P ops Q ({dst:=some d,op:= .box t x,type:=ty,pos:=pos,after:=after,guard:=none}::rest)):=by
 refine St.Qa (K:=λu H'=>∃b,u= .pointer (some ⟨b,0,none⟩)∧H'=aW b (.cells L.toArray t (0,0))::H) ?_ hd ?_
 ·intro a w ρ e hm
  refine⟨.value (.pointer (some ⟨w.heap.size,0,none⟩)),w.alloc (.cells L.toArray t),ρ,_,?_,⟨_,.inl rfl,_,rfl,rfl⟩,hm.alloc _⟩
  simp[execOp,Instr.box,hx.eval e,newVar,newRow,Value.cells]
 ·rintro _ _ ⟨b,rfl,rfl⟩
  exact h b
theorem nU {w:World}{b off:Nat}{C:Array Value}{v:Value}(h:w.heap[b]?=some (.cells C e (0,0))):(w.setCell ⟨b,off,none⟩ v).heap[b]?=some (.cells (C.setIfInBounds off v) e (0,0)):=by
 simp[World.setCell,Array.getElem?_modify,h]
theorem St.cH {b off:Nat}{L L':List Value}[tk:l3 b H (.cells L.toArray e (0,0)) R](hx:ai F x (.pointer (some ⟨b,off,none⟩)))(hy:ai F y v)[sl:E4 L off v L'](m:(P.info? t).map (·.size)=some 1)(h1:v.oneCell'=true)
 (o:Nat.ble (off+1) L.length=true) (h:St n F (Mm c (aW b (.cells L'.toArray e (0,0))::R)) (wpList P ops Q rest)):
 St n F (Mm c H) (wpList P ops Q ({dst:=none,op:= .store t x y,type:=ty,pos:=pos,after:=after,guard:=none}::rest)):=by
 refine St.lx (K:=λu H'=>H'=aW b (.cells L'.toArray e (0,0))::R) ?_ ?_
 ·intro a w ρ f hm
  have g:=hm.perm tk.perm
  have d:=fp.1 (g.dM _ (aQ ..))
  have z:=dR o
  have p:w.cell? ⟨b,off,none⟩=some L[off]:=by rw[cV d];simp
  have q:w.frozen? ⟨b,off,none⟩=false:=by simp[World.frozen?,d]
  obtain⟨i,r,s⟩:=dp.1 m;refine⟨.skip,w.setCell ⟨b,off,none⟩ v,ρ,_,?_,⟨_,.inr ⟨rfl,rfl⟩,rfl⟩,?_⟩
  ·simp[execOp,hx.eval f,hy.eval f,Instr.storeAt,Instr.sureAddr,storeVar,sizeOf,typeInfo,r,s,cells_one h1,storeCells,run_store P w _ v _ h1,p,q,Addr.add_zero']
  ·refine g.alter rfl ⟨rfl,aR _⟩ rfl (by simp) (λk hk j=> ?_) (fp.2 ?_) (λA l=>by rw[iW]at l⊢;exact .inl l)
   ·rw[iW]at j
    simp only[World.setCell,Array.getElem?_modify]
    rw[aA (λe=>j (by rw[e]))]
   ·rw[nU d,←sl.eq]
    simp
 ·rintro _ _ rfl
  exact h
theorem St.PV {b:Nat}{L L':List Value}[tk:l3 b H (.cells L.toArray t (0,0)) R](hx:ai F x (.pointer (some ⟨b,0,none⟩)))(hy:ai F y (.agg L'.toArray))(l:(P.info? e).map (·.size)=some L'.length)(m:L.length=L'.length)
 (h1:L'.all (·.oneCell')=true) (h:St n F (Mm c (aW b (.cells L'.toArray t (0,0))::R)) (wpList P ops Q rest)):
 St n F (Mm c H) (wpList P ops Q ({dst:=none,op:= .store e x y,type:=ty,pos:=pos,after:=after,guard:=none}::rest)):=by
 refine St.lx (K:=λu H'=>H'=aW b (.cells L'.toArray t (0,0))::R) ?_ ?_
 ·intro a w ρ d hm
  have f:=hm.perm tk.perm
  have g:=fp.1 (f.dM _ (aQ ..))
  have o:=run_storeVar_row (P:=P) w b t e L.toArray L'.toArray g (by simpa using l) (by simpa using m) (by simpa using h1)
  refine⟨.skip,w.setRow b L'.toArray,ρ,_,?_,⟨_,.inr ⟨rfl,rfl⟩,rfl⟩,?_⟩
  ·simp[execOp,hx.eval d,hy.eval d,Instr.storeAt,Instr.sureAddr,o]
  ·refine f.alter rfl ⟨rfl,aR _⟩ rfl (by simp) (λk hk i=> ?_) (fp.2 ?_) (λp j=>by rw[iW]at j⊢;exact .inl j)
   ·rw[iW]at i
    exact setRow_other w b k _ (λe=>i (by rw[e]))
   ·exact setRow_heap w b L.toArray L'.toArray t _ g
 ·rintro _ _ rfl
  exact h
theorem Ev.func {f:FuncId}{cs:List Operand}{vs:List Value}(b:bF F cs vs):Ev P n F A (.makeFunc (.func f) #[] cs.toArray) ty (.func (.func f) #[] vs.toArray):= .of_run λa w c _=>by
 have:=bF.eval c b
 simp[execOp,Instr.makeFunc,this]
theorem EX (size:Nat):∀(vs:List Value) (k:Nat) (pre post:List Value),pre.length=k*size→(∀u∈vs,u.cells.size=size)→post.length=vs.length*size→
 Instr.fill (λi=>some (i*size,size)) (pre++post).toArray ((vs.zipIdx k).map λp=>(p.2,p.1))=some (pre++vs.flatMap λu=>u.cells.toList).toArray
 | [],k,pre,post,_,_,hp=>by
  have:post=[]:=lG (by simpa using hp)
  subst this
  simp[Instr.fill]
 |u::vs,k,pre,post,b,hu,d=>by
  have a:=hu u (by simp)
  have hlen:post.length=size+vs.length*size:=by rw[d,fB,jc];omega
  have e:∀(l:List Value) (m:Nat) (Z:List Value),m+l.length≤Z.length→((l.zipIdx m).foldl (λcs p=>cs.setIfInBounds (k*size+p.2) p.1) (pre++Z).toArray)=(pre++(Z.take m++l++Z.drop (m+l.length))).toArray:=by
   intro l
   induction l with
   |nil=>intro m Z _;simp
   |cons y l f=>
    intro m Z g
    simp only[List.length_cons]at g
    simp only[List.zipIdx_cons,List.foldl_cons]
    have h:(pre++Z).toArray.setIfInBounds (k*size+m) y=(pre++Z.set m y).toArray:=by
     simp only[List.setIfInBounds_toArray]
     rw[lK _ _ (by omega)]
     congr 2
     rw[show k*size+m-pre.length=m by omega]
    rw[h,f (m+1) (Z.set m y) (by simp;omega)]
    congr 2
    simp only[List.length_cons]
    rw[List.drop_set_of_lt (by omega),show m+1+l.length=m+(l.length+1) by omega];rw[List.take_set]
    have:(Z.take (m+1)).set m y=Z.take m++ [y]:=by
     rw[Dm (by omega),lK _ _ (by simp[Nat.min_le_left])]
     simp[show min m Z.length=m by omega]
    rw[this]
    simp
  simp only[List.zipIdx_cons,List.map_cons,Instr.fill]
  have q:¬(u.cells.size≠size∨(pre++post).toArray.size<k*size+u.cells.size):=by simp;omega
  have n:((decide (u.cells.size≠size))||decide (k*size+u.cells.size>(pre++post).toArray.size))=false:=by
   simp;omega
  simp only[n,Bool.false_eq_true,if_false]
  have o:=e u.cells.toList 0 post (by simp;omega)
  have hz:u.cells.zipIdx.foldl (λcs (c,j)=>cs.setIfInBounds (k*size+j) c) (pre++post).toArray=(pre++(u.cells.toList++post.drop size)).toArray:=by
   rw[←Array.foldl_toList]
   simp only[Array.toList_zipIdx]
   rw[o]
   simp[a]
  rw[hz,←dq]
  have f:=EX size vs (k+1) (pre++u.cells.toList) (post.drop size) (by simp[a,b,Nat.add_mul]) (λx hx=>hu x (by simp[hx])) (by simp;omega)
  rw[f]
  simp
theorem St.Cn {size:Nat}{xs:List Operand}{vs:List Value}{ps:List (Nat×Operand)}{zv:Value}(hp:ps=xs.zipIdx.map λp=>(p.2,p.1))(hx:bF F xs vs)(ht:P.underlying t=some (.slice e))(E:(P.info? e).map (·.size)=some size)
 (hz:(P.info? e).bind (·.zero)=some zv) (y:Nat.ble 1 size=true) (hlen:Nat.ble (vs.length*size) 16777216=true) (j:∀u∈vs,u.cells.size=size) (hd:Nat.ble (d+1) n=true)
 {m:Nat} (hm:m=vs.length)
 (h:∀b,St n ((d,.slice (some ⟨b,0,none⟩) m m)::F) (Mm c (row (.slice (some ⟨b,0,none⟩) m m) e size m (vs.flatMap λu=>u.cells.toList)::H)) (wpList P ops Q rest)):
 St n F (Mm c H) (wpList P ops Q ({dst:=some d,op:= .buildSlice t m ps.toArray,type:=ty,pos:=pos,after:=after,guard:=none}::rest)):=by
 subst hm;refine St.Qa (K:=λu H'=>∃b,u= .slice (some ⟨b,0,none⟩) vs.length vs.length∧H'=row (.slice (some ⟨b,0,none⟩) vs.length vs.length) e size vs.length (vs.flatMap λu=>u.cells.toList)::H) ?_ hd ?_
 ·intro a w ρ G I
  have hle:=dR hlen
  have f:=bF.eval G hx
  have J:xs.length=vs.length:=by rw[←f,aO]
  obtain⟨i,l,A⟩:=dp.1 E
  have o:i.zero=some zv:=by rw[l]at hz;simpa using hz
  have q:(vs.flatMap λu=>u.cells.toList).length=vs.length*size:=by
   clear hx f J hle hlen h
   induction vs with
   |nil=>simp
   |cons u vs L=>
    simp only[List.flatMap_cons,List.length_append,List.length_cons,Nat.add_mul]
    rw[L (λx hx=>j x (by simp[hx]))]
    have:=j u (by simp)
    simp[this];omega
  have r:(ps.toArray.map λ(i,x)=>(i,a.eval x)).toList=(vs.zipIdx).map λp=>(p.2,p.1):=by
   subst hp;rw[←f]
   simp[List.zipIdx_map,Function.comp_def]
  refine⟨.value (.slice (some ⟨w.heap.size,0,none⟩) vs.length vs.length),w.alloc (.cells (vs.flatMap λu=>u.cells.toList).toArray e),ρ,_,?_,⟨_,.inl rfl,_,rfl,rfl⟩,?_⟩
  ·by_cases B:vs.length*size=0
   ·have s:vs=[]:=by
     rcases Nat.mul_eq_zero.1 B with h1|h1
     ·exact lG h1
     ·have:=dR y;omega
    rw[s]at r⊢
    simp only[execOp,Instr.buildSlice,Sem.run_bind,run_underlying ht,Result.andThen_ok,sizeOf,typeInfo,Sem.run_pure,r,run_program,l,A]
    simp[Instr.fill,newRow,Array.range_zero']
   ·obtain⟨z,g⟩:∃z:List Value,((Array.range (vs.length*size)).map (zv.cells[· %zv.cells.size]!))=z.toArray:=⟨_,(Array.toArray_toList).symm⟩
    have v:z.length=vs.length*size:=by have:=congrArg Array.size g;simpa using this.symm
    have C:=EX size vs 0 [] z (by simp) j v
    simp only[List.nil_append]at C
    have l7:¬vs.length*size>2^24:=by simp;omega
    simp only[execOp,Instr.buildSlice,Sem.run_bind,run_underlying ht,Result.andThen_ok,sizeOf,typeInfo,Sem.run_pure,r,run_program,l,A,zeroValue,o,l7,B,if_false,g,Sem.run_ite]
    simp[C,newRow]
  ·refine I.Aq rfl ⟨rfl,aR _⟩ rfl (by simp) (λk hk=>RowKit.Below.heap_alloc w _ k hk) (eM.2 ⟨q,.inr ⟨w.heap.size,vs.length,_,rfl,aP _,heap_alloc_new w _,aR _,?_,?_,?_⟩⟩) ?_
   ·have:vs.length≤vs.length*size:=Nat.le_mul_of_pos_right _ (dR y)
    unfold maxLen;omega
   ·rw[List.size_toArray,q]
   ·rw[←q,kH]
   ·intro b D;rw[eI]at D;simp[Value.ownBlock]at D;omega
 ·rintro _ _ ⟨b,rfl,rfl⟩
  exact h b
def aI (P : Program) (f : FuncId) : Prop := ∃ fn, P.funcs[f]? = some fn ∧ fn.body.isSome = true ∧ (fn.name == "runtime.NumGoroutine") = false
theorem aI.run {f:FuncId}(h:aI P f){args:Array Value}{w:World}:(callFunc f args).run P w= .ok (.enter f args) w:=
 let⟨_,h1,a,b⟩:=h;Co h1 a b
theorem Mm.wL {dr:Prop}{f:FuncId}{args:Array Value}{pre R:List ak}{post:Value→List ak→Prop}(b:Dv dr P f args pre post)(d:c.dr→dr){w:World}(hm:Mm c (pre++R) w):
 Calls P f args w λe w'=>∃v H',e= .returned v∧post v H'∧Mm c (H'++R) w':=by
 obtain⟨ρ,hm⟩:=hm.out;refine(b w ρ hm.start).mono ?_;rintro e w' ⟨v,H',he,hp,a⟩;obtain⟨jn,a⟩:=a.out;exact⟨v,H',he,hp,Mm.mk (hm.step (a.dr d))⟩
theorem Mm.call {f:FuncId}{args:Array Value}{pre R:List ak}{post:Value→List ak→Prop}(a:dz P f args pre post){w:World}(hm:Mm c (pre++R) w):
 Calls P f args w λe w'=>∃v H',e= .returned v∧post v H'∧Mm c (H'++R) w':=Mm.wL a.gen (λ_=>trivial) hm
theorem Mm.mq {ds:List du}[hd:kX ds H]{w:World}(hm:Mm c H w):Mm c (ds.map aB++H) w:=
 let⟨_,k⟩:=hm.out;Mm.mk (k.Ab ds λd h=>dB.1 (k.dM _ (hd.mem d h)))
theorem mH {f:FuncId}{xs:List Operand}{c:Array TypeId}{vs caps:List Value}(d:aI P f)(hx:bF F (x::xs) (.func (.func f) #[] caps.toArray::vs)){a:Act}(b:Has n a F)(w:World):
 (execOp a.eval (bare (.call {callee:= .value x,args:=xs.toArray,argTypes:=c}) ty)).run P w= .ok (.enter f (vs++caps).toArray) w:=by
 have h1:=hx.1.eval b
 have g:=bF.eval b hx.2
 simp only[execOp,resolve,h1,Deferred.ofValue,Sem.run_bind,Sem.run_pure,Result.andThen_ok,invoke]
 have e:(#[]++xs.toArray.map a.eval++caps.toArray)=(vs++caps).toArray:=by simp[g]
 rw[e];exact d.run
theorem Ev.call {f:FuncId}{xs:List Operand}{b:Array TypeId}{vs:List Value}{ds:List du}(d:eC P f vs.toArray ds v)(g:aI P f)(hx:bF F xs vs)[hd:kX ds H]:
 Ev P n F (Mm c H) (.call {callee:= .value (.func f),args:=xs.toArray,argTypes:=b}) ty v:=by
 intro a w h hw;rw[mH (caps:=[]) g (bF.cons (ai.mk rfl) hx) h w]
 simp only[List.append_nil,Oper.quietUpon,true_and]
 refine(Mm.call d hw.mq).mono ?_;rintro e w' ⟨u,H',rfl,rfl,hm⟩;refine⟨rfl,?_⟩;obtain⟨ρ,hm⟩:=hm.out;exact Mm.mk ((hm.perm jV).left)
theorem Ev.mQ {f:FuncId}{xs:List Operand}{b:Array TypeId}{vs:List Value}{ds:List du}(d:¬c.dr)(g:kW P f vs.toArray ds v)(i:aI P f)(hx:bF F xs vs)[hd:kX ds H]:
 Ev P n F (Mm c H) (.call {callee:= .value (.func f),args:=xs.toArray,argTypes:=b}) ty v:=by
 intro a w j hw;rw[mH (caps:=[]) i (bF.cons (ai.mk rfl) hx) j w]
 simp only[List.append_nil,Oper.quietUpon,true_and]
 refine(Mm.wL g (λh=>absurd h d) hw.mq).mono ?_;rintro e w' ⟨u,H',rfl,rfl,hm⟩;refine⟨rfl,?_⟩;obtain⟨ρ,hm⟩:=hm.out;exact Mm.mk ((hm.perm jV).left)
theorem Ev.eh {f:FuncId}{xs:List Operand}{b:Array TypeId}{vs caps:List Value}{ds:List du}(d:eC P f (vs++caps).toArray ds v)(g:aI P f)(h:ai F x (.func (.func f) #[] caps.toArray))(hx:bF F xs vs)[hd:kX ds H]:
 Ev P n F (Mm c H) (.call {callee:= .value x,args:=xs.toArray,argTypes:=b}) ty v:=by
 intro a w i hw;rw[mH g (bF.cons h hx) i w]
 simp only[Oper.quietUpon,true_and]
 refine(Mm.call d hw.mq).mono ?_;rintro e w' ⟨u,H',rfl,rfl,hm⟩;refine⟨rfl,?_⟩;obtain⟨ρ,hm⟩:=hm.out;exact Mm.mk ((hm.perm jV).left)
theorem gG {f:FuncId}{xs:List Operand}{b:Array TypeId}{vs caps:List Value}(c:aI P f)(hx:bF F (x::xs) (.func (.func f) #[] caps.toArray::vs)){a:Act}(d:Has n a F)(w:World){K:Act→World→Prop}
 {dd:Option Tmp} {g:Option (Nat×Bool)}
 (hk:Calls P f (vs++caps).toArray w λe w'=>∃v,e= .returned v∧K (a.put dd v) w'):
 ({dst:=dd,op:= .call {callee:= .value x,args:=xs.toArray,argTypes:=b},type:=ty,pos:=pos,after:=after,guard:=g}:Oper).wp P a w K Q:=by
 unfold Oper.wp Oper.upon;rw[gu,mH c hx d w]
 exact hk.mono λe w' ⟨v,he,h⟩=>by subst he;exact h
theorem St.call {f:FuncId}{xs:List Operand}{g:Array TypeId}{vs:List Value}{pre R:List ak}{post:Value→List ak→Prop}(i:dz P f vs.toArray pre post)(j:aI P f)(hx:bF F xs vs)(hd:Nat.ble (d+1) n=true)[tk:eT pre H R]
 (h:∀v H',post v H'→St n ((d,v)::F) (Mm c (H'++R)) (wpList P ops Q rest)):
 St n F (Mm c H) (wpList P ops Q ({dst:=some d,op:= .call {callee:= .value (.func f),args:=xs.toArray,argTypes:=g},type:=ty,pos:=pos,after:=after,guard:=none}::rest)):=by
 intro a w b hw;refine gB rfl (gG (caps:=[]) j (bF.cons (ai.mk rfl) hx) b w ?_)
 simp only[List.append_nil]
 refine(Mm.call i (hw.take (L:=pre))).mono ?_;rintro e w' ⟨u,H',rfl,hp,hm⟩;exact⟨u,rfl,h u H' hp _ w' (b.put (dR hd) u) hm⟩
theorem St.ag {f:FuncId}{xs:List Operand}{g:Array TypeId}{vs:List Value}{ds:List du}{post:Value→List ak→Prop}(i:dz P f vs.toArray (ds.map aB) post)(j:aI P f)(hx:bF F xs vs)(hd:Nat.ble (d+1) n=true)[k:kX ds H]
 (h:∀v H',post v H'→St n ((d,v)::F) (Mm c (H'++H)) (wpList P ops Q rest)):
 St n F (Mm c H) (wpList P ops Q ({dst:=some d,op:= .call {callee:= .value (.func f),args:=xs.toArray,argTypes:=g},type:=ty,pos:=pos,after:=after,guard:=none}::rest)):=by
 intro a w b hw;refine gB rfl (gG (caps:=[]) j (bF.cons (ai.mk rfl) hx) b w ?_)
 simp only[List.append_nil]
 refine(Mm.call i (hw.mq (ds:=ds))).mono ?_;rintro e w' ⟨u,H',rfl,hp,hm⟩;exact⟨u,rfl,h u H' hp _ w' (b.put (dR hd) u) hm⟩
theorem St.lP {f:FuncId}{xs:List Operand}{g:Array TypeId}{vs:List Value}{ds:List du}{post:Value→List ak→Prop}(i:¬c.dr)(j:sm P f vs.toArray (ds.map aB) post)(k:aI P f)(hx:bF F xs vs)(hd:Nat.ble (d+1) n=true)[l:kX ds H]
 (h:∀v H',post v H'→St n ((d,v)::F) (Mm c (H'++H)) (wpList P ops Q rest)):
 St n F (Mm c H) (wpList P ops Q ({dst:=some d,op:= .call {callee:= .value (.func f),args:=xs.toArray,argTypes:=g},type:=ty,pos:=pos,after:=after,guard:=none}::rest)):=by
 intro a w b hw;refine gB rfl (gG (caps:=[]) k (bF.cons (ai.mk rfl) hx) b w ?_)
 simp only[List.append_nil]
 refine(Mm.wL j (λh=>absurd h i) (hw.mq (ds:=ds))).mono ?_;rintro e w' ⟨u,H',rfl,hp,hm⟩;exact⟨u,rfl,h u H' hp _ w' (b.put (dR hd) u) hm⟩
theorem St.eh {f:FuncId}{xs:List Operand}{g:Array TypeId}{vs caps:List Value}{pre R:List ak}{post:Value→List ak→Prop}(i:dz P f (vs++caps).toArray pre post)(j:aI P f)(k:ai F x (.func (.func f) #[] caps.toArray))(hx:bF F xs vs)(hd:Nat.ble (d+1) n=true)[tk:eT pre H R]
 (h:∀v H',post v H'→St n ((d,v)::F) (Mm c (H'++R)) (wpList P ops Q rest)):
 St n F (Mm c H) (wpList P ops Q ({dst:=some d,op:= .call {callee:= .value x,args:=xs.toArray,argTypes:=g},type:=ty,pos:=pos,after:=after,guard:=none}::rest)):=by
 intro a w b hw;refine gB rfl (gG j (bF.cons k hx) b w ?_);refine(Mm.call i (hw.take (L:=pre))).mono ?_;rintro e w' ⟨u,H',rfl,hp,hm⟩;exact⟨u,rfl,h u H' hp _ w' (b.put (dR hd) u) hm⟩
def cw (P:Program)(t:TypeId)(w:World):Result (Array (Nat×Nat)):=
 match P.underlying t with
 |some (.struct a)=>(a.mapM λf=>(do pure (f.offset,←sizeOf f.type):Sem (Nat×Nat))).run P w
 | _ => .halt (.stuck "") w
theorem bM {Z C:Array Value}{pl:Array (Nat×Nat)}{parts:List (Nat×Value)}{w:World}(hz:(P.info? t).bind (λi=>i.zero.map Value.cells)=some Z)(hp:cw P t w= .ok pl w)(b:Instr.fill (pl[·]?) Z parts=some C):
 (Instr.build t parts.toArray).run P w= .ok (.agg C) w:=by
 obtain⟨i,c,d⟩:=pQ.1 hz;obtain⟨zv,a,rfl⟩:=dp.1 d;unfold cw at hp
 split at hp
 ·rename_i e hu
  simp only[Instr.build,zeroValue,typeInfo,Sem.run_bind,run_program,Result.andThen_ok,c,a,Sem.run_pure,run_underlying hu,hp,b]
 ·cases hp
end
def aD:Fr→Fr→Prop
 |F,F0=>Sub F0 F
theorem aD.nil {F:Fr}:aD F []:=trivial
theorem aD.cons {F F0:Fr}(k:Nat){v:Value}(h:look F k=some v)(a:aD F F0):aD F ((k,v)::F0):=⟨h,a⟩
section
variable {P:Program}{n:Nat}{F F0:Fr}{A:World→Prop}{c:Ctx}{H R:List ak}{ty:TypeId}{x y z:Operand}{v:Value}{Q:Exit→Act→World→Prop}{ops:Array Oper}{rest:List Oper}
 {d:Nat} {pos:String} {after:Array Edge} {t e:TypeId}
def wH {ι:Type}(n:Nat)(G:ι→Fr→Fr)(F0:Fr)(φ:ι→Prop)(μ:ι→Nat)(c:Ctx)(b:ι→List ak)(k:Nat)(a:Act)(w:World):Prop:=
 ∃y,μ y<k∧Has n a (G y F0)∧φ y∧Mm c (b y) w
def Met {ι:Type}(n:Nat)(G:ι→Fr→Fr)(F0:Fr)(φ:ι→Prop)(c:Ctx)(b:ι→List ak)(a:Act)(w:World):Prop:=
 ∃y,Has n a (G y F0)∧φ y∧Mm c (b y) w
theorem St.Er {ι:Type}{body:Code}(G:ι→Fr→Fr)(a:ι→List ak)(φ:ι→Prop)(μ:ι→Nat)(b:ι)(d:aD F F0)(e:φ b)(f:Sub (G b F0) F)(hH:∀w,Mm c H w→Mm c (a b) w)
 (round:∀x,φ x→St n (G x F0) (Mm c (a x)) (body.wp P (Exit.then (wH n G F0 φ μ c a (μ x)) Q))):
 St n F (Mm c H) ((Code.loop body).wp P Q):=by
 refine St.loop (λx=>G x F0) (λx w=>φ x∧Mm c (a x) w) μ b f (λw hw=>⟨e,hH w hw⟩) λx=> ?_
 exact St.and λhx=>round x hx
theorem St.sL {ι:Type}{G:ι→Fr→Fr}{a:ι→List ak}{φ:ι→Prop}{μ:ι→Nat}{k:Nat}(y:ι)(b:φ y)(hm:μ y<k)(d:Sub (G y F0) F)(e:∀w,Mm c H w→Mm c (a y) w):
 St n F (Mm c H) (wH n G F0 φ μ c a k):=
 λ_ w f hw=>⟨y,hm,f.sub d,b,e w hw⟩
theorem St.aeG {ι:Type}{body:Code}(G:ι→Fr→Fr)(φ:ι→Prop)(μ:ι→Nat)(a:ι)(hk:aD F F0)(b:φ a)(d:Sub (G a F0) F)
 (round:∀x,φ x→St n (G x F0) (Mm c H) (body.wp P (Exit.then (wH n G F0 φ μ c (λ_=>H) (μ x)) Q))):
 St n F (Mm c H) ((Code.loop body).wp P Q):=St.Er G (λ_=>H) φ μ a hk b d (λ_ hw=>hw) round
theorem St.Ge {ι:Type}{G:ι→Fr→Fr}{φ:ι→Prop}{μ:ι→Nat}{k:Nat}{H':List ak}(y:ι)(a:φ y)(hm:μ y<k)(b:Sub (G y F0) F)(d:∀w,Mm c H w→Mm c H' w):
 St n F (Mm c H) (wH n G F0 φ μ c (λ_=>H') k):=St.sL y a hm b d
def CK {ι κ:Type}(n:Nat)(G:ι→κ→Fr→Fr)(F0:Fr)(φ:ι→κ→Prop)(μ:ι→κ→Nat)(c:Ctx)(b:ι→κ→List ak)(k:Nat)(a:Act)(w:World):Prop:=
 ∃y z,μ y z<k∧Has n a (G y z F0)∧φ y z∧Mm c (b y z) w
theorem St.XM {ι κ:Type}{body:Code}(G:ι→κ→Fr→Fr)(d:ι→κ→List ak)(φ:ι→κ→Prop)(μ:ι→κ→Nat)(e:ι)(f:κ)(g:aD F F0)(h:φ e f)(i:Sub (G e f F0) F)(hH:∀w,Mm c H w→Mm c (d e f) w)
 (round:∀x z,φ x z→St n (G x z F0) (Mm c (d x z)) (body.wp P (Exit.then (CK n G F0 φ μ c d (μ x z)) Q))):
 St n F (Mm c H) ((Code.loop body).wp P Q):=by
 refine St.loop (ι:=ι×κ) (λx=>G x.1 x.2 F0) (λx w=>φ x.1 x.2∧Mm c (d x.1 x.2) w) (λx=>μ x.1 x.2) (e,f) i (λw hw=>⟨h,hH w hw⟩) λx=> ?_
 refine St.and λhx=>λa w j hw=>wp_mono (round x.1 x.2 hx a w j hw) ?_
 intro ex p w' b
 cases ex with
 |normal=>obtain⟨y,z,h1,k,m,o⟩:=b;exact⟨(y,z),h1,k,m,o⟩
 |exit id=>exact b
 |goto l=>exact b
 |ret=>exact b
 |panic ch=>exact b
 |outgrown=>exact b
theorem St.nI {ι κ:Type}{G:ι→κ→Fr→Fr}{a:ι→κ→List ak}{φ:ι→κ→Prop}{μ:ι→κ→Nat}{k:Nat}(y:ι)(z:κ)(b:φ y z)(hm:μ y z<k)(d:Sub (G y z F0) F)(e:∀w,Mm c H w→Mm c (a y z) w):
 St n F (Mm c H) (CK n G F0 φ μ c a k):=
 λ_ w f hw=>⟨y,z,hm,f.sub d,b,e w hw⟩
theorem St.join {ι:Type}{p q:Code}(G:ι→Fr→Fr)(d:ι→List ak)(φ:ι→Prop)(e:aD F F0)
 (h1:St n F (Mm c H) (p.wp P (Exit.then (Met n G F0 φ c d) Q))) (f:∀y,φ y→St n (G y F0) (Mm c (d y)) (q.wp P Q)):
 St n F (Mm c H) ((Code.seq p q).wp P Q):=by
 intro a w g hw;refine wp_seq (wp_mono (h1 a w g hw) ?_);intro ex h w' b
 cases ex with
 |normal=>obtain⟨y,i,j,k⟩:=b;exact f y j h w' i k
 |exit id=>exact b
 |goto l=>exact b
 |ret=>exact b
 |panic ch=>exact b
 |outgrown=>exact b
theorem St.met {ι:Type}{G:ι→Fr→Fr}{a:ι→List ak}{φ:ι→Prop}(y:ι)(b:φ y)(d:Sub (G y F0) F)(e:∀w,Mm c H w→Mm c (a y) w):
 St n F (Mm c H) (Met n G F0 φ c a):=
 λ_ w f hw=>⟨y,f.sub d,b,e w hw⟩
theorem St.wf {α:Type}{Rr:Rp α}{xs:List α}{T:Act→World→Prop}(v:Value)[hd:sH v H α Rr xs](h:(∀x∈xs,Rr.wf x)→xs.length≤9223372036854775807→St n F (Mm c H) T):St n F (Mm c H) T:=by
 intro a w b hw;obtain⟨ρ,hm⟩:=hw.out;obtain⟨ad,cap,_,f,d,e,_⟩:=hm.sl hd;exact h e (by simp only[maxLen]at d;omega) a w b hw
theorem St.dw {T:Act→World→Prop}(e:TypeId)(size:Nat)(h:St n F (Mm c (row (.slice none 0 0) e size 0 []::H)) T):St n F (Mm c H) T:=by
 refine h.o9 λw hw=> ?_
 obtain⟨ρ,hm⟩:=hw.out;exact Mm.mk (hm.Aq rfl ⟨rfl,aR _⟩ rfl (aR _) (λ_ _=>rfl) (eM.2 (World.ownsRow_nil _ _ _ _)) (λb a=>by rw[eI]at a;simp[Value.ownBlock]at a))
theorem run_equalIn_bool (k:Nat){p q:Bool}{w:World}(ht:P.underlying t=some .bool):(Op.equalIn (k+1) t (.bool p) (.bool q)).run P w= .ok (p==q) w:=by
 simp only[Op.equalIn,Sem.run_bind,run_underlying ht,Result.andThen_ok,Sem.run_pure]
theorem run_equal_bool {p q:Bool}{w:World}(ht:P.underlying t=some .bool):(Op.equal t (.bool p) (.bool q)).run P w= .ok (p==q) w:=by
 have:=run_equalIn_bool (P:=P) (w:=w) 9999 (p:=p) (q:=q) ht
 unfold Op.equal Op.maxDepth;exact this
theorem Ev.RB {p q:Bool}{u:TypeId}(hx:ai F x (.bool p))(hy:ai F y (.bool q))(ht:P.underlying t=some .bool):Ev P n F A (.binOp .eql t x y u) ty (.bool (p==q)):= .of_run λa w b _=>by
 simp only[execOp,hx.eval b,hy.eval b,eqGuard_at_bool,binOp,Sem.run_bind,Sem.run_pure,Result.andThen_ok,run_equal_bool ht]
theorem Ev.Ij {p q:Bool}{u:TypeId}(hx:ai F x (.bool p))(hy:ai F y (.bool q))(ht:P.underlying t=some .bool):Ev P n F A (.binOp .neq t x y u) ty (.bool (!(p==q))):= .of_run λa w b _=>by
 simp only[execOp,hx.eval b,hy.eval b,eqGuard_at_bool,binOp,Sem.run_bind,Sem.run_pure,Result.andThen_ok,run_equal_bool ht]
section rows
variable {size m k:Nat}{cs:List Value}
theorem ew.row {H:List ak}{ρ:Ro}{w:World}(h:ew c H ρ w)(a:xB v H e size m cs):w.ownsRow 0 e size v m cs:=eM.1 (h.dM _ a.mem)
theorem Ev.XI {d:TypeId}[f:xB v H e size m cs](hx:ai F x v)(ht:P.underlying t=some (.slice d)):
 Ev P n F (Mm c H) (.call {callee:= .builtin .len,args:= #[x],argTypes:= #[t]}) ty (iv m):= .of_run λa w b hw=>by
 obtain⟨ρ,hm⟩:=hw.out
 rcases(hm.row f).2 with⟨rfl,rfl⟩|⟨g,cap,cur,rfl,_⟩
 ·simp[execOp,resolve,invoke,builtin,hx.eval b,Builtin.len_,run_underlying ht,goInt]
 ·simp[execOp,resolve,invoke,builtin,hx.eval b,Builtin.len_,run_underlying ht,goInt]
theorem Ev.dZ {i:Int}{kd:IntKind}[d:xB v H e size m cs](hx:ai F x v)(hy:ai F y (.int kd i))(ht:P.underlying t=some (.slice e))(f:(P.info? e).map (·.size)=some size)
 (h:i=k) (hk:k<m):Ev P n F (Mm c H) (.indexAddr t x y) ty (cZ v size k 0):= .of_run λa w b hw=>by
 obtain⟨ρ,hm⟩:=hw.out
 rcases(hm.row d).2 with⟨rfl,rfl⟩|⟨g,cap,cur,rfl,_⟩
 ·omega
 ·obtain⟨inf,j,l⟩:=dp.1 f
  subst h
  simp[execOp,hx.eval b,hy.eval b,Instr.indexAt,asIntOf,run_underlying ht,sizeOf,typeInfo,j,l,hk,eG,Addr.add_lit]
theorem jz {w:World}(h:w.ownsRow 0 e size v m cs){k off:Nat}{u:Value}(hk:k<m)(hu:cs[k*size+off]?=some u):
 ∃b,cZ v size k off= .pointer (some ⟨b,k*size+off,none⟩)∧w.cell? ⟨b,k*size+off,none⟩=some u∧v.ownBlock=some b∧w.frozen? ⟨b,k*size+off,none⟩=false:=by
 obtain⟨f,c⟩:=h
 rcases c with⟨rfl,rfl⟩|⟨g,cap,cur,rfl,_,a,i,j,l,d⟩
 ·omega
 ·refine⟨g,by rw[eG];simp,?_,rfl,by simp[World.frozen?,a]⟩
  rw[cV a];rw[←d]at hu
  have n:=(fA.1 hu).1
  rw[s9]at hu
  split at hu
  ·simpa using hu
  ·simp at hu
theorem Ev.cu {off:Nat}{dd:TypeDesc}{u:Value}[d:xB v H e size m cs](hx:ai F x (cZ v size k off))(ht:P.underlying t=some dd)(f:(match dd with| .struct _| .array _ _=>False|_=>True))
 (hk:k<m) (hu:cs[k*size+off]?=some u):Ev P n F (Mm c H) (.load t x) ty u:= .of_run λa w g hw=>by
 obtain⟨ρ,hm⟩:=hw.out;obtain⟨b,h1,h,_⟩:=jz (hm.row d) hk hu;rw[h1]at hx
 simp[execOp,hx.eval g,Instr.loadAt,Instr.sureAddr,fQ ht f h]
theorem Ev.WJ {off o i:Nat}{s:TypeId}[b:xB v H e size m cs](hx:ai F x (cZ v size k off))(hk:k<m)(d:bf P s i=some o):Ev P n F (Mm c H) (.fieldAddr s x i) ty (cZ v size k (off+o)):= .of_run λa w f hw=>by
 obtain⟨ρ,hm⟩:=hw.out
 rcases(hm.row b).2 with⟨rfl,rfl⟩|⟨g,cap,cur,rfl,_⟩
 ·omega
 ·rw[eG]at hx
  simp[execOp,hx.eval f,nT d,eG,Addr.add_lit,Nat.add_assoc]
theorem St.cI {off:Nat}{u:Value}[tk:lX v H e size m cs R](hx:ai F x (cZ v size k off))(hy:ai F y u)(r:(P.info? t).map (·.size)=some 1)(h1:u.oneCell'=true)
 (hk:k<m) (S:off<size) (h:St n F (Mm c (row v e size m (cs.set (k*size+off) u)::R)) (wpList P ops Q rest)):
 St n F (Mm c H) (wpList P ops Q ({dst:=none,op:= .store t x y,type:=ty,pos:=pos,after:=after,guard:=none}::rest)):=by
 refine St.lx (K:=λT H'=>H'=row v e size m (cs.set (k*size+off) u)::R) ?_ ?_
 ·intro a w ρ l hm
  have o:=hm.perm tk.perm
  have d:=eM.1 (o.dM _ (aQ ..))
  have s:k*size+off<cs.length:=by
   rw[d.1]
   have:(k+1)*size≤m*size:=iU _ hk
   rw[jc]at this;omega
  obtain⟨b,z,A,f,B⟩:=jz d hk (bU s);rw[z]at hx;obtain⟨i,C,D⟩:=dp.1 r;refine⟨.skip,w.setCell ⟨b,k*size+off,none⟩ u,ρ,_,?_,⟨_,.inr ⟨rfl,rfl⟩,rfl⟩,?_⟩
  ·simp[execOp,hx.eval l,hy.eval l,Instr.storeAt,Instr.sureAddr,storeVar,sizeOf,typeInfo,C,D,cells_one h1,storeCells,run_store P w _ u _ h1,A,B,Addr.add_zero']
  ·refine o.alter rfl ⟨rfl,aR _⟩ rfl (by simp) (λj U p=> ?_) (eM.2 ?_) (λV q=>by rw[eI]at q⊢;exact .inl q)
   ·rw[eI,f]at p
    simp only[World.setCell,Array.getElem?_modify]
    rw[aA (λe=>p (by rw[e]))]
   ·obtain⟨E,G⟩:=d
    refine⟨by rw[cn];exact E,?_⟩
    rcases G with⟨rfl,rfl⟩|⟨g,cap,cur,rfl,I,J,L,M,N,O⟩
    ·omega
    ·simp only[Value.ownBlock,Option.some.injEq]at f
     subst f;refine .inr ⟨_,cap,_,rfl,I,nU J,L,M,by simp[N],?_⟩;rw[←O,Array.toList_setIfInBounds,List.take_set]
 ·rintro _ _ rfl
  exact h
theorem qf {i:TypeInfo}{zv:Value}{ya:Nat}(a:(P.info? e).map (·.size)=some size)(hz:(P.info? e).bind (·.zero)=some zv)(b:(P.info? e).map (·.bytes)=some ya)(c:P.info? e=some i):i.size=size∧i.zero=some zv∧i.bytes=ya:=by
 rw[c]at a hz b;exact⟨by simpa using a,by simpa using hz,by simpa using b⟩
theorem rp {w:World}{i:TypeInfo}{zv:Value}{ya:Nat}(t ty e:TypeId)(ht:P.underlying t=some (.slice e))(n:P.info? e=some i)(hz:i.zero=some zv)(s:i.size=size)(x:i.bytes=ya)(A:zv.cells.size=size)(B:0<size)
 (v:Value) (m:Nat) (cs:List Value) (o:w.ownsRow 0 e size v m cs) (a:Addr) (k cc:Nat) (news:List Value) (h:news.length=k*size) (q:∀j u,news[j]?=some u→w.cell? (a.add j)=some u) (h1:∀u∈news,u.oneCell'=true)
 (f:m+k≤maxLen) (y:(m+k)*ya≤140737488355328):
 ∃v' w',(Builtin.append_ #[t,t] ty #[v,.slice (some a) k cc]).run P w= .ok v' w'∧w'.ownsRow 0 e size v' (m+k) (cs++news)∧w.grownBy w' v.ownBlock∧
  (v'= .slice none 0 0↔v= .slice none 0 0∧k=0)∧(∀b,v'.ownBlock=some b→v.ownBlock=some b∨w.heap.size≤b)∧w.drawn≤w'.drawn:=by
 subst s;subst x;obtain⟨v',w',p,D,E,F⟩:=run_append_own (P:=P) w 0 t ty e i zv i.size i.bytes ht n hz rfl rfl A B v m cs o a k cc news h q h1 f y (aP _);refine⟨v',w',p,D,E,F,?_⟩
 rcases o.2 with⟨rfl,rfl⟩|⟨g,cap,cur,rfl,r,G,H,O,I,J⟩
 ·obtain⟨K,Q,d,z,_⟩:=run_append_own (P:=P) w w.heap.size t ty e i zv i.size i.bytes ht n hz rfl rfl A B (.slice none 0 0) 0 cs ⟨o.1,.inl ⟨rfl,rfl⟩⟩ a k cc news h q h1 f y (aR _)
  rw[p]at d
  simp only[Result.ok.injEq]at d
  obtain⟨rfl,rfl⟩:=d;refine⟨?_,?_⟩
  ·intro b l
   rcases z.2 with⟨rfl,_⟩|⟨g,cap,cur,rfl,r,_⟩
   ·simp[Value.ownBlock]at l
   ·simp only[Value.ownBlock,Option.some.injEq]at l
    subst l;exact .inr r
  ·have L:cs=[]:=by
    have:=o.1
    simpa using this
   rcases Nat.eq_zero_or_pos k with rfl|hk
   ·have M:news=[]:=by simpa using h
    subst M
    have c:(Builtin.append_ #[t,t] ty #[.slice none 0 0,.slice (some a) 0 cc]).run P w= .ok (.slice none 0 0) w:=by
     simp[Builtin.append_,run_underlying ht,sizeOf,typeInfo,n,Builtin.lenOf,Builtin.firstCells,loadCells,loadCellsFrom]
    rw[p]at c
    simp only[Result.ok.injEq]at c
    rw[c.2];exact aR _
   ·have c:=run_append_nil (P:=P) w t ty e i zv ht n hz a k cc news h q hk (by simp only[maxLen]at f;omega) (by have:(0+k)*i.bytes=k*i.bytes:=by rw[hP]
                                                                                                                omega)
    rw[p]at c
    simp only[Result.ok.injEq]at c
    rw[c.2];exact Nat.le_succ _
 ·by_cases C:m+k≤cap
  ·have N:m*i.size+news.length≤cur.size:=by rw[h,I,←jc];exact iU _ C
   have d:=run_append_room (P:=P) w t ty e i ht n g m cap cur G a k cc news h q h1 C N
   rw[p]at d
   simp only[Result.ok.injEq]at d
   obtain⟨rfl,rfl⟩:=d;exact⟨λb l=> .inl l,aR _⟩
  ·have holds:∀j u,cs[j]?=some u→w.cell? ((⟨g,0,none⟩:Addr).add j)=some u:=o.cells (g:=g) rfl
   have d:=run_append_grow (P:=P) w t ty e i zv ht n hz ⟨g,0,none⟩ m cap cs o.1 holds a k cc news h q (by omega) (by simp only[maxLen]at f;omega) (growslice_fits (by omega) y)
   rw[p]at d
   simp only[Result.ok.injEq]at d
   obtain⟨rfl,rfl⟩:=d;refine⟨λb l=> ?_,Nat.le_succ _⟩
   simp only[Value.ownBlock,Option.some.injEq]at l
   exact .inr (by omega)
theorem St.aj {v2:Value}{m2:Nat}{news:List Value}{r:List ak}{zv:Value}{ya:Nat}[t2:lX v2 H e size m2 news r][t1:lX v r e size m cs R]
 (hx:ai F x v) (hy:ai F y v2) (ht:P.underlying t=some (.slice e)) (s:(P.info? e).map (·.size)=some size) (hz:(P.info? e).bind (·.zero)=some zv) (G:(P.info? e).map (·.bytes)=some ya)
 (I:∀u∈news,u.oneCell'=true) (hlen:m+m2≤9223372036854775807) (J:(m+m2)*ya≤140737488355328) (L:zv.cells.size=size) (M:Nat.ble 1 size=true) (g:Nat.ble 1 m2=true) (hd:Nat.ble (d+1) n=true)
 (h:∀v',(v'= .slice none 0 0↔v= .slice none 0 0∧m2=0)→St n ((d,v')::F) (Mm c (row v' e size (m+m2) (cs++news)::R)) (wpList P ops Q rest)):
 St n F (Mm c H) (wpList P ops Q ({dst:=some d,op:= .call {callee:= .builtin .append,args:= #[x,y],argTypes:= #[t,t]},type:=ty,pos:=pos,after:=after,guard:=none}::rest)):=by
 refine St.Qa (K:=λv' H'=>(v'= .slice none 0 0↔v= .slice none 0 0∧m2=0)∧H'=row v' e size (m+m2) (cs++news)::R) ?_ hd ?_
 ·intro a w ρ z hm
  have A:=hm.perm t2.perm
  have B:=eM.1 (A.dM _ (aQ ..))
  have C:=A.drop.perm t1.perm
  have N:=eM.1 (C.dM _ (aQ ..))
  have O:=dR g
  obtain⟨i,D,SS⟩:=dp.1 s;obtain⟨S,T,U⟩:=qf s hz G D
  rcases B.2 with⟨_,rfl⟩|⟨g2,V,W,rfl,_,k,hc1,hc2,X,l⟩
  ·omega
  ·obtain⟨v',w',Y,o,f,p,q,Z⟩:=rp (P:=P) (w:=w) t ty e ht D T S U L (dR M) v m cs N ⟨g2,0,none⟩ m2 V news B.1
    (λj u b=>by
     rw[Addr.add_lit,hP,cV k];rw[←l,s9]at b
     split at b
     ·simpa using b
     ·simp at b) I (by unfold maxLen;omega) J
   refine⟨.value v',w',ρ,_,?_,⟨_,.inl rfl,p,rfl⟩,?_⟩
   ·simp[execOp,resolve,invoke,builtin,hx.eval z,hy.eval z,Y]
   ·refine C.alter f.os ⟨f.tape,Z⟩ f.output f.size (λj b g=> ?_) (eM.2 o) (λb' E=> ?_)
    ·rw[eI]at g;exact f.block j b (λe=>g e.symm)
    ·rw[eI]at E⊢;exact q b' E
 ·rintro _ _ ⟨h1,rfl⟩
  exact h _ h1
theorem St.yT {α:Type}{Rr:Rp α}{xs:List α}{v2:Value}{zv:Value}{ya:Nat}[t2:sH v2 H α Rr xs][t1:lX v H e Rr.size m cs R]
 (hx:ai F x v) (hy:ai F y v2) (ht:P.underlying t=some (.slice e)) (D:(P.info? e).map (·.size)=some Rr.size) (hz:(P.info? e).bind (·.zero)=some zv) (J:(P.info? e).map (·.bytes)=some ya)
 (L:∀u∈rows Rr xs,u.oneCell'=true) (hlen:m+xs.length≤9223372036854775807) (M:(m+xs.length)*ya≤140737488355328) (N:zv.cells.size=Rr.size) (O:Nat.ble 1 Rr.size=true) (S:True) (hd:Nat.ble (d+1) n=true)
 (h:∀v',(v'= .slice none 0 0↔v= .slice none 0 0∧xs.length=0)∨xs=[]→St n ((d,v')::F) (Mm c (row v' e Rr.size (m+xs.length) (cs++rows Rr xs)::R)) (wpList P ops Q rest)):
 St n F (Mm c H) (wpList P ops Q ({dst:=some d,op:= .call {callee:= .builtin .append,args:= #[x,y],argTypes:= #[t,t]},type:=ty,pos:=pos,after:=after,guard:=none}::rest)):=by
 refine St.Qa (K:=λv' H'=>((v'= .slice none 0 0↔v= .slice none 0 0∧xs.length=0)∨xs=[])∧H'=row v' e Rr.size (m+xs.length) (cs++rows Rr xs)::R) ?_ hd ?_
 ·intro a w ρ k hm
  obtain⟨ad,cap,rfl,_,_,_,p⟩:=hm.sl t2
  have q:=hm.perm t1.perm
  have E:=eM.1 (q.dM _ (aQ ..))
  obtain⟨i,l,SS⟩:=dp.1 D;obtain⟨T,U,V⟩:=qf D hz J l
  cases o:xs with
  |nil=>
   subst o
   have r:(Builtin.append_ #[t,t] ty #[v,.slice ad ([]:List α).length cap]).run P w= .ok v w:=by
    rcases E.2 with⟨rfl,rfl⟩|⟨g,anA,cur,rfl,_,hg,W,_⟩
    ·cases ad<;>simp[Builtin.append_,run_underlying ht,sizeOf,typeInfo,l,Builtin.lenOf,Builtin.firstCells,loadCells,loadCellsFrom]
    ·cases ad<;>simp[Builtin.append_,run_underlying ht,sizeOf,typeInfo,l,Builtin.lenOf,Builtin.firstCells,loadCells,loadCellsFrom,W,storeCells]
   refine⟨.value v,w,ρ,_,?_,⟨_,.inl rfl,.inr rfl,rfl⟩,?_⟩
   ·simp only[execOp,resolve,invoke,builtin,hx.eval k,hy.eval k,List.map_toArray,List.map_cons,List.map_nil,Sem.run_bind,Sem.run_pure,Result.andThen_ok]
    rw[r];rfl
   ·simpa[rows]using q
  |cons x0 X=>
   rcases p with p|⟨b,off,C,e',fr,rfl,Y,Z⟩
   ·rw[p]at o;cases o
   ·rw[←o]
    obtain⟨v',w',r,s,f,z,A,hdr⟩:=rp (P:=P) (w:=w) t ty e ht l U T V N (dR O) v m cs E ⟨b,off,none⟩ xs.length cap (rows Rr xs) (iz Rr xs)
     (λj u B=>by
      rw[Addr.add_lit,cV (hm.fits _ _ Y)]
      exact Z j u B) L (by unfold maxLen;omega) M
    refine⟨.value v',w',ρ,_,?_,⟨_,.inl rfl,.inl z,rfl⟩,?_⟩
    ·simp[execOp,resolve,invoke,builtin,hx.eval k,hy.eval k,r]
    ·refine q.alter f.os ⟨f.tape,hdr⟩ f.output f.size (λj B G=> ?_) (eM.2 s) (λb' I=> ?_)
     ·rw[eI]at G;exact f.block j B (λe=>G e.symm)
     ·rw[eI]at I⊢;exact A b' I
 ·rintro _ _ ⟨h1,rfl⟩
  exact h _ h1
theorem zZ {α:Type}(Rr:Rp α)(xs:List α):∀u∈rows Rr xs,u.oneCell'=true:=by
 intro u hu
 simp only[rows,List.mem_flatMap]at hu
 obtain⟨x,_,hx⟩:=hu;exact Rr.one x u hx
theorem St.sS {zv:Value}{ya:Nat}{i j:Int}{kl g:IntKind}{m:Nat}(hx:ai F x (.int kl i))(hy:ai F y (.int g j))(ht:P.underlying t=some (.slice e))(l:(P.info? e).map (·.size)=some 1)(hz:(P.info? e).bind (·.zero)=some zv)(f:(P.info? e).map (·.bytes)=some ya)
 (hm:i=m) (r:j=m) (s:ya*m≤281474976710656∧m≤9223372036854775807) (h1:zv.cells= #[zv]) (hd:Nat.ble (d+1) n=true)
 (h:∀b,St n ((d,.slice (some ⟨b,0,none⟩) m m)::F) (Mm c (row (.slice (some ⟨b,0,none⟩) m m) e 1 m (List.replicate m zv)::H)) (wpList P ops Q rest)):
 St n F (Mm c H) (wpList P ops Q ({dst:=some d,op:= .makeSlice t x y,type:=ty,pos:=pos,after:=after,guard:=none}::rest)):=by
 subst hm r;refine St.Qa (K:=λu H'=>∃b,u= .slice (some ⟨b,0,none⟩) m m∧H'=row (.slice (some ⟨b,0,none⟩) m m) e 1 m (List.replicate m zv)::H) ?_ hd ?_
 ·intro a w ρ o v
  obtain⟨i,p,D⟩:=dp.1 l;obtain⟨z,A,B⟩:=qf l hz f p
  have q:=run_make (P:=P) w t e i zv ht p A kl g m m (by omega) (by omega) (by rw[B,←Int.natCast_mul];exact Int.ofNat_le.2 s.1) (by omega)
  have C:madeCells zv.cells (m*i.size)=(List.replicate m zv).toArray:=by
   rw[z,h1]
   apply Array.ext
   ·simp[madeCells]
   ·intro k E G
    simp[madeCells,Nat.mod_one]
  simp only[Int.toNat_natCast,C]at q
  refine⟨.value (.slice (some ⟨w.heap.size,0,none⟩) m m),w.alloc (.cells (List.replicate m zv).toArray e),ρ,_,?_,⟨_,.inl rfl,_,rfl,rfl⟩,?_⟩
  ·simp[execOp,hx.eval o,hy.eval o,q]
  ·refine v.Aq rfl ⟨rfl,aR _⟩ rfl (by simp) (λk hk=>RowKit.Below.heap_alloc w _ k hk) (eM.2 ⟨by simp,.inr ⟨w.heap.size,m,_,rfl,aP _,heap_alloc_new w _,aR _,by unfold maxLen;omega,by simp,by simp⟩⟩) ?_
   intro b f;rw[eI]at f;simp[Value.ownBlock]at f;omega
 ·rintro _ _ ⟨b,rfl,rfl⟩
  exact h b
theorem ew.bS {α:Type}(Rr:Rp α)(xs:List α){H:List ak}{ρ:Ro}{w:World}(h:ew c (J.row v e Rr.size m cs::H) ρ w)(i:cs=rows Rr xs)(hm:m=xs.length)(y:∀x∈xs,Rr.wf x):Mm c (J.aB (J.sl Rr v xs)::H) w:=by
 subst i hm
 have z:=eM.1 (h.dM _ (aQ ..))
 rcases z.2 with⟨rfl,A⟩|⟨g,cap,cur,rfl,_,l,B,C,i,D⟩
 ·have hx:xs=[]:=lG A
  subst hx;exact Mm.mk (h.drop.fact _ ⟨none,0,rfl,aR _,by unfold maxLen;omega,λx hx=>by simp at hx,.inl rfl⟩)
 ·have n:(J.row (Value.slice (some ⟨g,0,none⟩) xs.length cap) e Rr.size xs.length (rows Rr xs)).key=some g:=by rw[eI];rfl
  have p:=h.own _ (aQ ..) g n
  have F:g<w.heap.size:=(wG.1 l).1
  have q:=jU.1 h.ES
  refine Mm.mk (ρ:=λk=>if k=g then some (.cells cur e (0,0))else ρ k) ?_
  have hle:Ro.le ρ (λk=>if k=g then some (.cells cur e (0,0))else ρ k):=by
   intro k o hk
   by_cases a:k=g
   ·subst a;rw[p.1]at hk;cases hk
   ·simp only[a,if_false];exact hk
  refine ew.fact ⟨h.os,h.tape,h.output,h.size,h.AJ,?_,Ro.le_trans h.le hle,?_,?_,?_,q.2⟩ _ ?_
  ·intro k o hk
   by_cases a:k=g
   ·subst a;simp only[if_true,Option.some.injEq]at hk;subst hk;exact l
   ·simp only[a,if_false]at hk;exact h.fits k o hk
  ·intro k hk r
   by_cases a:k=g
   ·subst a
    rcases p.2 with s|s
    ·omega
    ·exact absurd s r
   ·simp only[a,if_false];exact h.new k hk r
  ·intro E d
   exact E.loc hle (λ_ _=>rfl) (h.dM E (cO _ d))
  ·intro E d b t
   have h1:=h.own E (cO _ d) b t
   refine⟨?_,h1.2⟩
   by_cases a:b=g
   ·subst a;exact absurd t (q.1 E d _ n)
   ·simp only[a,if_false];exact h1.1
  ·refine⟨some ⟨g,0,none⟩,cap,rfl,B,C,y,?_⟩
   refine .inr ⟨g,0,cur,e,(0,0),rfl,by simp,λj u f=> ?_⟩;rw[←D,s9]at f
   split at f
   ·simpa using f
   ·simp at f
theorem St.bS {α:Type}{T:Act→World→Prop}(v:Value)(Rr:Rp α)(xs:List α)[tk:lX v H e Rr.size m cs R](a:cs=rows Rr xs)(hm:m=xs.length)(b:∀x∈xs,Rr.wf x)
 (h:St n F (Mm c (aB (sl Rr v xs)::R)) T):St n F (Mm c H) T:=
 h.o9 λ_ hw=>let⟨_,k⟩:=hw.out;(k.perm tk.perm).bS Rr xs a hm b
end rows
end
section
variable {P:Program}{ops:Array Oper}{C:World→Prop}{Q:Exit→Act→World→Prop}
def Di (k:Nat)(listed:Array Bool)(N:Nat):Prop:=listed.size=N∧∀j,j<N→listed[j]?=some (decide (j<k))
theorem Di.getD {k N:Nat}{listed:Array Bool}(h:Di k listed N)(j:Nat)(d:Bool)(a:j<N):listed.getD j d=decide (j<k):=by
 rw[px,h.2 j a];rfl
theorem Di.out {k N:Nat}{listed:Array Bool}(h:Di k listed N)(j:Nat)(d:Bool)(a:N≤j):listed.getD j d=d:=by
 rw[px,Array.getElem?_eq_none (by rw[h.1];exact a)];rfl
theorem Di.set {k N:Nat}{listed:Array Bool}(h:Di k listed N):Di (k+1) (listed.setIfInBounds k true) N:=by
 refine⟨by simp[h.1],λj a=> ?_⟩;rw[QR]
 by_cases e:k=j
 ·subst e;simp[h.1,a]
 ·rw[aA e,h.2 j a];congr 1
  rw[B7];simp only[decide_eq_true_eq];omega
theorem Ae {a:Array Oper}{listed:Array Bool}(l:listed.size=a.size)(g:∀(i:Nat) (o:Oper),a[i]?=some o→∀e∈o.after,e.on<i)(hu:∃i,i<a.size∧listed.getD i true=false):Region.ready .any a listed≠ []:=by
 obtain⟨i,h⟩:=exists_least hu;obtain⟨⟨f,b⟩,c⟩:=h;intro j
 have:i∈Region.ready .any a listed:=by
  refine mem_ready.2 ⟨b,a[i],Dn f,λe he _=> ?_⟩
  have h1:=g i _ (Dn f) e he
  have k:e.on<listed.size:=by omega
  cases d:listed.getD e.on true with
  |false=>
   have:=c e.on ⟨by omega,d⟩
   omega
  |true=>rw[px,Dn k]at d⊢;exact d
 rw[j]at this
 cases this
theorem St.any {n:Nat}{F:Fr}{A:World→Prop}{id:Nat}{l:List Oper}(hm:P.follows .mixedOrders=true)(b:M7 A)
 (h:St n F A (wpAny P .any l.toArray Q l.length (Array.replicate l.length false))):St n F A ((Code.region id l.toArray true).wp P Q):=
 λa w c hw=>wp_region_any hm (by simpa using h a _ c (b w hw))
theorem St.one {n:Nat}{F:Fr}{A:World→Prop}{i:Nat}{o:Oper}{K:Act→World→Prop}(c:ops[i]?=some o)(h:St n F A (wpList P ops (Exit.then K Q) [o])):St n F A (wpOp P ops Q i K):=by
 intro a w d hw
 have h1:=h a w d hw
 unfold wpOp;rw[c]
 simp only[wpList]at h1
 simp only
 split
 ·rename_i b
  simp only[b,if_true]at h1
  rcases h1 with h1|⟨h1,a0,f,g⟩
  ·refine .inl ?_
   unfold Oper.wp at h1⊢
   generalize (execOp a.eval o).run P w=r at h1⊢
   cases r with
   |ok j w'=>
    cases j<;>simp only[Oper.upon]at h1⊢ <;>
     first
      |exact h1
      |exact Calls.mono h1 (λe k he=>by cases e<;>exact he)
      |exact Rows.mono h1 (λ_ _ he=>he)
   |halt x w'=>cases x<;>simp only[Oper.upon]at h1⊢ <;>exact h1
  ·exact .inr ⟨h1,a0,f,g⟩
 ·rename_i b
  simp only[b]at h1
  exact h1
theorem Sq.tail {n:Nat}{F:Fr}{A:World→Prop}{b:Array Oper}{tl:List Oper}(h:St n F A (wpList P ops Q tl)):Sq n F (wpQuiet P b A (λc=>∀w',A w'→wpList P ops Q tl c w') []):=λa d w hw=>h a w d hw
end
def pf (b:Nat)(v:Value):du where
 f ρ:=∃C e fr,ρ b=some (.cells C e fr)∧C[0]?=some v
 mono ρ jn h:=by
  rintro ⟨C,e,fr,h1,a⟩;exact⟨C,e,fr,h _ _ h1,a⟩
class rY (b:Nat)(H:List ak)(v:outParam Value):Prop where
 mem:aB (pf b v)∈H
instance (priority:=high) rY.here (b:Nat)(v:Value)(H:List ak):rY b (aB (pf b v)::H) v:=⟨aQ ..⟩
instance rY.there (b:Nat)(v:Value)(E:ak)(H:List ak)[h:rY b H v]:rY b (E::H) v:=⟨cO _ h.mem⟩
instance kX.map (ds:List du):kX ds (ds.map aB):=⟨λ_ h=>eP h⟩
instance (priority:=low) kX.lift (ds:List du)(E:ak)(H:List ak)[h:kX ds H]:kX ds (E::H):=⟨λd hd=>cO _ (h.mem d hd)⟩
def all (w:World):Ro:=λk=>w.heap[k]?
theorem ew.XD {c:Ctx}{H:List ak}{ρ:Ro}{w:World}(h:ew c H ρ w):Ro.le ρ (J.all w):=λk o hk=>h.fits k o hk
def dW (c:Ctx)(H:List ak)(ds:List du):Prop:=∀ρ w,ew c H ρ w→∀d∈ds,d.f (J.all w)
section
variable {c:Ctx}{H R:List ak}{ds:List du}{v:Value}
theorem dW.nil:dW c H []:=λ_ _ _ _ h=>by simp at h
theorem dW.aB {d:du}(h:dW c H ds)[hd:lW d H]:dW c H (d::ds):=λρ w hm b a=>by
 rcases cJ.1 a with rfl|a
 ·exact b.mono _ _ hm.XD (hm.aB hd)
 ·exact h ρ w hm b a
theorem Bl {α:Type}{Rr:Rp α}{xs:List α}{e:TypeId}{m:Nat}{cs:List Value}{w:World}(h:w.ownsRow 0 e Rr.size v m cs)(b:cs=rows Rr xs)(hm:m=xs.length)(c:∀x∈xs,Rr.wf x):(sl Rr v xs).f (J.all w):=by
 subst b hm
 rcases h.2 with⟨rfl,d⟩|⟨g,cap,cur,rfl,_,i,k,l,b,n⟩
 ·have hx:xs=[]:=lG d
  subst hx;exact⟨none,0,rfl,aR _,by unfold maxLen;omega,λx hx=>by simp at hx,.inl rfl⟩
 ·refine⟨some ⟨g,0,none⟩,cap,rfl,k,l,c,.inr ⟨g,0,cur,e,(0,0),rfl,i,λj u a=> ?_⟩⟩
  rw[←n,s9]at a
  split at a
  ·simpa using a
  ·simp at a
theorem dW.row {α:Type}{Rr:Rp α}{xs:List α}{e:TypeId}{size m:Nat}{cs:List Value}(h:dW c H ds)[d:xB v H e size m cs](f:size=Rr.size)(g:cs=rows Rr xs)(hm:m=xs.length)(i:∀x∈xs,Rr.wf x):dW c H (sl Rr v xs::ds):=λρ w b j a=>by
 subst f
 rcases cJ.1 a with rfl|a
 ·exact Bl (b.row d) g hm i
 ·exact h ρ w b j a
theorem dW.aW {b:Nat}{u:Value}{e:TypeId}{fr:Nat×Nat}{L:List Value}(h:dW c H ds)[f:B8 b H (.cells (u::L).toArray e fr)]:dW c H (pf b u::ds):=λρ w d g a=>by
 rcases cJ.1 a with rfl|a
 ·exact⟨_,e,fr,fp.1 (d.dM _ f.mem),by simp⟩
 ·exact h ρ w d g a
def gq (H:List ak):Prop:=∀E∈H,∀ρ jn w,E.ok ρ w→E.ok jn w
theorem gq.nil:gq []:=λ_ h=>by simp at h
theorem gq.row {H:List ak}{e:TypeId}{size m:Nat}{cs:List Value}(h:gq H):gq (J.row v e size m cs::H):=λE a ρ jn w k=>by
 rcases cJ.1 a with rfl|a
 ·exact eM.2 (eM.1 k)
 ·exact h E a ρ jn w k
theorem gq.aW {H:List ak}{b:Nat}{o:Obj}(h:gq H):gq (J.aW b o::H):=λE a ρ jn w k=>by
 rcases cJ.1 a with rfl|a
 ·exact fp.2 (fp.1 k)
 ·exact h E a ρ jn w k
theorem j7 (ds:List du)(b:Nat):¬jm (ds.map aB) b:=by
 rintro ⟨E,c,a⟩;obtain⟨d,_,rfl⟩:=cz.1 c
 rw[jv]at a;cases a
theorem Mm.aeD {dr:Prop}{P:Program}{f:FuncId}{args:Array Value}{post:Value→List ak→Prop}(l:Dv dr P f args (ds.map J.aB) post)(m:c.dr→dr)(n:dW c H ds)(p:∀v H',post v H'→gq H'){w:World}(hm:Mm c H w):
 Calls P f args w λe w'=>∃v H',e= .returned v∧post v H'∧Mm c (H'++H) w':=by
 obtain⟨ρ,hm⟩:=hm.out
 have st:Start (ds.map J.aB) (J.all w) w:=
  ⟨rfl,⟨rfl,λ_=>aR _⟩,rfl,aR _,λ_ _ _=>rfl,λ_ _ h=>h,Ro.le_refl _,λ_ _ _=>rfl,λE a=>by
   obtain⟨d,hd,rfl⟩:=cz.1 a;exact dB.2 (n ρ w hm d hd),
   (λE a b i=>by
    obtain⟨d,hd,rfl⟩:=cz.1 a
    rw[jv]at i;cases i),
   by
    refine sD.2 (wi (R:=λ_ _=>True) ?_ (List.pairwise_of_forall λ_ _=>trivial));intro d t _ _ _ b i
    rw[jv]at i;cases i⟩
 refine(l w (J.all w) st).mono ?_;rintro e w' ⟨v,H',he,hp,g⟩;obtain⟨jn,g⟩:=g.out;refine⟨v,H',he,hp,?_⟩
 have hold:∀k,k<w.heap.size→w'.heap[k]?=w.heap[k]?:=λk hk=>g.AJ k hk (j7 ds k)
 have j:∀E∈H',∀b,E.key=some b→w.heap.size≤b:=λE a b i=>by
  rcases(g.own E a b i).2 with h1|h1
  ·exact h1
  ·exact absurd h1 (j7 ds b)
 refine Mm.mk (ρ:=ρ) ?_
 have r:ew c ([]++H) ρ w:=hm
 refine ew.step r ⟨g.os,⟨g.tape.1,λq=>g.tape.2 (m q)⟩,g.output,g.size,λk hk _=>hold k hk,λk o hk=> ?_,Ro.le_refl _,λ_ _ _=>rfl,λE a=>p v H' hp E a jn ρ w' (g.dM E a),?_,g.ES⟩
 ·rw[hold k (hm.AK hk)];exact hm.fits k o hk
 ·intro E a b i
  refine⟨?_,.inl (j E a b i)⟩
  cases s:ρ b with
  |none=>rfl
  |some o=>have h1:=hm.AK s;have u:=j E a b i;omega
theorem Mm.XG {P:Program}{f:FuncId}{args:Array Value}{post:Value→List ak→Prop}(a:dz P f args (ds.map J.aB) post)(b:dW c H ds)(d:∀v H',post v H'→gq H'){w:World}(hm:Mm c H w):
 Calls P f args w λe w'=>∃v H',e= .returned v∧post v H'∧Mm c (H'++H) w':=Mm.aeD a.gen (λ_=>trivial) b d hm
end
section
variable {P:Program}{n:Nat}{F:Fr}{A:World→Prop}{c:Ctx}{H R:List ak}{ty:TypeId}{x y z:Operand}{v:Value}{Q:Exit→Act→World→Prop}{ops:Array Oper}{rest:List Oper}
 {d:Nat} {pos:String} {after:Array Edge} {t e:TypeId}
theorem Ev.ad7 {b:Nat}{u:Value}{dd:TypeDesc}[d:rY b H u](hx:ai F x (.pointer (some ⟨b,0,none⟩)))(ht:P.underlying t=some dd)(f:(match dd with| .struct _| .array _ _=>False|_=>True)):
 Ev P n F (Mm c H) (.load t x) ty u:= .of_run λa w g hw=>by
 obtain⟨ρ,hm⟩:=hw.out;obtain⟨C,e,fr,h1,h⟩:=dB.1 (hm.dM _ d.mem)
 simp[execOp,hx.eval g,Instr.loadAt,Instr.sureAddr,fQ ht f ((cV (hm.fits _ _ h1)).trans h)]
theorem Ev.wM {f:FuncId}{xs:List Operand}{d:Array TypeId}{vs:List Value}{ds:List du}(g:eC P f vs.toArray ds v)(i:aI P f)(hx:bF F xs vs)(j:dW c H ds):
 Ev P n F (Mm c H) (.call {callee:= .value (.func f),args:=xs.toArray,argTypes:=d}) ty v:=by
 intro a w k hw;rw[mH (caps:=[]) i (bF.cons (ai.mk rfl) hx) k w]
 simp only[List.append_nil,Oper.quietUpon,true_and]
 refine(Mm.XG (post:=λu H'=>u=v∧H'=[]) (λw ρ l=>(g w ρ l).mono λe w' ⟨u,H',h1,m,b⟩=>⟨u,[],h1,⟨m,rfl⟩,?_⟩) j (λ_ _ h=>by rw[h.2];exact gq.nil) hw).mono ?_
 ·obtain⟨jn,b⟩:=b.out
  exact Mm.mk (ew.left (L:=[]) b)
 ·rintro e w' ⟨u,H',rfl,⟨rfl,rfl⟩,hm⟩
  exact⟨rfl,hm⟩
theorem Ev.nj {f:FuncId}{xs:List Operand}{d:Array TypeId}{vs caps:List Value}{ds:List du}(g:eC P f (vs++caps).toArray ds v)(i:aI P f)(j:ai F x (.func (.func f) #[] caps.toArray))(hx:bF F xs vs)(k:dW c H ds):
 Ev P n F (Mm c H) (.call {callee:= .value x,args:=xs.toArray,argTypes:=d}) ty v:=by
 intro a w l hw;rw[mH i (bF.cons j hx) l w]
 simp only[Oper.quietUpon,true_and]
 refine(Mm.XG (post:=λu H'=>u=v∧H'=[]) (λw ρ m=>(g w ρ m).mono λe w' ⟨u,H',h1,o,b⟩=>⟨u,[],h1,⟨o,rfl⟩,?_⟩) k (λ_ _ h=>by rw[h.2];exact gq.nil) hw).mono ?_
 ·obtain⟨jn,b⟩:=b.out
  exact Mm.mk (ew.left (L:=[]) b)
 ·rintro e w' ⟨u,H',rfl,⟨rfl,rfl⟩,hm⟩
  exact⟨rfl,hm⟩
@[irreducible] def pJ (v:Value)(size l h:Nat):Value:=
 match v with
 | .slice a _ cap=> .slice (if cap=l then a else a.map (·.add (l*size))) (h-l) (cap-l)
 |_=>undef
theorem jf (a:Option Addr)(m cap size l h:Nat):pJ (.slice a m cap) size l h= .slice (if cap=l then a else a.map (·.add (l*size))) (h-l) (cap-l):=by unfold pJ;rfl
theorem TW {α:Type}{Rr:Rp α}{xs:List α}{l h:Nat}{ρ:Ro}(n:(sl Rr v xs).f ρ)(A:l≤h)(o:h≤xs.length):(sl Rr (pJ v Rr.size l h) ((xs.drop l).take (h-l))).f ρ:=by
 obtain⟨a,cap,rfl,B,D,p,q⟩:=n
 have hlen:((xs.drop l).take (h-l)).length=h-l:=by simp;omega
 refine⟨if cap=l then a else a.map (·.add (l*Rr.size)),cap-l,by rw[jf,hlen],by omega,by omega,λx hx=>p x (GJ (CG hx)),?_⟩
 by_cases i:(xs.drop l).take (h-l)=[]
 ·exact .inl i
 ·right
  have E:l<h:=by
   rcases eO l h with g|g
   ·exact g
   ·exact absurd (by rw[show h-l=0 by omega];rfl) i
  have r:cap≠l:=by omega
  rcases q with rfl|⟨b,off,C,e,fr,rfl,g,s⟩
  ·simp at o;omega
  ·refine⟨b,off+l*Rr.size,C,e,fr,by rw[aA r];simp[Addr.add_lit],g,λj u k=> ?_⟩
   rw[qg]
   apply s
   -- c cells of c part t c cells of c whole,from there on
   have key:∀(d:List α) (l:Nat),l≤d.length→rows Rr d=rows Rr (d.take l)++rows Rr (d.drop l):=λd l _=>by
    unfold rows;rw[←CA,qk]
   have w:=key xs l (by omega)
   have y:=key (xs.drop l) (h-l) (by simp;omega)
   have m:(xs.take l).length=l:=by simp;omega
   rw[w,lp (by rw[iz,m];omega),iz,y];rw[m,show l*Rr.size+j-l*Rr.size=j by omega]
   have z:=(fA.1 k).1
   rw[oc z];exact k
theorem St.part {α:Type}{Rr:Rp α}{xs:List α}{T:Act→World→Prop}(v:Value)(l h:Nat)[hd:sH v H α Rr xs](a:l≤h)(b:h≤xs.length)
 (k:St n F (Mm c (aB (sl Rr (pJ v Rr.size l h) ((xs.drop l).take (h-l)))::H)) T):St n F (Mm c H) T:=
 St.fact _ (λ_ _ hm=>TW (hm.sl hd) a b) k
theorem Ev.Lc {α:Type}{Rr:Rp α}{xs:List α}{j:Int}{h:Nat}{g:IntKind}{d:Operand}[hd:sH v H α Rr xs](hx:ai F x v)(b:ai F d (.int g j))(ht:P.underlying t=some (.slice e))(i:(P.info? e).map (·.size)=some Rr.size)
 (k:j=h) (p:h≤xs.length):Ev P n F (Mm c H) (.slice t x none (some d) none) ty (pJ v Rr.size 0 h):= .of_run λa w f hw=>by
 obtain⟨ρ,hm⟩:=hw.out;obtain⟨ad,cap,rfl,q,_⟩:=hm.sl hd;obtain⟨inf,l,m⟩:=dp.1 i;subst k
 have o:(0:Int)≤(h:Int)∧(h:Int)≤(cap:Int):=by omega
 simp only[execOp,hx.eval f,b.eval f,Option.map_some,Option.map_none,Instr.sliceAt,Instr.slice,Instr.sliceBounds,Instr.sliceBound,asIntOf,Sem.run_bind,run_underlying ht,Result.andThen_ok,Sem.run_pure,o,and_self,if_true,Int.toNat_natCast,sizeOf,typeInfo,run_program,l,m,jf]
theorem Ev.rB {α:Type}{Rr:Rp α}{xs:List α}{i:Int}{l:Nat}{f:IntKind}{b:Operand}[hd:sH v H α Rr xs](hx:ai F x v)(g:ai F b (.int f i))(ht:P.underlying t=some (.slice e))(h:(P.info? e).map (·.size)=some Rr.size)
 (j:i=l) (p:l≤xs.length):Ev P n F (Mm c H) (.slice t x (some b) none none) ty (pJ v Rr.size l xs.length):= .of_run λa w d hw=>by
 obtain⟨ρ,hm⟩:=hw.out;obtain⟨ad,cap,rfl,q,_⟩:=hm.sl hd;obtain⟨inf,k,m⟩:=dp.1 h;subst j
 have o:(0:Int)≤(l:Int)∧(l:Int)≤(xs.length:Int):=by omega
 simp only[execOp,hx.eval d,g.eval d,Option.map_some,Option.map_none,Instr.sliceAt,Instr.slice,Instr.sliceBounds,Instr.sliceBound,asIntOf,Sem.run_bind,run_underlying ht,Result.andThen_ok,Sem.run_pure,o,and_self,if_true,Int.toNat_natCast,sizeOf,typeInfo,run_program,k,m,jf]
def isNil:Value→Bool
 | .slice none _ _=>true
 |_=>false
theorem uL (k:Nat){ad:Option Addr}{m cap:Nat}{w:World}(ht:P.underlying t=some (.slice e)):(Op.equalIn (k+1) t (.slice ad m cap) (.slice none 0 0)).run P w= .ok (isNil (.slice ad m cap)) w:=by
 cases ad<;>simp[Op.equalIn,run_underlying ht,isNil]
theorem Ev.slnil {ad:Option Addr}{m cap:Nat}{u:TypeId}(hx:ai F x (.slice ad m cap))(ht:P.underlying t=some (.slice e)):Ev P n F A (.binOp .eql t x (.const (.slice none 0 0)) u) ty (.bool (isNil (.slice ad m cap))):= .of_run λa w b _=>by
 have h1:=uL (P:=P) (w:=w) 9999 (ad:=ad) (m:=m) (cap:=cap) ht
 have c:a.eval (.const (.slice none 0 0))= .slice none 0 0:=rfl
 simp only[execOp,hx.eval b,c,eqGuard_at_slice,binOp,Sem.run_bind,Sem.run_pure,Result.andThen_ok]
 unfold Op.equal Op.maxDepth;rw[h1];rfl
theorem St.aM {size m a:Nat}{cs fg:List Value}{T:Act→World→Prop}(v:Value)[tk:lX v H e size m cs R](hm:m=a)(h:cs=fg)(k:St n F (Mm c (row v e size a fg::R)) T):St n F (Mm c H) T:=by
 subst h hm
 exact k.o9 λ_ hw=>let⟨_,q⟩:=hw.out;Mm.mk (q.perm tk.perm)
theorem Bh {α:Type}{Rr:Rp α}(h1:Rr.size=1){u:Value}{x:α}(hx:Rr.cells x=[u]):∀(xs:List α) (k:Nat),(rows Rr xs).set k u=rows Rr (xs.set k x)
 | [],_=>by simp[rows]
 |y::xs,0=>by
  have:=Rr.len y
  rw[h1]at this
  obtain⟨v,a⟩:∃v,Rr.cells y=[v]:=by
   match c:Rr.cells y,this with
   | [v],_=>exact⟨v,rfl⟩
  simp[rows,a,hx]
 |y::xs,k+1=>by
  have:=Rr.len y
  rw[h1]at this
  obtain⟨v,a⟩:∃v,Rr.cells y=[v]:=by
   match c:Rr.cells y,this with
   | [v],_=>exact⟨v,rfl⟩
  have b:=Bh h1 hx xs k
  simp only[rows,List.flatMap_cons,a,List.singleton_append,List.set_cons_succ]at b⊢
  rw[b]
theorem bB {α:Type}(Rr:Rp α)(xs:List α)(x:α):rows Rr (xs++ [x])=rows Rr xs++Rr.cells x:=by simp[rows]
theorem za {α:Type}{Rr:Rp α}{u:Value}{x:α}(hx:Rr.cells x=[u])(m:Nat):rows Rr (List.replicate m x)=List.replicate m u:=by
 induction m with
 |zero=>rfl
 |succ m a=>simp only[List.replicate_succ,rows,List.flatMap_cons,hx,List.singleton_append]at a⊢;rw[a]
end
instance (priority:=high) eT.self (L:List ak):eT L L []:=⟨by simp⟩
instance (priority:=low) eT.skip (L:List ak)(E:ak)(H R:List ak)[h:eT L H R]:eT L (E::H) (E::R):=⟨(h.perm.cons E).trans qj.symm⟩
open Classical in
noncomputable def ow (L:List ak) (w:World):Ro:=λk=>if jm L k then none else w.heap[k]?
def il (c:Ctx)(L R:List ak)(ds:List du):Prop:=∀ρ w,ew c (L++R) ρ w→∀d∈ds,d.f (ow L w)
section
variable {c:Ctx}{L R:List ak}{ds:List du}{v:Value}
theorem ew.XE {ρ:Ro}{w:World}(h:ew c (L++R) ρ w):Ro.le ρ (ow L w):=λk o hk=>by
 unfold ow;rw[aA]
 ·exact h.fits k o hk
 ·rintro ⟨E,a,b⟩
  have:=(h.own E (kV _ a) k b).1
  rw[hk]at this;cases this
theorem BF {ρ:Ro}{w:World}(h:ew c (L++R) ρ w){E:ak}(a:E∈R){b:Nat}(d:E.key=some b):ow L w b=w.heap[b]?:=by
 unfold ow;rw[aA];rintro ⟨e,f,g⟩;exact(sC.1 h.ES).2.2 e f E a b g d
theorem il.nil:il c L R []:=λ_ _ _ _ h=>by simp at h
theorem il.aB {d:du}(h:il c L R ds)[hd:lW d R]:il c L R (d::ds):=λρ w hm b a=>by
 rcases cJ.1 a with rfl|a
 ·exact b.mono _ _ hm.XE (dB.1 (hm.dM _ (mz _ hd.mem)))
 ·exact h ρ w hm b a
theorem il.row {α:Type}{Rr:Rp α}{xs:List α}{e:TypeId}{size m:Nat}{cs:List Value}(h:il c L R ds)[i:xB v R e size m cs](j:size=Rr.size)(k:cs=rows Rr xs)(hm:m=xs.length)(l:∀x∈xs,Rr.wf x):il c L R (sl Rr v xs::ds):=λρ w d n f=>by
 subst j
 rcases cJ.1 f with rfl|f
 ·have o:=eM.1 (d.dM _ (mz _ i.mem))
  obtain⟨a,cap,h1,p,q,r,g⟩:=Bl (w:=w) o k hm l;refine⟨a,cap,h1,p,q,r,?_⟩
  rcases g with g|⟨b,off,C,s,fr,rfl,t,u⟩
  ·exact .inl g
  ·refine .inr ⟨b,off,C,s,fr,rfl,?_,u⟩
   rw[BF d i.mem (b:=b) (by rw[eI,h1];rfl)];exact t
 ·exact h ρ w d n f
theorem il.aW {b:Nat}{u:Value}{e:TypeId}{fr:Nat×Nat}{l:List Value}(h:il c L R ds)[f:B8 b R (.cells (u::l).toArray e fr)]:il c L R (pf b u::ds):=λρ w a g d=>by
 rcases cJ.1 d with rfl|d
 ·refine⟨(u::l).toArray,e,fr,?_,rfl⟩
  rw[BF a f.mem (b:=b) (iW _ _)];exact fp.1 (a.dM _ (mz _ f.mem))
 ·exact h ρ w a g d
theorem Mm.XH {dr:Prop}{P:Program}{f:FuncId}{args:Array Value}{post:Value→List ak→Prop}(r:Dv dr P f args (ds.map J.aB++L) post)(s:c.dr→dr)(t:il c L R ds)(m:gq L)(u:∀v H',post v H'→gq H'){w:World}(hm:Mm c (L++R) w):
 Calls P f args w λe w'=>∃v H',e= .returned v∧post v H'∧Mm c (H'++R) w':=by
 obtain⟨ρ,hm⟩:=hm.out
 have l:∀b,jm (ds.map J.aB++L) b↔jm L b:=λb=>by
  constructor
  ·rintro ⟨E,a,g⟩
   rcases cD.1 a with a|a
   ·exact absurd ⟨E,a,g⟩ (j7 ds b)
   ·exact⟨E,a,g⟩
  ·rintro ⟨E,a,g⟩;exact⟨E,mz _ a,g⟩
 have st:Start (ds.map J.aB++L) (ow L w) w:=by
  refine⟨rfl,⟨rfl,λ_=>aR _⟩,rfl,aR _,λ_ _ _=>rfl,λk o hk=> ?_,Ro.le_refl _,λ_ _ _=>rfl,λE a=> ?_,λE a b g=> ?_,?_⟩
  ·unfold ow at hk
   split at hk
   ·cases hk
   ·exact hk
  ·rcases cD.1 a with a|a
   ·obtain⟨d,hd,rfl⟩:=cz.1 a
    exact dB.2 (t ρ w hm d hd)
   ·exact m E a ρ _ w (hm.dM E (kV _ a))
  ·have j:jm L b:=(l b).1 ⟨E,a,g⟩
   exact⟨by unfold ow;rw[aC j],.inr ((l b).2 j)⟩
  ·refine sC.2 ⟨?_,(sC.1 hm.ES).1,?_⟩
   ·refine sD.2 (wi (R:=λ_ _=>True) ?_ (List.pairwise_of_forall λ_ _=>trivial))
    intro d A _ _ _ b g
    rw[jv]at g;cases g
   ·intro E a n _ b g
    obtain⟨d,_,rfl⟩:=cz.1 a
    rw[jv]at g;cases g
 refine(r w (ow L w) st).mono ?_;rintro e w' ⟨v,H',he,hp,i⟩;obtain⟨jn,i⟩:=i.out;refine⟨v,H',he,hp,?_⟩
 have hold:∀k,k<w.heap.size→¬jm L k→w'.heap[k]?=w.heap[k]?:=λk hk h=>i.AJ k hk (λx=>h ((l k).1 x))
 refine Mm.mk (ρ:=ρ) ?_;refine ew.step hm ⟨i.os,⟨i.tape.1,λq=>i.tape.2 (s q)⟩,i.output,i.size,λk hk h=>hold k hk h,λk o hk=> ?_,Ro.le_refl _,λ_ _ _=>rfl,λE a=>u v H' hp E a jn ρ w' (i.dM E a),?_,i.ES⟩
 ·rw[hold k (hm.AK hk)]
  ·exact hm.fits k o hk
  ·rintro ⟨E,a,g⟩
   have:=(hm.own E (kV _ a) k g).1
   rw[hk]at this;cases this
 ·intro E a b g
  rcases(i.own E a b g).2 with h1|h1
  ·refine⟨?_,.inl h1⟩
   cases y:ρ b with
   |none=>rfl
   |some o=>have B:=hm.AK y;simp only at h1;omega
  ·have z:=(l b).1 h1
   obtain⟨n,p,j⟩:=z;exact⟨(hm.own n (kV _ p) b j).1,.inr ⟨n,p,j⟩⟩
theorem Mm.aeE {P:Program}{f:FuncId}{args:Array Value}{post:Value→List ak→Prop}(b:dz P f args (ds.map J.aB++L) post)(d:il c L R ds)(a:gq L)(g:∀v H',post v H'→gq H'){w:World}(hm:Mm c (L++R) w):
 Calls P f args w λe w'=>∃v H',e= .returned v∧post v H'∧Mm c (H'++R) w':=Mm.XH b.gen (λ_=>trivial) d a g hm
end
section
variable {P:Program}{n:Nat}{F:Fr}{A:World→Prop}{c:Ctx}{H R:List ak}{ty:TypeId}{x y z:Operand}{v:Value}{Q:Exit→Act→World→Prop}{ops:Array Oper}{rest:List Oper}
 {d:Nat} {pos:String} {after:Array Edge} {t e:TypeId}
theorem St.ZM {f:FuncId}{xs:List Operand}{i:Array TypeId}{vs:List Value}{ds:List du}{L R:List ak}{post:Value→List ak→Prop}(j:dz P f vs.toArray (ds.map aB++L) post)(k:aI P f)(hx:bF F xs vs)[tk:eT L H R]
 (l:il c L R ds) (b:gq L) (m:∀v H',post v H'→gq H') (hd:Nat.ble (d+1) n=true)
 (h:∀v H',post v H'→St n ((d,v)::F) (Mm c (H'++R)) (wpList P ops Q rest)):
 St n F (Mm c H) (wpList P ops Q ({dst:=some d,op:= .call {callee:= .value (.func f),args:=xs.toArray,argTypes:=i},type:=ty,pos:=pos,after:=after,guard:=none}::rest)):=by
 intro a w g hw;refine gB rfl (gG (caps:=[]) k (bF.cons (ai.mk rfl) hx) g w ?_)
 simp only[List.append_nil]
 refine(Mm.aeE j l b m (hw.take (L:=L))).mono ?_;rintro e w' ⟨u,H',rfl,hp,hm⟩;exact⟨u,rfl,h u H' hp _ w' (g.put (dR hd) u) hm⟩
theorem St.split {T:Act→World→Prop}(k:Nat)(b:Bool)(hk:look F k=some (.bool b))(ht:b=true→St n ((k,.bool true)::F) A T)(g:b=false→St n ((k,.bool false)::F) A T):St n F A T:=by
 intro a w f hw
 have key:∀u,u=Value.bool b→Has n a ((k,u)::F):=λu hu=>⟨f.size,f.defers,λt v d=>by
  simp only[look]at d
  cases c:Nat.beq t k with
  |true=>
   have e:t=k:=mr c
   subst e
   simp only[c,cond_true,Option.some.injEq]at d
   subst d
   rw[hu];exact f.slot _ _ hk
  |false=>simp only[c,cond_false]at d;exact f.slot _ _ d⟩
 cases c:b with
 |true=>exact ht c a w (key _ (by rw[c])) hw
 |false=>exact g c a w (key _ (by rw[c])) hw
theorem St.bq {j dj:Nat}{want:Bool}{op:Op}(e:(ops[j]?).bind (·.dst)=some dj)(f:look F dj=some (.bool (!want)))(hd:Nat.ble (d+1) n=true)
 (h:St n ((d,undef)::F) A (wpList P ops Q rest)):St n F A (wpList P ops Q ({dst:=some d,op:=op,type:=ty,pos:=pos,after:=after,guard:=some (j,want)}::rest)):=by
 intro a w b hw
 have g:=mL (l:=ops) (c:=false) (o:={dst:=some d,op:=op,type:=ty,pos:=pos,after:=after,guard:=some (j,want)}) rfl e (b.slot _ _ f) ⟨(λh=>by cases h),λ_=> .inl rfl⟩
 simp only[wpList,g]
 exact h _ w (b.put (dR hd) undef) hw
theorem St.Je {j dj:Nat}{want:Bool}{op:Op}(e:(ops[j]?).bind (·.dst)=some dj)(f:look F dj=some undef)(hd:Nat.ble (d+1) n=true)
 (h:St n ((d,undef)::F) A (wpList P ops Q rest)):St n F A (wpList P ops Q ({dst:=some d,op:=op,type:=ty,pos:=pos,after:=after,guard:=some (j,want)}::rest)):=by
 intro a w b hw
 have g:=mL (l:=ops) (c:=false) (o:={dst:=some d,op:=op,type:=ty,pos:=pos,after:=after,guard:=some (j,want)}) rfl e (b.slot _ _ f) ⟨(λh=>by cases h),λ_=> .inr rfl⟩
 simp only[wpList,g]
 exact h _ w (b.put (dR hd) undef) hw
theorem St.cG {j dj:Nat}{want:Bool}{op:Op}{dd:Option Tmp}(d:(ops[j]?).bind (·.dst)=some dj)(e:look F dj=some (.bool want))
 (h:St n F A (wpList P ops Q ({dst:=dd,op:=op,type:=ty,pos:=pos,after:=after,guard:=none}::rest))):
 St n F A (wpList P ops Q ({dst:=dd,op:=op,type:=ty,pos:=pos,after:=after,guard:=some (j,want)}::rest)):=by
 intro a w b hw
 have f:=mL (l:=ops) (c:=true) (o:={dst:=dd,op:=op,type:=ty,pos:=pos,after:=after,guard:=some (j,want)}) rfl d (b.slot _ _ e) ⟨λ_=>rfl,(λh=>by cases h)⟩
 have h1:=h a w b hw
 simp only[wpList,f,if_true]
 simp only[wpList,Region.wanted,if_true]at h1
 rcases h1 with h1|⟨h1,g⟩
 ·left
  unfold Oper.wp Oper.upon at h1⊢;rw[gu]at h1⊢;exact h1
 ·right
  refine⟨?_,g⟩;unfold Oper.asks at h1⊢;rw[gu]at h1⊢;exact h1
section rows
variable {size m:Nat}{cs:List Value}
theorem St.bZ {T:Act→World→Prop}(v:Value)[b:xB v H e size m cs](h:v.oneCell'=true→cs.length=m*size→St n F (Mm c H) T):St n F (Mm c H) T:=by
 intro a w d hw;obtain⟨ρ,hm⟩:=hw.out
 have h1:=hm.row b
 refine h ?_ h1.1 a w d hw
 rcases h1.2 with⟨rfl,_⟩|⟨g,cap,cur,rfl,_⟩<;>rfl
theorem Ev.pI {j:Int}{h:Nat}{o:IntKind}{i:Operand}[p:xB v H e size m cs](hx:ai F x v)(b:ai F i (.int o j))(ht:P.underlying t=some (.slice e))(q:(P.info? e).map (·.size)=some size)
 (r:j=h) (s:h≤m):Ev P n F (Mm c H) (.slice t x none (some i) none) ty (pJ v size 0 h):= .of_run λa w d hw=>by
 obtain⟨ρ,hm⟩:=hw.out;obtain⟨inf,k,l⟩:=dp.1 q;subst r
 rcases(hm.row p).2 with⟨rfl,rfl⟩|⟨g,cap,cur,rfl,_,_,u,_⟩
 ·have f:(0:Int)≤(h:Int)∧(h:Int)≤((0:Nat):Int):=by omega
  simp only[execOp,hx.eval d,b.eval d,Option.map_some,Option.map_none,Instr.sliceAt,Instr.slice,Instr.sliceBounds,Instr.sliceBound,asIntOf,Sem.run_bind,run_underlying ht,Result.andThen_ok,Sem.run_pure,f,and_self,if_true,Int.toNat_natCast,sizeOf,typeInfo,run_program,k,l,jf]
 ·have f:(0:Int)≤(h:Int)∧(h:Int)≤(cap:Int):=by omega
  simp only[execOp,hx.eval d,b.eval d,Option.map_some,Option.map_none,Instr.sliceAt,Instr.slice,Instr.sliceBounds,Instr.sliceBound,asIntOf,Sem.run_bind,run_underlying ht,Result.andThen_ok,Sem.run_pure,f,and_self,if_true,Int.toNat_natCast,sizeOf,typeInfo,run_program,k,l,jf]
theorem St.DS {T:Act→World→Prop}(v:Value)(h:Nat)[tk:lX v H e size m cs R](d:h≤m)(k:St n F (Mm c (row (pJ v size 0 h) e size h (cs.take (h*size))::R)) T):St n F (Mm c H) T:=by
 refine k.o9 λw hw=> ?_
 obtain⟨ρ,hm⟩:=hw.out
 have hm:=hm.perm tk.perm
 have f:=eM.1 (hm.dM _ (aQ ..))
 have hlen:(cs.take (h*size)).length=h*size:=by
  rw[eX,f.1];exact ko (iU _ d)
 rcases f.2 with⟨rfl,rfl⟩|⟨g,cap,cur,rfl,i,j,r,l,o,p⟩
 ·have:h=0:=by omega
  subst this;refine Mm.mk (hm.alter rfl ⟨rfl,aR _⟩ rfl (aR _) (λ_ _ _=>rfl) (eM.2 ⟨hlen,.inl ⟨?_,rfl⟩⟩) (λb a=> ?_))
  ·rw[jf];simp
  ·rw[eI,jf]at a;simp[Value.ownBlock]at a
 ·have q:pJ (.slice (some ⟨g,0,none⟩) m cap) size 0 h= .slice (some ⟨g,0,none⟩) h cap:=by
   rw[jf]
   simp[Addr.add_zero']
  rw[q];refine Mm.mk (hm.alter rfl ⟨rfl,aR _⟩ rfl (aR _) (λ_ _ _=>rfl) (eM.2 ⟨hlen,.inr ⟨g,cap,cur,rfl,i,j,by omega,l,o,?_⟩⟩) (λb a=> ?_))
  ·rw[←p,List.take_take,ko (iU _ d)]
  ·rw[eI]at a⊢;exact .inl a
end rows
theorem St.FW {T:Act→World→Prop}(b:Nat){u:Value}{L:List Value}[tk:l3 b H (.cells (u::L).toArray e (0,0)) R](h:St n F (Mm c (aB (pf b u)::R)) T):St n F (Mm c H) T:=by
 refine h.o9 λw hw=> ?_
 obtain⟨ρ,hm⟩:=hw.out
 have hm:=hm.perm tk.perm
 have f:=fp.1 (hm.dM _ (aQ ..))
 have g:=hm.own _ (aQ ..) b (iW _ _)
 have q:b<w.heap.size:=(wG.1 f).1
 have i:=jU.1 hm.ES
 refine Mm.mk (ρ:=λk=>if k=b then some (.cells (u::L).toArray e (0,0))else ρ k) ?_
 have hle:Ro.le ρ (λk=>if k=b then some (.cells (u::L).toArray e (0,0))else ρ k):=by
  intro k o hk
  by_cases a:k=b
  ·subst a;rw[g.1]at hk;cases hk
  ·simp only[a,if_false];exact hk
 refine ew.fact ⟨hm.os,hm.tape,hm.output,hm.size,hm.AJ,?_,Ro.le_trans hm.le hle,?_,?_,?_,i.2⟩ _ ?_
 ·intro k o hk
  by_cases a:k=b
  ·subst a;simp only[if_true,Option.some.injEq]at hk;subst hk;exact f
  ·simp only[a,if_false]at hk;exact hm.fits k o hk
 ·intro k hk j
  by_cases a:k=b
  ·subst a
   rcases g.2 with l|l
   ·omega
   ·exact absurd l j
  ·simp only[a,if_false];exact hm.new k hk j
 ·intro E d
  exact E.loc hle (λ_ _=>rfl) (hm.dM E (cO _ d))
 ·intro E d m p
  have h1:=hm.own E (cO _ d) m p
  refine⟨?_,h1.2⟩
  by_cases a:m=b
  ·subst a;exact absurd p (i.1 E d _ (iW _ _))
  ·simp only[a,if_false];exact h1.1
 ·exact⟨(u::L).toArray,e,(0,0),by simp,by simp⟩
end
theorem Oh {P:Program}{t:TypeId}{xs:Array Value}{k:Nat}{v:Value}{w:World}(h:(match P.underlying t with|some (.struct _)|some (.array _ _)|none=>false|_=>true)=true)(a:xs[k]?=some v):(part t xs k).run P w= .ok v w:=by
 unfold part
 cases hu:P.underlying t with
 |none=>rw[hu]at h;cases h
 |some d=>
  rw[hu]at h
  cases d<;>simp_all [isAgg,run_underlying hu]
class App (A B:List ak)(C:outParam (List ak)):Prop where
 eq:A++B=C
instance App.nil (B:List ak):App [] B B:=⟨rfl⟩
instance App.cons (E:ak)(A B C:List ak)[h:App A B C]:App (E::A) B (E::C):=⟨by rw[wj,h.eq]⟩
section
variable {P:Program}{n:Nat}{F:Fr}{A:World→Prop}{c:Ctx}{H R C:List ak}{ty:TypeId}{x y z:Operand}{u v:Value}{T:Act→World→Prop}
theorem St.known (k:Nat)(b u:Bool)(hk:look F k=some (.bool b))(a:b=u)(h:St n ((k,.bool u)::F) A T):St n F A T:=by
 subst a
 cases b with
 |true=>exact St.split k true hk (λ_=>h) (λh=>by cases h)
 |false=>exact St.split k false hk (λh=>by cases h) (λ_=>h)
theorem Ev.gZ {p:Bool}(hx:ai F x (.bool p))(hp:p=true)(hy:ai F y v):Ev P n F A (.pick x y z) ty v:= .of_run λa w b _=>by
 subst hp;simp only[execOp,hx.eval b,hy.eval b];simp[asBool]
theorem Ev.kQ {p:Bool}(hx:ai F x (.bool p))(hp:p=false)(hz:ai F z v):Ev P n F A (.pick x y z) ty v:= .of_run λa w b _=>by
 subst hp;simp only[execOp,hx.eval b,hz.eval b];simp[asBool]
end
abbrev aV:={v:Value//v.oneCell'=true}
def jr {α:Type}(Rr:Rp α)(vs:List aV)(ga:List (List α)):du where
 f ρ:=∀(i:Nat) (u:aV) (l:List α),vs[i]?=some u→ga[i]?=some l→(sl Rr u.1 l).f ρ
 mono ρ jn h k i u l h1 a:=(sl Rr u.1 l).mono _ _ h (k i u l h1 a)
class U5 (vs:List aV)(H:List ak)(α:outParam Type)(Rr:outParam (Rp α))(ga:outParam (List (List α))):Prop where
 mem:aB (jr Rr vs ga)∈H
instance (priority:=high) U5.here {α:Type}(vs:List aV)(Rr:Rp α)(ga:List (List α))(H:List ak):U5 vs (aB (jr Rr vs ga)::H) α Rr ga:=⟨aQ ..⟩
instance U5.there {α:Type}(vs:List aV)(Rr:Rp α)(ga:List (List α))(E:ak)(H:List ak)[h:U5 vs H α Rr ga]:U5 vs (E::H) α Rr ga:=⟨cO _ h.mem⟩
section
variable {n:Nat}{F:Fr}{c:Ctx}{H R:List ak}{T:Act→World→Prop}{e:TypeId}
theorem St.jr {α:Type}{Rr:Rp α}{vs:List aV}{ga:List (List α)}(k:Nat){u:aV}{l:List α}[hd:U5 vs H α Rr ga](hu:vs[k]?=some u)(a:ga[k]?=some l)(h:St n F (Mm c (aB (sl Rr u.1 l)::H)) T):St n F (Mm c H) T:=
 St.fact _ (λ_ _ hm=>dB.1 (hm.dM _ hd.mem) k u l hu a) h
theorem sX {α:Type}(Rr:Rp α)(ρ:Ro):(sl Rr (.slice none 0 0) []).f ρ:=⟨none,0,rfl,aR _,by unfold maxLen;omega,(λx hx=>by cases hx),.inl rfl⟩
theorem St.DI {α:Type}{Rr:Rp α}(h:St n F (Mm c (aB (sl bT (.slice none 0 0) [])::aB (J.jr Rr [] [])::H)) T):St n F (Mm c H) T:=
 St.fact _ (λ_ _ _=>show(J.jr Rr [] []).f _ from λi u l hu=>by simp at hu) (St.fact _ (λ_ _ _=>sX _ _) h)
theorem vf (vs:List aV):rows bT vs=vs.map Subtype.val:=by
 induction vs with
 |nil=>rfl
 |cons v vs a=>simp only[rows,List.flatMap_cons,List.map_cons]at a⊢;rw[a];rfl
end
end Go.J
namespace Go.J
open Go Go.ChangeShapes Go.WideShapes Go.ChangeAt Go.RowKit Go.Deep
theorem Dv.below {dr:Prop}{P:Program}{f:FuncId}{args:Array Value}{ds:List du}{v:Value}{W:World}(h:Dv dr P f args (ds.map J.aB) λu _=>u=v)(hd:∀d∈ds,d.f (J.all W)):Calls P f args W λe g=>e= .returned v∧Below W.heap.size W g:=by
 have st:Start (ds.map J.aB) (J.all W) W:=
  ⟨rfl,⟨rfl,λ_=>aR _⟩,rfl,aR _,λ_ _ _=>rfl,λ_ _ h=>h,Ro.le_refl _,λ_ _ _=>rfl,λE c=>by
   obtain⟨d,i,rfl⟩:=cz.1 c;exact dB.2 (hd d i),
   (λE c b a=>by
    obtain⟨d,hd,rfl⟩:=cz.1 c
    rw[jv]at a;cases a),
   by
    refine sD.2 (wi (R:=λ_ _=>True) ?_ (List.pairwise_of_forall λ_ _=>trivial));intro d j _ _ _ b a
    rw[jv]at a;cases a⟩
 refine(h W (J.all W) st).mono ?_;rintro e w' ⟨u,H',rfl,rfl,hm⟩;obtain⟨jn,hm⟩:=hm.out;exact⟨rfl,hm.os,hm.tape.1,hm.output,hm.size,λk hk=>hm.AJ k hk (j7 ds k)⟩
theorem kW.below {P:Program}{f:FuncId}{args:Array Value}{ds:List du}{v:Value}{W:World}(h:kW P f args ds v)(hd:∀d∈ds,d.f (J.all W)):Calls P f args W λe a=>e= .returned v∧Below W.heap.size W a:=Dv.below (dr:=False) h hd
section
variable {H:Type}{enc:TypeId×Value→H}{P:Program}{W:World}{α:Type}
theorem jd {a:Addr}{v:Value}(h:W.cell? a=some v):a.spot=none∧∃C e fr,W.heap[a.block]?=some (.cells C e fr)∧C[a.off]?=some v:=by
 refine⟨World.cell?_spot h,?_⟩;unfold World.cell? at h
 split at h
 ·rename_i C e fr b
  split at h
  ·cases h
  ·exact⟨C,e,fr,b,h⟩
 ·cases h
theorem DU {R:Rp α}:∀(xs:List α) (j:Nat) (u:Value),(rows R xs)[j]?=some u→∃i k x,xs[i]?=some x∧k<R.size∧j=i*R.size+k∧(R.cells x)[k]?=some u
 | [],j,u,h=>by simp[rows]at h
 |x::xs,j,u,h=>by
  simp only[rows,List.flatMap_cons]at h
  by_cases a:j<R.size
  ·rw[oc (by rw[R.len];exact a)]at h
   exact⟨0,j,x,rfl,a,by omega,h⟩
  ·rw[lp (by rw[R.len];omega),R.len]at h
   obtain⟨i,k,y,h1,b,d,c⟩:=DU xs (j-R.size) u h;exact⟨i+1,k,y,by simpa using h1,b,by rw[Nat.add_mul,Nat.one_mul];omega,c⟩
abbrev na (l:List Nat):Bool:=l.all (· ≤reachBytes)
theorem Dl {e:TypeId}:∀{ds:List (DataW H)} {x:DataW H},na (DataW.weightsAll P e ds)=true→x∈ds→na (x.weights P e)=true
 | [],_,_,h=>by cases h
 |d::ds,x,h,hx=>by
  simp only[na,DataW.weightsAll,List.all_append,Bool.and_eq_true]at h
  rcases cJ.1 hx with rfl|hx
  ·exact h.1
  ·exact Dl h.2 hx
theorem uW:∀{ts:List TypeId} {ds:List (DataW H)} {j:Nat} {t:TypeId} {d:DataW H},na (DataW.weightsEach P ts ds)=true→ts[j]?=some t→ds[j]?=some d→na (d.weights P t)=true
 | [],_,_,_,_,_,h,_=>by simp at h
 |_::_,[],_,_,_,_,_,h=>by simp at h
 |t::ts,d::ds,0,_,_,h,h1,a=>by
  simp only[List.getElem?_cons_zero,Option.some.injEq]at h1 a
  subst h1 a
  simp only[na,DataW.weightsEach,List.all_append,Bool.and_eq_true]at h
  exact h.1
 |t::ts,d::ds,j+1,_,_,h,h1,a=>by
  simp only[na,DataW.weightsEach,List.all_append,Bool.and_eq_true]at h
  exact uW (j:=j) h.2 (by simpa using h1) (by simpa using a)
theorem C8 {t e:TypeId}{es sp:List (DataW H)}(ht:P.underlying t=some (.slice e))(h:na ((DataW.slice es sp).weights P t)=true){x:DataW H}(hx:x∈es∨x∈sp):na (x.weights P e)=true:=by
 simp only[na,DataW.weights,ht,List.all_cons,List.all_append,Bool.and_eq_true]at h
 rcases hx with hx|hx
 ·exact Dl h.2.1 hx
 ·exact Dl h.2.2 hx
theorem Fo (R:Rp α){t e:TypeId}{M:List Value}{d:DataW H}{p:List MemPlace}{fuel:Nat}(ht:P.underlying t=some (.slice e))(U:P.cellsOf e=R.size)
 (V:∀(n:Nat) (cs:List Value) (y:DataW H×List MemPlace),cs.length=R.size→DataW.trod enc P W 0 (λ_=>true) true n e cs=some y→na (y.1.weights P e)=true→∃x:α,cs=R.cells x∧R.wf x)
 (N:na (d.weights P t)=true) (Y:DataW.trod enc P W 0 (λ_=>true) true fuel t M=some (d,p)):∃(v:Value) (xs:List α),M=[v]∧v.oneCell'=true∧(sl R v xs).f (J.all W)∧((d= .nil∧xs=[])∨∃es sp,d= .slice es sp∧es.length=xs.length):=by
 rcases open_slice ht Y with⟨A,o⟩|⟨a,len,cap,m,n,D,Pl,A,_,Z,hm,O,o,hx⟩
 ·exact⟨.slice none 0 0,[],A,rfl,sX _ _,.inl ⟨by simpa using (Prod.mk.inj o).1,rfl⟩⟩
 ·refine⟨.slice (some a) len cap,?_⟩
  rw[A]
  suffices B:∃xs:List α,(sl R (.slice (some a) len cap) xs).f (J.all W)∧((d= .nil∧xs=[])∨∃es sp,d= .slice es sp∧es.length=xs.length) by
   obtain⟨xs,h1,r⟩:=B;exact⟨xs,rfl,rfl,h1,r⟩
  simp only[if_true]at O
  subst O
  rcases Nat.eq_zero_or_pos len with rfl|acD
  ·exact⟨[],⟨_,m,rfl,aP _,hm,(λx hx=>by cases hx),.inl rfl⟩,.inr ⟨_,_,(Prod.mk.inj o).1,by simp⟩⟩
  have each:∀i,i<m→∃x:α,R.wf x∧∀k u,k<R.size→(R.cells x)[k]?=some u→W.cell? ((a.add (i*R.size)).add k)=some u:=λi E=>by
   obtain⟨cs,h1,r⟩:=hx i E;rw[U]at h1;obtain⟨_,F,h5⟩:=World.cells?_some h1
   obtain⟨x,rfl,hw⟩:=V n cs _ F r (C8 ht (by rw[(Prod.mk.inj o).1]at N;exact N) (by
    rcases eO i len with q|q
    ·exact .inl (by simp only[List.mem_map,List.mem_range];exact⟨i,q,rfl⟩)
    ·exact .inr (by simp;exact⟨i-len,by omega,by congr 1;omega⟩)))
   exact⟨x,hw,λk u hk hu=>by rw[h5 k hk,hu]⟩
  obtain⟨x0,HM⟩:=each 0 (by omega)
  haveI:Inhabited α:=⟨x0⟩
  obtain⟨X,G⟩:=choose_lt (α:=α) each
  have I:((List.range len).map X).length=len:=by simp
  obtain⟨b,off,spot⟩:=a
  have c:∃u,(R.cells (X 0))[0]?=some u:=by
   have:=R.len (X 0)
   have:=R.pos
   exact⟨_,bU (by omega)⟩
  obtain⟨u0,c⟩:=c
  have Q:=(G 0 (by omega)).2 0 u0 R.pos c
  rw[Nat.zero_mul,Deep.add_add]at Q;obtain⟨B,C,S,fr,w,_⟩:=jd Q
  have ac7:spot=none:=by simpa[Addr.add]using B
  subst ac7
  have w:W.heap[b]?=some (.cells C S fr):=by simpa[Addr.add]using w
  refine⟨(List.range len).map X,⟨some ⟨b,off,none⟩,m,by rw[I],by rw[I];exact Z,hm,?_,.inr ⟨b,off,C,S,fr,rfl,w,?_⟩⟩,.inr ⟨_,_,(Prod.mk.inj o).1,by simp⟩⟩
  ·intro x Wr
   obtain⟨i,E,rfl⟩:=cz.1 Wr;exact(G i (by have:=dt.1 E;omega)).1
  ·intro j u hj
   obtain⟨i,k,x,h1,r,h3,F⟩:=DU _ _ _ hj
   have T:=Et h1
   rw[I]at T
   have Sb:x=X i:=by simpa[T]using h1.symm
   subst Sb
   have:=(G i (by omega)).2 k u r F
   rw[Deep.add_add,←h3]at this;obtain⟨_,C',K,L,g,z⟩:=jd this
   have g:W.heap[b]?=some (.cells C' K L):=by
    by_cases s:j=0
    ·subst s;simpa[Addr.add]using g
    ·simpa[Addr.add,s]using g
   have z:C'[off+j]?=some u:=by
    by_cases s:j=0
    ·subst s;simpa[Addr.add]using z
    ·simpa[Addr.add,s]using z
   rw[w]at g
   simp only[Option.some.injEq,Obj.cells.injEq]at g
   rw[g.1];exact z
where Et {β:Type} {l:List β} {i:Nat} {x:β} (h:l[i]?=some x):i<l.length:=(fA.1 h).1
theorem TV (R:Rp α){t e:TypeId}{v:Value}{d:DataW H}{p:List MemPlace}{c:Nat}(ht:P.underlying t=some (.slice e))(g:P.cellsOf e=R.size)
 (i:∀(n:Nat) (cs:List Value) (y:DataW H×List MemPlace),cs.length=R.size→DataW.trod enc P W 0 (λ_=>true) true n e cs=some y→na (y.1.weights P e)=true→∃x:α,cs=R.cells x∧R.wf x)
 (j:Value.okWide P W .any c t v) (k:na (d.weights P t)=true) (h:DataW.Trod enc P W 0 (λ_=>true) true t v d p):∃xs:List α,(sl R v xs).f (J.all W)∧((d= .nil∧xs=[])∨∃es sp,d= .slice es sp∧es.length=xs.length):=by
 obtain⟨a0,a,b,rfl⟩:=okWide_slice ht j;obtain⟨fuel,l⟩:=h;obtain⟨v,xs,h1,_,m,o⟩:=Fo R ht g i k l
 obtain rfl:Value.slice a0 a b=v:=by simpa[Value.cells]using h1
 exact⟨xs,m,o⟩
theorem PQ {ts:List TypeId}{ds:List (DataW H)}(h:(DataW.weightsEach P ts ds).all (· ≤reachBytes)=true)(j:Nat){t e:TypeId}{d:DataW H}{xs:List α}(ht:ts[j]?=some t)(hd:ds[j]?=some d)(hu:P.underlying t=some (.slice e))
 (a:(d= .nil∧xs=[])∨∃es sp,d= .slice es sp∧es.length=xs.length) (n:Nat) (b:P.bytesOf e=n):xs.length*n≤140737488351232:=by
 subst b
 rcases a with⟨_,rfl⟩|⟨es,sp,rfl,c⟩
 ·simp
 ·have h1:=sized_slice h ht hd hu
  rw[←c]
  have f:es.length*P.bytesOf e≤(es.length+sp.length)*P.bytesOf e:=iU _ (by omega)
  unfold reachBytes at h1;omega
theorem wf_i64 {n:Int}(h:(Lit.int .i64 n).wf=true):aZ n:=by
 have a:IntKind.i64.min= -9223372036854775808:=rfl
 have e2:IntKind.i64.max=9223372036854775807:=rfl
 simpa[Lit.wf,a,e2,aZ]using h
theorem VD (s:ByteArray):Value.string s=sv s.data.toList:=by
 cases s;rfl
theorem WG {e:TypeId}(he:P.underlying e=some .string)(n:Nat)(cs:List Value)(y:DataW H×List MemPlace)(_:cs.length=1)(h:DataW.trod enc P W 0 (λ_=>true) true n e cs=some y)(a:na (y.1.weights P e)=true):∃x:ax,cs=bI.cells x∧bI.wf x:=by
 obtain⟨s,rfl,hy,hw⟩:=DataW.trod_string he h;refine⟨s.data.toList,by rw[VD];rfl,?_⟩;subst hy
 have b:s.data.toList.length≤140737488351232:=by
  simp only[na,DataW.weights,reachBytes,List.all_cons,List.all_nil,Bool.and_true]at a
  exact fM a
 exact b
end
end Go.J
namespace Go.J
open Go
def Es (P:Program)(n:Nat)(F:Fr)(op:Op)(ty:TypeId)(v:Value):Prop:=∀a w,Has n a F→(execOp a.eval (bare op ty)).run P w= .ok (.value v) w
def NP (Q:Exit→Act→World→Prop):Prop:=∀c a w,¬Q (.panic c) a w
theorem NP.then {K:Act→World→Prop}{Q:Exit→Act→World→Prop}(h:NP Q):NP (Exit.then K Q):=λc a w k=>h c a w k
theorem NP.inBlock {id:Nat}{Q:Exit→Act→World→Prop}(h:NP Q):NP (Exit.inBlock id Q):=λc a w k=>h c a w k
section
variable {P:Program}{ops:Array Oper}{Q:Exit→Act→World→Prop}
theorem wpOp_put {j:Nat}{g i:Oper}{v:Value}(s:ops[j]?=some i)(n:g.apart ops i=true)
 (o:∀cs b,g.op≠ .select cs b) (m:∀cs b,i.op≠ .select cs b) (p:NP Q) {K:Act→World→Prop} {a:Act} {w:World}
 (hy:∀w,(execOp a.eval g).run P w= .ok (.value v) w) (h:wpOp P ops Q j K (a.put g.dst v) w):
 wpOp P ops Q j (λq w'=>(∀w,(execOp q.eval g).run P w= .ok (.value v) w)∧K (q.put g.dst v) w') a w:=by
 obtain⟨h1,k,t⟩:=Oper.apart_spec n
 have l:∀u,∀w,(execOp (a.put i.dst u).eval g).run P w= .ok (.value v) w:=λu w=>by
  rw[execOp_put (ops:=ops) g o a i.dst u t];exact hy w
 have put_defers:∀(d:Deferred) (u:Value),({a with defers:=d::a.defers}:Act).put i.dst u={(a.put i.dst u)with defers:=d::a.defers}:=λd u=>by
  cases i.dst<;>rfl
 unfold wpOp at*
 simp only[s]at*
 rw[wanted_put i a g.dst v h1]at h
 split
 ·rename_i hw
  simp only[hw,if_true]at h
  rcases h with h|⟨h,y⟩
  ·left
   unfold Oper.wp at*;rw[execOp_put i m a g.dst v h1]at h
   generalize (execOp a.eval i).run P w=r at*
   cases r with
   |ok z w'=>
    cases z<;>simp only[Oper.upon]at h⊢
    case value u=>exact⟨l u,by rw[←Act.put_comm a v u k];exact h⟩
    case skip=>exact⟨l _,by rw[←Act.put_comm a v undef k];exact h⟩
    case defer d=>
     refine⟨λw=> ?_,?_⟩
     ·rw[put_defers];exact l undef w
     ·have e:({(a.put g.dst v)with defers:=d::(a.put g.dst v).defers}:Act).put i.dst undef=(({a with defers:=d::a.defers}:Act).put i.dst undef).put g.dst v:=by
       have:=Act.put_comm ({a with defers:=d::a.defers}:Act) v undef k
       rw[←this]
       cases g.dst<;>rfl
      rw[←e];exact h
    case enter f args=>
     refine Calls.mono h λe A he=> ?_
     cases e with
     |returned u=>exact⟨l u,by rw[←Act.put_comm a v u k];exact he⟩
     |panicked c=>exact(p _ _ _ he).elim
     |outgrown=>exact he
    case row B args=>exact Rows.mono h λu A he=>⟨l u,by rw[←Act.put_comm a v u k];exact he⟩
    all_goals exact h
   |halt x w'=>
    cases x<;>simp only[Oper.upon]at h⊢
    all_goals first|exact(p _ _ _ h).elim|exact h
  ·right
   refine⟨?_,y⟩;unfold Oper.asks at*;rw[execOp_put i m a g.dst v h1]at h;exact h
 ·rename_i hw
  simp only[hw]at h
  exact⟨l _,by rw[←Act.put_comm a v undef k];exact h⟩
theorem wpOp_mono {j:Nat}{K d:Act→World→Prop}{a:Act}{w:World}(h:∀a w,K a w→d a w)(b:wpOp P ops Q j K a w):wpOp P ops Q j d a w:=by
 unfold wpOp at*
 split
 ·rename_i c;simp only[c]at b;exact h _ _ b
 ·rename_i o c
  simp only[c]at b
  split
  ·rename_i hw;simp only[hw,if_true]at b;exact b.imp (Oper.wp_mono h) id
  ·rename_i hw;simp only[hw]at b;exact h _ _ b
theorem wpAny_first {md:Region.Mode}{i:Nat}{c:Oper}{v:Value}(r:ops[i]?=some c)(A:c.guard=none)(B:NP Q)(s:∀(j:Nat) (o:Oper) cs b,ops[j]?=some o→o.op≠ .select cs b):
 ∀(fuel:Nat) (listed:Array Bool) (a:Act) (w:World),
  (∀j f,ops[j]?=some f→j≠i→listed.getD j true=false→(∀e∈f.after,Region.binds md e=true→e.on≠i)→c.apart ops f=true)→
  i∈Region.ready md ops listed→(∀w,(execOp a.eval c).run P w= .ok (.value v) w)→
  wpAny P md ops Q fuel (listed.setIfInBounds i true) (a.put c.dst v) w→wpAny P md ops Q (fuel+1) listed a w:=by
 have self:∀{K:Act→World→Prop} {a:Act} {w:World},(∀w,(execOp a.eval c).run P w= .ok (.value v) w)→K (a.put c.dst v) w→wpOp P ops Q i K a w:=by
  intro K a w hy C;unfold wpOp
  simp only[r,Region.wanted,A,if_true]
  left
  unfold Oper.wp;rw[hy w];exact C
 intro fuel
 induction fuel with
 |zero=>
  intro listed a w _ g hy H;refine⟨λh=>(by rw[h]at g;cases g),λj n=> ?_⟩
  by_cases d:j=i
  ·subst d;exact self hy H
  ·have:=ready_mono n d
   rw[H.1]at this
   cases this
 |succ fuel D=>
  intro listed a w t g hy H;refine⟨λh=>(by rw[h]at g;cases g),λj n=> ?_⟩
  by_cases d:j=i
  ·subst d;exact self hy H
  ·have h1:=H.2 j (ready_mono n d)
   obtain⟨u,f,l,E⟩:=mem_ready.1 n
   have p:∀e∈f.after,Region.binds md e=true→e.on≠i:=λe he F heq=>by
    have h1:=E e he F
    have x:=(mem_ready.1 g).1
    rw[heq]at h1
    rcases eO i listed.size with q|q
    ·simp[q]at x h1;rw[x]at h1;cases h1
    ·simp[Array.getElem?_eq_none q]at h1
   have G:=wpOp_put l (t j f l d u p) (λcs b=>s i c cs b r) (λcs b=>s j f cs b l) B hy h1
   have I:∀k ok,ops[k]?=some ok→k≠i→(listed.setIfInBounds j true).getD k true=false→
    (∀e∈ok.after,Region.binds md e=true→e.on≠i)→c.apart ops ok=true:=λk ok hk J y L=>by
    refine t k ok hk J ?_ L
    by_cases m:j=k
    ·subst m;exact u
    ·rw[getD_set_ne true m]at y;exact y
   refine wpOp_mono (λM w' z=>D (listed.setIfInBounds j true) M w' I (ready_mono g (Ne.symm d)) z.1 ?_) G;rw[Array.setIfInBounds_comm _ _ d];exact z.2
theorem St.defer {n:Nat}{F:Fr}{A:World→Prop}{f d:Nat}{listed:Array Bool}{op:Op}{ty:TypeId}{pos:String}{after:Array Edge}{v:Value}(i:Nat)
 (g:NP Q) (j:Region.noSelect ops=true) (c:ops[i]?=some {dst:=some d,op:=op,type:=ty,pos:=pos,after:=after,guard:=none}) (k:Es P n F op ty v)
 (b:((Region.ready .any ops listed).contains i&&Region.free .any ops listed i)=true) (hd:Nat.ble (d+1) n=true)
 (h:St n ((d,v)::F) A (wpAny P .any ops Q f (listed.setIfInBounds i true))):St n F A (wpAny P .any ops Q (f+1) listed):=by
 intro a w e hw
 simp only[Bool.and_eq_true]at b
 refine wpAny_first c rfl g (Region.noSelect_spec j) f listed a w (Region.free_spec c b.2) (by simpa using b.1) (λw'=> ?_) (h _ w (e.put (dR hd) v) hw);rw[gu];exact k a w' e
end
section
variable {P:Program}{n:Nat}{F:Fr}{c:Ctx}{H:List ak}{ty:TypeId}{x y:Operand}{v:Value}{t e:TypeId}
theorem NP.body {fn:Func}{R:Value→List ak→World→Prop}:NP (bodyPost P fn λe w'=>∃v H',e= .returned v∧R v H' w'):=λc a w h=>by
 obtain⟨_,_,_,h1,_⟩:=h
 cases h1
theorem Es.move (hx:ai F x v):Es P n F (.move x) ty v:=λa w b=>by simp[execOp,hx.eval b]
theorem Es.assign (hx:ai F x v):Es P n F (.assign x) ty v:=λa w b=>by simp[execOp,hx.eval b]
theorem Es.extract {vs:List Value}{i:Nat}(hx:ai F x (.tuple vs.toArray))(b:vs[i]?=some v):Es P n F (.extract x i) ty v:=λa w c=>by
 simp[execOp,hx.eval c,Instr.extract,b]
theorem Es.idx {b o m cap size k:Nat}{i:Int}{kd:IntKind}(d:v= .slice (some ⟨b,o,none⟩) m cap)(hx:ai F x v)(hy:ai F y (.int kd i))(ht:P.underlying t=some (.slice e))(f:(P.info? e).map (·.size)=some size)
 (g:i=k) (hk:k<m):Es P n F (.indexAddr t x y) ty (cZ v size k 0):=λa w c=>by
 subst d;obtain⟨inf,h,j⟩:=dp.1 f;subst g
 simp[execOp,hx.eval c,hy.eval c,Instr.indexAt,asIntOf,run_underlying ht,sizeOf,typeInfo,h,j,hk,eG,Addr.add_lit]
theorem St.lB {T:Act→World→Prop}{size m:Nat}{cs:List Value}(v:Value)[d:xB v H e size m cs](hm:0<m)(h:∀b cap,v= .slice (some ⟨b,0,none⟩) m cap→St n F (Mm c H) T):St n F (Mm c H) T:=by
 intro a w f hw;obtain⟨ρ,i⟩:=hw.out
 rcases(i.row d).2 with⟨rfl,rfl⟩|⟨g,cap,cur,h1,_⟩
 ·omega
 ·exact h g cap h1 a w f hw
theorem St.Jf {α:Type}{Rr:Rp α}{xs:List α}{T:Act→World→Prop}(v:Value)[hd:sH v H α Rr xs](hm:0<xs.length)(h:∀b o cap,v= .slice (some ⟨b,o,none⟩) xs.length cap→St n F (Mm c H) T):St n F (Mm c H) T:=by
 intro a w f hw;obtain⟨ρ,g⟩:=hw.out;obtain⟨ad,cap,h1,_,_,_,d⟩:=g.sl hd
 rcases d with d|⟨b,off,C,e,fr,i,_⟩
 ·subst d;simp at hm
 ·subst i;exact h b off cap h1 a w f hw
end
theorem St.slot {n:Nat}{F:Fr}{A:World→Prop}{T:Act→World→Prop}{v:Value}(k:Nat)(v':Value)(hk:look F k=some v)(h:v=v')(d:St n ((k,v')::F) A T):St n F A T:=by
 subst h
 refine λa w b hw=>d a w ⟨b.size,b.defers,λt u hu=> ?_⟩ hw
 simp only[look]at hu
 cases c:Nat.beq t k with
 |true=>
  have e:=mr c
  subst e
  simp only[c,cond_true,Option.some.injEq]at hu
  subst hu;exact b.slot _ _ hk
 |false=>
  simp only[c,cond_false]at hu
  exact b.slot _ _ hu
section
variable {ι:Type}{P:Program}{C:ι→World→Prop}{ops:Array Oper}{Q:Exit→Act→World→Prop}
def WR (P:Program)(C:ι→World→Prop)(ops:Array Oper)(Q:Exit→Act→World→Prop):Nat→Array Bool→Act→ι→Prop
 |0,listed,a,r=>Region.ready .any ops listed=[]∧∀w,C r w→Q .normal a w
 |fuel+1,listed,a,r=>(Region.ready .any ops listed=[]→∀w,C r w→Q .normal a w)∧
  ∀i∈Region.ready .any ops listed,∀w,C r w→wpOp P ops Q i (λb w'=>∃r',C r' w'∧WR P C ops Q fuel (listed.setIfInBounds i true) b r') a w
theorem WR.any:∀(fuel:Nat) (listed:Array Bool) (a:Act) (r:ι) (w:World),C r w→WR P C ops Q fuel listed a r→wpAny P .any ops Q fuel listed a w
 |0,_,_,_,_,hw,h=>⟨h.1,h.2 _ hw⟩
 |fuel+1,_,_,_,_,hw,h=>⟨λb=>h.1 b _ hw,λi c=>wpOp_mono (λd w' ⟨r',e,hk⟩=>WR.any fuel _ d r' w' e hk) (h.2 i c _ hw)⟩
def YS (P:Program)(C:ι→World→Prop)(ops:Array Oper)(o:Oper)(v:Value)(a:Act):Prop:=
 (Region.wanted o (yielded ops a.tmps)=true∧∀r w,C r w→o.quietAt P a (C r) w v)∨(Region.wanted o (yielded ops a.tmps)=false∧v=undef)
theorem YS.of_same {o:Oper}{v:Value}{a b:Act}(hy:YS P C ops o v a)(he:execOp b.eval o=execOp a.eval o)
 (hw:Region.wanted o (yielded ops b.tmps)=Region.wanted o (yielded ops a.tmps)):YS P C ops o v b:=by
 unfold YS Oper.quietAt at*;rw[he,hw];exact hy
theorem YS.self {i:Nat}{o:Oper}{v:Value}{a:Act}(c:ops[i]?=some o)(hy:YS P C ops o v a){K:Act→World→Prop}{r:ι}{w:World}(hw:C r w)(h:∀w',C r w'→K (a.put o.dst v) w'):wpOp P ops Q i K a w:=by
 have h1:YieldsIn P ops (C r) o v a:=hy.imp (λ⟨h1,d⟩=>⟨h1,d r⟩) id
 exact wpOp_of_qOp hw (K:=λb=>b=a.put o.dst v) (λb w' f e=>by rw[e];exact h w' f) (h1.qOp c rfl)
theorem Lv {j:Nat}{g i:Oper}{v:Value}(t:ops[j]?=some i)(n:g.apart ops i=true)
 (o:∀cs b,g.op≠ .select cs b) (m:∀cs b,i.op≠ .select cs b) (p:NP Q) {K:Act→World→Prop} {a:Act} {w:World}
 (hy:YS P C ops g v a) (h:wpOp P ops Q j K (a.put g.dst v) w):
 wpOp P ops Q j (λq w'=>YS P C ops g v q∧K (q.put g.dst v) w') a w:=by
 obtain⟨h1,k,s⟩:=Oper.apart_spec n
 have l:∀u,YS P C ops g v (a.put i.dst u):=λu=>hy.of_same (execOp_put (ops:=ops) g o a i.dst u s) (wanted_put g a i.dst u s)
 have put_defers:∀(d:Deferred) (u:Value),({a with defers:=d::a.defers}:Act).put i.dst u={(a.put i.dst u)with defers:=d::a.defers}:=λd u=>by
  cases i.dst<;>rfl
 unfold wpOp at*
 simp only[t]at*
 rw[wanted_put i a g.dst v h1]at h
 split
 ·rename_i hw
  simp only[hw,if_true]at h
  rcases h with h|⟨h,y⟩
  ·left
   unfold Oper.wp at*;rw[execOp_put i m a g.dst v h1]at h
   generalize (execOp a.eval i).run P w=r at*
   cases r with
   |ok z w'=>
    cases z<;>simp only[Oper.upon]at h⊢
    case value u=>exact⟨l u,by rw[←Act.put_comm a v u k];exact h⟩
    case skip=>exact⟨l _,by rw[←Act.put_comm a v undef k];exact h⟩
    case defer d=>
     refine⟨?_,?_⟩
     ·rw[put_defers];exact(l undef).of_same rfl rfl
     ·have e:({(a.put g.dst v)with defers:=d::(a.put g.dst v).defers}:Act).put i.dst undef=(({a with defers:=d::a.defers}:Act).put i.dst undef).put g.dst v:=by
       have:=Act.put_comm ({a with defers:=d::a.defers}:Act) v undef k
       rw[←this]
       cases g.dst<;>rfl
      rw[←e];exact h
    case enter f args=>
     refine Calls.mono h λe A he=> ?_
     cases e with
     |returned u=>exact⟨l u,by rw[←Act.put_comm a v u k];exact he⟩
     |panicked c=>exact(p _ _ _ he).elim
     |outgrown=>exact he
    case row B args=>exact Rows.mono h λu A he=>⟨l u,by rw[←Act.put_comm a v u k];exact he⟩
    all_goals exact h
   |halt x w'=>
    cases x<;>simp only[Oper.upon]at h⊢
    all_goals first|exact(p _ _ _ h).elim|exact h
  ·right
   refine⟨?_,y⟩;unfold Oper.asks at*;rw[execOp_put i m a g.dst v h1]at h;exact h
 ·rename_i hw
  simp only[hw]at h
  exact⟨l _,by rw[←Act.put_comm a v undef k];exact h⟩
theorem WR.first {i:Nat}{l:Oper}{v:Value}(p:ops[i]?=some l)(D:NP Q)(x:∀(j:Nat) (o:Oper) cs b,ops[j]?=some o→o.op≠ .select cs b):
 ∀(fuel:Nat) (listed:Array Bool) (a:Act) (r:ι),
  (∀j d,ops[j]?=some d→j≠i→listed.getD j true=false→(∀e∈d.after,Region.binds .any e=true→e.on≠i)→l.apart ops d=true)→
  i∈Region.ready .any ops listed→YS P C ops l v a→
  WR P C ops Q fuel (listed.setIfInBounds i true) (a.put l.dst v) r→WR P C ops Q (fuel+1) listed a r:=by
 intro fuel
 induction fuel with
 |zero=>
  intro listed a r _ f hy H;refine⟨λh=>(by rw[h]at f;cases f),λj n w hw=> ?_⟩
  by_cases c:j=i
  ·subst c;exact hy.self p hw λw' q=>⟨r,q,H⟩
  ·have:=ready_mono n c
   rw[H.1]at this
   cases this
 |succ fuel E=>
  intro listed a r y f hy H;refine⟨λh=>(by rw[h]at f;cases f),λj n w hw=> ?_⟩
  by_cases c:j=i
  ·subst c;exact hy.self p hw λw' q=>⟨r,q,H⟩
  ·have h1:=H.2 j (ready_mono n c) w hw
   obtain⟨z,d,g,F⟩:=mem_ready.1 n
   have s:∀e∈d.after,Region.binds .any e=true→e.on≠i:=λe he G heq=>by
    have h1:=F e he G
    have A:=(mem_ready.1 f).1
    rw[heq]at h1
    rcases eO i listed.size with t|t
    ·simp[t]at A h1;rw[A]at h1;cases h1
    ·simp[Array.getElem?_eq_none t]at h1
   have I:=Lv g (y j d g c z s) (λcs b=>x i l cs b p) (λcs b=>x j d cs b g) D hy h1
   have J:∀k ok,ops[k]?=some ok→k≠i→(listed.setIfInBounds j true).getD k true=false→
    (∀e∈ok.after,Region.binds .any e=true→e.on≠i)→l.apart ops ok=true:=λk ok hk K B L=>by
    refine y k ok hk K ?_ L
    by_cases m:j=k
    ·subst m;exact z
    ·rw[getD_set_ne true m]at B;exact B
   refine wpOp_mono (λM w' u=> ?_) I;obtain⟨u,r',N,O⟩:=u;refine⟨r',N,E (listed.setIfInBounds j true) M r' J (ready_mono f (Ne.symm c)) u ?_⟩;rw[Array.setIfInBounds_comm _ _ c];exact O
end
class yM (bs:List Nat)(H:List ak)(r R:outParam (List ak)):Prop where
 perm:H.Perm (R++r)
instance yM.nil (H:List ak):yM [] H [] H:=⟨by simp⟩
instance yM.cons (b:Nat)(bs:List Nat)(H H1 r R:List ak)(o:Obj)[h:l3 b H o H1][k:yM bs H1 r R]:yM (b::bs) H (aW b o::r) R:=
 ⟨(h.perm.trans (k.perm.cons _)).trans qj.symm⟩
section app
instance (priority:=low) lW.app (d:du)(L R:List ak)[h:lW d L]:lW d (L++R):=⟨kV _ h.mem⟩
instance (priority:=low) B8.app (b:Nat)(o:Obj)(L R:List ak)[h:B8 b L o]:B8 b (L++R) o:=⟨kV _ h.mem⟩
instance (priority:=low) sH.app {α:Type}(v:Value)(Rr:Rp α)(xs:List α)(L R:List ak)[h:sH v L α Rr xs]:sH v (L++R) α Rr xs:=⟨kV _ h.mem⟩
instance (priority:=low) rY.app (b:Nat)(v:Value)(L R:List ak)[h:rY b L v]:rY b (L++R) v:=⟨kV _ h.mem⟩
instance (priority:=low) xB.app (v:Value)(e:TypeId)(size n:Nat)(cs:List Value)(L R:List ak)[h:xB v L e size n cs]:xB v (L++R) e size n cs:=⟨kV _ h.mem⟩
end app
def SW (P:Program)(ops:Array Oper)(Q:Exit→Act→World→Prop)(n:Nat)(F:Fr)(c:Ctx)(Fp r:List ak)(f:Nat)(listed:Array Bool):Prop:=
 ∀a,Has n a F→WR P (λR=>Mm c (Fp++R)) ops Q f listed a r
def KW (P:Program)(ops:Array Oper)(Q:Exit→Act→World→Prop)(n:Nat)(c:Ctx)(Fp:List ak)(f:Nat)(listed:Array Bool)(a:Act)(w:World):Prop:=
 ∃F r,Has n a F∧Mm c (Fp++r) w∧SW P ops Q n F c Fp r f listed
section
variable {P:Program}{ops:Array Oper}{Q:Exit→Act→World→Prop}{n:Nat}{F:Fr}{c:Ctx}{H Fp r r' C':List ak}{f:Nat}{listed:Array Bool}
theorem St.par {id:Nat}{l:List Oper}(bs:List Nat)[tk:yM bs H r Fp](hm:P.follows .mixedOrders=true)
 (h:SW P l.toArray Q n F c Fp r l.length (Array.replicate l.length false)):St n F (Mm c H) ((Code.region id l.toArray true).wp P Q):=by
 intro a w b hw;refine wp_region_any hm ?_
 have h1:=h a b
 have d:Mm c (Fp++r) {w with drawn:=w.drawn+1}:=by
  obtain⟨ρ,k⟩:=((Mm.drawn c H) w hw).out;exact Mm.mk (k.perm tk.perm)
 simpa using WR.any (C:=λR=>Mm c (Fp++R)) l.length _ a r _ d h1
theorem SW.done (b:Region.ready .any ops listed=[])[ap:App Fp r C'](h:St n F (Mm c C') (Q .normal)):SW P ops Q n F c Fp r f listed:=by
 intro a e
 have h1:∀w,Mm c (Fp++r) w→Q .normal a w:=λw hw=>h a w e (by rw[←ap.eq];exact hw)
 cases f with
 |zero=>exact⟨b,h1⟩
 |succ f=>exact⟨λ_=>h1,λi d=>by rw[b]at d;cases d⟩
theorem SW.perm {b:Fr}(d:Sub F b)(hp:∀w,Mm c (Fp++r') w→Mm c (Fp++r) w)(h:SW P ops Q n F c Fp r (f+1) listed):SW P ops Q n b c Fp r' (f+1) listed:=by
 intro a e
 have h1:=h a (e.sub d)
 exact⟨λg w hw=>h1.1 g w (hp w hw),λi j w hw=>h1.2 i j w (hp w hw)⟩
theorem SW.go [tk:eT Fp H r'](h:SW P ops Q n F c Fp r' f listed):St n F (Mm c H) (KW P ops Q n c Fp f listed):=
 λ_ _ a hw=>⟨F,r',a,hw.take,h⟩
theorem SW.each [ap:App Fp r C'](b:Region.ready .any ops listed≠ [])(h:∀i∈Region.ready .any ops listed,St n F (Mm c C') (wpOp P ops Q i (KW P ops Q n c Fp f (listed.setIfInBounds i true)))):SW P ops Q n F c Fp r (f+1) listed:=by
 intro a d;refine⟨λe=>absurd e b,λi g w hw=> ?_⟩;refine wpOp_mono ?_ (h i g a w d (by rw[←ap.eq];exact hw));rintro j w' ⟨m,r',h1,k,l⟩;exact⟨r',k,l j h1⟩
theorem SW.afH {i:Nat}{o:Oper}[ap:App Fp r C'](a:Region.ready .any ops listed=[i])(b:ops[i]?=some o)
 (h:St n F (Mm c C') (wpList P ops (Exit.then (KW P ops Q n c Fp f (listed.setIfInBounds i true)) Q) [o])):SW P ops Q n F c Fp r (f+1) listed:=
 SW.each (by rw[a];simp) (by rw[a];intro k hk;rw[bO.1 hk];exact St.one b h)
theorem SW.afI {i j:Nat}{o o':Oper}[ap:App Fp r C'](b:Region.ready .any ops listed=[i,j])(d:ops[i]?=some o)(a:ops[j]?=some o')
 (h:St n F (Mm c C') (wpList P ops (Exit.then (KW P ops Q n c Fp f (listed.setIfInBounds i true)) Q) [o]))
 (e:St n F (Mm c C') (wpList P ops (Exit.then (KW P ops Q n c Fp f (listed.setIfInBounds j true)) Q) [o'])):SW P ops Q n F c Fp r (f+1) listed:=
 SW.each (by rw[b];simp) (by
  rw[b];intro k hk
  simp only[List.mem_cons,List.not_mem_nil,or_false]at hk
  rcases hk with rfl|rfl
  ·exact St.one d h
  ·exact St.one a e)
theorem SW.Pt {i j k:Nat}{o o' a:Oper}[ap:App Fp r C'](g:Region.ready .any ops listed=[i,j,k])(l:ops[i]?=some o)(b:ops[j]?=some o')(d:ops[k]?=some a)
 (h:St n F (Mm c C') (wpList P ops (Exit.then (KW P ops Q n c Fp f (listed.setIfInBounds i true)) Q) [o]))
 (p:St n F (Mm c C') (wpList P ops (Exit.then (KW P ops Q n c Fp f (listed.setIfInBounds j true)) Q) [o']))
 (e:St n F (Mm c C') (wpList P ops (Exit.then (KW P ops Q n c Fp f (listed.setIfInBounds k true)) Q) [a])):SW P ops Q n F c Fp r (f+1) listed:=
 SW.each (by rw[g];simp) (by
  rw[g];intro m hm
  simp only[List.mem_cons,List.not_mem_nil,or_false]at hm
  rcases hm with rfl|rfl|rfl
  ·exact St.one l h
  ·exact St.one b p
  ·exact St.one d e)
section
variable {d:Nat}{op:Op}{ty:TypeId}{pos:String}{after:Array Edge}{v:Value}
theorem SW.defer (i:Nat)(j:NP Q)(k:Region.noSelect ops=true)(e:ops[i]?=some {dst:=some d,op:=op,type:=ty,pos:=pos,after:=after,guard:=none})(l:∀R,Ev P n F (Mm c (Fp++R)) op ty v)
 (b:((Region.ready .any ops listed).contains i&&Region.free .any ops listed i)=true) (hd:Nat.ble (d+1) n=true)
 (h:SW P ops Q n ((d,v)::F) c Fp r f (listed.setIfInBounds i true)):SW P ops Q n F c Fp r (f+1) listed:=by
 intro a g
 simp only[Bool.and_eq_true]at b
 refine WR.first (v:=v) e j (Region.noSelect_spec k) f listed a r (Region.free_spec e b.2) (by simpa using b.1) ?_ (h _ (g.put (dR hd) v));exact .inl ⟨rfl,λR w hw=>(l R).quietAt g hw⟩
theorem SW.N5 (i:Nat){j dj:Nat}{want:Bool}{u:Value}(cd:Bool)(p:NP Q)(q:Region.noSelect ops=true)(m:ops[i]?=some {dst:=some d,op:=op,type:=ty,pos:=pos,after:=after,guard:=some (j,want)})
 (s:(ops[j]?).bind (·.dst)=some dj) (t:look F dj=some u) (hu:(cd=true→u= .bool want)∧(cd=false→u= .bool (!want)∨u=undef))
 (x:∀R,cd=true→Ev P n F (Mm c (Fp++R)) op ty v)
 (e:((Region.ready .any ops listed).contains i&&Region.free .any ops listed i)=true) (hd:Nat.ble (d+1) n=true)
 (h:SW P ops Q n ((d,gv cd v)::F) c Fp r f (listed.setIfInBounds i true)):SW P ops Q n F c Fp r (f+1) listed:=by
 intro a g
 simp only[Bool.and_eq_true]at e
 have b:=mL (l:=ops) (o:={dst:=some d,op:=op,type:=ty,pos:=pos,after:=after,guard:=some (j,want)}) rfl s (g.slot _ _ t) hu
 refine WR.first (v:=gv cd v) m p (Region.noSelect_spec q) f listed a r (Region.free_spec m e.2) (by simpa using e.1) ?_ (h _ (g.put (dR hd) _))
 cases k:cd with
 |true=>
  rw[k]at b;rw[cr rfl];exact .inl ⟨b,λR w hw=>(x R k).quietAt g hw⟩
 |false=>
  rw[k]at b;rw[cL rfl];exact .inr ⟨b,rfl⟩
end
section
variable {d:Nat}{op:Op}{ty:TypeId}{pos:String}{after:Array Edge}{dj:Nat}{j:Nat}(i:Nat)(v:Value)
theorem SW.gt {g:Bool}(a:NP Q)(b:Region.noSelect ops=true)(e:ops[i]?=some {dst:=some d,op:=op,type:=ty,pos:=pos,after:=after,guard:=some (j,true)})(k:(ops[j]?).bind (·.dst)=some dj)(l:look F dj=some (.bool g))
 (m:∀R,g=true→Ev P n F (Mm c (Fp++R)) op ty v) (o:((Region.ready .any ops listed).contains i&&Region.free .any ops listed i)=true) (hd:Nat.ble (d+1) n=true)
 (h:SW P ops Q n ((d,J.gv g v)::F) c Fp r f (listed.setIfInBounds i true)):SW P ops Q n F c Fp r (f+1) listed:=SW.N5 i g a b e k l (WO g) m o hd h
theorem SW.gf {g:Bool}(a:NP Q)(b:Region.noSelect ops=true)(e:ops[i]?=some {dst:=some d,op:=op,type:=ty,pos:=pos,after:=after,guard:=some (j,false)})(k:(ops[j]?).bind (·.dst)=some dj)(l:look F dj=some (.bool g))
 (m:∀R,(!g)=true→Ev P n F (Mm c (Fp++R)) op ty v) (o:((Region.ready .any ops listed).contains i&&Region.free .any ops listed i)=true) (hd:Nat.ble (d+1) n=true)
 (h:SW P ops Q n ((d,J.gv (!g) v)::F) c Fp r f (listed.setIfInBounds i true)):SW P ops Q n F c Fp r (f+1) listed:=SW.N5 i (!g) a b e k l (WN g) m o hd h
end
theorem SW.slot (k:Nat){v:Value}(v':Value)(hk:look F k=some v)(h:v=v')(g:SW P ops Q n ((k,v')::F) c Fp r f listed):SW P ops Q n F c Fp r f listed:=by
 subst h
 refine λa b=>g a ⟨b.size,b.defers,λt u hu=> ?_⟩
 simp only[look]at hu
 cases d:Nat.beq t k with
 |true=>
  have e:=mr d
  subst e
  simp only[d,cond_true,Option.some.injEq]at hu
  subst hu;exact b.slot _ _ hk
 |false=>
  simp only[d,cond_false]at hu
  exact b.slot _ _ hu
theorem Has.swap {a:Act}{b c:Nat}{v1 v2:Value}(f:Nat.beq b c=false)(h:Has n a ((b,v1)::(c,v2)::F)):Has n a ((c,v2)::(b,v1)::F):=by
 refine⟨h.size,h.defers,λt u hu=>h.slot t u ?_⟩
 simp only[look]at hu⊢
 cases d:Nat.beq t b with
 |true=>
  have e:=mr d
  subst e
  simp only[f,cond_false,d,cond_true]at hu⊢
  exact hu
 |false=>
  simp only[d,cond_false]at hu⊢
  exact hu
end
theorem Ev.Cw {P:Program}{n:Nat}{F:Fr}{A:World→Prop}{ty t:TypeId}{x:Operand}{xs:Array Value}{b:Array Field}{fd:Field}{i:Nat}{v:Value}(hx:ai F x (.agg xs))(ht:P.underlying t=some (.struct b))(c:b[i]?=some fd)
 (hk:(match P.underlying fd.type with|some (.struct _)|some (.array _ _)|none=>false|_=>true)=true) (d:xs[fd.offset]?=some v):Ev P n F A (.field t x i) ty v:= .of_run λa w e _=>by
 simp[execOp,hx.eval e,Instr.field,run_underlying ht,c,asAgg,Oh hk d]
theorem eC.Z8 {P:Program}{f:FuncId}{fn:Func}{cd:Code}{args:List Value}{u:Value}{d1 d2 d3 d4 d5:du}(n:Nat)
 (a:P.funcs[f]?=some fn) (b:fn.body=some cd) (d:fn.ntmps=n) (g:Nat.ble args.length n=true)
 (h:∀c:Ctx,St n (tH 0 args) (Mm c [aB d1,aB d2,aB d3,aB d4,aB d5]) (cd.wp P (bodyPost P fn λe w'=>∃v H',e= .returned v∧v=u∧Mm c H' w'))):eC P f args.toArray [d1,d2,d3,d4,d5] u:=dz.body n a b d g h
theorem fJ:(∀b:Bool,(b&&true)=b)∧(∀b:Bool,(true&&b)=b)∧(∀(p:Prop) [Decidable p],(decide p=true)=p)∧(∀(p:Prop) [Decidable p],(decide p=false)↔¬p)∧(∀a b:Bool,((a&&b)=true)=(a=true∧b=true))∧(∀a b:Bool,((a||b)=true)=(a=true∨b=true))∧
 (∀a b:Bool,(a&&b)=false↔a=false∨b=false)∧(∀a b:Bool,(a||b)=false↔a=false∧b=false)∧(∀b:Bool,((!b)=true)=(b=false))∧(∀b:Bool,((!b)=false)=(b=true))∧(∀{α:Type} [BEq α] [LawfulBEq α] (a b:α),(a==b)=true↔a=b)∧(∀{α:Type} [BEq α] [LawfulBEq α] (a b:α),(a==b)=false↔a≠b)∧
 (∀a b:Int,¬a<b↔b≤a)∧(∀a b:Int,¬a≤b↔b<a):=
 ⟨λ_=>Bool.and_true _,λ_=>IY _,λ_ _=>fy,λ_ _=>sk,qi,Bool.or_eq_true,λ_ _=>Bool.and_eq_false_iff,λ_ _=>Bool.or_eq_false_iff,λ_=>Bool.not_eq_true' _,λ_=>Bool.not_eq_false' _,λ_ _=>beq_iff_eq,λ_ _=>sj,λ_ _=>Int.not_lt,λ_ _=>Int.not_le⟩
section
variable {P:Program}{n:Nat}{F:Fr}{A:World→Prop}{Q:Exit→Act→World→Prop}{ops:Array Oper}{d:Nat}{ty:TypeId}{pos:String}{after:Array Edge}{rest:List Oper}{x:Operand}{v:Value}{c:Ctx}{H:List ak}{t e:TypeId}
theorem St.mv (h:St n ((d,v)::F) A (wpList P ops Q rest))(hx:ai F x v:=by exact .mk rfl)(hd:Nat.ble (d+1) n=true:=by rfl):St n F A (wpList P ops Q ({dst:=some d,op:= .move x,type:=ty,pos:=pos,after:=after,guard:=none}::rest)):=St.ev _ (Ev.move hx) hd h
theorem St.asg (h:St n ((d,v)::F) A (wpList P ops Q rest))(hx:ai F x v:=by exact .mk rfl)(hd:Nat.ble (d+1) n=true:=by rfl):St n F A (wpList P ops Q ({dst:=some d,op:= .assign x,type:=ty,pos:=pos,after:=after,guard:=none}::rest)):=St.ev _ (Ev.assign hx) hd h
theorem uZ {α:Type}:∀(ps:List (Nat×α)) (k:Nat),ps.map (·.1)=List.range' k ps.length→ps=((ps.map (·.2)).zipIdx k).map λp=>(p.2,p.1)
 | [],_,_=>rfl
 |(i,a)::ps,k,h=>by
  simp only[List.map_cons,List.length_cons,List.range'_succ,List.cons.injEq]at h
  simp only[List.map_cons,List.zipIdx_cons]
  rw[←uZ ps (k+1) h.2,h.1]
theorem St.gX {size:Nat}{vs:List Value}{ps:List (Nat×Operand)}{zv:Value}(hp:ps.map (·.1)=List.range' 0 ps.length)(hx:bF F (ps.map (·.2)) vs)(ht:P.underlying t=some (.slice e))(a:(P.info? e).map (·.size)=some size)
 (hz:(P.info? e).bind (·.zero)=some zv) (f:Nat.ble 1 size=true) (hlen:Nat.ble (vs.length*size) 16777216=true) (g:∀u∈vs,u.cells.size=size) (hd:Nat.ble (d+1) n=true)
 {m:Nat} (hm:m=vs.length)
 (h:∀b,St n ((d,.slice (some ⟨b,0,none⟩) m m)::F) (Mm c (row (.slice (some ⟨b,0,none⟩) m m) e size m (vs.flatMap λu=>u.cells.toList)::H)) (wpList P ops Q rest)):
 St n F (Mm c H) (wpList P ops Q ({dst:=some d,op:= .buildSlice t m ps.toArray,type:=ty,pos:=pos,after:=after,guard:=none}::rest)):=St.Cn (uZ ps 0 hp) hx ht a hz f hlen g hd hm h
theorem St.cq {o:Operand}{x y:Code}{b:Bool}{p q:Prop}(ht:p→St n F A (x.wp P Q))(a:q→St n F A (y.wp P Q))(c:vl F o=some (.bool b):=by exact rfl)
 (hp:b=true→p:=by intro h;first|(simp only[fJ]at h;exact h)|exact h) (d:b=false→q:=by intro h;first|(simp only[fJ]at h;exact h)|exact h):St n F A ((Code.cond o x y).wp P Q):=St.cond b c (λh=>ht (hp h)) (λh=>a (d h))
theorem SW.tg {a:Exit→Act→World→Prop}{Fp:List ak}{f:Nat}{o:Oper}{listed:Array Bool}(i:Nat)(h:St n F A (wpList P ops (Exit.then (KW P ops Q n c Fp f (listed.setIfInBounds i true)) a) [o])):
 St n F A (wpList P ops (Exit.then (KW P ops Q n c Fp f (listed.setIfInBounds i true)) a) [o]):=h
end
structure MK (κ:Type) where
 enc:κ→Value
 kd:TypeDesc
 same:∀a b:κ,∀ [DecidableEq κ],Instr.sameNow kd (enc a) (enc b)=some (decide (a=b))
 key:∀a,MapKept.IsKey kd (enc a)
 bits:∀a,Instr.sameBits 10000 (enc a) (enc a)=true
def mkStr:MK ax:=⟨λs=>sv s,.string,λa b _=>by
    simp only[Instr.sameNow,Option.some.injEq];rw[B7,MapKept.bytes_beq];simp,λa=>by simp[MapKept.IsKey],λa=>by simp only[Instr.sameBits];exact(MapKept.bytes_beq _ _).2 rfl⟩
section assoc
variable {κ:Type}[DecidableEq κ]
def qN:List (κ×Value)→κ→Option Value
 | [],_=>none
 |p::l,k=>if k=p.1 then some p.2 else qN l k
def l9:List (κ×Value)→κ→Value→List (κ×Value)
 | [],k,v=>[(k,v)]
 |p::l,k,v=>if k=p.1 then(k,v)::l else p::l9 l k v
theorem Ey (l:List (κ×Value))(k:κ)(v:Value)(b:κ):qN (l9 l k v) b=if b=k then some v else qN l b:=by
 induction l with
 |nil=>simp[l9,qN]
 |cons p l c=>
  unfold l9
  by_cases h:k=p.1
  ·rw[aC h]
   simp only[qN]
   by_cases a:b=k
   ·rw[aC a,aC a]
   ·rw[aA a,aA a,aA (by rw[←h];exact a)]
  ·rw[aA h]
   simp only[qN,c]
   by_cases a:b=p.1
   ·rw[aC a,aC a,aA (λe=>h (by rw[←e,a]))]
   ·rw[aA a,aA a]
end assoc
section
variable {κ:Type}[DecidableEq κ]
def kP (K:MK κ):List (κ×Value)→Nat→List MapEntry
 | [],_=>[]
 |p::l,i=>⟨K.enc p.1,p.2,i⟩::kP K l (i+1)
def eU (K:MK κ)(l:List (κ×Value)):Obj:= .map (kP K l 0).toArray l.length
omit [DecidableEq κ]in
def OK:List (κ×Value)→κ→Nat→Option (Nat×Value)
 | [],_,_=>none
 |p::l,k,i=>if k=p.1 then some (i,p.2)else OK l k (i+1)
theorem T0 (l:List (κ×Value))(k:κ)(i:Nat):(OK l k i).map (·.2)=qN l k:=by
 induction l generalizing i with
 |nil=>rfl
 |cons p l a=>simp only[OK,qN];split
              ·rfl
              ·exact a _
theorem nu (K:MK κ)(k:κ):∀(l:List (κ×Value)) (i c:Nat),Instr.findNow K.kd (K.enc k) (kP K l i) c=some (OK l k c)
 | [],i,c=>rfl
 |p::l,i,c=>by
  simp only[kP,Instr.findNow,K.same k p.1,OK]
  by_cases h:k=p.1
  ·simp[h]
  ·simp only[h,decide_false,if_false]
   exact nu K k l _ _
omit [DecidableEq κ]in
theorem zH (K:MK κ)(k:κ)(v:Value):∀(l:List (κ×Value)) (i:Nat),kP K (l++ [(k,v)]) i=kP K l i++ [⟨K.enc k,v,i+l.length⟩]
 | [],i=>by simp[kP]
 |p::l,i=>by simp only[List.cons_append,kP,zH K k v l (i+1),List.length_cons];congr 4;omega
theorem LJ {l:List (κ×Value)}{k:κ}{v:Value}{c:Nat}(h:OK l k c=none):l9 l k v=l++ [(k,v)]:=by
 induction l generalizing c with
 |nil=>rfl
 |cons p l a=>
  simp only[OK]at h
  split at h
  ·cases h
  ·rename_i h1;unfold l9;rw[aA h1,a h];rfl
theorem Ba {K:MK κ}{k:κ}{v u:Value}:∀{l:List (κ×Value)} {c j:Nat} (i:Nat),OK l k c=some (j,u)→c≤j∧j-c<l.length∧((kP K l i)[j-c]?).map (·.key)=some (K.enc k)∧
 kP K (l9 l k v) i=(kP K l i).modify (j-c) (λe=>{e with key:=K.enc k,val:=v})∧(l9 l k v).length=l.length
 | [],c,j,i,h=>by cases h
 |p::l,c,j,i,h=>by
  simp only[OK]at h
  split at h
  ·rename_i h1
   simp only[Option.some.injEq,Prod.mk.injEq]at h
   obtain⟨rfl,rfl⟩:=h;unfold l9;rw[aC h1];subst h1
   simp[kP]
  ·rename_i h1
   obtain⟨f,g,a,b,d⟩:=Ba (K:=K) (v:=v) (i+1) h
   have e:j-c=(j-(c+1))+1:=by omega
   unfold l9;rw[aA h1];refine⟨by omega,by simp only[List.length_cons];omega,?_,?_,by simp[d]⟩
   ·rw[e];simpa[kP]using a
   ·rw[e];simp only[kP,List.modify_succ_cons,b]
variable {P:Program}{n:Nat}{F:Fr}{A:World→Prop}{c:Ctx}{H R:List ak}{ty t kt et:TypeId}{x y z:Operand}{v:Value}{Q:Exit→Act→World→Prop}{ops:Array Oper}{rest:List Oper}{d:Nat}{pos:String}{after:Array Edge}
class VU (b:Nat)(H:List ak)(κ:outParam Type)(K:outParam (MK κ))(l:outParam (List (κ×Value))):Prop where
 mem:aW b (eU K l)∈H
instance (priority:=high) VU.here {κ:Type}(b:Nat)(K:MK κ)(l:List (κ×Value))(H:List ak):VU b (aW b (eU K l)::H) κ K l:=⟨aQ ..⟩
instance VU.there {κ:Type}(b:Nat)(K:MK κ)(l:List (κ×Value))(E:ak)(H:List ak)[h:VU b H κ K l]:VU b (E::H) κ K l:=⟨cO _ h.mem⟩
class BE (b:Nat)(H:List ak)(κ:outParam Type)(K:outParam (MK κ))(l:outParam (List (κ×Value)))(R:outParam (List ak)):Prop where
 perm:H.Perm (aW b (eU K l)::R)
instance (priority:=high) BE.here {κ:Type}(b:Nat)(K:MK κ)(l:List (κ×Value))(H:List ak):BE b (aW b (eU K l)::H) κ K l H:=⟨.refl _⟩
instance BE.there {κ:Type}(b:Nat)(K:MK κ)(l:List (κ×Value))(E:ak)(H R:List ak)[h:BE b H κ K l R]:BE b (E::H) κ K l (E::R):=⟨(h.perm.cons E).trans (.swap ..)⟩
omit [DecidableEq κ]in
theorem St.makeMap (K:MK κ)(hd:Nat.ble (d+1) n=true)(h:∀b,St n ((d,.map (some b))::F) (Mm c (aW b (eU K [])::H)) (wpList P ops Q rest)):
 St n F (Mm c H) (wpList P ops Q ({dst:=some d,op:= .makeMap t none,type:=ty,pos:=pos,after:=after,guard:=none}::rest)):=by
 refine St.Qa (K:=λu H'=>∃b,u= .map (some b)∧H'=aW b (eU K [])::H) ?_ hd ?_
 ·intro a w ρ e hm
  refine⟨.value (.map (some w.heap.size)),w.alloc (.map #[] 0),ρ,_,?_,⟨_,.inl rfl,_,rfl,rfl⟩,hm.alloc _⟩
  simp[execOp,RowKit.run_makeMap]
 ·rintro _ _ ⟨b,rfl,rfl⟩
  exact h b
theorem PL {zv:Value}{w:World}(hz:(P.info? et).bind (·.zero)=some zv):(zeroValue et).run P w= .ok zv w:=by
 obtain⟨i,b,a⟩:=pQ.1 hz
 simp[zeroValue,typeInfo,b,a]
theorem ze (K:MK κ){l:List (κ×Value)}{b:Nat}{k:κ}{zv:Value}{w:World}(ok:Bool)(ht:P.underlying t=some (.map kt et))(hk:P.underlying kt=some K.kd)(hz:(P.info? et).bind (·.zero)=some zv)(a:w.heap[b]?=some (eU K l)):
 (Instr.lookup t (.map (some b)) (K.enc k) ok).run P w= .ok (if ok then .tuple #[(qN l k).getD zv,.bool (qN l k).isSome]else(qN l k).getD zv) w:=by
 have h1:=MapKept.run_findKey (w:=w) hk (nu K k l 0 0)
 have c:=PL (P:=P) (w:=w) hz
 have d:=MapKept.run_getObj_map (P:=P) a
 have e:=MapKept.run_checkKey (w:=w) hk (K.key k) (kP K l 0).toArray.isEmpty 9999
 simp only[Instr.lookup,Sem.run_bind,run_underlying ht,Result.andThen_ok,d,Sem.run_pure,e,h1,←T0 l k 0]
 cases hm:OK l k 0 with
 |none=>simp[c]
 |some p=>simp
theorem Ev.lookup (K:MK κ){l:List (κ×Value)}{b:Nat}{k:κ}{zv:Value}[e:VU b H κ K l](hx:ai F x (.map (some b)))(hy:ai F y (K.enc k))(ht:P.underlying t=some (.map kt et))(hk:P.underlying kt=some K.kd)(hz:(P.info? et).bind (·.zero)=some zv):
 Ev P n F (Mm c H) (.lookup t x y false) ty ((qN l k).getD zv):= .of_run λa w d hw=>by
 obtain⟨ρ,hm⟩:=hw.out
 have:=ze (P:=P) K (k:=k) false ht hk hz (fp.1 (hm.dM _ e.mem))
 simp[execOp,hx.eval d,hy.eval d,this]
theorem Ev.tq (K:MK κ){l:List (κ×Value)}{b:Nat}{k:κ}{zv:Value}[e:VU b H κ K l](hx:ai F x (.map (some b)))(hy:ai F y (K.enc k))(ht:P.underlying t=some (.map kt et))(hk:P.underlying kt=some K.kd)(hz:(P.info? et).bind (·.zero)=some zv):
 Ev P n F (Mm c H) (.lookup t x y true) ty (.tuple #[(qN l k).getD zv,.bool (qN l k).isSome]):= .of_run λa w d hw=>by
 obtain⟨ρ,hm⟩:=hw.out
 have:=ze (P:=P) K (k:=k) true ht hk hz (fp.1 (hm.dM _ e.mem))
 simp[execOp,hx.eval d,hy.eval d,this]
omit [DecidableEq κ]in
theorem Nx (K:MK κ)(k:κ)(w:World):(Instr.keyThatStays (K.enc k) (K.enc k)).run P w= .ok (K.enc k) w:=by
 simp[Instr.keyThatStays,K.bits k]
theorem Ay (K:MK κ){l:List (κ×Value)}{b:Nat}{k:κ}{w:World}(ht:P.underlying t=some (.map kt et))(hk:P.underlying kt=some K.kd)(a:w.heap[b]?=some (eU K l)):
 (Instr.mapUpdate t (.map (some b)) (K.enc k) v).run P w= .ok () {w with heap:=w.heap.setIfInBounds b (eU K (l9 l k v))}:=by
 have h1:=MapKept.run_findKey (w:=w) hk (nu K k l 0 0)
 have f:=MapKept.run_getObj_map (P:=P) a
 have g:=MapKept.run_checkKey (w:=w) hk (K.key k) false 9999
 simp only[Instr.mapUpdate,Sem.run_bind,run_underlying ht,Result.andThen_ok,f,g,h1]
 cases hm:OK l k 0 with
 |none=>
  have e:eU K (l9 l k v)= .map ((kP K l 0).toArray.push {key:=K.enc k,val:=v,born:=l.length}) (l.length+1):=by
   rw[LJ hm]
   simp[eU,zH]
  rw[e];exact MapKept.run_setObj_map (P:=P) _ a
 |some p=>
  obtain⟨j,u⟩:=p;obtain⟨_,m,d,h,i⟩:=Ba (K:=K) (v:=v) 0 hm
  have e:eU K (l9 l k v)= .map ((kP K l 0).toArray.modify j λe=>{e with key:=K.enc k,val:=v}) l.length:=by
   unfold eU;rw[h,i]
   simp
  rw[e]
  have c:(((kP K l 0).toArray[j]?).map (·.key)).getD (K.enc k)=K.enc k:=by
   simp only[Nat.sub_zero]at d
   simp[d]
  simp only[c,Sem.run_bind,Nx,Result.andThen_ok]
  exact MapKept.run_setObj_map (P:=P) _ a
theorem St.mapUpdate (K:MK κ){l:List (κ×Value)}{b:Nat}{k:κ}[tk:BE b H κ K l R](hx:ai F x (.map (some b)))(hy:ai F y (K.enc k))(hz:ai F z v)(ht:P.underlying t=some (.map kt et))(hk:P.underlying kt=some K.kd)
 (h:St n F (Mm c (aW b (eU K (l9 l k v))::R)) (wpList P ops Q rest)):
 St n F (Mm c H) (wpList P ops Q ({dst:=none,op:= .mapUpdate t x y z,type:=ty,pos:=pos,after:=after,guard:=none}::rest)):=by
 refine St.lx (K:=λu H'=>H'=aW b (eU K (l9 l k v))::R) ?_ ?_
 ·intro a w ρ d hm
  have f:=hm.perm tk.perm
  have g:=fp.1 (f.dM _ (aQ ..))
  have p:=Ay (P:=P) K (k:=k) (v:=v) ht hk g
  refine⟨.skip,{w with heap:=w.heap.setIfInBounds b (eU K (l9 l k v))},ρ,_,?_,⟨_,.inr ⟨rfl,rfl⟩,rfl⟩,?_⟩
  ·simp[execOp,hx.eval d,hy.eval d,hz.eval d,p]
  ·have i:=MapKept.heap_set (o':=eU K (l9 l k v)) g
   refine f.alter rfl ⟨rfl,aR _⟩ rfl (by simp) (λj q m=> ?_) (fp.2 i.1) (λr o=>by rw[iW]at o⊢;exact .inl o);rw[iW]at m;exact i.2 j (λe=>m (by rw[e]))
 ·rintro _ _ rfl
  exact h
omit [DecidableEq κ]in
end
section
variable {n:Nat}{F:Fr}{c:Ctx}{H R:List ak}{T:Act→World→Prop}
theorem St.jN {ι:Sort _}(d:du)[hd:lW d H](L:ι→List du)(h:∀ρ,d.f ρ→∃x,∀e∈L x,e.f ρ)(k:∀x,St n F (Mm c ((L x).map aB++H)) T):St n F (Mm c H) T:=by
 intro a w b hw;obtain⟨ρ,hm⟩:=hw.out;obtain⟨x,hx⟩:=h ρ (dB.1 (hm.dM _ hd.mem));exact k x a w b (Mm.mk (hm.Ab (L x) hx))
theorem St.eZ (d:du)(L:List du)[hd:kX L H](h:∀ρ,(∀e∈L,e.f ρ)→d.f ρ)(k:St n F (Mm c (aB d::H)) T):St n F (Mm c H) T:=
 St.fact d (λρ w hm=>h ρ λe he=>dB.1 (hm.dM _ (hd.mem e he))) k
def o3 {α:Type}(Rr:Rp α)(v:Value)(l:List (List α)):du:=⟨λρ=>∃vs:List aV,vs.length=l.length∧(sl bT v vs).f ρ∧(jr Rr vs l).f ρ,
 λρ jn h ⟨vs,h1,a,b⟩=>⟨vs,h1,(sl bT v vs).mono _ _ h a,(jr Rr vs l).mono _ _ h b⟩⟩
class KH (v:Value)(H:List ak)(α:outParam Type)(R:outParam (Rp α))(xs:outParam (List (List α))):Prop where
 mem:aB (o3 R v xs)∈H
instance (priority:=high) KH.here {α:Type}(v:Value)(R:Rp α)(xs:List (List α))(H:List ak):KH v (aB (o3 R v xs)::H) α R xs:=⟨aQ ..⟩
instance KH.there {α:Type}(v:Value)(R:Rp α)(xs:List (List α))(E:ak)(H:List ak)[h:KH v H α R xs]:KH v (E::H) α R xs:=⟨cO _ h.mem⟩
theorem St.ma {α:Type}{Rr:Rp α}{l:List (List α)}(v:Value)[hd:KH v H α Rr l](k:∀vs:List aV,vs.length=l.length→St n F (Mm c (aB (sl bT v vs)::aB (J.jr Rr vs l)::H)) T):St n F (Mm c H) T:=by
 intro a w b hw;obtain⟨ρ,hm⟩:=hw.out;obtain⟨vs,h1,d,e⟩:=dB.1 (hm.dM _ hd.mem);exact k vs h1 a w b (Mm.mk ((hm.fact _ e).fact _ d))
theorem St.LH {α:Type}{Rr:Rp α}{l:List (List α)}(v:Value){vs:List aV}[h1:lW (sl bT v vs) H][a:lW (J.jr Rr vs l) H](b:vs.length=l.length)(k:St n F (Mm c (aB (o3 Rr v l)::H)) T):St n F (Mm c H) T:=
 St.fact (o3 Rr v l) (λρ w hm=>⟨vs,b,dB.1 (hm.dM _ h1.mem),dB.1 (hm.dM _ a.mem)⟩) k
theorem Ou {α:Type}{Rr:Rp α}{vs:List aV}{ga:List (List α)}{u:aV}{x:List α}{ρ:Ro}(h:(J.jr Rr vs ga).f ρ)(hu:(sl Rr u.1 x).f ρ)(g:vs.length=ga.length):(J.jr Rr (vs++ [u]) (ga++ [x])).f ρ:=by
 intro i d e h1 a
 rcases eO i vs.length with b|b
 ·rw[oc b]at h1
  rw[oc (by omega)]at a;exact h i d e h1 a
 ·rw[lp b]at h1
  rw[lp (by omega)]at a
  have c:i-vs.length=0:=by
   have:=(fA.1 h1).1
   simp at this;omega
  rw[c]at h1;rw[show i-ga.length=0 by omega]at a
  simp only[List.getElem?_cons_zero,Option.some.injEq]at h1 a
  subst h1 a;exact hu
theorem St.JX {α:Type}{Rr:Rp α}(vs:List aV)(u:aV){x:List α}{ga:List (List α)}[h1:U5 vs H α Rr ga][a:sH u.1 H α Rr x](b:vs.length=ga.length)(k:St n F (Mm c (aB (J.jr Rr (vs++ [u]) (ga++ [x]))::H)) T):St n F (Mm c H) T:=
 St.fact _ (λρ w hm=>Ou (dB.1 (hm.dM _ h1.mem)) (dB.1 (hm.dM _ a.mem)) b) k
theorem cS {α:Type}{xs:List α}{x:α}:xs.length+1=(xs++ [x]).length:=by rw[bQ];rfl
theorem St.JY {α:Type}{Rr:Rp α}(vs:List aV){ga:List (List α)}[h1:U5 vs H α Rr ga](h:vs.length=ga.length)(k:(∀xs∈ga,∀x∈xs,Rr.wf x)→St n F (Mm c H) T):St n F (Mm c H) T:=by
 intro a w d hw;obtain⟨ρ,hm⟩:=hw.out;refine k (λxs b x hx=> ?_) a w d hw;obtain⟨i,e,he⟩:=GI.1 b
 have f:i<vs.length:=by omega
 obtain⟨_,_,_,_,_,g,_⟩:=dB.1 (hm.dM _ h1.mem) i vs[i] xs (bU f) (by rw[bU e,he]);exact g x hx
theorem St.Ot {α:Type}(Rr:Rp α)(k:St n F (Mm c (aB (J.jr Rr [] [])::H)) T):St n F (Mm c H) T:=
 St.fact _ (λ_ _ _=>show(J.jr Rr [] []).f _ from λi u l hu=>by simp at hu) k
theorem St.fm {α:Type}(Rr:Rp α)(k:St n F (Mm c (aB (sl Rr (.slice none 0 0) [])::H)) T):St n F (Mm c H) T:=St.fact _ (λ_ _ _=>sX Rr _) k
end
section
variable {P:Program}{Q:Exit→Act→World→Prop}{n:Nat}{F:Fr}{c:Ctx}{H Fp:List ak}
theorem SW.split {ops:Array Oper}{r:List ak}{f:Nat}{listed:Array Bool}(k:Nat)(b:Bool)(hk:look F k=some (.bool b))(ht:b=true→SW P ops Q n ((k,.bool true)::F) c Fp r f listed)(a:b=false→SW P ops Q n ((k,.bool false)::F) c Fp r f listed):SW P ops Q n F c Fp r f listed:=by
 cases b with
 |true=>exact SW.slot k (.bool true) hk rfl (ht rfl)
 |false=>exact SW.slot k (.bool false) hk rfl (a rfl)
theorem St.alS {id:Nat}{l:List Oper}(L:List ak)[tk:eT L H Fp](hm:P.follows .mixedOrders=true)
 (h:SW P l.toArray Q n F c Fp L l.length (Array.replicate l.length false)):St n F (Mm c H) ((Code.region id l.toArray true).wp P Q):=by
 intro a w b hw;refine wp_region_any hm ?_
 have h1:=h a b
 have d:Mm c (Fp++L) {w with drawn:=w.drawn+1}:=by
  obtain⟨ρ,k⟩:=((Mm.drawn c H) w hw).out;exact Mm.mk (k.perm (tk.perm.trans jV))
 simpa using WR.any (C:=λR=>Mm c (Fp++R)) l.length _ a L _ d h1
end
section
variable {P:Program}{Q:Exit→Act→World→Prop}{n:Nat}{F:Fr}{c:Ctx}{H Fp r:List ak}
theorem St.dc {id:Nat}{l:List Oper}(L:List ak)[tk:eT L H Fp](hm:P.follows .mixedOrders=true)
 (h:NP Q→Region.noSelect l.toArray=true→SW P l.toArray Q n F c Fp L l.length (Array.replicate l.length false)) (a:NP Q:=by repeat(first|refine NP.then ?_|refine NP.inBlock ?_|exact NP.body)) (b:Region.noSelect l.toArray=true:=by kernel_rfl):St n F (Mm c H) ((Code.region id l.toArray true).wp P Q):=
 St.alS L hm (h a b)
theorem St.pC {id:Nat}{l:List Oper}(bs:List Nat)[tk:yM bs H r Fp](hm:P.follows .mixedOrders=true)
 (h:NP Q→Region.noSelect l.toArray=true→SW P l.toArray Q n F c Fp r l.length (Array.replicate l.length false)) (a:NP Q:=by repeat(first|refine NP.then ?_|refine NP.inBlock ?_|exact NP.body)) (b:Region.noSelect l.toArray=true:=by kernel_rfl):St n F (Mm c H) ((Code.region id l.toArray true).wp P Q):=
 St.par bs hm (h a b)
end
end Go.J
namespace Go.J
open Go Go.ChangeShapes Go.WideShapes Go.ChangeAt Go.RowKit Go.Deep
section
variable {H:Type}{enc:TypeId×Value→H}{P:Program}{W:World}{α:Type}
def Uw (Rr:Rp α)(W:World):Rp (aV×List α):=⟨1,by decide,λx=>[x.1.1],λx=>(sl Rr x.1.1 x.2).f (J.all W),λ_=>rfl,λx u h=>by simp at h;subst h;exact x.1.2⟩
theorem OS (Rr:Rp α){t e ee:TypeId}{v:Value}{d:DataW H}{p:List MemPlace}{o:Nat}(ht:P.underlying t=some (.slice e))(r:P.cellsOf e=1)(he:P.underlying e=some (.slice ee))(g:P.cellsOf ee=Rr.size)
 (s:∀(n:Nat) (cs:List Value) (y:DataW H×List MemPlace),cs.length=Rr.size→DataW.trod enc P W 0 (λ_=>true) true n ee cs=some y→na (y.1.weights P ee)=true→∃x:α,cs=Rr.cells x∧Rr.wf x)
 (w:Value.okWide P W .any o t v) (z:na (d.weights P t)=true) (h:DataW.Trod enc P W 0 (λ_=>true) true t v d p):∃xs:List (List α),(o3 Rr v xs).f (J.all W)∧((d= .nil∧xs=[])∨∃es sp,d= .slice es sp∧es.length=xs.length):=by
 obtain⟨xs,h1,A⟩:=TV (Uw Rr W) ht r (λn cs y _ hy hw=>by
  obtain⟨v,xs,B,e2,D,_⟩:=Fo Rr he g s hw (d:=y.1) (p:=y.2) hy
  exact⟨(⟨v,e2⟩,xs),B,D⟩) w z h
 have k:∀l:List (aV×List α),rows (Uw Rr W) l=rows bT (l.map Prod.fst):=by
  intro l
  induction l with
  |nil=>rfl
  |cons x l m=>simp only[rows,List.flatMap_cons,List.map_cons]at m⊢;rw[m];rfl
 refine⟨xs.map Prod.snd,⟨xs.map Prod.fst,by simp,?_,?_⟩,?_⟩
 ·obtain⟨a,cap,g1,g2,g3,g4,g5⟩:=h1
  refine⟨a,cap,by rw[aO];exact g1,by rw[aO];exact g2,g3,λ_ _=>trivial,?_⟩
  rcases g5 with rfl|⟨b,off,C,E,fr,F,G,I⟩
  ·exact .inl rfl
  ·exact .inr ⟨b,off,C,E,fr,F,G,λj u K=>I j u (by rw[k];exact K)⟩
 ·obtain⟨a,cap,_,_,_,g4,_⟩:=h1
  intro i u l hu c;rw[bP]at hu c
  cases hx:xs[i]? with
  |none=>rw[hx]at hu;cases hu
  |some x=>
   rw[hx]at hu c
   simp only[Option.map_some,Option.some.injEq]at hu c
   subst hu c;exact g4 x (ae hx)
 ·rcases A with⟨q,rfl⟩|⟨es,sp,q,c⟩
  ·exact .inl ⟨q,rfl⟩
  ·exact .inr ⟨es,sp,q,by rw[aO];exact c⟩
end
theorem GB {P : Program} {W : World} {g3 g4 k u m n : Nat} {o : Array Field} (n3 : P.globalNamed "unicode/utf8.first" = some g3) (n4 : P.globalNamed "unicode/utf8.acceptRanges" = some g4)
 (y3:(P.globals[g3]?).map (·.type)=some k) (y4:(P.globals[g4]?).map (·.type)=some u) (t3:P.underlying k=some (.array 256 m)) (t5:P.underlying m=some (.int .u8)) (t4:P.underlying u=some (.array 16 n)) (ts:P.underlying n=some (.struct o))
 (x:∀(i:Nat) (f:Field),o[i]?=some f→P.underlying f.type=some (.int .u8)∧f.offset=i∧P.cellsOf f.type=1) (r:o.size=2) (c5:P.cellsOf m=1) (c3:P.cellsOf k=256) (cs:P.cellsOf n=2)
 {l : List (String × DataW Unit)} (h : laidMetH P l W) (hp : (laidMetH P l W) = laidMet P l W) (m3 : ("unicode/utf8.first", Lib.firstData) ∈ l) (m4 : ("unicode/utf8.acceptRanges", Lib.acceptData) ∈ l) : Lib.Utf8Tabs g3 g4 W := by
 rw[hp]at h
 have y:=Lib.laidMet.reads h m3
 have z:=Lib.laidMet.reads h m4
 refine⟨λc A=> ?_,λi v=> ?_⟩
 ·obtain⟨g,t,cs,fuel,p,a,s,e,hd⟩:=y
  obtain rfl:=Option.some.inj (n3.symm.trans a);obtain rfl:=Option.some.inj (y3.symm.trans s)
  have j:=Lib.cells_of_tab t3 t5 c5 c3 hd
  have:=World.var?_cell a e c
  rw[this,←QS,j]
  simp[Lib.firstTab,A]
 ·obtain⟨g,t,cells,fuel,p,a,s,e,hd⟩:=z
  obtain rfl:=Option.some.inj (n4.symm.trans a);obtain rfl:=Option.some.inj (y4.symm.trans s);obtain⟨B,d,q,b,he⟩:=Lib.array_elem t4 hd i v
  simp only[List.getElem?_map,List.getElem?_range v,Option.map_some,Option.some.injEq]at b
  subst b;rw[cs]at he
  have j:=Lib.ints_of_struct ts x (by rw[cs,r]) he
  have e0:=congrArg (·[0]?) j
  have w:=congrArg (·[1]?) j
  simp only[List.getElem?_take,List.getElem?_drop]at e0 w
  constructor
  ·rw[World.var?_cell a e (2*i),←QS]
   simpa[Nat.mul_comm]using e0
  ·rw[World.var?_cell a e (2*i+1),←QS]
   simpa[Nat.mul_comm]using w
theorem yc {W w:World}(h:∀(k:Nat) (o:Obj),W.heap[k]?=some o→w.heap[k]?=some o){g o:Nat}{v:Value}(a:W.cell? ⟨g,o,none⟩=some v):w.cell? ⟨g,o,none⟩=some v:=by
 obtain⟨_,C,e,fr,b,c⟩:=jd a
 rw[cV (h _ _ b)];exact c
theorem Dj {W w:World}{g3 g4:Nat}(h:Lib.Utf8Tabs g3 g4 W)(hw:∀(k:Nat) (o:Obj),W.heap[k]?=some o→w.heap[k]?=some o):Lib.Utf8Tabs g3 g4 w:=
 ⟨λc b=>yc hw (h.1 c b),λi a=>⟨yc hw (h.2 i a).1,yc hw (h.2 i a).2⟩⟩
end Go.J
namespace Go.J
open Go
section
variable {α:Type}
theorem AZ {p:α→Bool}{s:List α}{k:Nat}{d:α}(h:(s.take k).all p=true)(hk:p (s.getD k d)=true):(s.take (k+1)).all p=true:=by
 by_cases a:k<s.length
 ·rw[Dm a,List.all_append,h]
  rw[ar,bU a]at hk
  simpa using hk
 ·rw[fF (by omega)];rwa[fF (by omega)]at h
theorem kr {p:α→Bool}{s:List α}{k:Nat}{x:α}(h:(s.take k).all p=true)(hx:s[k]?=some x)(hk:p x=true):(s.take (k+1)).all p=true:=by
 obtain⟨a,rfl⟩:=fA.1 hx;rw[Dm a,List.all_append,h]
 simpa using hk
theorem CX {p:α→Bool}{s:List α}{k:Nat}{d:α}(hk:k<s.length)(h:p (s.getD k d)=false):s.all p=false:=by
 rw[ar,bU hk]at h;rw[List.all_eq_false];exact⟨s[k],gy hk,by simpa using h⟩
theorem EA {p:α→Bool}{s:List α}{k:Nat}(h:(s.take k).all p=true)(hk:s.length≤k):s.all p=true:=by rwa[fF hk]at h
theorem aE {s:List α}{k:Nat}(h:k<s.length):∃x,s[k]?=some x:=⟨_,bU h⟩
theorem bN {s:List α}{k:Nat}{x:α}(h:s[k]?=some x):s.drop k=x::s.drop (k+1):=by
 obtain⟨a,rfl⟩:=fA.1 h;exact List.drop_eq_getElem_cons a
theorem ah {s:List α}{k:Nat}{x:α}(h:s[k]?=some x):k<s.length:=(fA.1 h).1
theorem aa {s:List α}{k:Nat}{x:α}(h:s[k]?=some x):s.take (k+1)=s.take k++ [x]:=by
 obtain⟨a,rfl⟩:=fA.1 h;exact Dm a
end
theorem be {a b:Bool}(h:a=b):Hq [Value.bool a]= .bool b:=by rw[h];rfl
theorem ie {a b:Int}(h:a=b):Hq [iv a]=iv b:=by rw[h];rfl
def ix {β:Type}(p:β→Bool)(l:List β):Int:=match l.findIdx? p with|some i=>(i:Int)|none=> -1
theorem tm {β:Type}{p:β→Bool}{l:List β}{k:Nat}{x:β}(h:(l.take k).all (λy=> !p y)=true)(hx:l[k]?=some x)(hp:p x=true):ix p l=k:=by
 obtain⟨a,rfl⟩:=fA.1 hx
 have:l.findIdx? p=some k:=by
  rw[List.findIdx?_eq_some_iff_getElem];refine⟨a,hp,λj b=> ?_⟩;rw[eW]at h
  have h1:=h l[j] (by rw[List.mem_take_iff_getElem];exact⟨j,by omega,rfl⟩)
  simpa using h1
 simp only[ix,this]
theorem xu {β:Type}{p:β→Bool}{l:List β}{k:Nat}(h:(l.take k).all (λy=> !p y)=true)(hk:l.length≤k):ix p l= -1:=by
 rw[fF hk,eW]at h
 have:l.findIdx? p=none:=by
  rw[List.findIdx?_eq_none_iff];intro x hx
  simpa using h x hx
 simp only[ix,this]
theorem Nv {β:Type}(p:β→Bool)(l:List β):(ix p l= -1∧∀x∈l,p x=false)∨∃(k:Nat) (x:β),l[k]?=some x∧p x=true∧ix p l=k∧∀(j:Nat) (y:β),j<k→l[j]?=some y→p y=false:=by
 unfold ix
 cases h:l.findIdx? p with
 |none=>left;exact⟨rfl,by simpa using List.findIdx?_eq_none_iff.1 h⟩
 |some k=>
  right
  obtain⟨b,hp,c⟩:=List.findIdx?_eq_some_iff_getElem.1 h;refine⟨k,l[k],bU b,hp,rfl,λj y a hy=> ?_⟩;obtain⟨d,rfl⟩:=fA.1 hy
  simpa using c j a
theorem qx {β:Type}(p:β→Bool)(l:List β):decide (0≤ix p l)=l.any p:=by
 rcases Nv p l with⟨h1,a⟩|⟨k,x,h1,a,b,_⟩
 ·rw[h1];symm;simp[List.any_eq_false];exact a
 ·rw[b]
  have:l.any p=true:=nb.2 ⟨x,ae h1,a⟩
  rw[this];simp
def fv (f:Int×Int):Value:= .agg #[iv f.1,iv f.2]
theorem fe {a b:Int}{f:Int×Int}(h:f=(a,b)):Hq [.agg #[iv a,iv b]]=fv f:=by rw[h];rfl
def low (c:UInt8):Bool:=decide ((97:Int)≤c.toNat)&&decide ((c.toNat:Int)≤122)
def digit (c:UInt8):Bool:=decide ((48:Int)≤c.toNat)&&decide ((c.toNat:Int)≤57)
def oK (c:UInt8):Bool:=low c||digit c||decide ((c.toNat:Int)=95)||decide ((c.toNat:Int)=45)
def isName (s:ax):Bool:=decide (0<s.length)&&decide (s.length≤30)&&low (s.getD 0 0)&&s.all oK
theorem Ee {s:ax}(h:((s.length:Int)=0∨30<(s.length:Int))∨((s.getD 0 0).toNat:Int)<97∨122<((s.getD 0 0).toNat:Int)):isName s=false:=by
 simp only[isName,low,Bool.and_eq_false_iff,decide_eq_false_iff_not]
 left;omega
theorem Ef {s:ax}{k:Nat}(hk:k<s.length)(h:oK (s.getD k 0)=false):isName s=false:=by
 simp only[isName,CX hk h,Bool.and_false]
theorem Eg {s:ax}(a:0<s.length)(h1:s.length≤30)(b:low (s.getD 0 0)=true)(h:s.all oK=true):isName s=true:=by
 simp only[isName,b,h,Bool.and_true,Bool.and_eq_true,decide_eq_true_eq]
 exact⟨a,h1⟩
abbrev uv (n:Nat):Value:= .int .u64 (n:Int)
abbrev wv (n:Nat):Value:= .agg #[uv (n/18446744073709551616),uv (n%18446744073709551616)]
end Go.J
