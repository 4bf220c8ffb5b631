/-
  Laws of walks through programs, and facts on grammars, trees and queries.
  Conditions: none.
-/
import Derived.WalkKit
import Derived.Deep.Quiet
import Derived.Deep.LoopGhost
import Derived.Laws.StructEq
import Derived.ProofKit
import Derived.OpenShut
import Derived.JoinedCond
import Derived.Carry
import Derived.Deep.Slices
import Derived.SizedLaws
import Derived.Still
import Derived.MapKept
import Derived.Lib.LaidU8
import Derived.LaidMore
import Derived.Lay
import Derived.Stop.Joined
import Derived.Deep.DeepHandedRow
set_option linter.unusedVariables false
set_option linter.unusedSimpArgs false
namespace Go
theorem py:type_of% @Array.getD_eq_getD_getElem?.{0}:= @Array.getD_eq_getD_getElem?
theorem Dd:type_of% @Array.getElem?_eq_getElem.{0}:= @Array.getElem?_eq_getElem
theorem wC:type_of% @Array.getElem?_eq_some_iff.{0}:= @Array.getElem?_eq_some_iff
theorem QI:type_of% @Array.getElem?_setIfInBounds.{0}:= @Array.getElem?_setIfInBounds
theorem QJ:type_of% @Array.getElem?_toList.{0}:= @Array.getElem?_toList
theorem Lo:type_of% @BitVec.ofInt_natCast:= @BitVec.ofInt_natCast
theorem Lp:type_of% @BitVec.toNat_ofNat:= @BitVec.toNat_ofNat
theorem rY:type_of% @Bool.and_eq_true:= @Bool.and_eq_true
theorem A8:type_of% @Bool.eq_iff_iff:= @Bool.eq_iff_iff
theorem iY:type_of% @Decidable.not_not:= @Decidable.not_not
theorem ig:type_of% @Eq.symm.{1}:= @Eq.symm
theorem uZ:type_of% @Int.toNat_of_nonneg:= @Int.toNat_of_nonneg
theorem wc:type_of% @List.Pairwise.imp_of_mem.{0}:= @List.Pairwise.imp_of_mem
theorem G8:type_of% @List.Perm.append_left.{0}:= @List.Perm.append_left
theorem eY:type_of% @List.all_eq_true.{0}:= @List.all_eq_true
theorem pY:type_of% @List.any_eq_true.{0}:= @List.any_eq_true
theorem dq:type_of% @List.append_assoc.{0}:= @List.append_assoc
theorem gu:type_of% @List.append_nil.{0}:= @List.append_nil
theorem we:type_of% @List.cons_append.{0}:= @List.cons_append
theorem s7:type_of% @List.countP_cons.{0}:= @List.countP_cons
theorem K5:type_of% @List.countP_eq_length_filter.{0}:= @List.countP_eq_length_filter
theorem j6:type_of% @List.drop_of_length_le.{0}:= @List.drop_of_length_le
theorem lG:type_of% @List.eq_nil_of_length_eq_zero.{0}:= @List.eq_nil_of_length_eq_zero
theorem wg:type_of% @List.eq_of_mem_replicate.{0}:= @List.eq_of_mem_replicate
theorem pZ:type_of% @List.ext_getElem?.{0}:= @List.ext_getElem?
theorem Bx:type_of% @List.flatMap_append.{0,0}:= @List.flatMap_append
theorem kF:type_of% @List.flatMap_cons.{0,0}:= @List.flatMap_cons
theorem wh:type_of% @List.foldl_append.{0,0}:= @List.foldl_append
theorem wi:type_of% @List.foldl_cons.{0,0}:= @List.foldl_cons
theorem aw:type_of% @List.getD_eq_getElem?_getD.{0}:= @List.getD_eq_getElem?_getD
theorem oa:type_of% @List.getElem?_append_left.{0}:= @List.getElem?_append_left
theorem lg:type_of% @List.getElem?_append_right.{0}:= @List.getElem?_append_right
theorem s8:type_of% @List.getElem?_cons_succ.{0}:= @List.getElem?_cons_succ
theorem A6:type_of% @List.getElem?_drop.{0}:= @List.getElem?_drop
theorem bU:type_of% @List.getElem?_eq_getElem.{0}:= @List.getElem?_eq_getElem
theorem ij:type_of% @List.getElem?_eq_none.{0}:= @List.getElem?_eq_none
theorem fA:type_of% @List.getElem?_eq_some_iff.{0}:= @List.getElem?_eq_some_iff
theorem bQ:type_of% @List.getElem?_map.{0,0}:= @List.getElem?_map
theorem Bz:type_of% @List.getElem?_of_mem.{0}:= @List.getElem?_of_mem
theorem nY:type_of% @List.getElem?_range:= @List.getElem?_range
theorem s9:type_of% @List.getElem?_replicate.{0}:= @List.getElem?_replicate
theorem ik:type_of% @List.getElem?_set_ne.{0}:= @List.getElem?_set_ne
theorem fT:type_of% @List.getElem?_set_self.{0}:= @List.getElem?_set_self
theorem sB:type_of% @List.getElem?_take.{0}:= @List.getElem?_take
theorem iG:type_of% @List.getElem_mem.{0}:= @List.getElem_mem
theorem bR:type_of% @List.length_append.{0}:= @List.length_append
theorem fU:type_of% @List.length_cons.{0}:= @List.length_cons
theorem A7:type_of% @List.length_drop.{0}:= @List.length_drop
theorem G9:type_of% @List.length_filter_le.{0}:= @List.length_filter_le
theorem aO:type_of% @List.length_map.{0,0}:= @List.length_map
theorem pa:type_of% @List.length_modify.{0}:= @List.length_modify
theorem jV:type_of% @List.length_range:= @List.length_range
theorem kG:type_of% @List.length_replicate.{0}:= @List.length_replicate
theorem C0:type_of% @List.length_reverse.{0}:= @List.length_reverse
theorem cn:type_of% @List.length_set.{0}:= @List.length_set
theorem pb:type_of% @List.length_singleton.{0}:= @List.length_singleton
theorem eU:type_of% @List.length_take.{0}:= @List.length_take
theorem cP:type_of% @List.map_append.{0,0}:= @List.map_append
theorem C1:type_of% @List.map_congr_left.{0,0}:= @List.map_congr_left
theorem fK:type_of% @List.map_cons.{0,0}:= @List.map_cons
theorem kH:type_of% @List.map_map.{0,0,0}:= @List.map_map
theorem lh:type_of% @List.map_nil.{0,0}:= @List.map_nil
theorem sC:type_of% @List.map_replicate.{0,0}:= @List.map_replicate
theorem jm:type_of% @List.map_set.{0,0}:= @List.map_set
theorem cG:type_of% @List.mem_append.{0}:= @List.mem_append
theorem kW:type_of% @List.mem_append_left.{0}:= @List.mem_append_left
theorem mr:type_of% @List.mem_append_right.{0}:= @List.mem_append_right
theorem cK:type_of% @List.mem_cons.{0}:= @List.mem_cons
theorem cO:type_of% @List.mem_cons_of_mem.{0}:= @List.mem_cons_of_mem
theorem aQ:type_of% @List.mem_cons_self.{0}:= @List.mem_cons_self
theorem wj:type_of% @List.mem_filter.{0}:= @List.mem_filter
theorem GA:type_of% @List.mem_iff_getElem.{0}:= @List.mem_iff_getElem
theorem dC:type_of% @List.mem_map.{0,0}:= @List.mem_map
theorem eQ:type_of% @List.mem_map_of_mem.{0,0}:= @List.mem_map_of_mem
theorem aZ:type_of% @List.mem_of_getElem?.{0}:= @List.mem_of_getElem?
theorem GB:type_of% @List.mem_of_mem_drop.{0}:= @List.mem_of_mem_drop
theorem C5:type_of% @List.mem_of_mem_take.{0}:= @List.mem_of_mem_take
theorem lI:type_of% @List.mem_or_eq_of_mem_set.{0}:= @List.mem_or_eq_of_mem_set
theorem dt:type_of% @List.mem_range:= @List.mem_range
theorem bP:type_of% @List.mem_singleton.{0}:= @List.mem_singleton
theorem C6:type_of% @List.mem_singleton_self.{0}:= @List.mem_singleton_self
theorem C7:type_of% @List.nil_append.{0}:= @List.nil_append
theorem sD:type_of% @List.pairwise_append.{0}:= @List.pairwise_append
theorem jW:type_of% @List.pairwise_cons.{0}:= @List.pairwise_cons
theorem sF:type_of% @List.pairwise_map.{0,0}:= @List.pairwise_map
theorem GC:type_of% @List.pairwise_singleton.{0}:= @List.pairwise_singleton
theorem jX:type_of% @List.perm_append_comm.{0}:= @List.perm_append_comm
theorem qi:type_of% @List.perm_middle.{0}:= @List.perm_middle
theorem ua:type_of% @List.range_succ:= @List.range_succ
theorem lJ:type_of% @List.set_append_right.{0}:= @List.set_append_right
theorem wm:type_of% @List.set_cons_succ.{0}:= @List.set_cons_succ
theorem sG:type_of% @List.set_cons_zero.{0}:= @List.set_cons_zero
theorem C8:type_of% @List.singleton_append.{0}:= @List.singleton_append
theorem ob:type_of% @List.sum_cons.{0}:= @List.sum_cons
theorem wo:type_of% @List.take_add_one.{0}:= @List.take_add_one
theorem qj:type_of% @List.take_append_drop.{0}:= @List.take_append_drop
theorem jY:type_of% @List.take_length.{0}:= @List.take_length
theorem fZ:type_of% @List.take_of_length_le.{0}:= @List.take_of_length_le
theorem K6:type_of% @List.take_succ_eq_append_getElem.{0}:= @List.take_succ_eq_append_getElem
theorem A9:type_of% @List.take_zero.{0}:= @List.take_zero
theorem qh:type_of% @Nat.add_assoc:= @Nat.add_assoc
theorem jf:type_of% @Nat.add_mul:= @Nat.add_mul
theorem j5:type_of% @Nat.add_zero:= @Nat.add_zero
theorem mo:type_of% @Nat.eq_of_beq_eq_true:= @Nat.eq_of_beq_eq_true
theorem dR:type_of% @Nat.le_of_ble_eq_true:= @Nat.le_of_ble_eq_true
theorem aR:type_of% @Nat.le_refl:= @Nat.le_refl
theorem dW:type_of% @Nat.le_trans:= @Nat.le_trans
theorem wB:type_of% @Nat.lt_of_le_of_lt:= @Nat.lt_of_le_of_lt
theorem fO:type_of% @Nat.lt_of_lt_of_le:= @Nat.lt_of_lt_of_le
theorem eP:type_of% @Nat.lt_or_ge:= @Nat.lt_or_ge
theorem pM:type_of% @Nat.lt_succ_self:= @Nat.lt_succ_self
theorem ko:type_of% @Nat.min_eq_left:= @Nat.min_eq_left
theorem mq:type_of% @Nat.mod_eq_of_lt:= @Nat.mod_eq_of_lt
theorem A4:type_of% @Nat.mul_le_mul_left:= @Nat.mul_le_mul_left
theorem iV:type_of% @Nat.mul_le_mul_right:= @Nat.mul_le_mul_right
theorem gZ:type_of% @Nat.mul_one:= @Nat.mul_one
theorem si:type_of% @Nat.pow_le_pow_right:= @Nat.pow_le_pow_right
theorem A5:type_of% @Nat.pow_lt_pow_right:= @Nat.pow_lt_pow_right
theorem fh:type_of% @Nat.sub_self:= @Nat.sub_self
theorem iW:type_of% @Nat.zero_add:= @Nat.zero_add
theorem aP:type_of% @Nat.zero_le:= @Nat.zero_le
theorem pN:type_of% @Option.bind_eq_some_iff.{0,0}:= @Option.bind_eq_some_iff
theorem dp:type_of% @Option.map_eq_some_iff.{0,0}:= @Option.map_eq_some_iff
theorem sj:type_of% @beq_eq_false_iff_ne.{0}:= @beq_eq_false_iff_ne
theorem fI:type_of% @decide_eq_false:= @decide_eq_false
theorem eB:type_of% @decide_eq_true:= @decide_eq_true
theorem gq:type_of% @decide_eq_true_eq:= @decide_eq_true_eq
theorem aA:type_of% @if_neg.{1}:= @if_neg
theorem aC:type_of% @if_pos.{1}:= @if_pos
theorem iX:type_of% @of_decide_eq_false:= @of_decide_eq_false
theorem fJ:type_of% @of_decide_eq_true:= @of_decide_eq_true
end Go
namespace Go.J
open Go
abbrev Fr:=List (Nat×Value)
def look:Fr→Nat→Option Value
 | [],_=>none
 |(k,v)::F,t=>bif Nat.beq t k then some v else look F t
def vl (F:Fr):Operand→Option Value
 | .tmp t=>look F t
 | .const v=>some v
 | .func f=>some (.func (.func f) #[] #[])
 | .global g=>some (.pointer (some ⟨g,0,none⟩))
structure Has (n:Nat)(a:Act)(F:Fr):Prop where
 size:a.tmps.size=n
 defers:a.defers=[]
 slot:∀t v,look F t=some v→a.tmps[t]?=some v
theorem Has.eval {n:Nat}{a:Act}{F:Fr}{x:Operand}{v:Value}(h:Has n a F)(hx:vl F x=some v):a.eval x=v:=by
 cases x with
 |tmp t=>simp only[vl]at hx;simp[Act.eval,Array.getD_eq_getD_getElem?,h.slot _ _ hx]
 |const u=>simp only[vl,Option.some.injEq]at hx;exact hx
 |func f=>simp only[vl,Option.some.injEq]at hx;exact hx
 |global g=>simp only[vl,Option.some.injEq]at hx;exact hx
theorem Has.put {n:Nat}{a:Act}{F:Fr}(h:Has n a F){d:Nat}(hd:d<n)(v:Value):Has n (a.put (some d) v) ((d,v)::F):=by
 refine⟨by simp[Act.put,h.size],by simp[Act.put,h.defers],λt u hu=> ?_⟩
 simp only[look]at hu
 cases b:Nat.beq t d with
 |true=>
  have e:t=d:=mo b
  subst e
  simp only[b,cond_true,Option.some.injEq]at hu
  subst hu
  simp[Act.put,h.size,hd]
 |false=>
  have e:t≠d:=Nat.ne_of_beq_eq_false b
  simp only[b,cond_false]at hu
  simp[Act.put,Ne.symm e,h.slot _ _ hu]
theorem Has.Oj {n:Nat}{a:Act}{F:Fr}(h:Has n a F)(v:Value):Has n (a.put none v) F:=h
def Sub:Fr→Fr→Prop
 | [],_=>True
 |(k,v)::a,F=>look F k=some v∧Sub a F
theorem Sub.look {b F:Fr}(h:Sub b F):∀t v,look b t=some v→J.look F t=some v:=by
 induction b with
 |nil=>intro t v a;simp[J.look]at a
 |cons p b d=>
  obtain⟨k,u⟩:=p;intro t v a
  simp only[J.look]at a
  cases c:Nat.beq t k with
  |true=>
   have e:t=k:=mo c
   subst e
   simp only[c,cond_true,Option.some.injEq]at a
   subst a;exact h.1
  |false=>
   simp only[c,cond_false]at a
   exact d h.2 t v a
theorem Has.sub {n:Nat}{a:Act}{F b:Fr}(h:Has n a F)(c:Sub b F):Has n a b:=⟨h.size,h.defers,λt v d=>h.slot t v (c.look t v d)⟩
def St (n:Nat)(F:Fr)(A:World→Prop)(T:Act→World→Prop):Prop:=∀a w,Has n a F→A w→T a w
section
variable {P:Program}{n:Nat}{F:Fr}{A:World→Prop}{Q:Exit→Act→World→Prop}{ops:Array Oper}
theorem St.o6 {A':World→Prop}{T:Act→World→Prop}(b:∀w,A w→A' w)(h:St n F A' T):St n F A T:=
 λa w c hw=>h a w c (b w hw)
theorem St.ex {ι:Sort _}{B:ι→World→Prop}{T:Act→World→Prop}(h:∀x,St n F (B x) T):St n F (λw=>∃x,B x w) T:=
 λa w b ⟨x,hx⟩=>h x a w b hx
theorem St.and {p:Prop}{T:Act→World→Prop}(h:p→St n F A T):St n F (λw=>p∧A w) T:=
 λa w b hw=>h hw.1 a w b hw.2
theorem St.seq {x y:Code}(h:St n F A (x.wp P (Exit.then (y.wp P Q) Q))):St n F A ((Code.seq x y).wp P Q):=
 λa w b hw=>wp_seq (h a w b hw)
theorem St.skip (h:St n F A (Q .normal)):St n F A (Code.skip.wp P Q):=λa w b hw=>wp_skip (h a w b hw)
theorem St.alN (h:St n F A (Q .ret)):St n F A (Code.ret.wp P Q):=λa w b hw=>wp_ret (h a w b hw)
theorem St.exit {id:Nat}(h:St n F A (Q (.exit id))):St n F A ((Code.exit id).wp P Q):=λa w b hw=>wp_exit (h a w b hw)
theorem St.block {id:Nat}{c:Code}(h:St n F A (c.wp P (Exit.inBlock id Q))):St n F A ((Code.block id c).wp P Q):=
 λa w b hw=>wp_block (h a w b hw)
theorem St.cond {c:Operand}{x y:Code}(t:Bool)(d:vl F c=some (.bool t))(ht:t=true→St n F A (x.wp P Q))(e:t=false→St n F A (y.wp P Q)):
 St n F A ((Code.cond c x y).wp P Q):=
 λa w b hw=>wp_cond_split (b.eval d) (λh=>ht h a w b hw) (λh=>e h a w b hw)
theorem St.Ij {c:Operand}{x y:Code}(t:Bool)(d:vl F c=some (.bool t))(h:t=true)(ht:St n F A (x.wp P Q)):
 St n F A ((Code.cond c x y).wp P Q):=
 λa w b hw=>wp_cond_true (by rw[b.eval d,h]) (ht a w b hw)
theorem St.rm {c:Operand}{x y:Code}(t:Bool)(d:vl F c=some (.bool t))(h:t=false)(e:St n F A (y.wp P Q)):
 St n F A ((Code.cond c x y).wp P Q):=
 λa w b hw=>wp_cond_false (by rw[b.eval d,h]) (e a w b hw)
theorem St.wW {K:Act→World→Prop}(h:St n F A K):St n F A (Exit.then K Q .normal):=h
theorem St.Le {K:Act→World→Prop}{id:Nat}(h:St n F A (Q (.exit id))):St n F A (Exit.then K Q (.exit id)):=h
theorem St.Pa {K:Act→World→Prop}(h:St n F A (Q .ret)):St n F A (Exit.then K Q .ret):=h
theorem St.Ks {id:Nat}(h:St n F A (Q .normal)):St n F A (Exit.inBlock id Q .normal):=h
theorem St.Wq {id:Nat}(h:St n F A (Q .ret)):St n F A (Exit.inBlock id Q .ret):=h
theorem St.Wp {id:Nat}(h:St n F A (Q .normal)):St n F A (Exit.inBlock id Q (.exit id)):=by
 intro a w b hw
 simp only[Exit.inBlock,if_true]
 exact h a w b hw
theorem St.SX {id b:Nat}(c:Nat.beq b id=false)(h:St n F A (Q (.exit b))):St n F A (Exit.inBlock id Q (.exit b)):=by
 intro a w d hw
 simp only[Exit.inBlock,if_neg (Nat.ne_of_beq_eq_false c)]
 exact h a w d hw
theorem St.loop {ι:Type _}{body:Code}(c:ι→Fr)(d:ι→World→Prop)(μ:ι→Nat)(f:ι)(i:Sub (c f) F)(j:∀w,A w→d f w)
 (round:∀x,St n (c x) (d x) (body.wp P (Exit.then (λh w'=>∃y,μ y<μ x∧Has n h (c y)∧d y w') Q))):
 St n F A ((Code.loop body).wp P Q):=by
 intro a w m hw;refine wp_loop_ghost (λk a w=>∃x,μ x=k∧Has n a (c x)∧d x w) (μ f) ⟨f,rfl,m.sub i,j w hw⟩ ?_;rintro k a w ⟨x,rfl,hx,g⟩;refine wp_mono (round x a w hx g) ?_;intro e h w' b
 cases e with
 |normal=>obtain⟨y,h1,o,p⟩:=b;exact⟨μ y,h1,y,rfl,o,p⟩
 |exit id=>exact b
 |goto l=>exact b
 |ret=>exact b
 |panic ch=>exact b
 |outgrown=>exact b
theorem St.rg {id:Nat}{l:List Oper}(h:St n F A (wpList P l.toArray Q l)):St n F A ((Code.region id l.toArray false).wp P Q):=
 λa w b hw=>wp_region_lit (h a w b hw)
theorem St.nil (h:St n F A (Q .normal)):St n F A (wpList P ops Q []):=h
abbrev bare (op : Op) (ty : TypeId) : Oper := { dst := none, op := op, type := ty, pos := "", after := #[], guard := none }
theorem gy (ρ:Operand→Value)(o:Oper):execOp ρ o=execOp ρ (bare o.op o.type):=by
 obtain⟨d,op,ty,p,a,g⟩:=o
 cases op<;>rfl
def Ev (P:Program)(n:Nat)(F:Fr)(A:World→Prop)(op:Op)(ty:TypeId)(v:Value):Prop:=
 ∀a w,Has n a F→A w→Oper.quietUpon P A w v ((execOp a.eval (bare op ty)).run P w)
theorem Ev.quietAt {op:Op}{ty:TypeId}{v:Value}(h:Ev P n F A op ty v){d:Option Tmp}{pos:String}{after:Array Edge}{g:Option (Nat×Bool)}{a:Act}{w:World}
 (b:Has n a F) (hw:A w):({dst:=d,op:=op,type:=ty,pos:=pos,after:=after,guard:=g}:Oper).quietAt P a A w v:=by
 unfold Oper.quietAt;rw[gy];exact h a w b hw
theorem Ev.wp {op:Op}{ty:TypeId}{v:Value}(h:Ev P n F A op ty v){d:Option Tmp}{pos:String}{after:Array Edge}{g:Option (Nat×Bool)}{a:Act}{w:World}
 (c:Has n a F) (hw:A w) {K:Act→World→Prop} (hk:∀w',A w'→K (a.put d v) w'):
 ({dst:=d,op:=op,type:=ty,pos:=pos,after:=after,guard:=g}:Oper).wp P a w K Q:=by
 unfold Oper.wp Oper.upon;rw[gy]
 have b:=h a w c hw
 simp only at b⊢
 generalize (execOp a.eval (bare op ty)).run P w=r at b
 cases r with
 |ok f w'=>
  cases f<;>simp only[Oper.quietUpon]at b<;>(try exact b.elim)
  ·obtain⟨rfl,rfl⟩:=b;exact hk _ hw
  ·obtain⟨rfl,rfl⟩:=b;exact hk _ hw
  ·obtain⟨rfl,i⟩:=b
   exact i.mono λe k he=>by
    obtain⟨rfl,j⟩:=he;exact hk _ j
 |halt x w'=>simp only[Oper.quietUpon]at b
theorem gG {o:Oper}{rest:List Oper}{a:Act}{w:World}(b:o.guard=none)(h:o.wp P a w (wpList P ops Q rest) Q):wpList P ops Q (o::rest) a w:=by
 simp only[wpList,Region.wanted,b,if_true]
 exact .inl h
theorem St.ev {d:Nat}{op:Op}{ty:TypeId}{pos:String}{after:Array Edge}{rest:List Oper}(v:Value)(c:Ev P n F A op ty v)(hd:Nat.ble (d+1) n=true)
 (h:St n ((d,v)::F) A (wpList P ops Q rest)):
 St n F A (wpList P ops Q ({dst:=some d,op:=op,type:=ty,pos:=pos,after:=after,guard:=none}::rest)):=
 λa w b hw=>gG rfl (c.wp b hw λw' e=>h _ w' (b.put (dR hd) v) e)
@[irreducible] def gv (c:Bool)(v:Value):Value:=bif c then v else undef
theorem cz {c:Bool}(h:c=true)(v:Value):gv c v=v:=by unfold gv;simp[h]
theorem cM {c:Bool}(h:c=false)(v:Value):gv c v=undef:=by unfold gv;simp[h]
def ah (F:Fr)(x:Operand)(v:Value):Prop:=∃u,vl F x=some u∧u=v
theorem ah.mk {x:Operand}{v:Value}(h:vl F x=some v):ah F x v:=⟨v,h,rfl⟩
theorem ah.gv {x:Operand}{v:Value}{c:Bool}(h:vl F x=some (gv c v))(a:c=true):ah F x v:=⟨_,h,cz a v⟩
theorem ah.eval {x:Operand}{v:Value}(h:ah F x v){a:Act}(b:Has n a F):a.eval x=v:=by
 obtain⟨u,h1,rfl⟩:=h;exact b.eval h1
theorem U0 {a b:Bool}(h:a=true)(k:b=true):(a&&b)=true:=by simp[h,k]
def Vg:Value→Option Bool
 | .bool b=>some b
 |_=>none
theorem IL {l:Array Oper}{j dj:Nat}{u:Value}{tmps:Array Value}(a:(l[j]?).bind (·.dst)=some dj)(h:tmps[dj]?=some u):
 yielded l tmps j=Vg u:=by
 unfold yielded;rw[a]
 simp only[Option.bind_some,h]
 cases u<;>rfl
theorem mJ {l:Array Oper}{o:Oper}{j dj:Nat}{want c:Bool}{a:Act}{u:Value}(b:o.guard=some (j,want))(d:(l[j]?).bind (·.dst)=some dj)(h:a.tmps[dj]?=some u)
 (hu:(c=true→u= .bool want)∧(c=false→u= .bool (!want)∨u=undef)):Region.wanted o (yielded l a.tmps)=c:=by
 unfold Region.wanted;rw[b]
 simp only[]
 rw[IL d h]
 cases c with
 |true=>rw[hu.1 rfl];cases want<;>rfl
 |false=>
  rcases hu.2 rfl with h|h
  ·rw[h];cases want<;>rfl
  ·rw[h];cases want<;>rfl
theorem St.guarded {j:Nat}{want:Bool}{d:Nat}{op:Op}{ty:TypeId}{pos:String}{after:Array Edge}{rest:List Oper}(c:Bool){dj:Nat}{u:Value}(v:Value)
 (g:(ops[j]?).bind (·.dst)=some dj) (i:look F dj=some u) (hu:(c=true→u= .bool want)∧(c=false→u= .bool (!want)∨u=undef))
 (k:c=true→Ev P n F A op ty v) (hd:Nat.ble (d+1) n=true) (h:St n ((d,gv c v)::F) A (wpList P ops Q rest)):
 St n F A (wpList P ops Q ({dst:=some d,op:=op,type:=ty,pos:=pos,after:=after,guard:=some (j,want)}::rest)):=by
 intro a w b hw
 have f:=dR hd
 have m:=mJ (l:=ops) (o:={dst:=some d,op:=op,type:=ty,pos:=pos,after:=after,guard:=some (j,want)}) rfl g (b.slot _ _ i) hu
 simp only[wpList,m]
 cases e:c with
 |true=>
  rw[e]at h
  simp only[if_true]
  refine .inl ((k e).wp b hw λw' p=> ?_)
  have:=h _ w' (b.put f (gv true v)) p
  rwa[cz rfl]at this
 |false=>
  rw[e]at h
  have:=h _ w (b.put f (gv false v)) hw
  rw[cM rfl]at this
  simpa using this
theorem WG (g:Bool):(g=true→Value.bool g= .bool true)∧(g=false→Value.bool g= .bool (!true)∨Value.bool g=undef):=by cases g<;>simp
theorem WE (g:Bool):((!g)=true→Value.bool g= .bool false)∧((!g)=false→Value.bool g= .bool (!false)∨Value.bool g=undef):=by cases g<;>simp
theorem aaA (c g:Bool):((c&&g)=true→J.gv c (.bool g)= .bool true)∧((c&&g)=false→J.gv c (.bool g)= .bool (!true)∨J.gv c (.bool g)=undef):=by
 cases c<;>cases g<;>simp[gv]
section
variable {j:Nat}{d:Nat}{op:Op}{ty:TypeId}{pos:String}{after:Array Edge}{rest:List Oper}{dj:Nat}(v:Value)
theorem St.gt {g:Bool}(a:(ops[j]?).bind (·.dst)=some dj)(b:look F dj=some (.bool g))(c:g=true→Ev P n F A op ty v)(hd:Nat.ble (d+1) n=true)
 (h:St n ((d,gv g v)::F) A (wpList P ops Q rest)):
 St n F A (wpList P ops Q ({dst:=some d,op:=op,type:=ty,pos:=pos,after:=after,guard:=some (j,true)}::rest)):=St.guarded g v a b (WG g) c hd h
theorem St.gf {g:Bool}(a:(ops[j]?).bind (·.dst)=some dj)(b:look F dj=some (.bool g))(c:(!g)=true→Ev P n F A op ty v)(hd:Nat.ble (d+1) n=true)
 (h:St n ((d,gv (!g) v)::F) A (wpList P ops Q rest)):
 St n F A (wpList P ops Q ({dst:=some d,op:=op,type:=ty,pos:=pos,after:=after,guard:=some (j,false)}::rest)):=St.guarded (!g) v a b (WE g) c hd h
theorem St.YE {c g:Bool}(a:(ops[j]?).bind (·.dst)=some dj)(b:look F dj=some (gv c (.bool g)))(e:(c&&g)=true→Ev P n F A op ty v)(hd:Nat.ble (d+1) n=true)
 (h:St n ((d,gv (c&&g) v)::F) A (wpList P ops Q rest)):
 St n F A (wpList P ops Q ({dst:=some d,op:=op,type:=ty,pos:=pos,after:=after,guard:=some (j,true)}::rest)):=St.guarded (c&&g) v a b (aaA c g) e hd h
end
def Sq (n:Nat)(F:Fr)(T:Act→Prop):Prop:=∀a,Has n a F→T a
theorem Sq.nil (h:St n F A (Q .normal)):Sq n F (wpQuiet P ops A (λb=>∀w',A w'→Q .normal b w') []):=λa c w hw=>h a w c hw
theorem Sq.ev {d:Nat}{op:Op}{ty:TypeId}{pos:String}{after:Array Edge}{rest:List Oper}{T:Act→Prop}(v:Value)(c:Ev P n F A op ty v)(hd:Nat.ble (d+1) n=true)
 (h:Sq n ((d,v)::F) (wpQuiet P ops A T rest)):
 Sq n F (wpQuiet P ops A T ({dst:=some d,op:=op,type:=ty,pos:=pos,after:=after,guard:=none}::rest)):=by
 intro a b
 simp only[wpQuiet,Region.wanted,if_true]
 exact⟨v,λw hw=>c.quietAt b hw,h _ (b.put (dR hd) v)⟩
theorem Sq.guarded {j:Nat}{want:Bool}{d:Nat}{op:Op}{ty:TypeId}{pos:String}{after:Array Edge}{rest:List Oper}{T:Act→Prop}(c:Bool){dj:Nat}{u:Value}(v:Value)
 (g:(ops[j]?).bind (·.dst)=some dj) (i:look F dj=some u) (hu:(c=true→u= .bool want)∧(c=false→u= .bool (!want)∨u=undef))
 (k:c=true→Ev P n F A op ty v) (hd:Nat.ble (d+1) n=true) (h:Sq n ((d,gv c v)::F) (wpQuiet P ops A T rest)):
 Sq n F (wpQuiet P ops A T ({dst:=some d,op:=op,type:=ty,pos:=pos,after:=after,guard:=some (j,want)}::rest)):=by
 intro a b
 have f:=dR hd
 have m:=mJ (l:=ops) (o:={dst:=some d,op:=op,type:=ty,pos:=pos,after:=after,guard:=some (j,want)}) rfl g (b.slot _ _ i) hu
 simp only[wpQuiet,m]
 cases e:c with
 |true=>
  rw[e]at h
  simp only[if_true]
  refine⟨v,λw hw=>(k e).quietAt b hw,?_⟩
  have:=h _ (b.put f (gv true v))
  rwa[cz rfl]at this
 |false=>
  rw[e]at h
  have:=h _ (b.put f (gv false v))
  rw[cM rfl]at this
  simpa using this
section
variable {j:Nat}{d:Nat}{op:Op}{ty:TypeId}{pos:String}{after:Array Edge}{rest:List Oper}{dj:Nat}{T:Act→Prop}(v:Value)
theorem Sq.gt {g:Bool}(a:(ops[j]?).bind (·.dst)=some dj)(b:look F dj=some (.bool g))(c:g=true→Ev P n F A op ty v)(hd:Nat.ble (d+1) n=true)
 (h:Sq n ((d,gv g v)::F) (wpQuiet P ops A T rest)):
 Sq n F (wpQuiet P ops A T ({dst:=some d,op:=op,type:=ty,pos:=pos,after:=after,guard:=some (j,true)}::rest)):=Sq.guarded g v a b (WG g) c hd h
theorem Sq.gf {g:Bool}(a:(ops[j]?).bind (·.dst)=some dj)(b:look F dj=some (.bool g))(c:(!g)=true→Ev P n F A op ty v)(hd:Nat.ble (d+1) n=true)
 (h:Sq n ((d,gv (!g) v)::F) (wpQuiet P ops A T rest)):
 Sq n F (wpQuiet P ops A T ({dst:=some d,op:=op,type:=ty,pos:=pos,after:=after,guard:=some (j,false)}::rest)):=Sq.guarded (!g) v a b (WE g) c hd h
end
def Lz (A:World→Prop):Prop:=∀w,A w→A {w with drawn:=w.drawn+1}
theorem St.rq {id:Nat}{l:List Oper}(hm:P.follows .mixedOrders=true)(b:Region.lexB .any l.toArray=true)(c:Lz A)
 (h:Sq n F (wpQuiet P l.toArray A (λd=>∀w',A w'→Q .normal d w') l)):St n F A ((Code.region id l.toArray true).wp P Q):=
 λa w e hw=>wp_region_quiet hm b (c w hw) (by simpa using h a e)
end
abbrev Ro:=Nat→Option Obj
def Ro.le (ρ jq:Ro):Prop:=∀k o,ρ k=some o→jq k=some o
theorem Ro.le_refl (ρ:Ro):ρ.le ρ:=λ_ _ h=>h
theorem Ro.le_trans {a b c:Ro}(h:a.le b)(k:b.le c):a.le c:=λ_ _ x=>k _ _ (h _ _ x)
structure du where
 f:Ro→Prop
 mono:∀ρ jq,Ro.le ρ jq→f ρ→f jq
structure ak where
 key:Option Nat
 ok:Ro→World→Prop
 loc:∀{ρ jq w w'},Ro.le ρ jq→(∀b,key=some b→w'.heap[b]?=w.heap[b]?)→ok ρ w→ok jq w'
 lt:∀{ρ w b},ok ρ w→key=some b→b<w.heap.size
@[irreducible] def aB (d:du):ak:=⟨none,λρ _=>d.f ρ,λh _ k=>d.mono _ _ h k,λ_ h=>by simp at h⟩
@[irreducible] def aW (b:Nat)(o:Obj):ak:=⟨some b,λ_ w=>w.heap[b]?=some o,λ_ h k=>by rw[h b rfl];exact k,λh a=>by
 simp only[Option.some.injEq]at a
 subst a
 exact(wC.1 h).1⟩
theorem Ex {w w':World}{e:TypeId}{size n:Nat}{v:Value}{cs:List Value}(h:∀b,v.ownBlock=some b→w'.heap[b]?=w.heap[b]?)(k:w.ownsRow 0 e size v n cs):w'.ownsRow 0 e size v n cs:=by
 obtain⟨h1,a⟩:=k;refine⟨h1,?_⟩
 rcases a with a|⟨g,cap,cur,rfl,c,d,f⟩
 ·exact .inl a
 ·exact .inr ⟨g,cap,cur,rfl,c,by rw[h g rfl];exact d,f⟩
@[irreducible] def row (v:Value)(e:TypeId)(size n:Nat)(cs:List Value):ak:=⟨v.ownBlock,λ_ w=>w.ownsRow 0 e size v n cs,λ_ h k=>Ex h k,λh a=>(h.lt _ a).2⟩
theorem jw (d:du):(aB d).key=none:=by unfold aB;rfl
theorem dA {d:du}{ρ:Ro}{w:World}:(aB d).ok ρ w↔d.f ρ:=by unfold aB;exact Iff.rfl
theorem iZ (b:Nat)(o:Obj):(aW b o).key=some b:=by unfold aW;rfl
theorem fq {b:Nat}{o:Obj}{ρ:Ro}{w:World}:(aW b o).ok ρ w↔w.heap[b]?=some o:=by unfold aW;exact Iff.rfl
theorem eI (v:Value)(e:TypeId)(size n:Nat)(cs:List Value):(row v e size n cs).key=v.ownBlock:=by unfold row;rfl
theorem eN {v:Value}{e:TypeId}{size n:Nat}{cs:List Value}{ρ:Ro}{w:World}:(row v e size n cs).ok ρ w↔w.ownsRow 0 e size v n cs:=by unfold row;exact Iff.rfl
def IP (E a:ak):Prop:=∀b,E.key=some b→a.key≠some b
theorem IP.symm {E a:ak}(h:IP E a):IP a E:=λb h1 c=>h b c h1
def jo (H:List ak)(b:Nat):Prop:=∃E∈H,E.key=some b
structure Ctx where
 w:World
 ρ:Ro
 M:Nat→Prop
 dr:Prop
structure ez (c:Ctx)(H:List ak)(ρ:Ro)(w:World):Prop where
 os:w.os=c.w.os
 tape:w.tape=c.w.tape∧(c.dr→c.w.drawn≤w.drawn)
 output:w.output=c.w.output
 size:c.w.heap.size≤w.heap.size
 AD:∀k,k<c.w.heap.size→¬c.M k→w.heap[k]?=c.w.heap[k]?
 fits:∀k o,ρ k=some o→w.heap[k]?=some o
 le:Ro.le c.ρ ρ
 new:∀k,k<c.w.heap.size→¬c.M k→ρ k=c.ρ k
 dM:∀E∈H,E.ok ρ w
 own:∀E∈H,∀b,E.key=some b→ρ b=none∧(c.w.heap.size≤b∨c.M b)
 EG:H.Pairwise IP
@[irreducible] def Mm (c:Ctx)(H:List ak)(w:World):Prop:=∃ρ,ez c H ρ w
theorem Mm.out {c:Ctx}{H:List ak}{w:World}(h:Mm c H w):∃ρ,ez c H ρ w:=by unfold Mm at h;exact h
theorem Mm.mk {c:Ctx}{H:List ak}{w:World}{ρ:Ro}(h:ez c H ρ w):Mm c H w:=by unfold Mm;exact⟨ρ,h⟩
theorem ez.lt {c:Ctx}{H:List ak}{ρ:Ro}{w:World}(h:ez c H ρ w){E:ak}(a:E∈H){b:Nat}(d:E.key=some b):b<w.heap.size:=E.lt (h.dM E a) d
theorem ez.AE {c:Ctx}{H:List ak}{ρ:Ro}{w:World}(h:ez c H ρ w){b:Nat}{o:Obj}(a:ρ b=some o):b<w.heap.size:=(wC.1 (h.fits b o a)).1
theorem ez.step {c:Ctx}{H1 H2 R:List ak}{ρ jq:Ro}{w w':World}(h:ez c (H1++R) ρ w)(k:ez ⟨w,ρ,jo H1,c.dr⟩ H2 jq w'):ez c (H2++R) jq w':=by
 have hd:=sD.1 h.EG
 have o:∀E∈R,∀b,E.key=some b→w'.heap[b]?=w.heap[b]?:=by
  intro E a b e;refine k.AD b (h.lt (mr _ a) e) ?_;rintro ⟨j,g,l⟩;exact hd.2.2 j g E a b l e
 refine⟨k.os.trans h.os,⟨k.tape.1.trans h.tape.1,λd=>dW (h.tape.2 d) (k.tape.2 d)⟩,k.output.trans h.output,dW h.size k.size,?_,k.fits,Ro.le_trans h.le k.le,?_,?_,?_,?_⟩
 ·intro i m hm
  rw[←h.AD i m hm];refine k.AD i (fO m h.size) ?_;rintro ⟨E,a,e⟩
  rcases(h.own E (kW _ a) i e).2 with f|f
  ·omega
  ·exact hm f
 ·intro i m hm
  rw[←h.new i m hm];refine k.new i (fO m h.size) ?_;rintro ⟨E,a,e⟩
  rcases(h.own E (kW _ a) i e).2 with f|f
  ·omega
  ·exact hm f
 ·intro E a
  rcases cG.1 a with a|a
  ·exact k.dM E a
  ·exact E.loc k.le (o E a) (h.dM E (mr _ a))
 ·intro E a b e
  rcases cG.1 a with a|a
  ·refine⟨(k.own E a b e).1,?_⟩
   rcases(k.own E a b e).2 with f|⟨j,g,f⟩
   ·exact .inl (dW h.size f)
   ·exact(h.own j (kW _ g) b f).2
  ·have h1:=h.own E (mr _ a) b e
   refine⟨?_,h1.2⟩;rw[k.new b (h.lt (mr _ a) e)]
   ·exact h1.1
   ·rintro ⟨j,g,l⟩
    exact hd.2.2 j g E a b l e
 ·refine sD.2 ⟨k.EG,hd.2.1,?_⟩
  intro E a j g b e l
  rcases(k.own E a b e).2 with f|⟨n,p,f⟩
  ·have:=h.lt (mr _ g) l
   exact absurd this (by simpa using f)
  ·exact hd.2.2 n p j g b f l
theorem ez.perm {c:Ctx}{H H':List ak}{ρ:Ro}{w:World}(h:ez c H ρ w)(hp:H.Perm H'):ez c H' ρ w:=
 ⟨h.os,h.tape,h.output,h.size,h.AD,h.fits,h.le,h.new,λE a=>h.dM E (hp.mem_iff.2 a),λE a=>h.own E (hp.mem_iff.2 a),
  (hp.pairwise_iff λh=>h.symm).1 h.EG⟩
theorem ez.drop {c:Ctx}{E:ak}{H:List ak}{ρ:Ro}{w:World}(h:ez c (E::H) ρ w):ez c H ρ w:=
 ⟨h.os,h.tape,h.output,h.size,h.AD,h.fits,h.le,h.new,λE a=>h.dM E (cO _ a),λE a=>h.own E (cO _ a),(jW.1 h.EG).2⟩
theorem ez.fact {c:Ctx}{H:List ak}{ρ:Ro}{w:World}(h:ez c H ρ w)(d:du)(hd:d.f ρ):ez c (aB d::H) ρ w:=
 ⟨h.os,h.tape,h.output,h.size,h.AD,h.fits,h.le,h.new,λE a=>by
  rcases cK.1 a with rfl|a
  ·exact dA.2 hd
  ·exact h.dM E a,
  λE a b e=>by
   rcases cK.1 a with rfl|a
   ·rw[jw]at e;cases e
   ·exact h.own E a b e,
  jW.2 ⟨λE _ b e=>(by rw[jw]at e;cases e),h.EG⟩⟩
theorem ez.drawn {c:Ctx}{H:List ak}{ρ:Ro}{w:World}(h:ez c H ρ w):ez c H ρ {w with drawn:=w.drawn+1}:=
 ⟨h.os,⟨h.tape.1,λd=>Nat.le_succ_of_le (h.tape.2 d)⟩,h.output,h.size,h.AD,h.fits,h.le,h.new,λE a=>E.loc (w:=w) (Ro.le_refl _) (λ_ _=>rfl) (h.dM E a),h.own,h.EG⟩
theorem Mm.drawn (c:Ctx)(H:List ak):Lz (Mm c H):=λ_ h=>let⟨_,k⟩:=h.out;Mm.mk k.drawn
def Start (H:List ak)(ρ:Ro)(w:World):Prop:=ez ⟨w,ρ,jo H,True⟩ H ρ w
theorem ez.start {c:Ctx}{H R:List ak}{ρ:Ro}{w:World}(h:ez c (H++R) ρ w):Start H ρ w:=
 ⟨rfl,⟨rfl,λ_=>aR _⟩,rfl,aR _,λ_ _ _=>rfl,h.fits,Ro.le_refl _,λ_ _ _=>rfl,λE a=>h.dM E (kW _ a),
  λE a b d=>⟨(h.own E (kW _ a) b d).1,.inr ⟨E,a,d⟩⟩,(sD.1 h.EG).1⟩
def dz (P:Program)(f:FuncId)(args:Array Value)(pre:List ak)(post:Value→List ak→Prop):Prop:=
 ∀w ρ,Start pre ρ w→Calls P f args w λe w'=>∃v H',e= .returned v∧post v H'∧Mm ⟨w,ρ,jo pre,True⟩ H' w'
def Dk (dr:Prop)(P:Program)(f:FuncId)(args:Array Value)(pre:List ak)(post:Value→List ak→Prop):Prop:=
 ∀w ρ,Start pre ρ w→Calls P f args w λe w'=>∃v H',e= .returned v∧post v H'∧Mm ⟨w,ρ,jo pre,dr⟩ H' w'
theorem ez.dr {a:World}{b:Ro}{M:Nat→Prop}{d c:Prop}{H:List ak}{ρ:Ro}{w:World}(h:ez ⟨a,b,M,d⟩ H ρ w)(hd:c→d):ez ⟨a,b,M,c⟩ H ρ w:=
 ⟨h.os,⟨h.tape.1,λq=>h.tape.2 (hd q)⟩,h.output,h.size,h.AD,h.fits,h.le,h.new,h.dM,h.own,h.EG⟩
theorem Mm.dr {a:World}{b:Ro}{M:Nat→Prop}{d c:Prop}{H:List ak}{w:World}(h:Mm ⟨a,b,M,d⟩ H w)(hd:c→d):Mm ⟨a,b,M,c⟩ H w:=let⟨_,k⟩:=h.out;Mm.mk (k.dr hd)
theorem dz.gen {P:Program}{f:FuncId}{args:Array Value}{pre:List ak}{post:Value→List ak→Prop}(h:dz P f args pre post):Dk True P f args pre post:=h
theorem Dk.dr {d a:Prop}{P:Program}{f:FuncId}{args:Array Value}{pre:List ak}{post:Value→List ak→Prop}(h:Dk d P f args pre post)(hd:a→d):Dk a P f args pre post:=
 λw ρ b=>(h w ρ b).mono λ_ _ ⟨v,H',h1,c,e⟩=>⟨v,H',h1,c,e.dr hd⟩
theorem Dk.mono {d:Prop}{P:Program}{f:FuncId}{args:Array Value}{pre:List ak}{post a:Value→List ak→Prop}(h:Dk d P f args pre post)(hp:∀v H,post v H→a v H):Dk d P f args pre a:=
 λw ρ b=>(h w ρ b).mono λ_ _ ⟨v,H',h1,c,e⟩=>⟨v,H',h1,hp v H' c,e⟩
abbrev sk:=Dk False
def kX (P:Program)(f:FuncId)(args:Array Value)(ds:List du)(v:Value):Prop:=sk P f args (ds.map aB) λu _=>u=v
def eE (P:Program)(f:FuncId)(args:Array Value)(ds:List du)(v:Value):Prop:=dz P f args (ds.map aB) λu _=>u=v
theorem dz.mono {P:Program}{f:FuncId}{args:Array Value}{pre:List ak}{post a:Value→List ak→Prop}(h:dz P f args pre post)(hp:∀v H,post v H→a v H):dz P f args pre a:=
 λw ρ b=>(h w ρ b).mono λ_ _ ⟨v,H',h1,c,d⟩=>⟨v,H',h1,hp v H' c,d⟩
theorem ez.AV {c:Ctx}{H:List ak}{ρ:Ro}{w:World}(h:ez c H ρ w):∀ds:List du,(∀d∈ds,d.f ρ)→ez c (ds.map aB++H) ρ w
 | [],_=>h
 |d::ds,hd=>(h.AV ds λa b=>hd a (cO _ b)).fact d (hd d (aQ ..))
section classes
class lT (d:du)(H:List ak):Prop where
 mem:aB d∈H
instance (priority:=high) lT.here (d:du)(H:List ak):lT d (aB d::H):=⟨aQ ..⟩
instance lT.there (d:du)(E:ak)(H:List ak)[h:lT d H]:lT d (E::H):=⟨cO _ h.mem⟩
class kY (ds:List du)(H:List ak):Prop where
 mem:∀d∈ds,aB d∈H
instance kY.nil (H:List ak):kY [] H:=⟨λ_ h=>by simp at h⟩
instance kY.cons (d:du)(ds:List du)(H:List ak)[h:lT d H][k:kY ds H]:kY (d::ds) H:=
 ⟨λb a=>by rcases cK.1 a with rfl|a;exact h.mem;exact k.mem b a⟩
class Ay (b:Nat)(H:List ak)(o:outParam Obj):Prop where
 mem:aW b o∈H
instance (priority:=high) Ay.here (b:Nat)(o:Obj)(H:List ak):Ay b (aW b o::H) o:=⟨aQ ..⟩
instance Ay.there (b:Nat)(o:Obj)(E:ak)(H:List ak)[h:Ay b H o]:Ay b (E::H) o:=⟨cO _ h.mem⟩
class l3 (b:Nat)(H:List ak)(o:outParam Obj)(R:outParam (List ak)):Prop where
 perm:H.Perm (aW b o::R)
instance (priority:=high) l3.here (b:Nat)(o:Obj)(H:List ak):l3 b (aW b o::H) o H:=⟨.refl _⟩
instance l3.there (b:Nat)(o:Obj)(E:ak)(H R:List ak)[h:l3 b H o R]:l3 b (E::H) o (E::R):=⟨(h.perm.cons E).trans (.swap ..)⟩
class lU (v:Value)(H:List ak)(e:outParam TypeId)(size n:outParam Nat)(cs:outParam (List Value))(R:outParam (List ak)):Prop where
 perm:H.Perm (row v e size n cs::R)
instance (priority:=high) lU.here (v:Value)(e:TypeId)(size n:Nat)(cs:List Value)(H:List ak):lU v (row v e size n cs::H) e size n cs H:=⟨.refl _⟩
instance lU.there (v:Value)(e:TypeId)(size n:Nat)(cs:List Value)(E:ak)(H R:List ak)[h:lU v H e size n cs R]:lU v (E::H) e size n cs (E::R):=⟨(h.perm.cons E).trans (.swap ..)⟩
class B5 (E:ak)(H:List ak)(R:outParam (List ak)):Prop where
 perm:H.Perm (E::R)
instance (priority:=high) B5.here (E:ak)(H:List ak):B5 E (E::H) H:=⟨.refl _⟩
instance B5.there (E a:ak)(H R:List ak)[h:B5 E H R]:B5 E (a::H) (a::R):=⟨(h.perm.cons a).trans (.swap ..)⟩
class eV (L H:List ak)(R:outParam (List ak)):Prop where
 perm:H.Perm (L++R)
instance eV.nil (H:List ak):eV [] H H:=⟨.refl _⟩
instance eV.cons (E:ak)(L H R a:List ak)[h:B5 E H R][k:eV L R a]:eV (E::L) H a:=⟨h.perm.trans (k.perm.cons E)⟩
end classes
theorem Mm.take {c:Ctx}{L H R:List ak}{w:World}[t:eV L H R](h:Mm c H w):Mm c (L++R) w:=let⟨_,k⟩:=h.out;Mm.mk (k.perm t.perm)
theorem ez.left {c:Ctx}{L R:List ak}{ρ:Ro}{w:World}(h:ez c (L++R) ρ w):ez c L ρ w:=by
 induction R generalizing L with
 |nil=>simpa using h
 |cons E R a=>exact a (h.perm qi).drop
theorem Mm.sub {c:Ctx}{L H R:List ak}{w:World}[t:eV L H R](h:Mm c H w):Mm c L w:=let⟨_,k⟩:=h.out;Mm.mk (k.perm t.perm).left
theorem Mm.fact {c:Ctx}{H:List ak}{w:World}(h:Mm c H w)(d:du)(hd:∀ρ,ez c H ρ w→d.f ρ):Mm c (aB d::H) w:=let⟨_,k⟩:=h.out;Mm.mk (k.fact d (hd _ k))
section
variable {P:Program}{n:Nat}{F:Fr}{c:Ctx}{H R:List ak}{Q:Exit→Act→World→Prop}{ops:Array Oper}{T:Act→World→Prop}
theorem St.fact (d:du)(hd:∀ρ w,ez c H ρ w→d.f ρ)(h:St n F (Mm c (aB d::H)) T):St n F (Mm c H) T:=
 h.o6 λ_ hw=>hw.fact d λρ k=>hd ρ _ k
theorem St.sub (L:List ak)[t:eV L H R](h:St n F (Mm c L) T):St n F (Mm c H) T:=h.o6 λ_ hw=>hw.sub
theorem St.take (L:List ak)[t:eV L H R](h:St n F (Mm c (L++R)) T):St n F (Mm c H) T:=h.o6 λ_ hw=>hw.take
theorem St.aK (h:St n F (Mm c R) T):St n F (Mm c ([]++R)) T:=h
theorem St.ao {a:ak}(h:St n F (Mm c (a::R)) T):St n F (Mm c ([a]++R)) T:=h
theorem St.dQ {a b:ak}(h:St n F (Mm c (a::b::R)) T):St n F (Mm c ([a,b]++R)) T:=h
theorem St.iQ {a b d:ak}(h:St n F (Mm c (a::b::d::R)) T):St n F (Mm c ([a,b,d]++R)) T:=h
theorem St.Yp {a b d e:ak}(h:St n F (Mm c (a::b::d::e::R)) T):St n F (Mm c ([a,b,d,e]++R)) T:=h
def Do (P:Program)(n:Nat)(F:Fr)(c:Ctx)(H:List ak)(op:Op)(ty:TypeId)(K:Value→List ak→Prop):Prop:=
 ∀a w ρ,Has n a F→ez c H ρ w→∃v w' jq H',(execOp a.eval (bare op ty)).run P w= .ok v w'∧(∃u,(v= .value u∨(v= .skip∧u=undef))∧K u H')∧ez c H' jq w'
theorem Do.wp {op:Op}{ty:TypeId}{K:Value→List ak→Prop}(h:Do P n F c H op ty K){d:Option Tmp}{pos:String}{after:Array Edge}{g:Option (Nat×Bool)}{a:Act}{w:World}
 (i:Has n a F) (hw:Mm c H w) {J:Act→World→Prop} (hk:∀u H' w',K u H'→Mm c H' w'→J (a.put d u) w'):
 ({dst:=d,op:=op,type:=ty,pos:=pos,after:=after,guard:=g}:Oper).wp P a w J Q:=by
 obtain⟨ρ,hm⟩:=hw.out;obtain⟨v,w',jq,H',b,⟨u,j,e⟩,f⟩:=h a w ρ i hm;unfold Oper.wp Oper.upon;rw[gy]
 simp only at b⊢
 rw[b]
 rcases j with rfl|⟨rfl,rfl⟩
 ·exact hk _ _ _ e (Mm.mk f)
 ·exact hk _ _ _ e (Mm.mk f)
theorem St.QS {d:Nat}{op:Op}{ty:TypeId}{pos:String}{after:Array Edge}{rest:List Oper}{K:Value→List ak→Prop}(b:Do P n F c H op ty K)(hd:Nat.ble (d+1) n=true)
 (h:∀v H',K v H'→St n ((d,v)::F) (Mm c H') (wpList P ops Q rest)):
 St n F (Mm c H) (wpList P ops Q ({dst:=some d,op:=op,type:=ty,pos:=pos,after:=after,guard:=none}::rest)):=
 λ_ _ a hw=>gG rfl (b.wp a hw λu H' w' e f=>h u H' e _ w' (a.put (dR hd) u) f)
theorem St.lq {op:Op}{ty:TypeId}{pos:String}{after:Array Edge}{rest:List Oper}{K:Value→List ak→Prop}(b:Do P n F c H op ty K)
 (h:∀v H',K v H'→St n F (Mm c H') (wpList P ops Q rest)):
 St n F (Mm c H) (wpList P ops Q ({dst:=none,op:=op,type:=ty,pos:=pos,after:=after,guard:=none}::rest)):=
 λ_ _ a hw=>gG rfl (b.wp a hw λu H' w' d e=>h u H' d _ w' (a.Oj u) e)
end
def tG:Nat→List Value→Fr
 |_,[]=>[]
 |k,v::vs=>(k,v)::tG (k+1) vs
theorem uk {t:Nat}{v:Value}:∀(l:List Value) (i:Nat),look (tG i l) t=some v→i≤t∧l[t-i]?=some v
 | [],i,h=>by simp[tG,look]at h
 |x::l,i,h=>by
  simp only[tG,look]at h
  cases a:Nat.beq t i with
  |true=>
   have e:t=i:=mo a
   subst e
   simp only[a,cond_true,Option.some.injEq]at h
   subst h
   simp
  |false=>
   have e:t≠i:=Nat.ne_of_beq_eq_false a
   simp only[a,cond_false]at h
   obtain⟨h1,b⟩:=uk l (i+1) h;refine⟨by omega,?_⟩
   have:t-i=(t-(i+1))+1:=by omega
   rw[this,s8];exact b
theorem dz.body {P:Program}{f:FuncId}{fn:Func}{cd:Code}{args:List Value}{pre:List ak}{post:Value→List ak→Prop}(n:Nat)
 (b:P.funcs[f]?=some fn) (d:fn.body=some cd) (g:fn.ntmps=n) (i:Nat.ble args.length n=true)
 (h:∀c:Ctx,St n (tG 0 args) (Mm c pre) (cd.wp P (bodyPost P fn λe w'=>∃v H',e= .returned v∧post v H'∧Mm c H' w'))):
 dz P f args.toArray pre post:=by
 intro w ρ j;refine calls_of_wp b d (h ⟨w,ρ,jo pre,True⟩ _ w ⟨?_,rfl,?_⟩ (Mm.mk j))
 ·have:=dR i
  simp[g]
  omega
 ·intro t v ht
  obtain⟨_,a⟩:=uk args 0 ht
  simp only[Nat.sub_zero]at a
  have k:t<args.length:=(fA.1 a).1
  simp only[List.size_toArray,Array.getElem?_append,k,if_true]
  simpa using a
theorem sk.body {P:Program}{f:FuncId}{fn:Func}{cd:Code}{args:List Value}{pre:List ak}{post:Value→List ak→Prop}(n:Nat)
 (b:P.funcs[f]?=some fn) (d:fn.body=some cd) (g:fn.ntmps=n) (i:Nat.ble args.length n=true)
 (h:∀c:Ctx,¬c.dr→St n (tG 0 args) (Mm c pre) (cd.wp P (bodyPost P fn λe w'=>∃v H',e= .returned v∧post v H'∧Mm c H' w'))):
 sk P f args.toArray pre post:=by
 intro w ρ j;refine calls_of_wp b d (h ⟨w,ρ,jo pre,False⟩ (λh=>h) _ w ⟨?_,rfl,?_⟩ (Mm.mk (j.dr λh=>h.elim)))
 ·have:=dR i
  simp[g]
  omega
 ·intro t v ht
  obtain⟨_,a⟩:=uk args 0 ht
  simp only[Nat.sub_zero]at a
  have k:t<args.length:=(fA.1 a).1
  simp only[List.size_toArray,Array.getElem?_append,k,if_true]
  simpa using a
theorem kX.body {P:Program}{f:FuncId}{fn:Func}{cd:Code}{args:List Value}{u:Value}{ds:List du}(n:Nat)
 (a:P.funcs[f]?=some fn) (b:fn.body=some cd) (d:fn.ntmps=n) (g:Nat.ble args.length n=true)
 (h:∀c:Ctx,¬c.dr→St n (tG 0 args) (Mm c (ds.map aB)) (cd.wp P (bodyPost P fn λe w'=>∃v H',e= .returned v∧v=u∧Mm c H' w'))):kX P f args.toArray ds u:=sk.body n a b d g h
theorem eE.qD {P:Program}{f:FuncId}{fn:Func}{cd:Code}{args:List Value}{u:Value}(n:Nat)
 (a:P.funcs[f]?=some fn) (b:fn.body=some cd) (d:fn.ntmps=n) (g:Nat.ble args.length n=true)
 (h:∀c:Ctx,St n (tG 0 args) (Mm c []) (cd.wp P (bodyPost P fn λe w'=>∃v H',e= .returned v∧v=u∧Mm c H' w'))):eE P f args.toArray [] u:=dz.body n a b d g h
theorem eE.nH {P:Program}{f:FuncId}{fn:Func}{cd:Code}{args:List Value}{u:Value}{d1:du}(n:Nat)
 (a:P.funcs[f]?=some fn) (b:fn.body=some cd) (d:fn.ntmps=n) (g:Nat.ble args.length n=true)
 (h:∀c:Ctx,St n (tG 0 args) (Mm c [aB d1]) (cd.wp P (bodyPost P fn λe w'=>∃v H',e= .returned v∧v=u∧Mm c H' w'))):eE P f args.toArray [d1] u:=dz.body n a b d g h
theorem eE.pO {P:Program}{f:FuncId}{fn:Func}{cd:Code}{args:List Value}{u:Value}{d1 d2:du}(n:Nat)
 (a:P.funcs[f]?=some fn) (b:fn.body=some cd) (d:fn.ntmps=n) (g:Nat.ble args.length n=true)
 (h:∀c:Ctx,St n (tG 0 args) (Mm c [aB d1,aB d2]) (cd.wp P (bodyPost P fn λe w'=>∃v H',e= .returned v∧v=u∧Mm c H' w'))):eE P f args.toArray [d1,d2] u:=dz.body n a b d g h
theorem eE.U2 {P:Program}{f:FuncId}{fn:Func}{cd:Code}{args:List Value}{u:Value}{d1 d2 d3:du}(n:Nat)
 (a:P.funcs[f]?=some fn) (b:fn.body=some cd) (d:fn.ntmps=n) (g:Nat.ble args.length n=true)
 (h:∀c:Ctx,St n (tG 0 args) (Mm c [aB d1,aB d2,aB d3]) (cd.wp P (bodyPost P fn λe w'=>∃v H',e= .returned v∧v=u∧Mm c H' w'))):eE P f args.toArray [d1,d2,d3] u:=dz.body n a b d g h
theorem eE.MX {P:Program}{f:FuncId}{fn:Func}{cd:Code}{args:List Value}{u:Value}{d1 d2 d3 d4:du}(n:Nat)
 (a:P.funcs[f]?=some fn) (b:fn.body=some cd) (d:fn.ntmps=n) (g:Nat.ble args.length n=true)
 (h:∀c:Ctx,St n (tG 0 args) (Mm c [aB d1,aB d2,aB d3,aB d4]) (cd.wp P (bodyPost P fn λe w'=>∃v H',e= .returned v∧v=u∧Mm c H' w'))):eE P f args.toArray [d1,d2,d3,d4] u:=dz.body n a b d g h
theorem eE.CZ {P:Program}{f:FuncId}{fn:Func}{cd:Code}{args:List Value}{u:Value}{d1:du}{ds:List du}(n:Nat)
 (a:P.funcs[f]?=some fn) (b:fn.body=some cd) (d:fn.ntmps=n) (g:Nat.ble args.length n=true)
 (h:∀c:Ctx,St n (tG 0 args) (Mm c (aB d1::ds.map aB)) (cd.wp P (bodyPost P fn λe w'=>∃v H',e= .returned v∧v=u∧Mm c H' w'))):eE P f args.toArray (d1::ds) u:=dz.body n a b d g h
theorem Sub.nil {F:Fr}:Sub [] F:=trivial
theorem Sub.cons {F a:Fr}{k:Nat}{v:Value}(h:J.look F k=some v)(b:Sub a F):Sub ((k,v)::a) F:=⟨h,b⟩
def RV (P:Program)(F:Fr)(H:List ak):ResultVar→Value→Prop
 | .tmp t,v=>look F t=some v
 | .cell t ty,v=>∃b C e fr,look F t=some (.pointer (some ⟨b,0,none⟩))∧aW b (.cells C e fr)∈H∧
  ((∃a,P.underlying ty=some (.struct a))∧(P.info? ty).map (·.size)=some C.size∧v= .agg C∨
   (match P.underlying ty with|some (.struct _)|some (.array _ _)|none=>False|some _=>True)∧C[0]?=some v)
theorem cV {w:World}{b off:Nat}{C:Array Value}{e:TypeId}{fr:Nat×Nat}(h:w.heap[b]?=some (.cells C e fr)):w.cell? ⟨b,off,none⟩=C[off]?:=by
 simp[World.cell?,h]
theorem eS {P:Program}{w:World}{ty:TypeId}{b off:Nat}{L:List Value}{d:TypeDesc}(hd:P.underlying ty=some d)(hk:(match d with| .struct _| .array _ _=>True|_=>False))
 (a:(P.info? ty).map (·.size)=some L.length) (c:∀j v,L[j]?=some v→w.cell? ⟨b,off+j,none⟩=some v):(loadVar ty ⟨b,off,none⟩).run P w= .ok (.agg L.toArray) w:=by
 obtain⟨i,e,f⟩:=dp.1 a
 have h1:=run_loadCells_list (P:=P) w ⟨b,off,none⟩ L (λj v h=>by rw[Addr.add_lit];exact c j v h)
 have g:(isAgg ty).run P w= .ok true w:=by
  cases d<;>simp at hk<;>simp[isAgg,run_underlying hd]
 simp[loadVar,g,sizeOf,typeInfo,e,f,h1]
theorem fN {P:Program}{w:World}{ty:TypeId}{a:Addr}{v:Value}{d:TypeDesc}(hd:P.underlying ty=some d)(hk:(match d with| .struct _| .array _ _=>False|_=>True))
 (b:w.cell? a=some v):(loadVar ty a).run P w= .ok v w:=by
 have c:(isAgg ty).run P w= .ok false w:=by
  cases d<;>simp at hk<;>simp[isAgg,run_underlying hd]
 simp[loadVar,c,b]
def FU (a:Act):ResultVar→Sem Value
 | .tmp t=>pure (a.tmps.getD t undef)
 | .cell t ty=>do loadVar ty (←asAddr (a.tmps.getD t undef))
theorem RV.run {P:Program}{n:Nat}{F:Fr}{H:List ak}{r:ResultVar}{v:Value}(h:RV P F H r v){a:Act}(i:Has n a F){c:Ctx}{w:World}(hw:Mm c H w):
 (FU a r).run P w= .ok v w:=by
 obtain⟨ρ,hm⟩:=hw.out
 cases r with
 |tmp t=>simp[RV]at h;simp[FU,Array.getD_eq_getD_getElem?,i.slot _ _ h]
 |cell t ty=>
  obtain⟨b,C,e,fr,h1,l,m⟩:=h
  have o:=fq.1 (hm.dM _ l)
  have k:∀off,w.cell? ⟨b,off,none⟩=C[off]?:=λoff=>cV o
  have ht:=i.slot _ _ h1
  simp only[FU,Array.getD_eq_getD_getElem?,ht,Option.getD_some,asAddr,Sem.run_bind,Sem.run_pure,Result.andThen_ok]
  rcases m with⟨⟨q,f⟩,g,rfl⟩|⟨f,g⟩
  ·have:=eS (P:=P) (w:=w) (ty:=ty) (b:=b) (off:=0) (L:=C.toList) f trivial (by simpa using g) (λj v p=>by rw[k,Nat.zero_add];simpa using p)
   simpa using this
  ·cases hd:P.underlying ty with
   |none=>rw[hd]at f;exact f.elim
   |some d=>rw[hd]at f;exact fN hd (by cases d<;>simp_all) (by rw[k];exact g)
def Qk (P:Program)(F:Fr)(H:List ak):List ResultVar→List Value→Prop
 | [],[]=>True
 |r::rs,v::vs=>RV P F H r v∧Qk P F H rs vs
 |_,_=>False
theorem Qk.run {P:Program}{n:Nat}{F:Fr}{H:List ak}{a:Act}(b:Has n a F){c:Ctx}{w:World}(hw:Mm c H w):∀{rs:List ResultVar} {vs:List Value},Qk P F H rs vs→
 (rs.mapM (FU a)).run P w= .ok vs w
 | [],[],_=>by simp
 |r::rs,v::vs,h=>by
  have h1:=RV.run h.1 b hw
  have d:=Qk.run b hw h.2
  simp only[List.mapM_cons,Sem.run_bind,h1,Result.andThen_ok,d,Sem.run_pure]
def Hi:List Value→Value
 | [v]=>v
 |vs=> .tuple vs.toArray
theorem Hh (fn:Func)(a:Act):results fn a.tmps=(fn.results.mapM (FU a)>>=λvs=>pure (if h:vs.size=1 then vs[0]else .tuple vs)):=by
 unfold results
 congr 2
theorem St.DH {P:Program}{n:Nat}{F:Fr}{c:Ctx}{H:List ak}{fn:Func}{post:Value→List ak→Prop}{b:List ResultVar}(vs:List Value)(H':List ak)
 (f:fn.results=b.toArray) (g:Qk P F H b vs) (hp:post (Hi vs) H') (hH:∀w,Mm c H w→Mm c H' w):
 St n F (Mm c H) (bodyPost P fn (λe w'=>∃v H',e= .returned v∧post v H'∧Mm c H' w') .ret):=by
 intro a w d hw;refine⟨d.defers,_,?_,_,H',rfl,hp,hH w hw⟩
 have h:=Qk.run d hw g
 rw[Hh,f]
 simp only[List.mapM_toArray,Sem.run_bind,Sem.run_map,h,Result.andThen_ok,Sem.run_pure]
 congr 1
 cases vs with
 |nil=>rfl
 |cons v vs=>cases vs<;>rfl
theorem St.eH {P:Program}{n:Nat}{F:Fr}{c:Ctx}{H:List ak}{fn:Func}{R:Ending→World→Prop}
 (h:St n F (Mm c H) (bodyPost P fn R .ret)):St n F (Mm c H) (bodyPost P fn R .normal):=h
abbrev bC:=List UInt8
abbrev sv (l:bC):Value:= .string ⟨l.toArray⟩
abbrev iv (n:Int):Value:= .int .i64 n
structure Rp (α:Type) where
 size:Nat
 pos:0<size
 cells:α→List Value
 wf:α→Prop
 len:∀x,(cells x).length=size
 one:∀x,∀u∈cells x,u.oneCell'=true
def aa (n:Int):Prop:= -9223372036854775808≤n∧n≤9223372036854775807
def aJ:Rp Int:=⟨1,by decide,λx=>[.int .i64 x],aa,λ_=>rfl,λ_ u h=>by simp at h;subst h;rfl⟩
def bE:Rp bC:=⟨1,by decide,λx=>[sv x],λx=>x.length≤140737488351232,λ_=>rfl,λ_ u h=>by simp at h;subst h;rfl⟩
def eK:Rp Bool:=⟨1,by decide,λx=>[.bool x],λ_=>True,λ_=>rfl,λ_ u h=>by simp at h;subst h;rfl⟩
def bN:Rp {v:Value//v.oneCell'=true}:=⟨1,by decide,λx=>[x.1],λ_=>True,λ_=>rfl,λx u h=>by simp at h;subst h;exact x.2⟩
def rows {α:Type}(R:Rp α)(xs:List α):List Value:=xs.flatMap R.cells
theorem j2 {α:Type}(R:Rp α)(xs:List α):(rows R xs).length=xs.length*R.size:=by
 induction xs with
 |nil=>simp[rows]
 |cons x xs a=>simp only[rows,List.flatMap_cons,List.length_append,R.len,List.length_cons,Nat.add_mul]at a⊢;omega
theorem eO {α:Type}(R:Rp α):∀(xs:List α) (k j:Nat) (x:α),xs[k]?=some x→j<R.size→(rows R xs)[k*R.size+j]?=(R.cells x)[j]?
 | [],_,_,_,h,_=>by simp at h
 |y::xs,0,j,x,h,a=>by
  simp only[List.getElem?_cons_zero,Option.some.injEq]at h
  subst h
  simp only[rows,List.flatMap_cons,Nat.zero_mul,Nat.zero_add]
  rw[oa (by rw[R.len];exact a)]
 |y::xs,k+1,j,x,h,a=>by
  simp only[List.getElem?_cons_succ]at h
  have b:=eO R xs k j x h a
  simp only[rows,List.flatMap_cons]at b⊢
  rw[lg (by rw[R.len,jf];omega),R.len]
  have e:(k+1)*R.size+j-R.size=k*R.size+j:=by rw[jf];omega
  rw[e];exact b
def sl {α:Type}(R:Rp α)(v:Value)(xs:List α):du where
 f ρ:=∃a cap,v= .slice a xs.length cap∧xs.length≤cap∧cap≤maxLen∧(∀x∈xs,R.wf x)∧
  (xs=[]∨∃b off C e fr,a=some ⟨b,off,none⟩∧ρ b=some (.cells C e fr)∧∀j u,(rows R xs)[j]?=some u→C[off+j]?=some u)
 mono ρ jq h:=by
  rintro ⟨a,cap,h1,d,g,i,c⟩;refine⟨a,cap,h1,d,g,i,?_⟩
  rcases c with c|⟨b,off,C,e,fr,k,l,m⟩
  ·exact .inl c
  ·exact .inr ⟨b,off,C,e,fr,k,h _ _ l,m⟩
class sI (v:Value)(H:List ak)(α:outParam Type)(R:outParam (Rp α))(xs:outParam (List α)):Prop where
 mem:aB (sl R v xs)∈H
instance (priority:=high) sI.here {α:Type}(v:Value)(R:Rp α)(xs:List α)(H:List ak):sI v (aB (sl R v xs)::H) α R xs:=⟨aQ ..⟩
instance sI.there {α:Type}(v:Value)(R:Rp α)(xs:List α)(E:ak)(H:List ak)[h:sI v H α R xs]:sI v (E::H) α R xs:=⟨cO _ h.mem⟩
class j7 {α:Type}(R:Rp α)(x:α)(L:outParam (List Value)):Prop where
 eq:R.cells x=L
@[irreducible] def cZ (v:Value)(size k off:Nat):Value:=
 match v with
 | .slice (some a) _ _=> .pointer (some (a.add (k*size+off)))
 |_=>undef
theorem eG (b o n c size k off:Nat):cZ (.slice (some ⟨b,o,none⟩) n c) size k off= .pointer (some ⟨b,o+(k*size+off),none⟩):=by
 unfold cZ;simp only[Addr.add_lit]
section
variable {P:Program}{n:Nat}{F:Fr}{A:World→Prop}{c:Ctx}{H:List ak}{ty:TypeId}{x y z:Operand}{v:Value}
theorem Ev.of_run {op:Op}(h:∀a w,Has n a F→A w→(execOp a.eval (bare op ty)).run P w= .ok (.value v) w):Ev P n F A op ty v:=
 λa w b hw=>by rw[h a w b hw];exact⟨rfl,rfl⟩
theorem Ev.move (hx:ah F x v):Ev P n F A (.move x) ty v:= .of_run λa w b _=>by simp[execOp,hx.eval b]
theorem Ev.assign (hx:ah F x v):Ev P n F A (.assign x) ty v:= .of_run λa w b _=>by simp[execOp,hx.eval b]
theorem Ev.and {p q:Bool}(hx:ah F x (.bool p))(hy:p=true→ah F y (.bool q)):Ev P n F A (.pick x y (.const (.bool false))) ty (.bool (p&&q)):= .of_run λa w b _=>by
 cases p with
 |true=>simp only[execOp,hx.eval b,(hy rfl).eval b];simp[asBool]
 |false=>simp only[execOp,hx.eval b];simp[asBool,Act.eval]
theorem Ev.or {p q:Bool}(hx:ah F x (.bool p))(hy:(!p)=true→ah F y (.bool q)):Ev P n F A (.pick x (.const (.bool true)) y) ty (.bool (p||q)):= .of_run λa w b _=>by
 cases p with
 |true=>simp only[execOp,hx.eval b];simp[asBool,Act.eval]
 |false=>simp only[execOp,hx.eval b,(hy rfl).eval b];simp[asBool]
theorem Ev.not {p:Bool}(hx:ah F x (.bool p)){t:TypeId}:Ev P n F A (.unOp .not t x) ty (.bool (!p)):= .of_run λa w b _=>by
 simp[execOp,hx.eval b,Op.unary]
section ints
variable {k:IntKind}{i j:Int}{t u:TypeId}
theorem Ev.lss (hx:ah F x (.int k i))(hy:ah F y (.int k j)):Ev P n F A (.binOp .lss t x y u) ty (.bool (decide (i<j))):= .of_run λa w ha _=>by simp only[execOp,hx.eval ha,hy.eval ha];simp[go_sem]
theorem Ev.leq (hx:ah F x (.int k i))(hy:ah F y (.int k j)):Ev P n F A (.binOp .leq t x y u) ty (.bool (decide (i≤j))):= .of_run λa w ha _=>by simp only[execOp,hx.eval ha,hy.eval ha];simp[go_sem]
theorem Ev.gtr (hx:ah F x (.int k i))(hy:ah F y (.int k j)):Ev P n F A (.binOp .gtr t x y u) ty (.bool (decide (j<i))):= .of_run λa w ha _=>by simp only[execOp,hx.eval ha,hy.eval ha];simp[go_sem]
theorem Ev.geq (hx:ah F x (.int k i))(hy:ah F y (.int k j)):Ev P n F A (.binOp .geq t x y u) ty (.bool (decide (j≤i))):= .of_run λa w ha _=>by simp only[execOp,hx.eval ha,hy.eval ha];simp[go_sem]
theorem Ev.eql (hx:ah F x (.int k i))(hy:ah F y (.int k j)):Ev P n F A (.binOp .eql t x y u) ty (.bool (decide (i=j))):= .of_run λa w ha _=>by
 simp only[execOp,hx.eval ha,hy.eval ha];simp[go_sem]
 rfl
theorem Ev.neq (hx:ah F x (.int k i))(hy:ah F y (.int k j)):Ev P n F A (.binOp .neq t x y u) ty (.bool (!decide (i=j))):= .of_run λa w ha _=>by
 simp only[execOp,hx.eval ha,hy.eval ha];simp[go_sem]
 rfl
theorem Ev.rI (hx:ah F x (.int k i))(hy:ah F y (.int k j)):Ev P n F A (.binOp .add t x y u) ty (.int k (k.wrap (i+j))):= .of_run λa w ha _=>by simp only[execOp,hx.eval ha,hy.eval ha];simp[go_sem,Op.intArith]
theorem Ev.alQ (hx:ah F x (.int k i))(hy:ah F y (.int k j)):Ev P n F A (.binOp .sub t x y u) ty (.int k (k.wrap (i-j))):= .of_run λa w ha _=>by simp only[execOp,hx.eval ha,hy.eval ha];simp[go_sem,Op.intArith]
theorem Ev.alB (hx:ah F x (.int k i))(hy:ah F y (.int k j)):Ev P n F A (.binOp .mul t x y u) ty (.int k (k.wrap (i*j))):= .of_run λa w ha _=>by simp only[execOp,hx.eval ha,hy.eval ha];simp[go_sem,Op.intArith]
theorem uX {i:Int}(h: -9223372036854775808≤i∧i≤9223372036854775807):IntKind.i64.wrap i=i:=by
 simp only[IntKind.wrap,IntKind.bits,IntKind.signed]
 simp
 omega
theorem Ev.add (hx:ah F x (iv i))(hy:ah F y (iv j))(h: -9223372036854775808≤i+j∧i+j≤9223372036854775807):Ev P n F A (.binOp .add t x y u) ty (iv (i+j)):=by
 have:=Ev.rI (P:=P) (n:=n) (A:=A) (ty:=ty) (t:=t) (u:=u) hx hy;rwa[uX h]at this
theorem Ev.sub (hx:ah F x (iv i))(hy:ah F y (iv j))(h: -9223372036854775808≤i-j∧i-j≤9223372036854775807):Ev P n F A (.binOp .sub t x y u) ty (iv (i-j)):=by
 have:=Ev.alQ (P:=P) (n:=n) (A:=A) (ty:=ty) (t:=t) (u:=u) hx hy;rwa[uX h]at this
theorem Ev.mul (hx:ah F x (iv i))(hy:ah F y (iv j))(h: -9223372036854775808≤i*j∧i*j≤9223372036854775807):Ev P n F A (.binOp .mul t x y u) ty (iv (i*j)):=by
 have:=Ev.alB (P:=P) (n:=n) (A:=A) (ty:=ty) (t:=t) (u:=u) hx hy;rwa[uX h]at this
theorem Ev.aeW (hx:ah F x (.int k i))(hy:ah F y (.int k j))(h:j≠0):Ev P n F A (.binOp .quo t x y u) ty (.int k (k.wrap (i.tdiv j))):= .of_run λa w ha _=>by simp only[execOp,hx.eval ha,hy.eval ha];simp[go_sem,Op.intDiv,h]
theorem Ev.alP {k':IntKind}(hx:ah F x (.int k i))(hy:ah F y (.int k' j))(h:0≤j):Ev P n F A (.binOp .shl t x y u) ty (.int k (k.wrap (i*2^(min j.toNat k.bits)))):= .of_run λa w ha _=>by
 simp only[execOp,hx.eval ha,hy.eval ha];simp[go_sem,Op.shift,Int.not_lt.2 h]
theorem Ev.shr {k':IntKind}(hx:ah F x (.int k i))(hy:ah F y (.int k' j))(h:0≤j):Ev P n F A (.binOp .shr t x y u) ty (.int k (i.fdiv (2^(min j.toNat k.bits)))):= .of_run λa w ha _=>by
 simp only[execOp,hx.eval ha,hy.eval ha];simp[go_sem,Op.shift,Int.not_lt.2 h]
theorem Ev.tL {b:IntKind}{s d:TypeId}(hx:ah F x (.int k i))(c:(P.underlying s).isSome=true)(hd:P.underlying d=some (.int b)):Ev P n F A (.convert s d x) ty (.int b (b.wrap i)):= .of_run λa w e _=>by
 obtain⟨d0,f⟩:=Option.isSome_iff_exists.mp c
 simp[execOp,hx.eval e,convert,run_underlying f,run_underlying hd,Conv.intToInt]
end ints
section strings
variable {s r:bC}{t u:TypeId}
theorem Ev.Jd (hx:ah F x (sv s))(hy:ah F y (sv r)):Ev P n F A (.binOp .eql t x y u) ty (.bool (s==r)):= .of_run λa w ha _=>by simp only[execOp,hx.eval ha,hy.eval ha];simp[go_sem]
theorem Ev.ae2 (hx:ah F x (sv s))(hy:ah F y (sv r)):Ev P n F A (.binOp .neq t x y u) ty (.bool (!(s==r))):= .of_run λa w ha _=>by simp only[execOp,hx.eval ha,hy.eval ha];simp[go_sem]
theorem Ev.O1 {o:TypeId}(hx:ah F x (sv s))(ht:P.underlying o=some .string):Ev P n F A (.call {callee:= .builtin .len,args:= #[x],argTypes:= #[o]}) ty (iv s.length):= .of_run λa w b _=>by
 have h1:=run_len_string (P:=P) w o ty ⟨s.toArray⟩ ht
 simp[execOp,resolve,invoke,builtin,hx.eval b,h1,goInt,ByteArray.size]
theorem Ev.Wo {k:Nat}{i:Int}{b:UInt8}(hx:ah F x (sv s))(hy:ah F y (iv i))(ht:P.underlying t=some .string)(e:i=k)(c:s[k]?=some b):
 Ev P n F A (.index t x y) ty (.int .u8 b.toNat):= .of_run λa w d _=>by
 subst e
 have f:k<(⟨s.toArray⟩:ByteArray).size:=by simpa[ByteArray.size]using (fA.1 c).1
 have h1:(⟨s.toArray⟩:ByteArray)[k]?=some b:=by
  rw[ByteArray.getElem?_lt' _ _ f]
  have:=(fA.1 c).2
  simpa[ByteArray.getElem_eq_getElem_data]using this
 simp[execOp,hx.eval d,hy.eval d,Instr.index,asIntOf,run_underlying ht,h1]
theorem Ev.D1 {k:Nat}{i:Int}(hx:ah F x (sv s))(hy:ah F y (iv i))(ht:P.underlying t=some .string)(a:i=k)(b:k<s.length):
 Ev P n F A (.index t x y) ty (.int .u8 (s.getD k 0).toNat):=Ev.Wo hx hy ht a (by simp[List.getD_eq_getElem?_getD,List.getElem?_eq_getElem b])
theorem Ev.extract {vs:List Value}{i:Nat}(hx:ah F x (.tuple vs.toArray))(b:vs[i]?=some v):Ev P n F A (.extract x i) ty v:= .of_run λa w c _=>by
 simp[execOp,hx.eval c,Instr.extract,b]
end strings
section slices
variable {α:Type}{R:Rp α}{xs:List α}{t:TypeId}
theorem ez.aB {H:List ak}{ρ:Ro}{w:World}{d:du}(h:ez c H ρ w)(hd:lT d H):d.f ρ:=dA.1 (h.dM _ hd.mem)
theorem ez.sl {H:List ak}{ρ:Ro}{w:World}(h:ez c H ρ w)(hd:sI v H α R xs):(J.sl R v xs).f ρ:=dA.1 (h.dM _ hd.mem)
theorem Ev.fc {e:TypeId}[hd:sI v H α R xs](hx:ah F x v)(ht:P.underlying t=some (.slice e)):
 Ev P n F (Mm c H) (.call {callee:= .builtin .len,args:= #[x],argTypes:= #[t]}) ty (iv xs.length):= .of_run λa w b hw=>by
 obtain⟨ρ,hm⟩:=hw.out;obtain⟨ad,cap,rfl,_⟩:=hm.sl hd
 simp[execOp,resolve,invoke,builtin,hx.eval b,Builtin.len_,run_underlying ht,goInt]
theorem Ev.cE {e:TypeId}{k:Nat}{i:Int}{kd:IntKind}[hd:sI v H α R xs](hx:ah F x v)(hy:ah F y (.int kd i))(ht:P.underlying t=some (.slice e))(f:(P.info? e).map (·.size)=some R.size)
 (g:i=k) (hk:k<xs.length):Ev P n F (Mm c H) (.indexAddr t x y) ty (cZ v R.size k 0):= .of_run λa w d hw=>by
 obtain⟨ρ,hm⟩:=hw.out;obtain⟨ad,cap,rfl,_,_,_,h⟩:=hm.sl hd
 rcases h with rfl|⟨b,off,C,m,fr,rfl,o,p⟩
 ·simp at hk
 ·obtain⟨inf,j,l⟩:=dp.1 f
  subst g
  simp[execOp,hx.eval d,hy.eval d,Instr.indexAt,asIntOf,run_underlying ht,sizeOf,typeInfo,j,l,hk,eG,Addr.add_lit]
theorem DM {H:List ak}{ρ:Ro}{w:World}(hm:ez c H ρ w)(hd:sI v H α R xs){k off:Nat}{x:α}(hk:xs[k]?=some x):
 ∃b o,cZ v R.size k off= .pointer (some ⟨b,o,none⟩)∧∀j,off+j<R.size→w.cell? ⟨b,o+j,none⟩=(R.cells x)[off+j]?:=by
 obtain⟨ad,cap,rfl,_,_,_,e⟩:=hm.sl hd
 rcases e with rfl|⟨b,o,C,i,fr,rfl,f,g⟩
 ·simp at hk
 ·refine⟨b,_,eG ..,λj a=> ?_⟩
  have d:=eO R xs k (off+j) x hk a
  rw[cV (hm.fits _ _ f)]
  have h:off+j<(R.cells x).length:=by rw[R.len];exact a
  rw[bU h]at d⊢;rw[show o+(k*R.size+off)+j=o+(k*R.size+(off+j)) by omega];exact g _ _ d
theorem LX {β:Type}(d:β){l:List β}{k:Nat}(h:k<l.length):l[k]?=some (l.getD k d):=by rw[aw,bU h];rfl
theorem Ev.ld1 {k off:Nat}{e:α}{d:TypeDesc}{u:Value}[hd:sI v H α R xs](hx:ah F x (cZ v R.size k off))(hk:xs[k]?=some e)(ht:P.underlying t=some d)(g:(match d with| .struct _| .array _ _=>False|_=>True))
 (hu:(R.cells e)[off]?=some u):Ev P n F (Mm c H) (.load t x) ty u:= .of_run λa w h hw=>by
 obtain⟨ρ,hm⟩:=hw.out
 have i:off<R.size:=by have:=(fA.1 hu).1;rwa[R.len]at this
 obtain⟨b,o,h1,j⟩:=DM hm hd hk
 have f:=j 0 (by simpa using i)
 simp only[Nat.add_zero]at f
 rw[h1]at hx
 simp[execOp,hx.eval h,Instr.loadAt,Instr.sureAddr,fN ht g (f.trans hu)]
theorem Ev.js {k:Nat}{e:α}{d:TypeDesc}{L:List Value}[hd:sI v H α R xs](hx:ah F x (cZ v R.size k 0))(hk:xs[k]?=some e)(ht:P.underlying t=some d)(g:(match d with| .struct _| .array _ _=>True|_=>False))
 (h:(P.info? t).map (·.size)=some R.size) (i:R.cells e=L):Ev P n F (Mm c H) (.load t x) ty (.agg L.toArray):= .of_run λa w l hw=>by
 obtain⟨ρ,hm⟩:=hw.out;obtain⟨b,o,h1,m⟩:=DM hm hd hk (off:=0);subst i;rw[h1]at hx
 have p:=eS (P:=P) (w:=w) (b:=b) (off:=o) (L:=R.cells e) ht g (by rw[h,R.len]) (λj u f=>by
  have q:=(fA.1 f).1
  rw[R.len]at q
  have:=m j (by omega)
  rw[iW]at this
  rw[this];exact f)
 simp[execOp,hx.eval l,Instr.loadAt,Instr.sureAddr,p]
def bh (P:Program)(s i:Nat):Option Nat:=
 match P.underlying s with
 |some (.struct a)=>match a[i]? with
  |some f=>match P.info? f.type with
   |some inf=>if inf.size=0 then none else some f.offset
   |none=>none
  |none=>none
 |_=>none
theorem nQ {w:World}{s i o:Nat}{ad:Addr}(h:bh P s i=some o):(Instr.fieldAt s (.pointer (some ad)) i).run P w= .ok (.pointer (some (ad.add o))) w:=by
 unfold bh at h
 split at h
 ·rename_i c hu
  split at h
  ·rename_i f a
   split at h
   ·rename_i inf b
    split at h
    ·simp at h
    ·rename_i hz
     simp only[Option.some.injEq]at h
     subst h
     simp[Instr.fieldAt,run_underlying hu,a,Instr.sureAddr,fieldPlace,sizeOf,typeInfo,b,hz]
   ·simp at h
  ·simp at h
 ·simp at h
theorem Ev.UO {k off o i:Nat}{s:TypeId}[hd:sI v H α R xs](hx:ah F x (cZ v R.size k off))(hk:k<xs.length)(d:bh P s i=some o):Ev P n F (Mm c H) (.fieldAddr s x i) ty (cZ v R.size k (off+o)):= .of_run λa w e hw=>by
 obtain⟨ρ,hm⟩:=hw.out;obtain⟨ad,cap,rfl,_,_,_,f⟩:=hm.sl hd
 rcases f with rfl|⟨b,of,C,g,fr,rfl,h,j⟩
 ·simp at hk
 ·rw[eG]at hx
  simp[execOp,hx.eval e,nQ d,eG,Addr.add_lit,Nat.add_assoc]
end slices
section blocks
variable {t:TypeId}{b off:Nat}{C:Array Value}{e:TypeId}{fr:Nat×Nat}
theorem Ev.W8 {o i:Nat}{s:TypeId}(hx:ah F x (.pointer (some ⟨b,off,none⟩)))(c:bh P s i=some o):Ev P n F A (.fieldAddr s x i) ty (.pointer (some ⟨b,off+o,none⟩)):= .of_run λa w d hw=>by
 simp[execOp,hx.eval d,nQ c,Addr.add_lit]
theorem Ev.da {o i:Nat}{s:TypeId}(hx:ah F x (.pointer (some ⟨b,0,none⟩)))(a:bh P s i=some o):Ev P n F A (.fieldAddr s x i) ty (.pointer (some ⟨b,o,none⟩)):=by
 have:=Ev.W8 (P:=P) (n:=n) (A:=A) (ty:=ty) hx a
 rwa[iW]at this
theorem Ev.ke {d:TypeDesc}{u:Value}{L:List Value}[f:Ay b H (.cells L.toArray e fr)](hx:ah F x (.pointer (some ⟨b,off,none⟩)))(ht:P.underlying t=some d)(g:(match d with| .struct _| .array _ _=>False|_=>True))
 (hu:L[off]?=some u):Ev P n F (Mm c H) (.load t x) ty u:= .of_run λa w h hw=>by
 obtain⟨ρ,hm⟩:=hw.out
 have h1:=fq.1 (hm.dM _ f.mem)
 have i:w.cell? ⟨b,off,none⟩=some u:=by rw[cV h1];simpa using hu
 simp[execOp,hx.eval h,Instr.loadAt,Instr.sureAddr,fN ht g i]
theorem Ev.Wu {d:TypeDesc}{L:List Value}[f:Ay b H (.cells L.toArray e fr)](hx:ah F x (.pointer (some ⟨b,0,none⟩)))(ht:P.underlying t=some d)(g:(match d with| .struct _| .array _ _=>True|_=>False))
 (h:(P.info? t).map (·.size)=some L.length):Ev P n F (Mm c H) (.load t x) ty (.agg L.toArray):= .of_run λa w i hw=>by
 obtain⟨ρ,hm⟩:=hw.out
 have h1:=fq.1 (hm.dM _ f.mem)
 have k:=eS (P:=P) (w:=w) (b:=b) (off:=0) (L:=L) ht g h (λj u l=>by rw[cV h1];simpa using l)
 simp[execOp,hx.eval i,Instr.loadAt,Instr.sureAddr,k]
end blocks
def bH (F:Fr):List Operand→List Value→Prop
 | [],[]=>True
 |x::xs,v::vs=>ah F x v∧bH F xs vs
 |_,_=>False
theorem bH.nil:bH F [] []:=trivial
theorem bH.cons {xs:List Operand}{vs:List Value}(h:ah F x v)(k:bH F xs vs):bH F (x::xs) (v::vs):=⟨h,k⟩
theorem bH.eval {a:Act}(b:Has n a F):∀{xs:List Operand} {vs:List Value},bH F xs vs→xs.map a.eval=vs
 | [],[],_=>rfl
 |x::xs,v::vs,h=>by rw[fK,h.1.eval b,bH.eval b h.2]
theorem Ev.build {t:TypeId}{ps:List (Nat×Operand)}{vs:List Value}(hp:bH F (ps.map (·.2)) vs)(b:∀w,(Instr.build t ((ps.map (·.1)).zip vs).toArray).run P w= .ok v w):Ev P n F A (.build t ps.toArray) ty v:= .of_run λa w c _=>by
 have h1:ps.map (λp=>(p.1,a.eval p.2))=(ps.map (·.1)).zip vs:=by
  rw[←bH.eval c hp]
  clear hp b
  induction ps with
  |nil=>rfl
  |cons p ps d=>simp[d]
 have e:(ps.toArray.map λ(i,x)=>(i,a.eval x))=((ps.map (·.1)).zip vs).toArray:=by
  rw[←h1];simp
 simp only[execOp,e,Sem.run_bind,b,Result.andThen_ok,Sem.run_pure]
theorem Cd {f : FuncId} {args : Array Value} {w : World} {fn : Func} (b : P.funcs[f]? = some fn) (c : fn.body.isSome = true) (d : (fn.name == "runtime.NumGoroutine") = false) : (callFunc f args).run P w = .ok (.enter f args) w := by
 unfold callFunc
 simp[b]
 cases a:fn.body with
 |none=>simp[a]at c
 |some cd=>simpa using d
end
theorem ez.Aj {c:Ctx}{H:List ak}{ρ:Ro}{w w':World}{E:ak}(h:ez c H ρ w)(e:w'.os=w.os)(ht:w'.tape=w.tape∧w.drawn≤w'.drawn)(i:w'.output=w.output)(j:w.heap.size≤w'.heap.size)
 (hk:∀k,k<w.heap.size→w'.heap[k]?=w.heap[k]?) (l:E.ok ρ w') (f:∀b,E.key=some b→w.heap.size≤b):ez c (E::H) ρ w':=by
 have m:ez c ([]++H) ρ w:=h
 refine ez.step (H2:=[E]) m ⟨e,⟨ht.1,λ_=>ht.2⟩,i,j,λk n _=>hk k n,λk o d=> ?_,Ro.le_refl _,λ_ _ _=>rfl,?_,?_,?_⟩
 ·rw[hk k (h.AE d)];exact h.fits k o d
 ·intro p a;simp at a;subst a;exact l
 ·intro p a b g
  simp at a;subst a
  refine⟨?_,.inl (f b g)⟩
  cases d:ρ b with
  |none=>rfl
  |some o=>have h1:=h.AE d;have q:=f b g;omega
 ·exact GC ..
theorem ez.alter {c:Ctx}{H:List ak}{ρ:Ro}{w w':World}{E f:ak}(h:ez c (E::H) ρ w)(g:w'.os=w.os)(ht:w'.tape=w.tape∧w.drawn≤w'.drawn)(j:w'.output=w.output)(l:w.heap.size≤w'.heap.size)
 (hk:∀k,k<w.heap.size→E.key≠some k→w'.heap[k]?=w.heap[k]?) (m:f.ok ρ w') (n:∀b,f.key=some b→E.key=some b∨w.heap.size≤b):ez c (f::H) ρ w':=by
 have p:ez c ([E]++H) ρ w:=h
 refine ez.step (H2:=[f]) p ⟨g,⟨ht.1,λ_=>ht.2⟩,j,l,λk q r=>hk k q (λe=>r ⟨E,by simp,e⟩),λk o a=> ?_,Ro.le_refl _,λ_ _ _=>rfl,?_,?_,?_⟩
 ·rw[hk k (h.AE a)]
  ·exact h.fits k o a
  ·intro e
   have:=(h.own E (by simp) k e).1
   rw[a]at this;cases this
 ·intro i d;simp at d;subst d;exact m
 ·intro i d b s
  simp at d;subst d
  rcases n b s with h1|h1
  ·exact⟨(h.own E (by simp) b h1).1,.inr ⟨E,by simp,h1⟩⟩
  ·refine⟨?_,.inl h1⟩
   cases a:ρ b with
   |none=>rfl
   |some o=>have:=h.AE a;omega
 ·exact GC ..
theorem ez.alloc {c:Ctx}{H:List ak}{ρ:Ro}{w:World}(h:ez c H ρ w)(o:Obj):ez c (aW w.heap.size o::H) ρ (w.alloc o):=
 h.Aj rfl ⟨rfl,aR _⟩ rfl (by simp) (λk hk=>RowKit.Below.heap_alloc w _ k hk) (fq.2 (heap_alloc_new w o)) (λb a=>by rw[iZ]at a;simp at a;omega)
class Dt (L:List Value)(off:Nat)(v:Value)(L':outParam (List Value)):Prop where
 eq:L.set off v=L'
instance Dt.here (x:Value)(L:List Value)(v:Value):Dt (x::L) 0 v (v::L):=⟨rfl⟩
instance Dt.there (x:Value)(L:List Value)(v:Value)(k:Nat)(L':List Value)[h:Dt L k v L']:Dt (x::L) (k+1) v (x::L'):=⟨by rw[wm,h.eq]⟩
class wu (v:Value)(H:List ak)(e:outParam TypeId)(size n:outParam Nat)(cs:outParam (List Value)):Prop where
 mem:row v e size n cs∈H
instance (priority:=high) wu.here (v:Value)(e:TypeId)(size n:Nat)(cs:List Value)(H:List ak):wu v (row v e size n cs::H) e size n cs:=⟨aQ ..⟩
instance wu.there (v:Value)(e:TypeId)(size n:Nat)(cs:List Value)(E:ak)(H:List ak)[h:wu v H e size n cs]:wu v (E::H) e size n cs:=⟨cO _ h.mem⟩
theorem bK (C:Array Value):(Value.agg C).cells=C:=rfl
theorem cells_one {v:Value}(h:v.oneCell'=true):v.cells= #[v]:=by
 cases v<;>first|rfl|simp[Value.oneCell']at h
section
variable {P:Program}{n:Nat}{F:Fr}{A:World→Prop}{c:Ctx}{H R:List ak}{ty:TypeId}{x y z:Operand}{v:Value}{Q:Exit→Act→World→Prop}{ops:Array Oper}{rest:List Oper}
 {d:Nat} {pos:String} {after:Array Edge} {t e:TypeId}
theorem St.alloc {Z:Array Value}(hz:(P.info? t).bind (λi=>i.zero.map Value.cells)=some Z)(hd:Nat.ble (d+1) n=true)
 (h:∀b,St n ((d,.pointer (some ⟨b,0,none⟩))::F) (Mm c (aW b (.cells Z t (0,0))::H)) (wpList P ops Q rest)):
 St n F (Mm c H) (wpList P ops Q ({dst:=some d,op:= .alloc t,type:=ty,pos:=pos,after:=after,guard:=none}::rest)):=by
 refine St.QS (K:=λu H'=>∃b,u= .pointer (some ⟨b,0,none⟩)∧H'=aW b (.cells Z t (0,0))::H) ?_ hd ?_
 ·intro a w ρ j hm
  obtain⟨i,f,g⟩:=pN.1 hz;obtain⟨zv,e,rfl⟩:=dp.1 g;refine⟨.value (.pointer (some ⟨w.heap.size,0,none⟩)),w.alloc (.cells zv.cells t),ρ,_,?_,⟨_,.inl rfl,_,rfl,rfl⟩,hm.alloc _⟩
  simp[execOp,Instr.alloc,zeroValue,typeInfo,f,e,newVar,newRow]
 ·rintro _ _ ⟨b,rfl,rfl⟩
  exact h b
theorem St.MY (hx:ah F x v)(h1:v.oneCell'=true)(hd:Nat.ble (d+1) n=true)
 (h:∀b,St n ((d,.pointer (some ⟨b,0,none⟩))::F) (Mm c (aW b (.cells #[v] t (0,0))::H)) (wpList P ops Q rest)):
 St n F (Mm c H) (wpList P ops Q ({dst:=some d,op:= .box t x,type:=ty,pos:=pos,after:=after,guard:=none}::rest)):=by
 refine St.QS (K:=λu H'=>∃b,u= .pointer (some ⟨b,0,none⟩)∧H'=aW b (.cells #[v] t (0,0))::H) ?_ hd ?_
 ·intro a w ρ e hm
  refine⟨.value (.pointer (some ⟨w.heap.size,0,none⟩)),w.alloc (.cells #[v] t),ρ,_,?_,⟨_,.inl rfl,_,rfl,rfl⟩,hm.alloc _⟩
  simp[execOp,Instr.box,hx.eval e,newVar,newRow,cells_one h1]
 ·rintro _ _ ⟨b,rfl,rfl⟩
  exact h b
theorem St.dJ {L:List Value}(hx:ah F x (.agg L.toArray))(hd:Nat.ble (d+1) n=true)
 (h:∀b,St n ((d,.pointer (some ⟨b,0,none⟩))::F) (Mm c (aW b (.cells L.toArray t (0,0))::H)) (wpList P ops Q rest)):
 St n F (Mm c H) (wpList P ops Q ({dst:=some d,op:= .box t x,type:=ty,pos:=pos,after:=after,guard:=none}::rest)):=by
 refine St.QS (K:=λu H'=>∃b,u= .pointer (some ⟨b,0,none⟩)∧H'=aW b (.cells L.toArray t (0,0))::H) ?_ hd ?_
 ·intro a w ρ e hm
  refine⟨.value (.pointer (some ⟨w.heap.size,0,none⟩)),w.alloc (.cells L.toArray t),ρ,_,?_,⟨_,.inl rfl,_,rfl,rfl⟩,hm.alloc _⟩
  simp[execOp,Instr.box,hx.eval e,newVar,newRow,Value.cells]
 ·rintro _ _ ⟨b,rfl,rfl⟩
  exact h b
theorem nR {w:World}{b off:Nat}{C:Array Value}{v:Value}(h:w.heap[b]?=some (.cells C e (0,0))):(w.setCell ⟨b,off,none⟩ v).heap[b]?=some (.cells (C.setIfInBounds off v) e (0,0)):=by
 simp[World.setCell,Array.getElem?_modify,h]
theorem St.cI {b off:Nat}{L L':List Value}[tk:l3 b H (.cells L.toArray e (0,0)) R](hx:ah F x (.pointer (some ⟨b,off,none⟩)))(hy:ah F y v)[sl:Dt L off v L'](m:(P.info? t).map (·.size)=some 1)(h1:v.oneCell'=true)
 (o:Nat.ble (off+1) L.length=true) (h:St n F (Mm c (aW b (.cells L'.toArray e (0,0))::R)) (wpList P ops Q rest)):
 St n F (Mm c H) (wpList P ops Q ({dst:=none,op:= .store t x y,type:=ty,pos:=pos,after:=after,guard:=none}::rest)):=by
 refine St.lq (K:=λu H'=>H'=aW b (.cells L'.toArray e (0,0))::R) ?_ ?_
 ·intro a w ρ f hm
  have g:=hm.perm tk.perm
  have d:=fq.1 (g.dM _ (aQ ..))
  have z:=dR o
  have p:w.cell? ⟨b,off,none⟩=some L[off]:=by rw[cV d];simp
  have q:w.frozen? ⟨b,off,none⟩=false:=by simp[World.frozen?,d]
  obtain⟨i,r,s⟩:=dp.1 m;refine⟨.skip,w.setCell ⟨b,off,none⟩ v,ρ,_,?_,⟨_,.inr ⟨rfl,rfl⟩,rfl⟩,?_⟩
  ·simp[execOp,hx.eval f,hy.eval f,Instr.storeAt,Instr.sureAddr,storeVar,sizeOf,typeInfo,r,s,cells_one h1,storeCells,run_store P w _ v _ h1,p,q,Addr.add_zero']
  ·refine g.alter rfl ⟨rfl,aR _⟩ rfl (by simp) (λk hk j=> ?_) (fq.2 ?_) (λA l=>by rw[iZ]at l⊢;exact .inl l)
   ·rw[iZ]at j
    simp only[World.setCell,Array.getElem?_modify]
    rw[aA (λe=>j (by rw[e]))]
   ·rw[nR d,←sl.eq]
    simp
 ·rintro _ _ rfl
  exact h
theorem St.PM {b:Nat}{L L':List Value}[tk:l3 b H (.cells L.toArray t (0,0)) R](hx:ah F x (.pointer (some ⟨b,0,none⟩)))(hy:ah F y (.agg L'.toArray))(l:(P.info? e).map (·.size)=some L'.length)(m:L.length=L'.length)
 (h1:L'.all (·.oneCell')=true) (h:St n F (Mm c (aW b (.cells L'.toArray t (0,0))::R)) (wpList P ops Q rest)):
 St n F (Mm c H) (wpList P ops Q ({dst:=none,op:= .store e x y,type:=ty,pos:=pos,after:=after,guard:=none}::rest)):=by
 refine St.lq (K:=λu H'=>H'=aW b (.cells L'.toArray t (0,0))::R) ?_ ?_
 ·intro a w ρ d hm
  have f:=hm.perm tk.perm
  have g:=fq.1 (f.dM _ (aQ ..))
  have o:=run_storeVar_row (P:=P) w b t e L.toArray L'.toArray g (by simpa using l) (by simpa using m) (by simpa using h1)
  refine⟨.skip,w.setRow b L'.toArray,ρ,_,?_,⟨_,.inr ⟨rfl,rfl⟩,rfl⟩,?_⟩
  ·simp[execOp,hx.eval d,hy.eval d,Instr.storeAt,Instr.sureAddr,o]
  ·refine f.alter rfl ⟨rfl,aR _⟩ rfl (by simp) (λk hk i=> ?_) (fq.2 ?_) (λp j=>by rw[iZ]at j⊢;exact .inl j)
   ·rw[iZ]at i
    exact setRow_other w b k _ (λe=>i (by rw[e]))
   ·exact setRow_heap w b L.toArray L'.toArray t _ g
 ·rintro _ _ rfl
  exact h
theorem Ev.func {f:FuncId}{cs:List Operand}{vs:List Value}(b:bH F cs vs):Ev P n F A (.makeFunc (.func f) #[] cs.toArray) ty (.func (.func f) #[] vs.toArray):= .of_run λa w c _=>by
 have:=bH.eval c b
 simp[execOp,Instr.makeFunc,this]
theorem EM (size:Nat):∀(vs:List Value) (k:Nat) (pre post:List Value),pre.length=k*size→(∀u∈vs,u.cells.size=size)→post.length=vs.length*size→
 Instr.fill (λi=>some (i*size,size)) (pre++post).toArray ((vs.zipIdx k).map λp=>(p.2,p.1))=some (pre++vs.flatMap λu=>u.cells.toList).toArray
 | [],k,pre,post,_,_,hp=>by
  have:post=[]:=lG (by simpa using hp)
  subst this
  simp[Instr.fill]
 |u::vs,k,pre,post,b,hu,d=>by
  have a:=hu u (by simp)
  have hlen:post.length=size+vs.length*size:=by rw[d,fU,jf];omega
  have e:∀(l:List Value) (m:Nat) (Z:List Value),m+l.length≤Z.length→((l.zipIdx m).foldl (λcs p=>cs.setIfInBounds (k*size+p.2) p.1) (pre++Z).toArray)=(pre++(Z.take m++l++Z.drop (m+l.length))).toArray:=by
   intro l
   induction l with
   |nil=>intro m Z _;simp
   |cons y l f=>
    intro m Z g
    simp only[List.length_cons]at g
    simp only[List.zipIdx_cons,List.foldl_cons]
    have h:(pre++Z).toArray.setIfInBounds (k*size+m) y=(pre++Z.set m y).toArray:=by
     simp only[List.setIfInBounds_toArray]
     rw[lJ _ _ (by omega)]
     congr 2
     rw[show k*size+m-pre.length=m by omega]
    rw[h,f (m+1) (Z.set m y) (by simp;omega)]
    congr 2
    simp only[List.length_cons]
    rw[List.drop_set_of_lt (by omega),show m+1+l.length=m+(l.length+1) by omega];rw[List.take_set]
    have:(Z.take (m+1)).set m y=Z.take m++ [y]:=by
     rw[K6 (by omega),lJ _ _ (by simp[Nat.min_le_left])]
     simp[show min m Z.length=m by omega]
    rw[this]
    simp
  simp only[List.zipIdx_cons,List.map_cons,Instr.fill]
  have q:¬(u.cells.size≠size∨(pre++post).toArray.size<k*size+u.cells.size):=by simp;omega
  have n:((decide (u.cells.size≠size))||decide (k*size+u.cells.size>(pre++post).toArray.size))=false:=by
   simp;omega
  simp only[n,Bool.false_eq_true,if_false]
  have o:=e u.cells.toList 0 post (by simp;omega)
  have hz:u.cells.zipIdx.foldl (λcs (c,j)=>cs.setIfInBounds (k*size+j) c) (pre++post).toArray=(pre++(u.cells.toList++post.drop size)).toArray:=by
   rw[←Array.foldl_toList]
   simp only[Array.toList_zipIdx]
   rw[o]
   simp[a]
  rw[hz,←dq]
  have f:=EM size vs (k+1) (pre++u.cells.toList) (post.drop size) (by simp[a,b,Nat.add_mul]) (λx hx=>hu x (by simp[hx])) (by simp;omega)
  rw[f]
  simp
theorem St.Cc {size:Nat}{xs:List Operand}{vs:List Value}{ps:List (Nat×Operand)}{zv:Value}(hp:ps=xs.zipIdx.map λp=>(p.2,p.1))(hx:bH F xs vs)(ht:P.underlying t=some (.slice e))(E:(P.info? e).map (·.size)=some size)
 (hz:(P.info? e).bind (·.zero)=some zv) (y:Nat.ble 1 size=true) (hlen:Nat.ble (vs.length*size) 16777216=true) (j:∀u∈vs,u.cells.size=size) (hd:Nat.ble (d+1) n=true)
 {m:Nat} (hm:m=vs.length)
 (h:∀b,St n ((d,.slice (some ⟨b,0,none⟩) m m)::F) (Mm c (row (.slice (some ⟨b,0,none⟩) m m) e size m (vs.flatMap λu=>u.cells.toList)::H)) (wpList P ops Q rest)):
 St n F (Mm c H) (wpList P ops Q ({dst:=some d,op:= .buildSlice t m ps.toArray,type:=ty,pos:=pos,after:=after,guard:=none}::rest)):=by
 subst hm;refine St.QS (K:=λu H'=>∃b,u= .slice (some ⟨b,0,none⟩) vs.length vs.length∧H'=row (.slice (some ⟨b,0,none⟩) vs.length vs.length) e size vs.length (vs.flatMap λu=>u.cells.toList)::H) ?_ hd ?_
 ·intro a w ρ G I
  have hle:=dR hlen
  have f:=bH.eval G hx
  have J:xs.length=vs.length:=by rw[←f,aO]
  obtain⟨i,l,A⟩:=dp.1 E
  have o:i.zero=some zv:=by rw[l]at hz;simpa using hz
  have q:(vs.flatMap λu=>u.cells.toList).length=vs.length*size:=by
   clear hx f J hle hlen h
   induction vs with
   |nil=>simp
   |cons u vs L=>
    simp only[List.flatMap_cons,List.length_append,List.length_cons,Nat.add_mul]
    rw[L (λx hx=>j x (by simp[hx]))]
    have:=j u (by simp)
    simp[this];omega
  have r:(ps.toArray.map λ(i,x)=>(i,a.eval x)).toList=(vs.zipIdx).map λp=>(p.2,p.1):=by
   subst hp;rw[←f]
   simp[List.zipIdx_map,Function.comp_def]
  refine⟨.value (.slice (some ⟨w.heap.size,0,none⟩) vs.length vs.length),w.alloc (.cells (vs.flatMap λu=>u.cells.toList).toArray e),ρ,_,?_,⟨_,.inl rfl,_,rfl,rfl⟩,?_⟩
  ·by_cases B:vs.length*size=0
   ·have s:vs=[]:=by
     rcases Nat.mul_eq_zero.1 B with h1|h1
     ·exact lG h1
     ·have:=dR y;omega
    rw[s]at r⊢
    simp only[execOp,Instr.buildSlice,Sem.run_bind,run_underlying ht,Result.andThen_ok,sizeOf,typeInfo,Sem.run_pure,r,run_program,l,A]
    simp[Instr.fill,newRow,Array.range_zero']
   ·obtain⟨z,g⟩:∃z:List Value,((Array.range (vs.length*size)).map (zv.cells[· %zv.cells.size]!))=z.toArray:=⟨_,(Array.toArray_toList).symm⟩
    have v:z.length=vs.length*size:=by have:=congrArg Array.size g;simpa using this.symm
    have C:=EM size vs 0 [] z (by simp) j v
    simp only[List.nil_append]at C
    have l6:¬vs.length*size>2^24:=by simp;omega
    simp only[execOp,Instr.buildSlice,Sem.run_bind,run_underlying ht,Result.andThen_ok,sizeOf,typeInfo,Sem.run_pure,r,run_program,l,A,zeroValue,o,l6,B,if_false,g,Sem.run_ite]
    simp[C,newRow]
  ·refine I.Aj rfl ⟨rfl,aR _⟩ rfl (by simp) (λk hk=>RowKit.Below.heap_alloc w _ k hk) (eN.2 ⟨q,.inr ⟨w.heap.size,vs.length,_,rfl,aP _,heap_alloc_new w _,aR _,?_,?_,?_⟩⟩) ?_
   ·have:vs.length≤vs.length*size:=Nat.le_mul_of_pos_right _ (dR y)
    unfold maxLen;omega
   ·rw[List.size_toArray,q]
   ·rw[←q,jY]
   ·intro b D;rw[eI]at D;simp[Value.ownBlock]at D;omega
 ·rintro _ _ ⟨b,rfl,rfl⟩
  exact h b
def aI (P : Program) (f : FuncId) : Prop := ∃ fn, P.funcs[f]? = some fn ∧ fn.body.isSome = true ∧ (fn.name == "runtime.NumGoroutine") = false
theorem aI.run {f:FuncId}(h:aI P f){args:Array Value}{w:World}:(callFunc f args).run P w= .ok (.enter f args) w:=
 let⟨_,h1,a,b⟩:=h;Cd h1 a b
theorem Mm.wH {dr:Prop}{f:FuncId}{args:Array Value}{pre R:List ak}{post:Value→List ak→Prop}(b:Dk dr P f args pre post)(d:c.dr→dr){w:World}(hm:Mm c (pre++R) w):
 Calls P f args w λe w'=>∃v H',e= .returned v∧post v H'∧Mm c (H'++R) w':=by
 obtain⟨ρ,hm⟩:=hm.out;refine(b w ρ hm.start).mono ?_;rintro e w' ⟨v,H',he,hp,a⟩;obtain⟨jq,a⟩:=a.out;exact⟨v,H',he,hp,Mm.mk (hm.step (a.dr d))⟩
theorem Mm.call {f:FuncId}{args:Array Value}{pre R:List ak}{post:Value→List ak→Prop}(a:dz P f args pre post){w:World}(hm:Mm c (pre++R) w):
 Calls P f args w λe w'=>∃v H',e= .returned v∧post v H'∧Mm c (H'++R) w':=Mm.wH a.gen (λ_=>trivial) hm
theorem Mm.mn {ds:List du}[hd:kY ds H]{w:World}(hm:Mm c H w):Mm c (ds.map aB++H) w:=
 let⟨_,k⟩:=hm.out;Mm.mk (k.AV ds λd h=>dA.1 (k.dM _ (hd.mem d h)))
theorem mF {f:FuncId}{xs:List Operand}{c:Array TypeId}{vs caps:List Value}(d:aI P f)(hx:bH F (x::xs) (.func (.func f) #[] caps.toArray::vs)){a:Act}(b:Has n a F)(w:World):
 (execOp a.eval (bare (.call {callee:= .value x,args:=xs.toArray,argTypes:=c}) ty)).run P w= .ok (.enter f (vs++caps).toArray) w:=by
 have h1:=hx.1.eval b
 have g:=bH.eval b hx.2
 simp only[execOp,resolve,h1,Deferred.ofValue,Sem.run_bind,Sem.run_pure,Result.andThen_ok,invoke]
 have e:(#[]++xs.toArray.map a.eval++caps.toArray)=(vs++caps).toArray:=by simp[g]
 rw[e];exact d.run
theorem Ev.call {f:FuncId}{xs:List Operand}{b:Array TypeId}{vs:List Value}{ds:List du}(d:eE P f vs.toArray ds v)(g:aI P f)(hx:bH F xs vs)[hd:kY ds H]:
 Ev P n F (Mm c H) (.call {callee:= .value (.func f),args:=xs.toArray,argTypes:=b}) ty v:=by
 intro a w h hw;rw[mF (caps:=[]) g (bH.cons (ah.mk rfl) hx) h w]
 simp only[List.append_nil,Oper.quietUpon,true_and]
 refine(Mm.call d hw.mn).mono ?_;rintro e w' ⟨u,H',rfl,rfl,hm⟩;refine⟨rfl,?_⟩;obtain⟨ρ,hm⟩:=hm.out;exact Mm.mk ((hm.perm jX).left)
theorem Ev.mO {f:FuncId}{xs:List Operand}{b:Array TypeId}{vs:List Value}{ds:List du}(d:¬c.dr)(g:kX P f vs.toArray ds v)(i:aI P f)(hx:bH F xs vs)[hd:kY ds H]:
 Ev P n F (Mm c H) (.call {callee:= .value (.func f),args:=xs.toArray,argTypes:=b}) ty v:=by
 intro a w j hw;rw[mF (caps:=[]) i (bH.cons (ah.mk rfl) hx) j w]
 simp only[List.append_nil,Oper.quietUpon,true_and]
 refine(Mm.wH g (λh=>absurd h d) hw.mn).mono ?_;rintro e w' ⟨u,H',rfl,rfl,hm⟩;refine⟨rfl,?_⟩;obtain⟨ρ,hm⟩:=hm.out;exact Mm.mk ((hm.perm jX).left)
theorem Ev.ei {f:FuncId}{xs:List Operand}{b:Array TypeId}{vs caps:List Value}{ds:List du}(d:eE P f (vs++caps).toArray ds v)(g:aI P f)(h:ah F x (.func (.func f) #[] caps.toArray))(hx:bH F xs vs)[hd:kY ds H]:
 Ev P n F (Mm c H) (.call {callee:= .value x,args:=xs.toArray,argTypes:=b}) ty v:=by
 intro a w i hw;rw[mF g (bH.cons h hx) i w]
 simp only[Oper.quietUpon,true_and]
 refine(Mm.call d hw.mn).mono ?_;rintro e w' ⟨u,H',rfl,rfl,hm⟩;refine⟨rfl,?_⟩;obtain⟨ρ,hm⟩:=hm.out;exact Mm.mk ((hm.perm jX).left)
theorem gK {f:FuncId}{xs:List Operand}{b:Array TypeId}{vs caps:List Value}(c:aI P f)(hx:bH F (x::xs) (.func (.func f) #[] caps.toArray::vs)){a:Act}(d:Has n a F)(w:World){K:Act→World→Prop}
 {dd:Option Tmp} {g:Option (Nat×Bool)}
 (hk:Calls P f (vs++caps).toArray w λe w'=>∃v,e= .returned v∧K (a.put dd v) w'):
 ({dst:=dd,op:= .call {callee:= .value x,args:=xs.toArray,argTypes:=b},type:=ty,pos:=pos,after:=after,guard:=g}:Oper).wp P a w K Q:=by
 unfold Oper.wp Oper.upon;rw[gy,mF c hx d w]
 exact hk.mono λe w' ⟨v,he,h⟩=>by subst he;exact h
theorem St.call {f:FuncId}{xs:List Operand}{g:Array TypeId}{vs:List Value}{pre R:List ak}{post:Value→List ak→Prop}(i:dz P f vs.toArray pre post)(j:aI P f)(hx:bH F xs vs)(hd:Nat.ble (d+1) n=true)[tk:eV pre H R]
 (h:∀v H',post v H'→St n ((d,v)::F) (Mm c (H'++R)) (wpList P ops Q rest)):
 St n F (Mm c H) (wpList P ops Q ({dst:=some d,op:= .call {callee:= .value (.func f),args:=xs.toArray,argTypes:=g},type:=ty,pos:=pos,after:=after,guard:=none}::rest)):=by
 intro a w b hw;refine gG rfl (gK (caps:=[]) j (bH.cons (ah.mk rfl) hx) b w ?_)
 simp only[List.append_nil]
 refine(Mm.call i (hw.take (L:=pre))).mono ?_;rintro e w' ⟨u,H',rfl,hp,hm⟩;exact⟨u,rfl,h u H' hp _ w' (b.put (dR hd) u) hm⟩
theorem St.ae {f:FuncId}{xs:List Operand}{g:Array TypeId}{vs:List Value}{ds:List du}{post:Value→List ak→Prop}(i:dz P f vs.toArray (ds.map aB) post)(j:aI P f)(hx:bH F xs vs)(hd:Nat.ble (d+1) n=true)[k:kY ds H]
 (h:∀v H',post v H'→St n ((d,v)::F) (Mm c (H'++H)) (wpList P ops Q rest)):
 St n F (Mm c H) (wpList P ops Q ({dst:=some d,op:= .call {callee:= .value (.func f),args:=xs.toArray,argTypes:=g},type:=ty,pos:=pos,after:=after,guard:=none}::rest)):=by
 intro a w b hw;refine gG rfl (gK (caps:=[]) j (bH.cons (ah.mk rfl) hx) b w ?_)
 simp only[List.append_nil]
 refine(Mm.call i (hw.mn (ds:=ds))).mono ?_;rintro e w' ⟨u,H',rfl,hp,hm⟩;exact⟨u,rfl,h u H' hp _ w' (b.put (dR hd) u) hm⟩
theorem St.mP {f:FuncId}{xs:List Operand}{g:Array TypeId}{vs:List Value}{ds:List du}{post:Value→List ak→Prop}(i:¬c.dr)(j:sk P f vs.toArray (ds.map aB) post)(k:aI P f)(hx:bH F xs vs)(hd:Nat.ble (d+1) n=true)[l:kY ds H]
 (h:∀v H',post v H'→St n ((d,v)::F) (Mm c (H'++H)) (wpList P ops Q rest)):
 St n F (Mm c H) (wpList P ops Q ({dst:=some d,op:= .call {callee:= .value (.func f),args:=xs.toArray,argTypes:=g},type:=ty,pos:=pos,after:=after,guard:=none}::rest)):=by
 intro a w b hw;refine gG rfl (gK (caps:=[]) k (bH.cons (ah.mk rfl) hx) b w ?_)
 simp only[List.append_nil]
 refine(Mm.wH j (λh=>absurd h i) (hw.mn (ds:=ds))).mono ?_;rintro e w' ⟨u,H',rfl,hp,hm⟩;exact⟨u,rfl,h u H' hp _ w' (b.put (dR hd) u) hm⟩
theorem St.ei {f:FuncId}{xs:List Operand}{g:Array TypeId}{vs caps:List Value}{pre R:List ak}{post:Value→List ak→Prop}(i:dz P f (vs++caps).toArray pre post)(j:aI P f)(k:ah F x (.func (.func f) #[] caps.toArray))(hx:bH F xs vs)(hd:Nat.ble (d+1) n=true)[tk:eV pre H R]
 (h:∀v H',post v H'→St n ((d,v)::F) (Mm c (H'++R)) (wpList P ops Q rest)):
 St n F (Mm c H) (wpList P ops Q ({dst:=some d,op:= .call {callee:= .value x,args:=xs.toArray,argTypes:=g},type:=ty,pos:=pos,after:=after,guard:=none}::rest)):=by
 intro a w b hw;refine gG rfl (gK j (bH.cons k hx) b w ?_);refine(Mm.call i (hw.take (L:=pre))).mono ?_;rintro e w' ⟨u,H',rfl,hp,hm⟩;exact⟨u,rfl,h u H' hp _ w' (b.put (dR hd) u) hm⟩
def cu (P:Program)(t:TypeId)(w:World):Result (Array (Nat×Nat)):=
 match P.underlying t with
 |some (.struct a)=>(a.mapM λf=>(do pure (f.offset,←sizeOf f.type):Sem (Nat×Nat))).run P w
 | _ => .halt (.stuck "") w
theorem bM {Z C:Array Value}{pl:Array (Nat×Nat)}{parts:List (Nat×Value)}{w:World}(hz:(P.info? t).bind (λi=>i.zero.map Value.cells)=some Z)(hp:cu P t w= .ok pl w)(b:Instr.fill (pl[·]?) Z parts=some C):
 (Instr.build t parts.toArray).run P w= .ok (.agg C) w:=by
 obtain⟨i,c,d⟩:=pN.1 hz;obtain⟨zv,a,rfl⟩:=dp.1 d;unfold cu at hp
 split at hp
 ·rename_i e hu
  simp only[Instr.build,zeroValue,typeInfo,Sem.run_bind,run_program,Result.andThen_ok,c,a,Sem.run_pure,run_underlying hu,hp,b]
 ·cases hp
end
def aD:Fr→Fr→Prop
 |F,F0=>Sub F0 F
theorem aD.nil {F:Fr}:aD F []:=trivial
theorem aD.cons {F F0:Fr}(k:Nat){v:Value}(h:look F k=some v)(a:aD F F0):aD F ((k,v)::F0):=⟨h,a⟩
section
variable {P:Program}{n:Nat}{F F0:Fr}{A:World→Prop}{c:Ctx}{H R:List ak}{ty:TypeId}{x y z:Operand}{v:Value}{Q:Exit→Act→World→Prop}{ops:Array Oper}{rest:List Oper}
 {d:Nat} {pos:String} {after:Array Edge} {t e:TypeId}
def wD {ι:Type}(n:Nat)(G:ι→Fr→Fr)(F0:Fr)(φ:ι→Prop)(μ:ι→Nat)(c:Ctx)(b:ι→List ak)(k:Nat)(a:Act)(w:World):Prop:=
 ∃y,μ y<k∧Has n a (G y F0)∧φ y∧Mm c (b y) w
def Met {ι:Type}(n:Nat)(G:ι→Fr→Fr)(F0:Fr)(φ:ι→Prop)(c:Ctx)(b:ι→List ak)(a:Act)(w:World):Prop:=
 ∃y,Has n a (G y F0)∧φ y∧Mm c (b y) w
theorem St.Ef {ι:Type}{body:Code}(G:ι→Fr→Fr)(a:ι→List ak)(φ:ι→Prop)(μ:ι→Nat)(b:ι)(d:aD F F0)(e:φ b)(f:Sub (G b F0) F)(hH:∀w,Mm c H w→Mm c (a b) w)
 (round:∀x,φ x→St n (G x F0) (Mm c (a x)) (body.wp P (Exit.then (wD n G F0 φ μ c a (μ x)) Q))):
 St n F (Mm c H) ((Code.loop body).wp P Q):=by
 refine St.loop (λx=>G x F0) (λx w=>φ x∧Mm c (a x) w) μ b f (λw hw=>⟨e,hH w hw⟩) λx=> ?_
 exact St.and λhx=>round x hx
theorem St.sM {ι:Type}{G:ι→Fr→Fr}{a:ι→List ak}{φ:ι→Prop}{μ:ι→Nat}{k:Nat}(y:ι)(b:φ y)(hm:μ y<k)(d:Sub (G y F0) F)(e:∀w,Mm c H w→Mm c (a y) w):
 St n F (Mm c H) (wD n G F0 φ μ c a k):=
 λ_ w f hw=>⟨y,hm,f.sub d,b,e w hw⟩
theorem St.ad9 {ι:Type}{body:Code}(G:ι→Fr→Fr)(φ:ι→Prop)(μ:ι→Nat)(a:ι)(hk:aD F F0)(b:φ a)(d:Sub (G a F0) F)
 (round:∀x,φ x→St n (G x F0) (Mm c H) (body.wp P (Exit.then (wD n G F0 φ μ c (λ_=>H) (μ x)) Q))):
 St n F (Mm c H) ((Code.loop body).wp P Q):=St.Ef G (λ_=>H) φ μ a hk b d (λ_ hw=>hw) round
theorem St.GX {ι:Type}{G:ι→Fr→Fr}{φ:ι→Prop}{μ:ι→Nat}{k:Nat}{H':List ak}(y:ι)(a:φ y)(hm:μ y<k)(b:Sub (G y F0) F)(d:∀w,Mm c H w→Mm c H' w):
 St n F (Mm c H) (wD n G F0 φ μ c (λ_=>H') k):=St.sM y a hm b d
def CA {ι κ:Type}(n:Nat)(G:ι→κ→Fr→Fr)(F0:Fr)(φ:ι→κ→Prop)(μ:ι→κ→Nat)(c:Ctx)(b:ι→κ→List ak)(k:Nat)(a:Act)(w:World):Prop:=
 ∃y z,μ y z<k∧Has n a (G y z F0)∧φ y z∧Mm c (b y z) w
theorem St.XE {ι κ:Type}{body:Code}(G:ι→κ→Fr→Fr)(d:ι→κ→List ak)(φ:ι→κ→Prop)(μ:ι→κ→Nat)(e:ι)(f:κ)(g:aD F F0)(h:φ e f)(i:Sub (G e f F0) F)(hH:∀w,Mm c H w→Mm c (d e f) w)
 (round:∀x z,φ x z→St n (G x z F0) (Mm c (d x z)) (body.wp P (Exit.then (CA n G F0 φ μ c d (μ x z)) Q))):
 St n F (Mm c H) ((Code.loop body).wp P Q):=by
 refine St.loop (ι:=ι×κ) (λx=>G x.1 x.2 F0) (λx w=>φ x.1 x.2∧Mm c (d x.1 x.2) w) (λx=>μ x.1 x.2) (e,f) i (λw hw=>⟨h,hH w hw⟩) λx=> ?_
 refine St.and λhx=>λa w j hw=>wp_mono (round x.1 x.2 hx a w j hw) ?_
 intro ex p w' b
 cases ex with
 |normal=>obtain⟨y,z,h1,k,m,o⟩:=b;exact⟨(y,z),h1,k,m,o⟩
 |exit id=>exact b
 |goto l=>exact b
 |ret=>exact b
 |panic ch=>exact b
 |outgrown=>exact b
theorem St.nG {ι κ:Type}{G:ι→κ→Fr→Fr}{a:ι→κ→List ak}{φ:ι→κ→Prop}{μ:ι→κ→Nat}{k:Nat}(y:ι)(z:κ)(b:φ y z)(hm:μ y z<k)(d:Sub (G y z F0) F)(e:∀w,Mm c H w→Mm c (a y z) w):
 St n F (Mm c H) (CA n G F0 φ μ c a k):=
 λ_ w f hw=>⟨y,z,hm,f.sub d,b,e w hw⟩
theorem St.join {ι:Type}{p q:Code}(G:ι→Fr→Fr)(d:ι→List ak)(φ:ι→Prop)(e:aD F F0)
 (h1:St n F (Mm c H) (p.wp P (Exit.then (Met n G F0 φ c d) Q))) (f:∀y,φ y→St n (G y F0) (Mm c (d y)) (q.wp P Q)):
 St n F (Mm c H) ((Code.seq p q).wp P Q):=by
 intro a w g hw;refine wp_seq (wp_mono (h1 a w g hw) ?_);intro ex h w' b
 cases ex with
 |normal=>obtain⟨y,i,j,k⟩:=b;exact f y j h w' i k
 |exit id=>exact b
 |goto l=>exact b
 |ret=>exact b
 |panic ch=>exact b
 |outgrown=>exact b
theorem St.met {ι:Type}{G:ι→Fr→Fr}{a:ι→List ak}{φ:ι→Prop}(y:ι)(b:φ y)(d:Sub (G y F0) F)(e:∀w,Mm c H w→Mm c (a y) w):
 St n F (Mm c H) (Met n G F0 φ c a):=
 λ_ w f hw=>⟨y,f.sub d,b,e w hw⟩
theorem St.wf {α:Type}{Rr:Rp α}{xs:List α}{T:Act→World→Prop}(v:Value)[hd:sI v H α Rr xs](h:(∀x∈xs,Rr.wf x)→xs.length≤9223372036854775807→St n F (Mm c H) T):St n F (Mm c H) T:=by
 intro a w b hw;obtain⟨ρ,hm⟩:=hw.out;obtain⟨ad,cap,_,f,d,e,_⟩:=hm.sl hd;exact h e (by simp only[maxLen]at d;omega) a w b hw
theorem St.dw {T:Act→World→Prop}(e:TypeId)(size:Nat)(h:St n F (Mm c (row (.slice none 0 0) e size 0 []::H)) T):St n F (Mm c H) T:=by
 refine h.o6 λw hw=> ?_
 obtain⟨ρ,hm⟩:=hw.out;exact Mm.mk (hm.Aj rfl ⟨rfl,aR _⟩ rfl (aR _) (λ_ _=>rfl) (eN.2 (World.ownsRow_nil _ _ _ _)) (λb a=>by rw[eI]at a;simp[Value.ownBlock]at a))
theorem run_equalIn_bool (k:Nat){p q:Bool}{w:World}(ht:P.underlying t=some .bool):(Op.equalIn (k+1) t (.bool p) (.bool q)).run P w= .ok (p==q) w:=by
 simp only[Op.equalIn,Sem.run_bind,run_underlying ht,Result.andThen_ok,Sem.run_pure]
theorem run_equal_bool {p q:Bool}{w:World}(ht:P.underlying t=some .bool):(Op.equal t (.bool p) (.bool q)).run P w= .ok (p==q) w:=by
 have:=run_equalIn_bool (P:=P) (w:=w) 9999 (p:=p) (q:=q) ht
 unfold Op.equal Op.maxDepth;exact this
theorem Ev.R3 {p q:Bool}{u:TypeId}(hx:ah F x (.bool p))(hy:ah F y (.bool q))(ht:P.underlying t=some .bool):Ev P n F A (.binOp .eql t x y u) ty (.bool (p==q)):= .of_run λa w b _=>by
 simp only[execOp,hx.eval b,hy.eval b,eqGuard_at_bool,binOp,Sem.run_bind,Sem.run_pure,Result.andThen_ok,run_equal_bool ht]
theorem Ev.IZ {p q:Bool}{u:TypeId}(hx:ah F x (.bool p))(hy:ah F y (.bool q))(ht:P.underlying t=some .bool):Ev P n F A (.binOp .neq t x y u) ty (.bool (!(p==q))):= .of_run λa w b _=>by
 simp only[execOp,hx.eval b,hy.eval b,eqGuard_at_bool,binOp,Sem.run_bind,Sem.run_pure,Result.andThen_ok,run_equal_bool ht]
section rows
variable {size m k:Nat}{cs:List Value}
theorem ez.row {H:List ak}{ρ:Ro}{w:World}(h:ez c H ρ w)(a:wu v H e size m cs):w.ownsRow 0 e size v m cs:=eN.1 (h.dM _ a.mem)
theorem Ev.XA {d:TypeId}[f:wu v H e size m cs](hx:ah F x v)(ht:P.underlying t=some (.slice d)):
 Ev P n F (Mm c H) (.call {callee:= .builtin .len,args:= #[x],argTypes:= #[t]}) ty (iv m):= .of_run λa w b hw=>by
 obtain⟨ρ,hm⟩:=hw.out
 rcases(hm.row f).2 with⟨rfl,rfl⟩|⟨g,cap,cur,rfl,_⟩
 ·simp[execOp,resolve,invoke,builtin,hx.eval b,Builtin.len_,run_underlying ht,goInt]
 ·simp[execOp,resolve,invoke,builtin,hx.eval b,Builtin.len_,run_underlying ht,goInt]
theorem Ev.dZ {i:Int}{kd:IntKind}[d:wu v H e size m cs](hx:ah F x v)(hy:ah F y (.int kd i))(ht:P.underlying t=some (.slice e))(f:(P.info? e).map (·.size)=some size)
 (h:i=k) (hk:k<m):Ev P n F (Mm c H) (.indexAddr t x y) ty (cZ v size k 0):= .of_run λa w b hw=>by
 obtain⟨ρ,hm⟩:=hw.out
 rcases(hm.row d).2 with⟨rfl,rfl⟩|⟨g,cap,cur,rfl,_⟩
 ·omega
 ·obtain⟨inf,j,l⟩:=dp.1 f
  subst h
  simp[execOp,hx.eval b,hy.eval b,Instr.indexAt,asIntOf,run_underlying ht,sizeOf,typeInfo,j,l,hk,eG,Addr.add_lit]
theorem jz {w:World}(h:w.ownsRow 0 e size v m cs){k off:Nat}{u:Value}(hk:k<m)(hu:cs[k*size+off]?=some u):
 ∃b,cZ v size k off= .pointer (some ⟨b,k*size+off,none⟩)∧w.cell? ⟨b,k*size+off,none⟩=some u∧v.ownBlock=some b∧w.frozen? ⟨b,k*size+off,none⟩=false:=by
 obtain⟨f,c⟩:=h
 rcases c with⟨rfl,rfl⟩|⟨g,cap,cur,rfl,_,a,i,j,l,d⟩
 ·omega
 ·refine⟨g,by rw[eG];simp,?_,rfl,by simp[World.frozen?,a]⟩
  rw[cV a];rw[←d]at hu
  have n:=(fA.1 hu).1
  rw[sB]at hu
  split at hu
  ·simpa using hu
  ·simp at hu
theorem Ev.ct {off:Nat}{dd:TypeDesc}{u:Value}[d:wu v H e size m cs](hx:ah F x (cZ v size k off))(ht:P.underlying t=some dd)(f:(match dd with| .struct _| .array _ _=>False|_=>True))
 (hk:k<m) (hu:cs[k*size+off]?=some u):Ev P n F (Mm c H) (.load t x) ty u:= .of_run λa w g hw=>by
 obtain⟨ρ,hm⟩:=hw.out;obtain⟨b,h1,h,_⟩:=jz (hm.row d) hk hu;rw[h1]at hx
 simp[execOp,hx.eval g,Instr.loadAt,Instr.sureAddr,fN ht f h]
theorem Ev.W9 {off o i:Nat}{s:TypeId}[b:wu v H e size m cs](hx:ah F x (cZ v size k off))(hk:k<m)(d:bh P s i=some o):Ev P n F (Mm c H) (.fieldAddr s x i) ty (cZ v size k (off+o)):= .of_run λa w f hw=>by
 obtain⟨ρ,hm⟩:=hw.out
 rcases(hm.row b).2 with⟨rfl,rfl⟩|⟨g,cap,cur,rfl,_⟩
 ·omega
 ·rw[eG]at hx
  simp[execOp,hx.eval f,nQ d,eG,Addr.add_lit,Nat.add_assoc]
theorem St.cJ {off:Nat}{u:Value}[tk:lU v H e size m cs R](hx:ah F x (cZ v size k off))(hy:ah F y u)(r:(P.info? t).map (·.size)=some 1)(h1:u.oneCell'=true)
 (hk:k<m) (S:off<size) (h:St n F (Mm c (row v e size m (cs.set (k*size+off) u)::R)) (wpList P ops Q rest)):
 St n F (Mm c H) (wpList P ops Q ({dst:=none,op:= .store t x y,type:=ty,pos:=pos,after:=after,guard:=none}::rest)):=by
 refine St.lq (K:=λT H'=>H'=row v e size m (cs.set (k*size+off) u)::R) ?_ ?_
 ·intro a w ρ l hm
  have o:=hm.perm tk.perm
  have d:=eN.1 (o.dM _ (aQ ..))
  have s:k*size+off<cs.length:=by
   rw[d.1]
   have:(k+1)*size≤m*size:=iV _ hk
   rw[jf]at this;omega
  obtain⟨b,z,A,f,B⟩:=jz d hk (bU s);rw[z]at hx;obtain⟨i,C,D⟩:=dp.1 r;refine⟨.skip,w.setCell ⟨b,k*size+off,none⟩ u,ρ,_,?_,⟨_,.inr ⟨rfl,rfl⟩,rfl⟩,?_⟩
  ·simp[execOp,hx.eval l,hy.eval l,Instr.storeAt,Instr.sureAddr,storeVar,sizeOf,typeInfo,C,D,cells_one h1,storeCells,run_store P w _ u _ h1,A,B,Addr.add_zero']
  ·refine o.alter rfl ⟨rfl,aR _⟩ rfl (by simp) (λj U p=> ?_) (eN.2 ?_) (λV q=>by rw[eI]at q⊢;exact .inl q)
   ·rw[eI,f]at p
    simp only[World.setCell,Array.getElem?_modify]
    rw[aA (λe=>p (by rw[e]))]
   ·obtain⟨E,G⟩:=d
    refine⟨by rw[cn];exact E,?_⟩
    rcases G with⟨rfl,rfl⟩|⟨g,cap,cur,rfl,I,J,L,M,N,O⟩
    ·omega
    ·simp only[Value.ownBlock,Option.some.injEq]at f
     subst f;refine .inr ⟨_,cap,_,rfl,I,nR J,L,M,by simp[N],?_⟩;rw[←O,Array.toList_setIfInBounds,List.take_set]
 ·rintro _ _ rfl
  exact h
theorem qg {i:TypeInfo}{zv:Value}{yV:Nat}(a:(P.info? e).map (·.size)=some size)(hz:(P.info? e).bind (·.zero)=some zv)(b:(P.info? e).map (·.bytes)=some yV)(c:P.info? e=some i):i.size=size∧i.zero=some zv∧i.bytes=yV:=by
 rw[c]at a hz b;exact⟨by simpa using a,by simpa using hz,by simpa using b⟩
theorem ry {w:World}{i:TypeInfo}{zv:Value}{yV:Nat}(t ty e:TypeId)(ht:P.underlying t=some (.slice e))(n:P.info? e=some i)(hz:i.zero=some zv)(s:i.size=size)(x:i.bytes=yV)(A:zv.cells.size=size)(B:0<size)
 (v:Value) (m:Nat) (cs:List Value) (o:w.ownsRow 0 e size v m cs) (a:Addr) (k cc:Nat) (news:List Value) (h:news.length=k*size) (q:∀j u,news[j]?=some u→w.cell? (a.add j)=some u) (h1:∀u∈news,u.oneCell'=true)
 (f:m+k≤maxLen) (y:(m+k)*yV≤140737488355328):
 ∃v' w',(Builtin.append_ #[t,t] ty #[v,.slice (some a) k cc]).run P w= .ok v' w'∧w'.ownsRow 0 e size v' (m+k) (cs++news)∧w.grownBy w' v.ownBlock∧
  (v'= .slice none 0 0↔v= .slice none 0 0∧k=0)∧(∀b,v'.ownBlock=some b→v.ownBlock=some b∨w.heap.size≤b)∧w.drawn≤w'.drawn:=by
 subst s;subst x;obtain⟨v',w',p,D,E,F⟩:=run_append_own (P:=P) w 0 t ty e i zv i.size i.bytes ht n hz rfl rfl A B v m cs o a k cc news h q h1 f y (aP _);refine⟨v',w',p,D,E,F,?_⟩
 rcases o.2 with⟨rfl,rfl⟩|⟨g,cap,cur,rfl,r,G,H,I,J,K⟩
 ·obtain⟨L,Q,d,z,_⟩:=run_append_own (P:=P) w w.heap.size t ty e i zv i.size i.bytes ht n hz rfl rfl A B (.slice none 0 0) 0 cs ⟨o.1,.inl ⟨rfl,rfl⟩⟩ a k cc news h q h1 f y (aR _)
  rw[p]at d
  simp only[Result.ok.injEq]at d
  obtain⟨rfl,rfl⟩:=d;refine⟨?_,?_⟩
  ·intro b l
   rcases z.2 with⟨rfl,_⟩|⟨g,cap,cur,rfl,r,_⟩
   ·simp[Value.ownBlock]at l
   ·simp only[Value.ownBlock,Option.some.injEq]at l
    subst l;exact .inr r
  ·have M:cs=[]:=by
    have:=o.1
    simpa using this
   rcases Nat.eq_zero_or_pos k with rfl|hk
   ·have N:news=[]:=by simpa using h
    subst N
    have c:(Builtin.append_ #[t,t] ty #[.slice none 0 0,.slice (some a) 0 cc]).run P w= .ok (.slice none 0 0) w:=by
     simp[Builtin.append_,run_underlying ht,sizeOf,typeInfo,n,Builtin.lenOf,Builtin.firstCells,loadCells,loadCellsFrom]
    rw[p]at c
    simp only[Result.ok.injEq]at c
    rw[c.2];exact aR _
   ·have c:=run_append_nil (P:=P) w t ty e i zv ht n hz a k cc news h q hk (by simp only[maxLen]at f;omega) (by have:(0+k)*i.bytes=k*i.bytes:=by rw[iW]
                                                                                                                omega)
    rw[p]at c
    simp only[Result.ok.injEq]at c
    rw[c.2];exact Nat.le_succ _
 ·by_cases C:m+k≤cap
  ·have O:m*i.size+news.length≤cur.size:=by rw[h,J,←jf];exact iV _ C
   have d:=run_append_room (P:=P) w t ty e i ht n g m cap cur G a k cc news h q h1 C O
   rw[p]at d
   simp only[Result.ok.injEq]at d
   obtain⟨rfl,rfl⟩:=d;exact⟨λb l=> .inl l,aR _⟩
  ·have holds:∀j u,cs[j]?=some u→w.cell? ((⟨g,0,none⟩:Addr).add j)=some u:=o.cells (g:=g) rfl
   have d:=run_append_grow (P:=P) w t ty e i zv ht n hz ⟨g,0,none⟩ m cap cs o.1 holds a k cc news h q (by omega) (by simp only[maxLen]at f;omega) (growslice_fits (by omega) y)
   rw[p]at d
   simp only[Result.ok.injEq]at d
   obtain⟨rfl,rfl⟩:=d;refine⟨λb l=> ?_,Nat.le_succ _⟩
   simp only[Value.ownBlock,Option.some.injEq]at l
   exact .inr (by omega)
theorem St.aj {v2:Value}{m2:Nat}{news:List Value}{r:List ak}{zv:Value}{yV:Nat}[t2:lU v2 H e size m2 news r][t1:lU v r e size m cs R]
 (hx:ah F x v) (hy:ah F y v2) (ht:P.underlying t=some (.slice e)) (s:(P.info? e).map (·.size)=some size) (hz:(P.info? e).bind (·.zero)=some zv) (G:(P.info? e).map (·.bytes)=some yV)
 (I:∀u∈news,u.oneCell'=true) (hlen:m+m2≤9223372036854775807) (J:(m+m2)*yV≤140737488355328) (L:zv.cells.size=size) (M:Nat.ble 1 size=true) (g:Nat.ble 1 m2=true) (hd:Nat.ble (d+1) n=true)
 (h:∀v',(v'= .slice none 0 0↔v= .slice none 0 0∧m2=0)→St n ((d,v')::F) (Mm c (row v' e size (m+m2) (cs++news)::R)) (wpList P ops Q rest)):
 St n F (Mm c H) (wpList P ops Q ({dst:=some d,op:= .call {callee:= .builtin .append,args:= #[x,y],argTypes:= #[t,t]},type:=ty,pos:=pos,after:=after,guard:=none}::rest)):=by
 refine St.QS (K:=λv' H'=>(v'= .slice none 0 0↔v= .slice none 0 0∧m2=0)∧H'=row v' e size (m+m2) (cs++news)::R) ?_ hd ?_
 ·intro a w ρ z hm
  have A:=hm.perm t2.perm
  have B:=eN.1 (A.dM _ (aQ ..))
  have C:=A.drop.perm t1.perm
  have N:=eN.1 (C.dM _ (aQ ..))
  have O:=dR g
  obtain⟨i,D,SK⟩:=dp.1 s;obtain⟨S,T,U⟩:=qg s hz G D
  rcases B.2 with⟨_,rfl⟩|⟨g2,V,W,rfl,_,k,hc1,hc2,X,l⟩
  ·omega
  ·obtain⟨v',w',Y,o,f,p,q,Z⟩:=ry (P:=P) (w:=w) t ty e ht D T S U L (dR M) v m cs N ⟨g2,0,none⟩ m2 V news B.1
    (λj u b=>by
     rw[Addr.add_lit,iW,cV k];rw[←l,sB]at b
     split at b
     ·simpa using b
     ·simp at b) I (by unfold maxLen;omega) J
   refine⟨.value v',w',ρ,_,?_,⟨_,.inl rfl,p,rfl⟩,?_⟩
   ·simp[execOp,resolve,invoke,builtin,hx.eval z,hy.eval z,Y]
   ·refine C.alter f.os ⟨f.tape,Z⟩ f.output f.size (λj b g=> ?_) (eN.2 o) (λb' E=> ?_)
    ·rw[eI]at g;exact f.block j b (λe=>g e.symm)
    ·rw[eI]at E⊢;exact q b' E
 ·rintro _ _ ⟨h1,rfl⟩
  exact h _ h1
theorem St.yO {α:Type}{Rr:Rp α}{xs:List α}{v2:Value}{zv:Value}{yV:Nat}[t2:sI v2 H α Rr xs][t1:lU v H e Rr.size m cs R]
 (hx:ah F x v) (hy:ah F y v2) (ht:P.underlying t=some (.slice e)) (D:(P.info? e).map (·.size)=some Rr.size) (hz:(P.info? e).bind (·.zero)=some zv) (J:(P.info? e).map (·.bytes)=some yV)
 (L:∀u∈rows Rr xs,u.oneCell'=true) (hlen:m+xs.length≤9223372036854775807) (M:(m+xs.length)*yV≤140737488355328) (N:zv.cells.size=Rr.size) (O:Nat.ble 1 Rr.size=true) (S:True) (hd:Nat.ble (d+1) n=true)
 (h:∀v',(v'= .slice none 0 0↔v= .slice none 0 0∧xs.length=0)∨xs=[]→St n ((d,v')::F) (Mm c (row v' e Rr.size (m+xs.length) (cs++rows Rr xs)::R)) (wpList P ops Q rest)):
 St n F (Mm c H) (wpList P ops Q ({dst:=some d,op:= .call {callee:= .builtin .append,args:= #[x,y],argTypes:= #[t,t]},type:=ty,pos:=pos,after:=after,guard:=none}::rest)):=by
 refine St.QS (K:=λv' H'=>((v'= .slice none 0 0↔v= .slice none 0 0∧xs.length=0)∨xs=[])∧H'=row v' e Rr.size (m+xs.length) (cs++rows Rr xs)::R) ?_ hd ?_
 ·intro a w ρ k hm
  obtain⟨ad,cap,rfl,_,_,_,p⟩:=hm.sl t2
  have q:=hm.perm t1.perm
  have E:=eN.1 (q.dM _ (aQ ..))
  obtain⟨i,l,SK⟩:=dp.1 D;obtain⟨T,U,V⟩:=qg D hz J l
  cases o:xs with
  |nil=>
   subst o
   have r:(Builtin.append_ #[t,t] ty #[v,.slice ad ([]:List α).length cap]).run P w= .ok v w:=by
    rcases E.2 with⟨rfl,rfl⟩|⟨g,am1,cur,rfl,_,hg,W,_⟩
    ·cases ad<;>simp[Builtin.append_,run_underlying ht,sizeOf,typeInfo,l,Builtin.lenOf,Builtin.firstCells,loadCells,loadCellsFrom]
    ·cases ad<;>simp[Builtin.append_,run_underlying ht,sizeOf,typeInfo,l,Builtin.lenOf,Builtin.firstCells,loadCells,loadCellsFrom,W,storeCells]
   refine⟨.value v,w,ρ,_,?_,⟨_,.inl rfl,.inr rfl,rfl⟩,?_⟩
   ·simp only[execOp,resolve,invoke,builtin,hx.eval k,hy.eval k,List.map_toArray,List.map_cons,List.map_nil,Sem.run_bind,Sem.run_pure,Result.andThen_ok]
    rw[r];rfl
   ·simpa[rows]using q
  |cons x0 X=>
   rcases p with p|⟨b,off,C,e',fr,rfl,Y,Z⟩
   ·rw[p]at o;cases o
   ·rw[←o]
    obtain⟨v',w',r,s,f,z,A,hdr⟩:=ry (P:=P) (w:=w) t ty e ht l U T V N (dR O) v m cs E ⟨b,off,none⟩ xs.length cap (rows Rr xs) (j2 Rr xs)
     (λj u B=>by
      rw[Addr.add_lit,cV (hm.fits _ _ Y)]
      exact Z j u B) L (by unfold maxLen;omega) M
    refine⟨.value v',w',ρ,_,?_,⟨_,.inl rfl,.inl z,rfl⟩,?_⟩
    ·simp[execOp,resolve,invoke,builtin,hx.eval k,hy.eval k,r]
    ·refine q.alter f.os ⟨f.tape,hdr⟩ f.output f.size (λj B G=> ?_) (eN.2 s) (λb' I=> ?_)
     ·rw[eI]at G;exact f.block j B (λe=>G e.symm)
     ·rw[eI]at I⊢;exact A b' I
 ·rintro _ _ ⟨h1,rfl⟩
  exact h _ h1
theorem zT {α:Type}(Rr:Rp α)(xs:List α):∀u∈rows Rr xs,u.oneCell'=true:=by
 intro u hu
 simp only[rows,List.mem_flatMap]at hu
 obtain⟨x,_,hx⟩:=hu;exact Rr.one x u hx
theorem St.sV {zv:Value}{yV:Nat}{i j:Int}{kl g:IntKind}{m:Nat}(hx:ah F x (.int kl i))(hy:ah F y (.int g j))(ht:P.underlying t=some (.slice e))(l:(P.info? e).map (·.size)=some 1)(hz:(P.info? e).bind (·.zero)=some zv)(f:(P.info? e).map (·.bytes)=some yV)
 (hm:i=m) (r:j=m) (s:yV*m≤281474976710656∧m≤9223372036854775807) (h1:zv.cells= #[zv]) (hd:Nat.ble (d+1) n=true)
 (h:∀b,St n ((d,.slice (some ⟨b,0,none⟩) m m)::F) (Mm c (row (.slice (some ⟨b,0,none⟩) m m) e 1 m (List.replicate m zv)::H)) (wpList P ops Q rest)):
 St n F (Mm c H) (wpList P ops Q ({dst:=some d,op:= .makeSlice t x y,type:=ty,pos:=pos,after:=after,guard:=none}::rest)):=by
 subst hm r;refine St.QS (K:=λu H'=>∃b,u= .slice (some ⟨b,0,none⟩) m m∧H'=row (.slice (some ⟨b,0,none⟩) m m) e 1 m (List.replicate m zv)::H) ?_ hd ?_
 ·intro a w ρ o v
  obtain⟨i,p,D⟩:=dp.1 l;obtain⟨z,A,B⟩:=qg l hz f p
  have q:=run_make (P:=P) w t e i zv ht p A kl g m m (by omega) (by omega) (by rw[B,←Int.natCast_mul];exact Int.ofNat_le.2 s.1) (by omega)
  have C:madeCells zv.cells (m*i.size)=(List.replicate m zv).toArray:=by
   rw[z,h1]
   apply Array.ext
   ·simp[madeCells]
   ·intro k E G
    simp[madeCells,Nat.mod_one]
  simp only[Int.toNat_natCast,C]at q
  refine⟨.value (.slice (some ⟨w.heap.size,0,none⟩) m m),w.alloc (.cells (List.replicate m zv).toArray e),ρ,_,?_,⟨_,.inl rfl,_,rfl,rfl⟩,?_⟩
  ·simp[execOp,hx.eval o,hy.eval o,q]
  ·refine v.Aj rfl ⟨rfl,aR _⟩ rfl (by simp) (λk hk=>RowKit.Below.heap_alloc w _ k hk) (eN.2 ⟨by simp,.inr ⟨w.heap.size,m,_,rfl,aP _,heap_alloc_new w _,aR _,by unfold maxLen;omega,by simp,by simp⟩⟩) ?_
   intro b f;rw[eI]at f;simp[Value.ownBlock]at f;omega
 ·rintro _ _ ⟨b,rfl,rfl⟩
  exact h b
theorem ez.bS {α:Type}(Rr:Rp α)(xs:List α){H:List ak}{ρ:Ro}{w:World}(h:ez c (J.row v e Rr.size m cs::H) ρ w)(i:cs=rows Rr xs)(hm:m=xs.length)(y:∀x∈xs,Rr.wf x):Mm c (J.aB (J.sl Rr v xs)::H) w:=by
 subst i hm
 have z:=eN.1 (h.dM _ (aQ ..))
 rcases z.2 with⟨rfl,A⟩|⟨g,cap,cur,rfl,_,l,B,C,i,D⟩
 ·have hx:xs=[]:=lG A
  subst hx;exact Mm.mk (h.drop.fact _ ⟨none,0,rfl,aR _,by unfold maxLen;omega,λx hx=>by simp at hx,.inl rfl⟩)
 ·have n:(J.row (Value.slice (some ⟨g,0,none⟩) xs.length cap) e Rr.size xs.length (rows Rr xs)).key=some g:=by rw[eI];rfl
  have p:=h.own _ (aQ ..) g n
  have F:g<w.heap.size:=(wC.1 l).1
  have q:=jW.1 h.EG
  refine Mm.mk (ρ:=λk=>if k=g then some (.cells cur e (0,0))else ρ k) ?_
  have hle:Ro.le ρ (λk=>if k=g then some (.cells cur e (0,0))else ρ k):=by
   intro k o hk
   by_cases a:k=g
   ·subst a;rw[p.1]at hk;cases hk
   ·simp only[a,if_false];exact hk
  refine ez.fact ⟨h.os,h.tape,h.output,h.size,h.AD,?_,Ro.le_trans h.le hle,?_,?_,?_,q.2⟩ _ ?_
  ·intro k o hk
   by_cases a:k=g
   ·subst a;simp only[if_true,Option.some.injEq]at hk;subst hk;exact l
   ·simp only[a,if_false]at hk;exact h.fits k o hk
  ·intro k hk r
   by_cases a:k=g
   ·subst a
    rcases p.2 with s|s
    ·omega
    ·exact absurd s r
   ·simp only[a,if_false];exact h.new k hk r
  ·intro E d
   exact E.loc hle (λ_ _=>rfl) (h.dM E (cO _ d))
  ·intro E d b t
   have h1:=h.own E (cO _ d) b t
   refine⟨?_,h1.2⟩
   by_cases a:b=g
   ·subst a;exact absurd t (q.1 E d _ n)
   ·simp only[a,if_false];exact h1.1
  ·refine⟨some ⟨g,0,none⟩,cap,rfl,B,C,y,?_⟩
   refine .inr ⟨g,0,cur,e,(0,0),rfl,by simp,λj u f=> ?_⟩;rw[←D,sB]at f
   split at f
   ·simpa using f
   ·simp at f
theorem St.bS {α:Type}{T:Act→World→Prop}(v:Value)(Rr:Rp α)(xs:List α)[tk:lU v H e Rr.size m cs R](a:cs=rows Rr xs)(hm:m=xs.length)(b:∀x∈xs,Rr.wf x)
 (h:St n F (Mm c (aB (sl Rr v xs)::R)) T):St n F (Mm c H) T:=
 h.o6 λ_ hw=>let⟨_,k⟩:=hw.out;(k.perm tk.perm).bS Rr xs a hm b
end rows
end
section
variable {P:Program}{ops:Array Oper}{C:World→Prop}{Q:Exit→Act→World→Prop}
def DZ (k:Nat)(listed:Array Bool)(N:Nat):Prop:=listed.size=N∧∀j,j<N→listed[j]?=some (decide (j<k))
theorem DZ.getD {k N:Nat}{listed:Array Bool}(h:DZ k listed N)(j:Nat)(d:Bool)(a:j<N):listed.getD j d=decide (j<k):=by
 rw[py,h.2 j a];rfl
theorem DZ.out {k N:Nat}{listed:Array Bool}(h:DZ k listed N)(j:Nat)(d:Bool)(a:N≤j):listed.getD j d=d:=by
 rw[py,Array.getElem?_eq_none (by rw[h.1];exact a)];rfl
theorem DZ.set {k N:Nat}{listed:Array Bool}(h:DZ k listed N):DZ (k+1) (listed.setIfInBounds k true) N:=by
 refine⟨by simp[h.1],λj a=> ?_⟩;rw[QI]
 by_cases e:k=j
 ·subst e;simp[h.1,a]
 ·rw[aA e,h.2 j a];congr 1
  rw[A8];simp only[decide_eq_true_eq];omega
theorem AY {a:Array Oper}{listed:Array Bool}(l:listed.size=a.size)(g:∀(i:Nat) (o:Oper),a[i]?=some o→∀e∈o.after,e.on<i)(hu:∃i,i<a.size∧listed.getD i true=false):Region.ready .any a listed≠ []:=by
 obtain⟨i,h⟩:=exists_least hu;obtain⟨⟨f,b⟩,c⟩:=h;intro j
 have:i∈Region.ready .any a listed:=by
  refine mem_ready.2 ⟨b,a[i],Dd f,λe he _=> ?_⟩
  have h1:=g i _ (Dd f) e he
  have k:e.on<listed.size:=by omega
  cases d:listed.getD e.on true with
  |false=>
   have:=c e.on ⟨by omega,d⟩
   omega
  |true=>rw[py,Dd k]at d⊢;exact d
 rw[j]at this
 cases this
theorem St.any {n:Nat}{F:Fr}{A:World→Prop}{id:Nat}{l:List Oper}(hm:P.follows .mixedOrders=true)(b:Lz A)
 (h:St n F A (wpAny P .any l.toArray Q l.length (Array.replicate l.length false))):St n F A ((Code.region id l.toArray true).wp P Q):=
 λa w c hw=>wp_region_any hm (by simpa using h a _ c (b w hw))
theorem St.one {n:Nat}{F:Fr}{A:World→Prop}{i:Nat}{o:Oper}{K:Act→World→Prop}(c:ops[i]?=some o)(h:St n F A (wpList P ops (Exit.then K Q) [o])):St n F A (wpOp P ops Q i K):=by
 intro a w d hw
 have h1:=h a w d hw
 unfold wpOp;rw[c]
 simp only[wpList]at h1
 simp only
 split
 ·rename_i b
  simp only[b,if_true]at h1
  rcases h1 with h1|⟨h1,a0,f,g⟩
  ·refine .inl ?_
   unfold Oper.wp at h1⊢
   generalize (execOp a.eval o).run P w=r at h1⊢
   cases r with
   |ok j w'=>
    cases j<;>simp only[Oper.upon]at h1⊢ <;>
     first
      |exact h1
      |exact Calls.mono h1 (λe k he=>by cases e<;>exact he)
      |exact Rows.mono h1 (λ_ _ he=>he)
   |halt x w'=>cases x<;>simp only[Oper.upon]at h1⊢ <;>exact h1
  ·exact .inr ⟨h1,a0,f,g⟩
 ·rename_i b
  simp only[b]at h1
  exact h1
theorem Sq.tail {n:Nat}{F:Fr}{A:World→Prop}{b:Array Oper}{tl:List Oper}(h:St n F A (wpList P ops Q tl)):Sq n F (wpQuiet P b A (λc=>∀w',A w'→wpList P ops Q tl c w') []):=λa d w hw=>h a w d hw
end
def pe (b:Nat)(v:Value):du where
 f ρ:=∃C e fr,ρ b=some (.cells C e fr)∧C[0]?=some v
 mono ρ jq h:=by
  rintro ⟨C,e,fr,h1,a⟩;exact⟨C,e,fr,h _ _ h1,a⟩
class re (b:Nat)(H:List ak)(v:outParam Value):Prop where
 mem:aB (pe b v)∈H
instance (priority:=high) re.here (b:Nat)(v:Value)(H:List ak):re b (aB (pe b v)::H) v:=⟨aQ ..⟩
instance re.there (b:Nat)(v:Value)(E:ak)(H:List ak)[h:re b H v]:re b (E::H) v:=⟨cO _ h.mem⟩
instance kY.map (ds:List du):kY ds (ds.map aB):=⟨λ_ h=>eQ h⟩
instance (priority:=low) kY.lift (ds:List du)(E:ak)(H:List ak)[h:kY ds H]:kY ds (E::H):=⟨λd hd=>cO _ (h.mem d hd)⟩
def all (w:World):Ro:=λk=>w.heap[k]?
theorem ez.Wv {c:Ctx}{H:List ak}{ρ:Ro}{w:World}(h:ez c H ρ w):Ro.le ρ (J.all w):=λk o hk=>h.fits k o hk
def dV (c:Ctx)(H:List ak)(ds:List du):Prop:=∀ρ w,ez c H ρ w→∀d∈ds,d.f (J.all w)
section
variable {c:Ctx}{H R:List ak}{ds:List du}{v:Value}
theorem dV.nil:dV c H []:=λ_ _ _ _ h=>by simp at h
theorem dV.aB {d:du}(h:dV c H ds)[hd:lT d H]:dV c H (d::ds):=λρ w hm b a=>by
 rcases cK.1 a with rfl|a
 ·exact b.mono _ _ hm.Wv (hm.aB hd)
 ·exact h ρ w hm b a
theorem Bc {α:Type}{Rr:Rp α}{xs:List α}{e:TypeId}{m:Nat}{cs:List Value}{w:World}(h:w.ownsRow 0 e Rr.size v m cs)(b:cs=rows Rr xs)(hm:m=xs.length)(c:∀x∈xs,Rr.wf x):(sl Rr v xs).f (J.all w):=by
 subst b hm
 rcases h.2 with⟨rfl,d⟩|⟨g,cap,cur,rfl,_,i,k,l,b,n⟩
 ·have hx:xs=[]:=lG d
  subst hx;exact⟨none,0,rfl,aR _,by unfold maxLen;omega,λx hx=>by simp at hx,.inl rfl⟩
 ·refine⟨some ⟨g,0,none⟩,cap,rfl,k,l,c,.inr ⟨g,0,cur,e,(0,0),rfl,i,λj u a=> ?_⟩⟩
  rw[←n,sB]at a
  split at a
  ·simpa using a
  ·simp at a
theorem dV.row {α:Type}{Rr:Rp α}{xs:List α}{e:TypeId}{size m:Nat}{cs:List Value}(h:dV c H ds)[d:wu v H e size m cs](f:size=Rr.size)(g:cs=rows Rr xs)(hm:m=xs.length)(i:∀x∈xs,Rr.wf x):dV c H (sl Rr v xs::ds):=λρ w b j a=>by
 subst f
 rcases cK.1 a with rfl|a
 ·exact Bc (b.row d) g hm i
 ·exact h ρ w b j a
theorem dV.aW {b:Nat}{u:Value}{e:TypeId}{fr:Nat×Nat}{L:List Value}(h:dV c H ds)[f:Ay b H (.cells (u::L).toArray e fr)]:dV c H (pe b u::ds):=λρ w d g a=>by
 rcases cK.1 a with rfl|a
 ·exact⟨_,e,fr,fq.1 (d.dM _ f.mem),by simp⟩
 ·exact h ρ w d g a
def gx (H:List ak):Prop:=∀E∈H,∀ρ jq w,E.ok ρ w→E.ok jq w
theorem gx.nil:gx []:=λ_ h=>by simp at h
theorem gx.row {H:List ak}{e:TypeId}{size m:Nat}{cs:List Value}(h:gx H):gx (J.row v e size m cs::H):=λE a ρ jq w k=>by
 rcases cK.1 a with rfl|a
 ·exact eN.2 (eN.1 k)
 ·exact h E a ρ jq w k
theorem gx.aW {H:List ak}{b:Nat}{o:Obj}(h:gx H):gx (J.aW b o::H):=λE a ρ jq w k=>by
 rcases cK.1 a with rfl|a
 ·exact fq.2 (fq.1 k)
 ·exact h E a ρ jq w k
theorem jA (ds:List du)(b:Nat):¬jo (ds.map aB) b:=by
 rintro ⟨E,c,a⟩;obtain⟨d,_,rfl⟩:=dC.1 c
 rw[jw]at a;cases a
theorem Mm.ad6 {dr:Prop}{P:Program}{f:FuncId}{args:Array Value}{post:Value→List ak→Prop}(l:Dk dr P f args (ds.map J.aB) post)(m:c.dr→dr)(n:dV c H ds)(p:∀v H',post v H'→gx H'){w:World}(hm:Mm c H w):
 Calls P f args w λe w'=>∃v H',e= .returned v∧post v H'∧Mm c (H'++H) w':=by
 obtain⟨ρ,hm⟩:=hm.out
 have st:Start (ds.map J.aB) (J.all w) w:=
  ⟨rfl,⟨rfl,λ_=>aR _⟩,rfl,aR _,λ_ _ _=>rfl,λ_ _ h=>h,Ro.le_refl _,λ_ _ _=>rfl,λE a=>by
   obtain⟨d,hd,rfl⟩:=dC.1 a;exact dA.2 (n ρ w hm d hd),
   (λE a b i=>by
    obtain⟨d,hd,rfl⟩:=dC.1 a
    rw[jw]at i;cases i),
   by
    refine sF.2 (wc (R:=λ_ _=>True) ?_ (List.pairwise_of_forall λ_ _=>trivial));intro d t _ _ _ b i
    rw[jw]at i;cases i⟩
 refine(l w (J.all w) st).mono ?_;rintro e w' ⟨v,H',he,hp,g⟩;obtain⟨jq,g⟩:=g.out;refine⟨v,H',he,hp,?_⟩
 have hold:∀k,k<w.heap.size→w'.heap[k]?=w.heap[k]?:=λk hk=>g.AD k hk (jA ds k)
 have j:∀E∈H',∀b,E.key=some b→w.heap.size≤b:=λE a b i=>by
  rcases(g.own E a b i).2 with h1|h1
  ·exact h1
  ·exact absurd h1 (jA ds b)
 refine Mm.mk (ρ:=ρ) ?_
 have r:ez c ([]++H) ρ w:=hm
 refine ez.step r ⟨g.os,⟨g.tape.1,λq=>g.tape.2 (m q)⟩,g.output,g.size,λk hk _=>hold k hk,λk o hk=> ?_,Ro.le_refl _,λ_ _ _=>rfl,λE a=>p v H' hp E a jq ρ w' (g.dM E a),?_,g.EG⟩
 ·rw[hold k (hm.AE hk)];exact hm.fits k o hk
 ·intro E a b i
  refine⟨?_,.inl (j E a b i)⟩
  cases s:ρ b with
  |none=>rfl
  |some o=>have h1:=hm.AE s;have u:=j E a b i;omega
theorem Mm.Wy {P:Program}{f:FuncId}{args:Array Value}{post:Value→List ak→Prop}(a:dz P f args (ds.map J.aB) post)(b:dV c H ds)(d:∀v H',post v H'→gx H'){w:World}(hm:Mm c H w):
 Calls P f args w λe w'=>∃v H',e= .returned v∧post v H'∧Mm c (H'++H) w':=Mm.ad6 a.gen (λ_=>trivial) b d hm
end
section
variable {P:Program}{n:Nat}{F:Fr}{A:World→Prop}{c:Ctx}{H R:List ak}{ty:TypeId}{x y z:Operand}{v:Value}{Q:Exit→Act→World→Prop}{ops:Array Oper}{rest:List Oper}
 {d:Nat} {pos:String} {after:Array Edge} {t e:TypeId}
theorem Ev.ad0 {b:Nat}{u:Value}{dd:TypeDesc}[d:re b H u](hx:ah F x (.pointer (some ⟨b,0,none⟩)))(ht:P.underlying t=some dd)(f:(match dd with| .struct _| .array _ _=>False|_=>True)):
 Ev P n F (Mm c H) (.load t x) ty u:= .of_run λa w g hw=>by
 obtain⟨ρ,hm⟩:=hw.out;obtain⟨C,e,fr,h1,h⟩:=dA.1 (hm.dM _ d.mem)
 simp[execOp,hx.eval g,Instr.loadAt,Instr.sureAddr,fN ht f ((cV (hm.fits _ _ h1)).trans h)]
theorem Ev.wI {f:FuncId}{xs:List Operand}{d:Array TypeId}{vs:List Value}{ds:List du}(g:eE P f vs.toArray ds v)(i:aI P f)(hx:bH F xs vs)(j:dV c H ds):
 Ev P n F (Mm c H) (.call {callee:= .value (.func f),args:=xs.toArray,argTypes:=d}) ty v:=by
 intro a w k hw;rw[mF (caps:=[]) i (bH.cons (ah.mk rfl) hx) k w]
 simp only[List.append_nil,Oper.quietUpon,true_and]
 refine(Mm.Wy (post:=λu H'=>u=v∧H'=[]) (λw ρ l=>(g w ρ l).mono λe w' ⟨u,H',h1,m,b⟩=>⟨u,[],h1,⟨m,rfl⟩,?_⟩) j (λ_ _ h=>by rw[h.2];exact gx.nil) hw).mono ?_
 ·obtain⟨jq,b⟩:=b.out
  exact Mm.mk (ez.left (L:=[]) b)
 ·rintro e w' ⟨u,H',rfl,⟨rfl,rfl⟩,hm⟩
  exact⟨rfl,hm⟩
theorem Ev.nc {f:FuncId}{xs:List Operand}{d:Array TypeId}{vs caps:List Value}{ds:List du}(g:eE P f (vs++caps).toArray ds v)(i:aI P f)(j:ah F x (.func (.func f) #[] caps.toArray))(hx:bH F xs vs)(k:dV c H ds):
 Ev P n F (Mm c H) (.call {callee:= .value x,args:=xs.toArray,argTypes:=d}) ty v:=by
 intro a w l hw;rw[mF i (bH.cons j hx) l w]
 simp only[Oper.quietUpon,true_and]
 refine(Mm.Wy (post:=λu H'=>u=v∧H'=[]) (λw ρ m=>(g w ρ m).mono λe w' ⟨u,H',h1,o,b⟩=>⟨u,[],h1,⟨o,rfl⟩,?_⟩) k (λ_ _ h=>by rw[h.2];exact gx.nil) hw).mono ?_
 ·obtain⟨jq,b⟩:=b.out
  exact Mm.mk (ez.left (L:=[]) b)
 ·rintro e w' ⟨u,H',rfl,⟨rfl,rfl⟩,hm⟩
  exact⟨rfl,hm⟩
@[irreducible] def pH (v:Value)(size l h:Nat):Value:=
 match v with
 | .slice a _ cap=> .slice (if cap=l then a else a.map (·.add (l*size))) (h-l) (cap-l)
 |_=>undef
theorem jh (a:Option Addr)(m cap size l h:Nat):pH (.slice a m cap) size l h= .slice (if cap=l then a else a.map (·.add (l*size))) (h-l) (cap-l):=by unfold pH;rfl
theorem TM {α:Type}{Rr:Rp α}{xs:List α}{l h:Nat}{ρ:Ro}(n:(sl Rr v xs).f ρ)(A:l≤h)(o:h≤xs.length):(sl Rr (pH v Rr.size l h) ((xs.drop l).take (h-l))).f ρ:=by
 obtain⟨a,cap,rfl,B,D,p,q⟩:=n
 have hlen:((xs.drop l).take (h-l)).length=h-l:=by simp;omega
 refine⟨if cap=l then a else a.map (·.add (l*Rr.size)),cap-l,by rw[jh,hlen],by omega,by omega,λx hx=>p x (GB (C5 hx)),?_⟩
 by_cases i:(xs.drop l).take (h-l)=[]
 ·exact .inl i
 ·right
  have E:l<h:=by
   rcases eP l h with g|g
   ·exact g
   ·exact absurd (by rw[show h-l=0 by omega];rfl) i
  have r:cap≠l:=by omega
  rcases q with rfl|⟨b,off,C,e,fr,rfl,g,s⟩
  ·simp at o;omega
  ·refine⟨b,off+l*Rr.size,C,e,fr,by rw[aA r];simp[Addr.add_lit],g,λj u k=> ?_⟩
   rw[qh]
   apply s
   -- c cells of c part t c cells of c whole,from there on
   have key:∀(d:List α) (l:Nat),l≤d.length→rows Rr d=rows Rr (d.take l)++rows Rr (d.drop l):=λd l _=>by
    unfold rows;rw[←Bx,qj]
   have w:=key xs l (by omega)
   have y:=key (xs.drop l) (h-l) (by simp;omega)
   have m:(xs.take l).length=l:=by simp;omega
   rw[w,lg (by rw[j2,m];omega),j2,y];rw[m,show l*Rr.size+j-l*Rr.size=j by omega]
   have z:=(fA.1 k).1
   rw[oa z];exact k
theorem St.part {α:Type}{Rr:Rp α}{xs:List α}{T:Act→World→Prop}(v:Value)(l h:Nat)[hd:sI v H α Rr xs](a:l≤h)(b:h≤xs.length)
 (k:St n F (Mm c (aB (sl Rr (pH v Rr.size l h) ((xs.drop l).take (h-l)))::H)) T):St n F (Mm c H) T:=
 St.fact _ (λ_ _ hm=>TM (hm.sl hd) a b) k
theorem Ev.LU {α:Type}{Rr:Rp α}{xs:List α}{j:Int}{h:Nat}{g:IntKind}{d:Operand}[hd:sI v H α Rr xs](hx:ah F x v)(b:ah F d (.int g j))(ht:P.underlying t=some (.slice e))(i:(P.info? e).map (·.size)=some Rr.size)
 (k:j=h) (p:h≤xs.length):Ev P n F (Mm c H) (.slice t x none (some d) none) ty (pH v Rr.size 0 h):= .of_run λa w f hw=>by
 obtain⟨ρ,hm⟩:=hw.out;obtain⟨ad,cap,rfl,q,_⟩:=hm.sl hd;obtain⟨inf,l,m⟩:=dp.1 i;subst k
 have o:(0:Int)≤(h:Int)∧(h:Int)≤(cap:Int):=by omega
 simp only[execOp,hx.eval f,b.eval f,Option.map_some,Option.map_none,Instr.sliceAt,Instr.slice,Instr.sliceBounds,Instr.sliceBound,asIntOf,Sem.run_bind,run_underlying ht,Result.andThen_ok,Sem.run_pure,o,and_self,if_true,Int.toNat_natCast,sizeOf,typeInfo,run_program,l,m,jh]
theorem Ev.rA {α:Type}{Rr:Rp α}{xs:List α}{i:Int}{l:Nat}{f:IntKind}{b:Operand}[hd:sI v H α Rr xs](hx:ah F x v)(g:ah F b (.int f i))(ht:P.underlying t=some (.slice e))(h:(P.info? e).map (·.size)=some Rr.size)
 (j:i=l) (p:l≤xs.length):Ev P n F (Mm c H) (.slice t x (some b) none none) ty (pH v Rr.size l xs.length):= .of_run λa w d hw=>by
 obtain⟨ρ,hm⟩:=hw.out;obtain⟨ad,cap,rfl,q,_⟩:=hm.sl hd;obtain⟨inf,k,m⟩:=dp.1 h;subst j
 have o:(0:Int)≤(l:Int)∧(l:Int)≤(xs.length:Int):=by omega
 simp only[execOp,hx.eval d,g.eval d,Option.map_some,Option.map_none,Instr.sliceAt,Instr.slice,Instr.sliceBounds,Instr.sliceBound,asIntOf,Sem.run_bind,run_underlying ht,Result.andThen_ok,Sem.run_pure,o,and_self,if_true,Int.toNat_natCast,sizeOf,typeInfo,run_program,k,m,jh]
def isNil:Value→Bool
 | .slice none _ _=>true
 |_=>false
theorem uK (k:Nat){ad:Option Addr}{m cap:Nat}{w:World}(ht:P.underlying t=some (.slice e)):(Op.equalIn (k+1) t (.slice ad m cap) (.slice none 0 0)).run P w= .ok (isNil (.slice ad m cap)) w:=by
 cases ad<;>simp[Op.equalIn,run_underlying ht,isNil]
theorem Ev.slnil {ad:Option Addr}{m cap:Nat}{u:TypeId}(hx:ah F x (.slice ad m cap))(ht:P.underlying t=some (.slice e)):Ev P n F A (.binOp .eql t x (.const (.slice none 0 0)) u) ty (.bool (isNil (.slice ad m cap))):= .of_run λa w b _=>by
 have h1:=uK (P:=P) (w:=w) 9999 (ad:=ad) (m:=m) (cap:=cap) ht
 have c:a.eval (.const (.slice none 0 0))= .slice none 0 0:=rfl
 simp only[execOp,hx.eval b,c,eqGuard_at_slice,binOp,Sem.run_bind,Sem.run_pure,Result.andThen_ok]
 unfold Op.equal Op.maxDepth;rw[h1];rfl
theorem St.aM {size m a:Nat}{cs fi:List Value}{T:Act→World→Prop}(v:Value)[tk:lU v H e size m cs R](hm:m=a)(h:cs=fi)(k:St n F (Mm c (row v e size a fi::R)) T):St n F (Mm c H) T:=by
 subst h hm
 exact k.o6 λ_ hw=>let⟨_,q⟩:=hw.out;Mm.mk (q.perm tk.perm)
theorem BX {α:Type}{Rr:Rp α}(h1:Rr.size=1){u:Value}{x:α}(hx:Rr.cells x=[u]):∀(xs:List α) (k:Nat),(rows Rr xs).set k u=rows Rr (xs.set k x)
 | [],_=>by simp[rows]
 |y::xs,0=>by
  have:=Rr.len y
  rw[h1]at this
  obtain⟨v,a⟩:∃v,Rr.cells y=[v]:=by
   match c:Rr.cells y,this with
   | [v],_=>exact⟨v,rfl⟩
  simp[rows,a,hx]
 |y::xs,k+1=>by
  have:=Rr.len y
  rw[h1]at this
  obtain⟨v,a⟩:∃v,Rr.cells y=[v]:=by
   match c:Rr.cells y,this with
   | [v],_=>exact⟨v,rfl⟩
  have b:=BX h1 hx xs k
  simp only[rows,List.flatMap_cons,a,List.singleton_append,List.set_cons_succ]at b⊢
  rw[b]
theorem ay {α:Type}(Rr:Rp α)(xs:List α)(x:α):rows Rr (xs++ [x])=rows Rr xs++Rr.cells x:=by simp[rows]
theorem zU {α:Type}{Rr:Rp α}{u:Value}{x:α}(hx:Rr.cells x=[u])(m:Nat):rows Rr (List.replicate m x)=List.replicate m u:=by
 induction m with
 |zero=>rfl
 |succ m a=>simp only[List.replicate_succ,rows,List.flatMap_cons,hx,List.singleton_append]at a⊢;rw[a]
end
instance (priority:=high) eV.self (L:List ak):eV L L []:=⟨by simp⟩
instance (priority:=low) eV.skip (L:List ak)(E:ak)(H R:List ak)[h:eV L H R]:eV L (E::H) (E::R):=⟨(h.perm.cons E).trans qi.symm⟩
open Classical in
noncomputable def ot (L:List ak) (w:World):Ro:=λk=>if jo L k then none else w.heap[k]?
def iq (c:Ctx)(L R:List ak)(ds:List du):Prop:=∀ρ w,ez c (L++R) ρ w→∀d∈ds,d.f (ot L w)
section
variable {c:Ctx}{L R:List ak}{ds:List du}{v:Value}
theorem ez.Ww {ρ:Ro}{w:World}(h:ez c (L++R) ρ w):Ro.le ρ (ot L w):=λk o hk=>by
 unfold ot;rw[aA]
 ·exact h.fits k o hk
 ·rintro ⟨E,a,b⟩
  have:=(h.own E (kW _ a) k b).1
  rw[hk]at this;cases this
theorem B7 {ρ:Ro}{w:World}(h:ez c (L++R) ρ w){E:ak}(a:E∈R){b:Nat}(d:E.key=some b):ot L w b=w.heap[b]?:=by
 unfold ot;rw[aA];rintro ⟨e,f,g⟩;exact(sD.1 h.EG).2.2 e f E a b g d
theorem iq.nil:iq c L R []:=λ_ _ _ _ h=>by simp at h
theorem iq.aB {d:du}(h:iq c L R ds)[hd:lT d R]:iq c L R (d::ds):=λρ w hm b a=>by
 rcases cK.1 a with rfl|a
 ·exact b.mono _ _ hm.Ww (dA.1 (hm.dM _ (mr _ hd.mem)))
 ·exact h ρ w hm b a
theorem iq.row {α:Type}{Rr:Rp α}{xs:List α}{e:TypeId}{size m:Nat}{cs:List Value}(h:iq c L R ds)[i:wu v R e size m cs](j:size=Rr.size)(k:cs=rows Rr xs)(hm:m=xs.length)(l:∀x∈xs,Rr.wf x):iq c L R (sl Rr v xs::ds):=λρ w d n f=>by
 subst j
 rcases cK.1 f with rfl|f
 ·have o:=eN.1 (d.dM _ (mr _ i.mem))
  obtain⟨a,cap,h1,p,q,r,g⟩:=Bc (w:=w) o k hm l;refine⟨a,cap,h1,p,q,r,?_⟩
  rcases g with g|⟨b,off,C,s,fr,rfl,t,u⟩
  ·exact .inl g
  ·refine .inr ⟨b,off,C,s,fr,rfl,?_,u⟩
   rw[B7 d i.mem (b:=b) (by rw[eI,h1];rfl)];exact t
 ·exact h ρ w d n f
theorem iq.aW {b:Nat}{u:Value}{e:TypeId}{fr:Nat×Nat}{l:List Value}(h:iq c L R ds)[f:Ay b R (.cells (u::l).toArray e fr)]:iq c L R (pe b u::ds):=λρ w a g d=>by
 rcases cK.1 d with rfl|d
 ·refine⟨(u::l).toArray,e,fr,?_,rfl⟩
  rw[B7 a f.mem (b:=b) (iZ _ _)];exact fq.1 (a.dM _ (mr _ f.mem))
 ·exact h ρ w a g d
theorem Mm.Wz {dr:Prop}{P:Program}{f:FuncId}{args:Array Value}{post:Value→List ak→Prop}(r:Dk dr P f args (ds.map J.aB++L) post)(s:c.dr→dr)(t:iq c L R ds)(m:gx L)(u:∀v H',post v H'→gx H'){w:World}(hm:Mm c (L++R) w):
 Calls P f args w λe w'=>∃v H',e= .returned v∧post v H'∧Mm c (H'++R) w':=by
 obtain⟨ρ,hm⟩:=hm.out
 have l:∀b,jo (ds.map J.aB++L) b↔jo L b:=λb=>by
  constructor
  ·rintro ⟨E,a,g⟩
   rcases cG.1 a with a|a
   ·exact absurd ⟨E,a,g⟩ (jA ds b)
   ·exact⟨E,a,g⟩
  ·rintro ⟨E,a,g⟩;exact⟨E,mr _ a,g⟩
 have st:Start (ds.map J.aB++L) (ot L w) w:=by
  refine⟨rfl,⟨rfl,λ_=>aR _⟩,rfl,aR _,λ_ _ _=>rfl,λk o hk=> ?_,Ro.le_refl _,λ_ _ _=>rfl,λE a=> ?_,λE a b g=> ?_,?_⟩
  ·unfold ot at hk
   split at hk
   ·cases hk
   ·exact hk
  ·rcases cG.1 a with a|a
   ·obtain⟨d,hd,rfl⟩:=dC.1 a
    exact dA.2 (t ρ w hm d hd)
   ·exact m E a ρ _ w (hm.dM E (kW _ a))
  ·have j:jo L b:=(l b).1 ⟨E,a,g⟩
   exact⟨by unfold ot;rw[aC j],.inr ((l b).2 j)⟩
  ·refine sD.2 ⟨?_,(sD.1 hm.EG).1,?_⟩
   ·refine sF.2 (wc (R:=λ_ _=>True) ?_ (List.pairwise_of_forall λ_ _=>trivial))
    intro d A _ _ _ b g
    rw[jw]at g;cases g
   ·intro E a n _ b g
    obtain⟨d,_,rfl⟩:=dC.1 a
    rw[jw]at g;cases g
 refine(r w (ot L w) st).mono ?_;rintro e w' ⟨v,H',he,hp,i⟩;obtain⟨jq,i⟩:=i.out;refine⟨v,H',he,hp,?_⟩
 have hold:∀k,k<w.heap.size→¬jo L k→w'.heap[k]?=w.heap[k]?:=λk hk h=>i.AD k hk (λx=>h ((l k).1 x))
 refine Mm.mk (ρ:=ρ) ?_;refine ez.step hm ⟨i.os,⟨i.tape.1,λq=>i.tape.2 (s q)⟩,i.output,i.size,λk hk h=>hold k hk h,λk o hk=> ?_,Ro.le_refl _,λ_ _ _=>rfl,λE a=>u v H' hp E a jq ρ w' (i.dM E a),?_,i.EG⟩
 ·rw[hold k (hm.AE hk)]
  ·exact hm.fits k o hk
  ·rintro ⟨E,a,g⟩
   have:=(hm.own E (kW _ a) k g).1
   rw[hk]at this;cases this
 ·intro E a b g
  rcases(i.own E a b g).2 with h1|h1
  ·refine⟨?_,.inl h1⟩
   cases y:ρ b with
   |none=>rfl
   |some o=>have B:=hm.AE y;simp only at h1;omega
  ·have z:=(l b).1 h1
   obtain⟨n,p,j⟩:=z;exact⟨(hm.own n (kW _ p) b j).1,.inr ⟨n,p,j⟩⟩
theorem Mm.ad7 {P:Program}{f:FuncId}{args:Array Value}{post:Value→List ak→Prop}(b:dz P f args (ds.map J.aB++L) post)(d:iq c L R ds)(a:gx L)(g:∀v H',post v H'→gx H'){w:World}(hm:Mm c (L++R) w):
 Calls P f args w λe w'=>∃v H',e= .returned v∧post v H'∧Mm c (H'++R) w':=Mm.Wz b.gen (λ_=>trivial) d a g hm
end
section
variable {P:Program}{n:Nat}{F:Fr}{A:World→Prop}{c:Ctx}{H R:List ak}{ty:TypeId}{x y z:Operand}{v:Value}{Q:Exit→Act→World→Prop}{ops:Array Oper}{rest:List Oper}
 {d:Nat} {pos:String} {after:Array Edge} {t e:TypeId}
theorem St.ZE {f:FuncId}{xs:List Operand}{i:Array TypeId}{vs:List Value}{ds:List du}{L R:List ak}{post:Value→List ak→Prop}(j:dz P f vs.toArray (ds.map aB++L) post)(k:aI P f)(hx:bH F xs vs)[tk:eV L H R]
 (l:iq c L R ds) (b:gx L) (m:∀v H',post v H'→gx H') (hd:Nat.ble (d+1) n=true)
 (h:∀v H',post v H'→St n ((d,v)::F) (Mm c (H'++R)) (wpList P ops Q rest)):
 St n F (Mm c H) (wpList P ops Q ({dst:=some d,op:= .call {callee:= .value (.func f),args:=xs.toArray,argTypes:=i},type:=ty,pos:=pos,after:=after,guard:=none}::rest)):=by
 intro a w g hw;refine gG rfl (gK (caps:=[]) k (bH.cons (ah.mk rfl) hx) g w ?_)
 simp only[List.append_nil]
 refine(Mm.ad7 j l b m (hw.take (L:=L))).mono ?_;rintro e w' ⟨u,H',rfl,hp,hm⟩;exact⟨u,rfl,h u H' hp _ w' (g.put (dR hd) u) hm⟩
theorem St.split {T:Act→World→Prop}(k:Nat)(b:Bool)(hk:look F k=some (.bool b))(ht:b=true→St n ((k,.bool true)::F) A T)(g:b=false→St n ((k,.bool false)::F) A T):St n F A T:=by
 intro a w f hw
 have key:∀u,u=Value.bool b→Has n a ((k,u)::F):=λu hu=>⟨f.size,f.defers,λt v d=>by
  simp only[look]at d
  cases c:Nat.beq t k with
  |true=>
   have e:t=k:=mo c
   subst e
   simp only[c,cond_true,Option.some.injEq]at d
   subst d
   rw[hu];exact f.slot _ _ hk
  |false=>simp only[c,cond_false]at d;exact f.slot _ _ d⟩
 cases c:b with
 |true=>exact ht c a w (key _ (by rw[c])) hw
 |false=>exact g c a w (key _ (by rw[c])) hw
theorem St.br {j dj:Nat}{want:Bool}{op:Op}(e:(ops[j]?).bind (·.dst)=some dj)(f:look F dj=some (.bool (!want)))(hd:Nat.ble (d+1) n=true)
 (h:St n ((d,undef)::F) A (wpList P ops Q rest)):St n F A (wpList P ops Q ({dst:=some d,op:=op,type:=ty,pos:=pos,after:=after,guard:=some (j,want)}::rest)):=by
 intro a w b hw
 have g:=mJ (l:=ops) (c:=false) (o:={dst:=some d,op:=op,type:=ty,pos:=pos,after:=after,guard:=some (j,want)}) rfl e (b.slot _ _ f) ⟨(λh=>by cases h),λ_=> .inl rfl⟩
 simp only[wpList,g]
 exact h _ w (b.put (dR hd) undef) hw
theorem St.JV {j dj:Nat}{want:Bool}{op:Op}(e:(ops[j]?).bind (·.dst)=some dj)(f:look F dj=some undef)(hd:Nat.ble (d+1) n=true)
 (h:St n ((d,undef)::F) A (wpList P ops Q rest)):St n F A (wpList P ops Q ({dst:=some d,op:=op,type:=ty,pos:=pos,after:=after,guard:=some (j,want)}::rest)):=by
 intro a w b hw
 have g:=mJ (l:=ops) (c:=false) (o:={dst:=some d,op:=op,type:=ty,pos:=pos,after:=after,guard:=some (j,want)}) rfl e (b.slot _ _ f) ⟨(λh=>by cases h),λ_=> .inr rfl⟩
 simp only[wpList,g]
 exact h _ w (b.put (dR hd) undef) hw
theorem St.cD {j dj:Nat}{want:Bool}{op:Op}{dd:Option Tmp}(d:(ops[j]?).bind (·.dst)=some dj)(e:look F dj=some (.bool want))
 (h:St n F A (wpList P ops Q ({dst:=dd,op:=op,type:=ty,pos:=pos,after:=after,guard:=none}::rest))):
 St n F A (wpList P ops Q ({dst:=dd,op:=op,type:=ty,pos:=pos,after:=after,guard:=some (j,want)}::rest)):=by
 intro a w b hw
 have f:=mJ (l:=ops) (c:=true) (o:={dst:=dd,op:=op,type:=ty,pos:=pos,after:=after,guard:=some (j,want)}) rfl d (b.slot _ _ e) ⟨λ_=>rfl,(λh=>by cases h)⟩
 have h1:=h a w b hw
 simp only[wpList,f,if_true]
 simp only[wpList,Region.wanted,if_true]at h1
 rcases h1 with h1|⟨h1,g⟩
 ·left
  unfold Oper.wp Oper.upon at h1⊢;rw[gy]at h1⊢;exact h1
 ·right
  refine⟨?_,g⟩;unfold Oper.asks at h1⊢;rw[gy]at h1⊢;exact h1
section rows
variable {size m:Nat}{cs:List Value}
theorem St.ba {T:Act→World→Prop}(v:Value)[b:wu v H e size m cs](h:v.oneCell'=true→cs.length=m*size→St n F (Mm c H) T):St n F (Mm c H) T:=by
 intro a w d hw;obtain⟨ρ,hm⟩:=hw.out
 have h1:=hm.row b
 refine h ?_ h1.1 a w d hw
 rcases h1.2 with⟨rfl,_⟩|⟨g,cap,cur,rfl,_⟩<;>rfl
theorem Ev.pG {j:Int}{h:Nat}{o:IntKind}{i:Operand}[p:wu v H e size m cs](hx:ah F x v)(b:ah F i (.int o j))(ht:P.underlying t=some (.slice e))(q:(P.info? e).map (·.size)=some size)
 (r:j=h) (s:h≤m):Ev P n F (Mm c H) (.slice t x none (some i) none) ty (pH v size 0 h):= .of_run λa w d hw=>by
 obtain⟨ρ,hm⟩:=hw.out;obtain⟨inf,k,l⟩:=dp.1 q;subst r
 rcases(hm.row p).2 with⟨rfl,rfl⟩|⟨g,cap,cur,rfl,_,_,u,_⟩
 ·have f:(0:Int)≤(h:Int)∧(h:Int)≤((0:Nat):Int):=by omega
  simp only[execOp,hx.eval d,b.eval d,Option.map_some,Option.map_none,Instr.sliceAt,Instr.slice,Instr.sliceBounds,Instr.sliceBound,asIntOf,Sem.run_bind,run_underlying ht,Result.andThen_ok,Sem.run_pure,f,and_self,if_true,Int.toNat_natCast,sizeOf,typeInfo,run_program,k,l,jh]
 ·have f:(0:Int)≤(h:Int)∧(h:Int)≤(cap:Int):=by omega
  simp only[execOp,hx.eval d,b.eval d,Option.map_some,Option.map_none,Instr.sliceAt,Instr.slice,Instr.sliceBounds,Instr.sliceBound,asIntOf,Sem.run_bind,run_underlying ht,Result.andThen_ok,Sem.run_pure,f,and_self,if_true,Int.toNat_natCast,sizeOf,typeInfo,run_program,k,l,jh]
theorem St.DI {T:Act→World→Prop}(v:Value)(h:Nat)[tk:lU v H e size m cs R](d:h≤m)(k:St n F (Mm c (row (pH v size 0 h) e size h (cs.take (h*size))::R)) T):St n F (Mm c H) T:=by
 refine k.o6 λw hw=> ?_
 obtain⟨ρ,hm⟩:=hw.out
 have hm:=hm.perm tk.perm
 have f:=eN.1 (hm.dM _ (aQ ..))
 have hlen:(cs.take (h*size)).length=h*size:=by
  rw[eU,f.1];exact ko (iV _ d)
 rcases f.2 with⟨rfl,rfl⟩|⟨g,cap,cur,rfl,i,j,r,l,o,p⟩
 ·have:h=0:=by omega
  subst this;refine Mm.mk (hm.alter rfl ⟨rfl,aR _⟩ rfl (aR _) (λ_ _ _=>rfl) (eN.2 ⟨hlen,.inl ⟨?_,rfl⟩⟩) (λb a=> ?_))
  ·rw[jh];simp
  ·rw[eI,jh]at a;simp[Value.ownBlock]at a
 ·have q:pH (.slice (some ⟨g,0,none⟩) m cap) size 0 h= .slice (some ⟨g,0,none⟩) h cap:=by
   rw[jh]
   simp[Addr.add_zero']
  rw[q];refine Mm.mk (hm.alter rfl ⟨rfl,aR _⟩ rfl (aR _) (λ_ _ _=>rfl) (eN.2 ⟨hlen,.inr ⟨g,cap,cur,rfl,i,j,by omega,l,o,?_⟩⟩) (λb a=> ?_))
  ·rw[←p,List.take_take,ko (iV _ d)]
  ·rw[eI]at a⊢;exact .inl a
end rows
theorem St.FK {T:Act→World→Prop}(b:Nat){u:Value}{L:List Value}[tk:l3 b H (.cells (u::L).toArray e (0,0)) R](h:St n F (Mm c (aB (pe b u)::R)) T):St n F (Mm c H) T:=by
 refine h.o6 λw hw=> ?_
 obtain⟨ρ,hm⟩:=hw.out
 have hm:=hm.perm tk.perm
 have f:=fq.1 (hm.dM _ (aQ ..))
 have g:=hm.own _ (aQ ..) b (iZ _ _)
 have q:b<w.heap.size:=(wC.1 f).1
 have i:=jW.1 hm.EG
 refine Mm.mk (ρ:=λk=>if k=b then some (.cells (u::L).toArray e (0,0))else ρ k) ?_
 have hle:Ro.le ρ (λk=>if k=b then some (.cells (u::L).toArray e (0,0))else ρ k):=by
  intro k o hk
  by_cases a:k=b
  ·subst a;rw[g.1]at hk;cases hk
  ·simp only[a,if_false];exact hk
 refine ez.fact ⟨hm.os,hm.tape,hm.output,hm.size,hm.AD,?_,Ro.le_trans hm.le hle,?_,?_,?_,i.2⟩ _ ?_
 ·intro k o hk
  by_cases a:k=b
  ·subst a;simp only[if_true,Option.some.injEq]at hk;subst hk;exact f
  ·simp only[a,if_false]at hk;exact hm.fits k o hk
 ·intro k hk j
  by_cases a:k=b
  ·subst a
   rcases g.2 with l|l
   ·omega
   ·exact absurd l j
  ·simp only[a,if_false];exact hm.new k hk j
 ·intro E d
  exact E.loc hle (λ_ _=>rfl) (hm.dM E (cO _ d))
 ·intro E d m p
  have h1:=hm.own E (cO _ d) m p
  refine⟨?_,h1.2⟩
  by_cases a:m=b
  ·subst a;exact absurd p (i.1 E d _ (iZ _ _))
  ·simp only[a,if_false];exact h1.1
 ·exact⟨(u::L).toArray,e,(0,0),by simp,by simp⟩
end
theorem Ey {P:Program}{t:TypeId}{xs:Array Value}{k:Nat}{v:Value}{w:World}(h:(match P.underlying t with|some (.struct _)|some (.array _ _)|none=>false|_=>true)=true)(a:xs[k]?=some v):(part t xs k).run P w= .ok v w:=by
 unfold part
 cases hu:P.underlying t with
 |none=>rw[hu]at h;cases h
 |some d=>
  rw[hu]at h
  cases d<;>simp_all [isAgg,run_underlying hu]
theorem Rf (d:Nat)(xs a:Array Value)(P:Program)(w:World):(Op.eqFields d xs a []).run P w= .ok true w:=rfl
theorem EJ {d : Nat} {xs c : Array Value} {P : Program} {f : Field} {g : List Field} {r s : Bool} {a b : Value} (e : (f.name != "_") = true) (h : ∀ w, (part f.type xs f.offset).run P w = .ok a w) (i : ∀ w, (part f.type c f.offset).run P w = .ok b w) (j : ∀ w, (Op.equalIn d f.type a b).run P w = .ok r w) (k : ∀ w, (Op.eqFields d xs c g).run P w = .ok s w) (w : World) :
 (Op.eqFields d xs c (f::g)).run P w= .ok (r&&s) w:=by
 have e : f.name ≠ "_" := by simpa using e
 simp only[Op.eqFields,if_pos e,Sem.run_bind,h,i,j,Result.andThen_ok]
 cases r with
 |true=>simp only[Bool.not_true,Bool.false_eq_true,if_false,k,Bool.true_and]
 |false=>simp
class App (A B:List ak)(C:outParam (List ak)):Prop where
 eq:A++B=C
instance App.nil (B:List ak):App [] B B:=⟨rfl⟩
instance App.cons (E:ak)(A B C:List ak)[h:App A B C]:App (E::A) B (E::C):=⟨by rw[we,h.eq]⟩
section
variable {P:Program}{n:Nat}{F:Fr}{A:World→Prop}{c:Ctx}{H R C:List ak}{ty:TypeId}{x y z:Operand}{u v:Value}{T:Act→World→Prop}
theorem St.known (k:Nat)(b u:Bool)(hk:look F k=some (.bool b))(a:b=u)(h:St n ((k,.bool u)::F) A T):St n F A T:=by
 subst a
 cases b with
 |true=>exact St.split k true hk (λ_=>h) (λh=>by cases h)
 |false=>exact St.split k false hk (λh=>by cases h) (λ_=>h)
theorem Ev.Lc {t d:TypeId}{xs b:Array Value}{r:Bool}(hx:ah F x (.agg xs))(hy:ah F y (.agg b))(e:P.eqGuardType P.depth t=false)(h:∀w,(Op.equalIn 10000 t (.agg xs) (.agg b)).run P w= .ok r w):Ev P n F A (.binOp .eql t x y d) ty (.bool r):= .of_run λa w c _=>by
 simp only[execOp,hx.eval c,hy.eval c,Sem.run_bind,run_eqGuard_agg w .eql t x y xs b e,run_eql_struct,h,Result.andThen_ok,Sem.run_pure]
theorem Ev.gT {p:Bool}(hx:ah F x (.bool p))(hp:p=true)(hy:ah F y v):Ev P n F A (.pick x y z) ty v:= .of_run λa w b _=>by
 subst hp;simp only[execOp,hx.eval b,hy.eval b];simp[asBool]
theorem Ev.kR {p:Bool}(hx:ah F x (.bool p))(hp:p=false)(hz:ah F z v):Ev P n F A (.pick x y z) ty v:= .of_run λa w b _=>by
 subst hp;simp only[execOp,hx.eval b,hz.eval b];simp[asBool]
end
abbrev aV:={v:Value//v.oneCell'=true}
def j8 {α:Type}(Rr:Rp α)(vs:List aV)(gb:List (List α)):du where
 f ρ:=∀(i:Nat) (u:aV) (l:List α),vs[i]?=some u→gb[i]?=some l→(sl Rr u.1 l).f ρ
 mono ρ jq h k i u l h1 a:=(sl Rr u.1 l).mono _ _ h (k i u l h1 a)
class Tx (vs:List aV)(H:List ak)(α:outParam Type)(Rr:outParam (Rp α))(gb:outParam (List (List α))):Prop where
 mem:aB (j8 Rr vs gb)∈H
instance (priority:=high) Tx.here {α:Type}(vs:List aV)(Rr:Rp α)(gb:List (List α))(H:List ak):Tx vs (aB (j8 Rr vs gb)::H) α Rr gb:=⟨aQ ..⟩
instance Tx.there {α:Type}(vs:List aV)(Rr:Rp α)(gb:List (List α))(E:ak)(H:List ak)[h:Tx vs H α Rr gb]:Tx vs (E::H) α Rr gb:=⟨cO _ h.mem⟩
section
variable {n:Nat}{F:Fr}{c:Ctx}{H R:List ak}{T:Act→World→Prop}{e:TypeId}
theorem St.j8 {α:Type}{Rr:Rp α}{vs:List aV}{gb:List (List α)}(k:Nat){u:aV}{l:List α}[hd:Tx vs H α Rr gb](hu:vs[k]?=some u)(a:gb[k]?=some l)(h:St n F (Mm c (aB (sl Rr u.1 l)::H)) T):St n F (Mm c H) T:=
 St.fact _ (λ_ _ hm=>dA.1 (hm.dM _ hd.mem) k u l hu a) h
theorem sZ {α:Type}(Rr:Rp α)(ρ:Ro):(sl Rr (.slice none 0 0) []).f ρ:=⟨none,0,rfl,aR _,by unfold maxLen;omega,(λx hx=>by cases hx),.inl rfl⟩
theorem St.D9 {α:Type}{Rr:Rp α}(h:St n F (Mm c (aB (sl bN (.slice none 0 0) [])::aB (J.j8 Rr [] [])::H)) T):St n F (Mm c H) T:=
 St.fact _ (λ_ _ _=>show(J.j8 Rr [] []).f _ from λi u l hu=>by simp at hu) (St.fact _ (λ_ _ _=>sZ _ _) h)
theorem va (vs:List aV):rows bN vs=vs.map Subtype.val:=by
 induction vs with
 |nil=>rfl
 |cons v vs a=>simp only[rows,List.flatMap_cons,List.map_cons]at a⊢;rw[a];rfl
end
end Go.J
namespace Go.J
open Go Go.ChangeShapes Go.WideShapes Go.ChangeAt Go.RowKit Go.Deep
theorem Dk.below {dr:Prop}{P:Program}{f:FuncId}{args:Array Value}{ds:List du}{v:Value}{W:World}(h:Dk dr P f args (ds.map J.aB) λu _=>u=v)(hd:∀d∈ds,d.f (J.all W)):Calls P f args W λe g=>e= .returned v∧Below W.heap.size W g:=by
 have st:Start (ds.map J.aB) (J.all W) W:=
  ⟨rfl,⟨rfl,λ_=>aR _⟩,rfl,aR _,λ_ _ _=>rfl,λ_ _ h=>h,Ro.le_refl _,λ_ _ _=>rfl,λE c=>by
   obtain⟨d,i,rfl⟩:=dC.1 c;exact dA.2 (hd d i),
   (λE c b a=>by
    obtain⟨d,hd,rfl⟩:=dC.1 c
    rw[jw]at a;cases a),
   by
    refine sF.2 (wc (R:=λ_ _=>True) ?_ (List.pairwise_of_forall λ_ _=>trivial));intro d j _ _ _ b a
    rw[jw]at a;cases a⟩
 refine(h W (J.all W) st).mono ?_;rintro e w' ⟨u,H',rfl,rfl,hm⟩;obtain⟨jq,hm⟩:=hm.out;exact⟨rfl,hm.os,hm.tape.1,hm.output,hm.size,λk hk=>hm.AD k hk (jA ds k)⟩
theorem kX.below {P:Program}{f:FuncId}{args:Array Value}{ds:List du}{v:Value}{W:World}(h:kX P f args ds v)(hd:∀d∈ds,d.f (J.all W)):Calls P f args W λe a=>e= .returned v∧Below W.heap.size W a:=Dk.below (dr:=False) h hd
section
variable {H:Type}{enc:TypeId×Value→H}{P:Program}{W:World}{α:Type}
theorem jg {a:Addr}{v:Value}(h:W.cell? a=some v):a.spot=none∧∃C e fr,W.heap[a.block]?=some (.cells C e fr)∧C[a.off]?=some v:=by
 refine⟨World.cell?_spot h,?_⟩;unfold World.cell? at h
 split at h
 ·rename_i C e fr b
  split at h
  ·cases h
  ·exact⟨C,e,fr,b,h⟩
 ·cases h
theorem DK {R:Rp α}:∀(xs:List α) (j:Nat) (u:Value),(rows R xs)[j]?=some u→∃i k x,xs[i]?=some x∧k<R.size∧j=i*R.size+k∧(R.cells x)[k]?=some u
 | [],j,u,h=>by simp[rows]at h
 |x::xs,j,u,h=>by
  simp only[rows,List.flatMap_cons]at h
  by_cases a:j<R.size
  ·rw[oa (by rw[R.len];exact a)]at h
   exact⟨0,j,x,rfl,a,by omega,h⟩
  ·rw[lg (by rw[R.len];omega),R.len]at h
   obtain⟨i,k,y,h1,b,d,c⟩:=DK xs (j-R.size) u h;exact⟨i+1,k,y,by simpa using h1,b,by rw[Nat.add_mul,Nat.one_mul];omega,c⟩
abbrev nX (l:List Nat):Bool:=l.all (· ≤reachBytes)
theorem Dc {e:TypeId}:∀{ds:List (DataW H)} {x:DataW H},nX (DataW.weightsAll P e ds)=true→x∈ds→nX (x.weights P e)=true
 | [],_,_,h=>by cases h
 |d::ds,x,h,hx=>by
  simp only[nX,DataW.weightsAll,List.all_append,Bool.and_eq_true]at h
  rcases cK.1 hx with rfl|hx
  ·exact h.1
  ·exact Dc h.2 hx
theorem uV:∀{ts:List TypeId} {ds:List (DataW H)} {j:Nat} {t:TypeId} {d:DataW H},nX (DataW.weightsEach P ts ds)=true→ts[j]?=some t→ds[j]?=some d→nX (d.weights P t)=true
 | [],_,_,_,_,_,h,_=>by simp at h
 |_::_,[],_,_,_,_,_,h=>by simp at h
 |t::ts,d::ds,0,_,_,h,h1,a=>by
  simp only[List.getElem?_cons_zero,Option.some.injEq]at h1 a
  subst h1 a
  simp only[nX,DataW.weightsEach,List.all_append,Bool.and_eq_true]at h
  exact h.1
 |t::ts,d::ds,j+1,_,_,h,h1,a=>by
  simp only[nX,DataW.weightsEach,List.all_append,Bool.and_eq_true]at h
  exact uV (j:=j) h.2 (by simpa using h1) (by simpa using a)
theorem Bv {t e:TypeId}{es sp:List (DataW H)}(ht:P.underlying t=some (.slice e))(h:nX ((DataW.slice es sp).weights P t)=true){x:DataW H}(hx:x∈es∨x∈sp):nX (x.weights P e)=true:=by
 simp only[nX,DataW.weights,ht,List.all_cons,List.all_append,Bool.and_eq_true]at h
 rcases hx with hx|hx
 ·exact Dc h.2.1 hx
 ·exact Dc h.2.2 hx
theorem FZ (R:Rp α){t e:TypeId}{M:List Value}{d:DataW H}{p:List MemPlace}{fuel:Nat}(ht:P.underlying t=some (.slice e))(U:P.cellsOf e=R.size)
 (V:∀(n:Nat) (cs:List Value) (y:DataW H×List MemPlace),cs.length=R.size→DataW.trod enc P W 0 (λ_=>true) true n e cs=some y→nX (y.1.weights P e)=true→∃x:α,cs=R.cells x∧R.wf x)
 (N:nX (d.weights P t)=true) (Y:DataW.trod enc P W 0 (λ_=>true) true fuel t M=some (d,p)):∃(v:Value) (xs:List α),M=[v]∧v.oneCell'=true∧(sl R v xs).f (J.all W)∧((d= .nil∧xs=[])∨∃es sp,d= .slice es sp∧es.length=xs.length):=by
 rcases open_slice ht Y with⟨A,o⟩|⟨a,len,cap,m,n,D,Pl,A,_,Z,hm,O,o,hx⟩
 ·exact⟨.slice none 0 0,[],A,rfl,sZ _ _,.inl ⟨by simpa using (Prod.mk.inj o).1,rfl⟩⟩
 ·refine⟨.slice (some a) len cap,?_⟩
  rw[A]
  suffices B:∃xs:List α,(sl R (.slice (some a) len cap) xs).f (J.all W)∧((d= .nil∧xs=[])∨∃es sp,d= .slice es sp∧es.length=xs.length) by
   obtain⟨xs,h1,r⟩:=B;exact⟨xs,rfl,rfl,h1,r⟩
  simp only[if_true]at O
  subst O
  rcases Nat.eq_zero_or_pos len with rfl|ab6
  ·exact⟨[],⟨_,m,rfl,aP _,hm,(λx hx=>by cases hx),.inl rfl⟩,.inr ⟨_,_,(Prod.mk.inj o).1,by simp⟩⟩
  have each:∀i,i<m→∃x:α,R.wf x∧∀k u,k<R.size→(R.cells x)[k]?=some u→W.cell? ((a.add (i*R.size)).add k)=some u:=λi E=>by
   obtain⟨cs,h1,r⟩:=hx i E;rw[U]at h1;obtain⟨_,F,h5⟩:=World.cells?_some h1
   obtain⟨x,rfl,hw⟩:=V n cs _ F r (Bv ht (by rw[(Prod.mk.inj o).1]at N;exact N) (by
    rcases eP i len with q|q
    ·exact .inl (by simp only[List.mem_map,List.mem_range];exact⟨i,q,rfl⟩)
    ·exact .inr (by simp;exact⟨i-len,by omega,by congr 1;omega⟩)))
   exact⟨x,hw,λk u hk hu=>by rw[h5 k hk,hu]⟩
  obtain⟨x0,HF⟩:=each 0 (by omega)
  haveI:Inhabited α:=⟨x0⟩
  obtain⟨X,G⟩:=choose_lt (α:=α) each
  have I:((List.range len).map X).length=len:=by simp
  obtain⟨b,off,spot⟩:=a
  have c:∃u,(R.cells (X 0))[0]?=some u:=by
   have:=R.len (X 0)
   have:=R.pos
   exact⟨_,bU (by omega)⟩
  obtain⟨u0,c⟩:=c
  have Q:=(G 0 (by omega)).2 0 u0 R.pos c
  rw[Nat.zero_mul,Deep.add_add]at Q;obtain⟨B,C,S,fr,w,_⟩:=jg Q
  have ac0:spot=none:=by simpa[Addr.add]using B
  subst ac0
  have w:W.heap[b]?=some (.cells C S fr):=by simpa[Addr.add]using w
  refine⟨(List.range len).map X,⟨some ⟨b,off,none⟩,m,by rw[I],by rw[I];exact Z,hm,?_,.inr ⟨b,off,C,S,fr,rfl,w,?_⟩⟩,.inr ⟨_,_,(Prod.mk.inj o).1,by simp⟩⟩
  ·intro x Wj
   obtain⟨i,E,rfl⟩:=dC.1 Wj;exact(G i (by have:=dt.1 E;omega)).1
  ·intro j u hj
   obtain⟨i,k,x,h1,r,h3,F⟩:=DK _ _ _ hj
   have T:=Eg h1
   rw[I]at T
   have SS:x=X i:=by simpa[T]using h1.symm
   subst SS
   have:=(G i (by omega)).2 k u r F
   rw[Deep.add_add,←h3]at this;obtain⟨_,C',K,L,g,z⟩:=jg this
   have g:W.heap[b]?=some (.cells C' K L):=by
    by_cases s:j=0
    ·subst s;simpa[Addr.add]using g
    ·simpa[Addr.add,s]using g
   have z:C'[off+j]?=some u:=by
    by_cases s:j=0
    ·subst s;simpa[Addr.add]using z
    ·simpa[Addr.add,s]using z
   rw[w]at g
   simp only[Option.some.injEq,Obj.cells.injEq]at g
   rw[g.1];exact z
where Eg {β:Type} {l:List β} {i:Nat} {x:β} (h:l[i]?=some x):i<l.length:=(fA.1 h).1
theorem TL (R:Rp α){t e:TypeId}{v:Value}{d:DataW H}{p:List MemPlace}{c:Nat}(ht:P.underlying t=some (.slice e))(g:P.cellsOf e=R.size)
 (i:∀(n:Nat) (cs:List Value) (y:DataW H×List MemPlace),cs.length=R.size→DataW.trod enc P W 0 (λ_=>true) true n e cs=some y→nX (y.1.weights P e)=true→∃x:α,cs=R.cells x∧R.wf x)
 (j:Value.okWide P W .any c t v) (k:nX (d.weights P t)=true) (h:DataW.Trod enc P W 0 (λ_=>true) true t v d p):∃xs:List α,(sl R v xs).f (J.all W)∧((d= .nil∧xs=[])∨∃es sp,d= .slice es sp∧es.length=xs.length):=by
 obtain⟨a0,a,b,rfl⟩:=okWide_slice ht j;obtain⟨fuel,l⟩:=h;obtain⟨v,xs,h1,_,m,o⟩:=FZ R ht g i k l
 obtain rfl:Value.slice a0 a b=v:=by simpa[Value.cells]using h1
 exact⟨xs,m,o⟩
theorem PH {ts:List TypeId}{ds:List (DataW H)}(h:(DataW.weightsEach P ts ds).all (· ≤reachBytes)=true)(j:Nat){t e:TypeId}{d:DataW H}{xs:List α}(ht:ts[j]?=some t)(hd:ds[j]?=some d)(hu:P.underlying t=some (.slice e))
 (a:(d= .nil∧xs=[])∨∃es sp,d= .slice es sp∧es.length=xs.length) (n:Nat) (b:P.bytesOf e=n):xs.length*n≤140737488351232:=by
 subst b
 rcases a with⟨_,rfl⟩|⟨es,sp,rfl,c⟩
 ·simp
 ·have h1:=sized_slice h ht hd hu
  rw[←c]
  have f:es.length*P.bytesOf e≤(es.length+sp.length)*P.bytesOf e:=iV _ (by omega)
  unfold reachBytes at h1;omega
theorem wf_i64 {n:Int}(h:(Lit.int .i64 n).wf=true):aa n:=by
 have a:IntKind.i64.min= -9223372036854775808:=rfl
 have e2:IntKind.i64.max=9223372036854775807:=rfl
 simpa[Lit.wf,a,e2,aa]using h
theorem V5 (s:ByteArray):Value.string s=sv s.data.toList:=by
 cases s;rfl
theorem W6 {e:TypeId}(he:P.underlying e=some .string)(n:Nat)(cs:List Value)(y:DataW H×List MemPlace)(_:cs.length=1)(h:DataW.trod enc P W 0 (λ_=>true) true n e cs=some y)(a:nX (y.1.weights P e)=true):∃x:bC,cs=bE.cells x∧bE.wf x:=by
 obtain⟨s,rfl,hy,hw⟩:=DataW.trod_string he h;refine⟨s.data.toList,by rw[V5];rfl,?_⟩;subst hy
 have b:s.data.toList.length≤140737488351232:=by
  simp only[nX,DataW.weights,reachBytes,List.all_cons,List.all_nil,Bool.and_true]at a
  exact fJ a
 exact b
end
end Go.J
namespace Go.J
open Go
def Es (P:Program)(n:Nat)(F:Fr)(op:Op)(ty:TypeId)(v:Value):Prop:=∀a w,Has n a F→(execOp a.eval (bare op ty)).run P w= .ok (.value v) w
def NP (Q:Exit→Act→World→Prop):Prop:=∀c a w,¬Q (.panic c) a w
theorem NP.then {K:Act→World→Prop}{Q:Exit→Act→World→Prop}(h:NP Q):NP (Exit.then K Q):=λc a w k=>h c a w k
theorem NP.inBlock {id:Nat}{Q:Exit→Act→World→Prop}(h:NP Q):NP (Exit.inBlock id Q):=λc a w k=>h c a w k
section
variable {P:Program}{ops:Array Oper}{Q:Exit→Act→World→Prop}
theorem wpOp_put {j:Nat}{g i:Oper}{v:Value}(s:ops[j]?=some i)(n:g.apart ops i=true)
 (o:∀cs b,g.op≠ .select cs b) (m:∀cs b,i.op≠ .select cs b) (p:NP Q) {K:Act→World→Prop} {a:Act} {w:World}
 (hy:∀w,(execOp a.eval g).run P w= .ok (.value v) w) (h:wpOp P ops Q j K (a.put g.dst v) w):
 wpOp P ops Q j (λq w'=>(∀w,(execOp q.eval g).run P w= .ok (.value v) w)∧K (q.put g.dst v) w') a w:=by
 obtain⟨h1,k,t⟩:=Oper.apart_spec n
 have l:∀u,∀w,(execOp (a.put i.dst u).eval g).run P w= .ok (.value v) w:=λu w=>by
  rw[execOp_put (ops:=ops) g o a i.dst u t];exact hy w
 have put_defers:∀(d:Deferred) (u:Value),({a with defers:=d::a.defers}:Act).put i.dst u={(a.put i.dst u)with defers:=d::a.defers}:=λd u=>by
  cases i.dst<;>rfl
 unfold wpOp at*
 simp only[s]at*
 rw[wanted_put i a g.dst v h1]at h
 split
 ·rename_i hw
  simp only[hw,if_true]at h
  rcases h with h|⟨h,y⟩
  ·left
   unfold Oper.wp at*;rw[execOp_put i m a g.dst v h1]at h
   generalize (execOp a.eval i).run P w=r at*
   cases r with
   |ok z w'=>
    cases z<;>simp only[Oper.upon]at h⊢
    case value u=>exact⟨l u,by rw[←Act.put_comm a v u k];exact h⟩
    case skip=>exact⟨l _,by rw[←Act.put_comm a v undef k];exact h⟩
    case defer d=>
     refine⟨λw=> ?_,?_⟩
     ·rw[put_defers];exact l undef w
     ·have e:({(a.put g.dst v)with defers:=d::(a.put g.dst v).defers}:Act).put i.dst undef=(({a with defers:=d::a.defers}:Act).put i.dst undef).put g.dst v:=by
       have:=Act.put_comm ({a with defers:=d::a.defers}:Act) v undef k
       rw[←this]
       cases g.dst<;>rfl
      rw[←e];exact h
    case enter f args=>
     refine Calls.mono h λe A he=> ?_
     cases e with
     |returned u=>exact⟨l u,by rw[←Act.put_comm a v u k];exact he⟩
     |panicked c=>exact(p _ _ _ he).elim
     |outgrown=>exact he
    case row B args=>exact Rows.mono h λu A he=>⟨l u,by rw[←Act.put_comm a v u k];exact he⟩
    all_goals exact h
   |halt x w'=>
    cases x<;>simp only[Oper.upon]at h⊢
    all_goals first|exact(p _ _ _ h).elim|exact h
  ·right
   refine⟨?_,y⟩;unfold Oper.asks at*;rw[execOp_put i m a g.dst v h1]at h;exact h
 ·rename_i hw
  simp only[hw]at h
  exact⟨l _,by rw[←Act.put_comm a v undef k];exact h⟩
theorem wpOp_mono {j:Nat}{K d:Act→World→Prop}{a:Act}{w:World}(h:∀a w,K a w→d a w)(b:wpOp P ops Q j K a w):wpOp P ops Q j d a w:=by
 unfold wpOp at*
 split
 ·rename_i c;simp only[c]at b;exact h _ _ b
 ·rename_i o c
  simp only[c]at b
  split
  ·rename_i hw;simp only[hw,if_true]at b;exact b.imp (Oper.wp_mono h) id
  ·rename_i hw;simp only[hw]at b;exact h _ _ b
theorem wpAny_first {md:Region.Mode}{i:Nat}{c:Oper}{v:Value}(r:ops[i]?=some c)(A:c.guard=none)(B:NP Q)(s:∀(j:Nat) (o:Oper) cs b,ops[j]?=some o→o.op≠ .select cs b):
 ∀(fuel:Nat) (listed:Array Bool) (a:Act) (w:World),
  (∀j f,ops[j]?=some f→j≠i→listed.getD j true=false→(∀e∈f.after,Region.binds md e=true→e.on≠i)→c.apart ops f=true)→
  i∈Region.ready md ops listed→(∀w,(execOp a.eval c).run P w= .ok (.value v) w)→
  wpAny P md ops Q fuel (listed.setIfInBounds i true) (a.put c.dst v) w→wpAny P md ops Q (fuel+1) listed a w:=by
 have self:∀{K:Act→World→Prop} {a:Act} {w:World},(∀w,(execOp a.eval c).run P w= .ok (.value v) w)→K (a.put c.dst v) w→wpOp P ops Q i K a w:=by
  intro K a w hy C;unfold wpOp
  simp only[r,Region.wanted,A,if_true]
  left
  unfold Oper.wp;rw[hy w];exact C
 intro fuel
 induction fuel with
 |zero=>
  intro listed a w _ g hy H;refine⟨λh=>(by rw[h]at g;cases g),λj n=> ?_⟩
  by_cases d:j=i
  ·subst d;exact self hy H
  ·have:=ready_mono n d
   rw[H.1]at this
   cases this
 |succ fuel D=>
  intro listed a w t g hy H;refine⟨λh=>(by rw[h]at g;cases g),λj n=> ?_⟩
  by_cases d:j=i
  ·subst d;exact self hy H
  ·have h1:=H.2 j (ready_mono n d)
   obtain⟨u,f,l,E⟩:=mem_ready.1 n
   have p:∀e∈f.after,Region.binds md e=true→e.on≠i:=λe he F heq=>by
    have h1:=E e he F
    have x:=(mem_ready.1 g).1
    rw[heq]at h1
    rcases eP i listed.size with q|q
    ·simp[q]at x h1;rw[x]at h1;cases h1
    ·simp[Array.getElem?_eq_none q]at h1
   have G:=wpOp_put l (t j f l d u p) (λcs b=>s i c cs b r) (λcs b=>s j f cs b l) B hy h1
   have I:∀k ok,ops[k]?=some ok→k≠i→(listed.setIfInBounds j true).getD k true=false→
    (∀e∈ok.after,Region.binds md e=true→e.on≠i)→c.apart ops ok=true:=λk ok hk J y L=>by
    refine t k ok hk J ?_ L
    by_cases m:j=k
    ·subst m;exact u
    ·rw[getD_set_ne true m]at y;exact y
   refine wpOp_mono (λM w' z=>D (listed.setIfInBounds j true) M w' I (ready_mono g (Ne.symm d)) z.1 ?_) G;rw[Array.setIfInBounds_comm _ _ d];exact z.2
theorem St.defer {n:Nat}{F:Fr}{A:World→Prop}{f d:Nat}{listed:Array Bool}{op:Op}{ty:TypeId}{pos:String}{after:Array Edge}{v:Value}(i:Nat)
 (g:NP Q) (j:Region.noSelect ops=true) (c:ops[i]?=some {dst:=some d,op:=op,type:=ty,pos:=pos,after:=after,guard:=none}) (k:Es P n F op ty v)
 (b:((Region.ready .any ops listed).contains i&&Region.free .any ops listed i)=true) (hd:Nat.ble (d+1) n=true)
 (h:St n ((d,v)::F) A (wpAny P .any ops Q f (listed.setIfInBounds i true))):St n F A (wpAny P .any ops Q (f+1) listed):=by
 intro a w e hw
 simp only[Bool.and_eq_true]at b
 refine wpAny_first c rfl g (Region.noSelect_spec j) f listed a w (Region.free_spec c b.2) (by simpa using b.1) (λw'=> ?_) (h _ w (e.put (dR hd) v) hw);rw[gy];exact k a w' e
end
section
variable {P:Program}{n:Nat}{F:Fr}{c:Ctx}{H:List ak}{ty:TypeId}{x y:Operand}{v:Value}{t e:TypeId}
theorem NP.body {fn:Func}{R:Value→List ak→World→Prop}:NP (bodyPost P fn λe w'=>∃v H',e= .returned v∧R v H' w'):=λc a w h=>by
 obtain⟨_,_,_,h1,_⟩:=h
 cases h1
theorem Es.move (hx:ah F x v):Es P n F (.move x) ty v:=λa w b=>by simp[execOp,hx.eval b]
theorem Es.assign (hx:ah F x v):Es P n F (.assign x) ty v:=λa w b=>by simp[execOp,hx.eval b]
theorem Es.extract {vs:List Value}{i:Nat}(hx:ah F x (.tuple vs.toArray))(b:vs[i]?=some v):Es P n F (.extract x i) ty v:=λa w c=>by
 simp[execOp,hx.eval c,Instr.extract,b]
theorem Es.idx {b o m cap size k:Nat}{i:Int}{kd:IntKind}(d:v= .slice (some ⟨b,o,none⟩) m cap)(hx:ah F x v)(hy:ah F y (.int kd i))(ht:P.underlying t=some (.slice e))(f:(P.info? e).map (·.size)=some size)
 (g:i=k) (hk:k<m):Es P n F (.indexAddr t x y) ty (cZ v size k 0):=λa w c=>by
 subst d;obtain⟨inf,h,j⟩:=dp.1 f;subst g
 simp[execOp,hx.eval c,hy.eval c,Instr.indexAt,asIntOf,run_underlying ht,sizeOf,typeInfo,h,j,hk,eG,Addr.add_lit]
theorem St.lA {T:Act→World→Prop}{size m:Nat}{cs:List Value}(v:Value)[d:wu v H e size m cs](hm:0<m)(h:∀b cap,v= .slice (some ⟨b,0,none⟩) m cap→St n F (Mm c H) T):St n F (Mm c H) T:=by
 intro a w f hw;obtain⟨ρ,i⟩:=hw.out
 rcases(i.row d).2 with⟨rfl,rfl⟩|⟨g,cap,cur,h1,_⟩
 ·omega
 ·exact h g cap h1 a w f hw
theorem St.JW {α:Type}{Rr:Rp α}{xs:List α}{T:Act→World→Prop}(v:Value)[hd:sI v H α Rr xs](hm:0<xs.length)(h:∀b o cap,v= .slice (some ⟨b,o,none⟩) xs.length cap→St n F (Mm c H) T):St n F (Mm c H) T:=by
 intro a w f hw;obtain⟨ρ,g⟩:=hw.out;obtain⟨ad,cap,h1,_,_,_,d⟩:=g.sl hd
 rcases d with d|⟨b,off,C,e,fr,i,_⟩
 ·subst d;simp at hm
 ·subst i;exact h b off cap h1 a w f hw
end
theorem St.slot {n:Nat}{F:Fr}{A:World→Prop}{T:Act→World→Prop}{v:Value}(k:Nat)(v':Value)(hk:look F k=some v)(h:v=v')(d:St n ((k,v')::F) A T):St n F A T:=by
 subst h
 refine λa w b hw=>d a w ⟨b.size,b.defers,λt u hu=> ?_⟩ hw
 simp only[look]at hu
 cases c:Nat.beq t k with
 |true=>
  have e:=mo c
  subst e
  simp only[c,cond_true,Option.some.injEq]at hu
  subst hu;exact b.slot _ _ hk
 |false=>
  simp only[c,cond_false]at hu
  exact b.slot _ _ hu
section
variable {ι:Type}{P:Program}{C:ι→World→Prop}{ops:Array Oper}{Q:Exit→Act→World→Prop}
def WR (P:Program)(C:ι→World→Prop)(ops:Array Oper)(Q:Exit→Act→World→Prop):Nat→Array Bool→Act→ι→Prop
 |0,listed,a,r=>Region.ready .any ops listed=[]∧∀w,C r w→Q .normal a w
 |fuel+1,listed,a,r=>(Region.ready .any ops listed=[]→∀w,C r w→Q .normal a w)∧
  ∀i∈Region.ready .any ops listed,∀w,C r w→wpOp P ops Q i (λb w'=>∃r',C r' w'∧WR P C ops Q fuel (listed.setIfInBounds i true) b r') a w
theorem WR.any:∀(fuel:Nat) (listed:Array Bool) (a:Act) (r:ι) (w:World),C r w→WR P C ops Q fuel listed a r→wpAny P .any ops Q fuel listed a w
 |0,_,_,_,_,hw,h=>⟨h.1,h.2 _ hw⟩
 |fuel+1,_,_,_,_,hw,h=>⟨λb=>h.1 b _ hw,λi c=>wpOp_mono (λd w' ⟨r',e,hk⟩=>WR.any fuel _ d r' w' e hk) (h.2 i c _ hw)⟩
def YS (P:Program)(C:ι→World→Prop)(ops:Array Oper)(o:Oper)(v:Value)(a:Act):Prop:=
 (Region.wanted o (yielded ops a.tmps)=true∧∀r w,C r w→o.quietAt P a (C r) w v)∨(Region.wanted o (yielded ops a.tmps)=false∧v=undef)
theorem YS.of_same {o:Oper}{v:Value}{a b:Act}(hy:YS P C ops o v a)(he:execOp b.eval o=execOp a.eval o)
 (hw:Region.wanted o (yielded ops b.tmps)=Region.wanted o (yielded ops a.tmps)):YS P C ops o v b:=by
 unfold YS Oper.quietAt at*;rw[he,hw];exact hy
theorem YS.self {i:Nat}{o:Oper}{v:Value}{a:Act}(c:ops[i]?=some o)(hy:YS P C ops o v a){K:Act→World→Prop}{r:ι}{w:World}(hw:C r w)(h:∀w',C r w'→K (a.put o.dst v) w'):wpOp P ops Q i K a w:=by
 have h1:YieldsIn P ops (C r) o v a:=hy.imp (λ⟨h1,d⟩=>⟨h1,d r⟩) id
 exact wpOp_of_qOp hw (K:=λb=>b=a.put o.dst v) (λb w' f e=>by rw[e];exact h w' f) (h1.qOp c rfl)
theorem Ln {j:Nat}{g i:Oper}{v:Value}(t:ops[j]?=some i)(n:g.apart ops i=true)
 (o:∀cs b,g.op≠ .select cs b) (m:∀cs b,i.op≠ .select cs b) (p:NP Q) {K:Act→World→Prop} {a:Act} {w:World}
 (hy:YS P C ops g v a) (h:wpOp P ops Q j K (a.put g.dst v) w):
 wpOp P ops Q j (λq w'=>YS P C ops g v q∧K (q.put g.dst v) w') a w:=by
 obtain⟨h1,k,s⟩:=Oper.apart_spec n
 have l:∀u,YS P C ops g v (a.put i.dst u):=λu=>hy.of_same (execOp_put (ops:=ops) g o a i.dst u s) (wanted_put g a i.dst u s)
 have put_defers:∀(d:Deferred) (u:Value),({a with defers:=d::a.defers}:Act).put i.dst u={(a.put i.dst u)with defers:=d::a.defers}:=λd u=>by
  cases i.dst<;>rfl
 unfold wpOp at*
 simp only[t]at*
 rw[wanted_put i a g.dst v h1]at h
 split
 ·rename_i hw
  simp only[hw,if_true]at h
  rcases h with h|⟨h,y⟩
  ·left
   unfold Oper.wp at*;rw[execOp_put i m a g.dst v h1]at h
   generalize (execOp a.eval i).run P w=r at*
   cases r with
   |ok z w'=>
    cases z<;>simp only[Oper.upon]at h⊢
    case value u=>exact⟨l u,by rw[←Act.put_comm a v u k];exact h⟩
    case skip=>exact⟨l _,by rw[←Act.put_comm a v undef k];exact h⟩
    case defer d=>
     refine⟨?_,?_⟩
     ·rw[put_defers];exact(l undef).of_same rfl rfl
     ·have e:({(a.put g.dst v)with defers:=d::(a.put g.dst v).defers}:Act).put i.dst undef=(({a with defers:=d::a.defers}:Act).put i.dst undef).put g.dst v:=by
       have:=Act.put_comm ({a with defers:=d::a.defers}:Act) v undef k
       rw[←this]
       cases g.dst<;>rfl
      rw[←e];exact h
    case enter f args=>
     refine Calls.mono h λe A he=> ?_
     cases e with
     |returned u=>exact⟨l u,by rw[←Act.put_comm a v u k];exact he⟩
     |panicked c=>exact(p _ _ _ he).elim
     |outgrown=>exact he
    case row B args=>exact Rows.mono h λu A he=>⟨l u,by rw[←Act.put_comm a v u k];exact he⟩
    all_goals exact h
   |halt x w'=>
    cases x<;>simp only[Oper.upon]at h⊢
    all_goals first|exact(p _ _ _ h).elim|exact h
  ·right
   refine⟨?_,y⟩;unfold Oper.asks at*;rw[execOp_put i m a g.dst v h1]at h;exact h
 ·rename_i hw
  simp only[hw]at h
  exact⟨l _,by rw[←Act.put_comm a v undef k];exact h⟩
theorem WR.first {i:Nat}{l:Oper}{v:Value}(p:ops[i]?=some l)(D:NP Q)(x:∀(j:Nat) (o:Oper) cs b,ops[j]?=some o→o.op≠ .select cs b):
 ∀(fuel:Nat) (listed:Array Bool) (a:Act) (r:ι),
  (∀j d,ops[j]?=some d→j≠i→listed.getD j true=false→(∀e∈d.after,Region.binds .any e=true→e.on≠i)→l.apart ops d=true)→
  i∈Region.ready .any ops listed→YS P C ops l v a→
  WR P C ops Q fuel (listed.setIfInBounds i true) (a.put l.dst v) r→WR P C ops Q (fuel+1) listed a r:=by
 intro fuel
 induction fuel with
 |zero=>
  intro listed a r _ f hy H;refine⟨λh=>(by rw[h]at f;cases f),λj n w hw=> ?_⟩
  by_cases c:j=i
  ·subst c;exact hy.self p hw λw' q=>⟨r,q,H⟩
  ·have:=ready_mono n c
   rw[H.1]at this
   cases this
 |succ fuel E=>
  intro listed a r y f hy H;refine⟨λh=>(by rw[h]at f;cases f),λj n w hw=> ?_⟩
  by_cases c:j=i
  ·subst c;exact hy.self p hw λw' q=>⟨r,q,H⟩
  ·have h1:=H.2 j (ready_mono n c) w hw
   obtain⟨z,d,g,F⟩:=mem_ready.1 n
   have s:∀e∈d.after,Region.binds .any e=true→e.on≠i:=λe he G heq=>by
    have h1:=F e he G
    have A:=(mem_ready.1 f).1
    rw[heq]at h1
    rcases eP i listed.size with t|t
    ·simp[t]at A h1;rw[A]at h1;cases h1
    ·simp[Array.getElem?_eq_none t]at h1
   have I:=Ln g (y j d g c z s) (λcs b=>x i l cs b p) (λcs b=>x j d cs b g) D hy h1
   have J:∀k ok,ops[k]?=some ok→k≠i→(listed.setIfInBounds j true).getD k true=false→
    (∀e∈ok.after,Region.binds .any e=true→e.on≠i)→l.apart ops ok=true:=λk ok hk K B L=>by
    refine y k ok hk K ?_ L
    by_cases m:j=k
    ·subst m;exact z
    ·rw[getD_set_ne true m]at B;exact B
   refine wpOp_mono (λM w' u=> ?_) I;obtain⟨u,r',N,O⟩:=u;refine⟨r',N,E (listed.setIfInBounds j true) M r' J (ready_mono f (Ne.symm c)) u ?_⟩;rw[Array.setIfInBounds_comm _ _ c];exact O
end
class yI (bs:List Nat)(H:List ak)(r R:outParam (List ak)):Prop where
 perm:H.Perm (R++r)
instance yI.nil (H:List ak):yI [] H [] H:=⟨by simp⟩
instance yI.cons (b:Nat)(bs:List Nat)(H H1 r R:List ak)(o:Obj)[h:l3 b H o H1][k:yI bs H1 r R]:yI (b::bs) H (aW b o::r) R:=
 ⟨(h.perm.trans (k.perm.cons _)).trans qi.symm⟩
section app
instance (priority:=low) lT.app (d:du)(L R:List ak)[h:lT d L]:lT d (L++R):=⟨kW _ h.mem⟩
instance (priority:=low) Ay.app (b:Nat)(o:Obj)(L R:List ak)[h:Ay b L o]:Ay b (L++R) o:=⟨kW _ h.mem⟩
instance (priority:=low) sI.app {α:Type}(v:Value)(Rr:Rp α)(xs:List α)(L R:List ak)[h:sI v L α Rr xs]:sI v (L++R) α Rr xs:=⟨kW _ h.mem⟩
instance (priority:=low) re.app (b:Nat)(v:Value)(L R:List ak)[h:re b L v]:re b (L++R) v:=⟨kW _ h.mem⟩
instance (priority:=low) wu.app (v:Value)(e:TypeId)(size n:Nat)(cs:List Value)(L R:List ak)[h:wu v L e size n cs]:wu v (L++R) e size n cs:=⟨kW _ h.mem⟩
end app
def SW (P:Program)(ops:Array Oper)(Q:Exit→Act→World→Prop)(n:Nat)(F:Fr)(c:Ctx)(Fp r:List ak)(f:Nat)(listed:Array Bool):Prop:=
 ∀a,Has n a F→WR P (λR=>Mm c (Fp++R)) ops Q f listed a r
def KW (P:Program)(ops:Array Oper)(Q:Exit→Act→World→Prop)(n:Nat)(c:Ctx)(Fp:List ak)(f:Nat)(listed:Array Bool)(a:Act)(w:World):Prop:=
 ∃F r,Has n a F∧Mm c (Fp++r) w∧SW P ops Q n F c Fp r f listed
section
variable {P:Program}{ops:Array Oper}{Q:Exit→Act→World→Prop}{n:Nat}{F:Fr}{c:Ctx}{H Fp r r' C':List ak}{f:Nat}{listed:Array Bool}
theorem St.par {id:Nat}{l:List Oper}(bs:List Nat)[tk:yI bs H r Fp](hm:P.follows .mixedOrders=true)
 (h:SW P l.toArray Q n F c Fp r l.length (Array.replicate l.length false)):St n F (Mm c H) ((Code.region id l.toArray true).wp P Q):=by
 intro a w b hw;refine wp_region_any hm ?_
 have h1:=h a b
 have d:Mm c (Fp++r) {w with drawn:=w.drawn+1}:=by
  obtain⟨ρ,k⟩:=((Mm.drawn c H) w hw).out;exact Mm.mk (k.perm tk.perm)
 simpa using WR.any (C:=λR=>Mm c (Fp++R)) l.length _ a r _ d h1
theorem SW.done (b:Region.ready .any ops listed=[])[ap:App Fp r C'](h:St n F (Mm c C') (Q .normal)):SW P ops Q n F c Fp r f listed:=by
 intro a e
 have h1:∀w,Mm c (Fp++r) w→Q .normal a w:=λw hw=>h a w e (by rw[←ap.eq];exact hw)
 cases f with
 |zero=>exact⟨b,h1⟩
 |succ f=>exact⟨λ_=>h1,λi d=>by rw[b]at d;cases d⟩
theorem SW.perm {b:Fr}(d:Sub F b)(hp:∀w,Mm c (Fp++r') w→Mm c (Fp++r) w)(h:SW P ops Q n F c Fp r (f+1) listed):SW P ops Q n b c Fp r' (f+1) listed:=by
 intro a e
 have h1:=h a (e.sub d)
 exact⟨λg w hw=>h1.1 g w (hp w hw),λi j w hw=>h1.2 i j w (hp w hw)⟩
theorem SW.go [tk:eV Fp H r'](h:SW P ops Q n F c Fp r' f listed):St n F (Mm c H) (KW P ops Q n c Fp f listed):=
 λ_ _ a hw=>⟨F,r',a,hw.take,h⟩
theorem SW.each [ap:App Fp r C'](b:Region.ready .any ops listed≠ [])(h:∀i∈Region.ready .any ops listed,St n F (Mm c C') (wpOp P ops Q i (KW P ops Q n c Fp f (listed.setIfInBounds i true)))):SW P ops Q n F c Fp r (f+1) listed:=by
 intro a d;refine⟨λe=>absurd e b,λi g w hw=> ?_⟩;refine wpOp_mono ?_ (h i g a w d (by rw[←ap.eq];exact hw));rintro j w' ⟨m,r',h1,k,l⟩;exact⟨r',k,l j h1⟩
theorem SW.afA {i:Nat}{o:Oper}[ap:App Fp r C'](a:Region.ready .any ops listed=[i])(b:ops[i]?=some o)
 (h:St n F (Mm c C') (wpList P ops (Exit.then (KW P ops Q n c Fp f (listed.setIfInBounds i true)) Q) [o])):SW P ops Q n F c Fp r (f+1) listed:=
 SW.each (by rw[a];simp) (by rw[a];intro k hk;rw[bP.1 hk];exact St.one b h)
theorem SW.afB {i j:Nat}{o o':Oper}[ap:App Fp r C'](b:Region.ready .any ops listed=[i,j])(d:ops[i]?=some o)(a:ops[j]?=some o')
 (h:St n F (Mm c C') (wpList P ops (Exit.then (KW P ops Q n c Fp f (listed.setIfInBounds i true)) Q) [o]))
 (e:St n F (Mm c C') (wpList P ops (Exit.then (KW P ops Q n c Fp f (listed.setIfInBounds j true)) Q) [o'])):SW P ops Q n F c Fp r (f+1) listed:=
 SW.each (by rw[b];simp) (by
  rw[b];intro k hk
  simp only[List.mem_cons,List.not_mem_nil,or_false]at hk
  rcases hk with rfl|rfl
  ·exact St.one d h
  ·exact St.one a e)
theorem SW.Pj {i j k:Nat}{o o' a:Oper}[ap:App Fp r C'](g:Region.ready .any ops listed=[i,j,k])(l:ops[i]?=some o)(b:ops[j]?=some o')(d:ops[k]?=some a)
 (h:St n F (Mm c C') (wpList P ops (Exit.then (KW P ops Q n c Fp f (listed.setIfInBounds i true)) Q) [o]))
 (p:St n F (Mm c C') (wpList P ops (Exit.then (KW P ops Q n c Fp f (listed.setIfInBounds j true)) Q) [o']))
 (e:St n F (Mm c C') (wpList P ops (Exit.then (KW P ops Q n c Fp f (listed.setIfInBounds k true)) Q) [a])):SW P ops Q n F c Fp r (f+1) listed:=
 SW.each (by rw[g];simp) (by
  rw[g];intro m hm
  simp only[List.mem_cons,List.not_mem_nil,or_false]at hm
  rcases hm with rfl|rfl|rfl
  ·exact St.one l h
  ·exact St.one b p
  ·exact St.one d e)
section
variable {d:Nat}{op:Op}{ty:TypeId}{pos:String}{after:Array Edge}{v:Value}
theorem SW.defer (i:Nat)(j:NP Q)(k:Region.noSelect ops=true)(e:ops[i]?=some {dst:=some d,op:=op,type:=ty,pos:=pos,after:=after,guard:=none})(l:∀R,Ev P n F (Mm c (Fp++R)) op ty v)
 (b:((Region.ready .any ops listed).contains i&&Region.free .any ops listed i)=true) (hd:Nat.ble (d+1) n=true)
 (h:SW P ops Q n ((d,v)::F) c Fp r f (listed.setIfInBounds i true)):SW P ops Q n F c Fp r (f+1) listed:=by
 intro a g
 simp only[Bool.and_eq_true]at b
 refine WR.first (v:=v) e j (Region.noSelect_spec k) f listed a r (Region.free_spec e b.2) (by simpa using b.1) ?_ (h _ (g.put (dR hd) v));exact .inl ⟨rfl,λR w hw=>(l R).quietAt g hw⟩
theorem SW.My (i:Nat){j dj:Nat}{want:Bool}{u:Value}(cd:Bool)(p:NP Q)(q:Region.noSelect ops=true)(m:ops[i]?=some {dst:=some d,op:=op,type:=ty,pos:=pos,after:=after,guard:=some (j,want)})
 (s:(ops[j]?).bind (·.dst)=some dj) (t:look F dj=some u) (hu:(cd=true→u= .bool want)∧(cd=false→u= .bool (!want)∨u=undef))
 (x:∀R,cd=true→Ev P n F (Mm c (Fp++R)) op ty v)
 (e:((Region.ready .any ops listed).contains i&&Region.free .any ops listed i)=true) (hd:Nat.ble (d+1) n=true)
 (h:SW P ops Q n ((d,gv cd v)::F) c Fp r f (listed.setIfInBounds i true)):SW P ops Q n F c Fp r (f+1) listed:=by
 intro a g
 simp only[Bool.and_eq_true]at e
 have b:=mJ (l:=ops) (o:={dst:=some d,op:=op,type:=ty,pos:=pos,after:=after,guard:=some (j,want)}) rfl s (g.slot _ _ t) hu
 refine WR.first (v:=gv cd v) m p (Region.noSelect_spec q) f listed a r (Region.free_spec m e.2) (by simpa using e.1) ?_ (h _ (g.put (dR hd) _))
 cases k:cd with
 |true=>
  rw[k]at b;rw[cz rfl];exact .inl ⟨b,λR w hw=>(x R k).quietAt g hw⟩
 |false=>
  rw[k]at b;rw[cM rfl];exact .inr ⟨b,rfl⟩
end
section
variable {d:Nat}{op:Op}{ty:TypeId}{pos:String}{after:Array Edge}{dj:Nat}{j:Nat}(i:Nat)(v:Value)
theorem SW.gt {g:Bool}(a:NP Q)(b:Region.noSelect ops=true)(e:ops[i]?=some {dst:=some d,op:=op,type:=ty,pos:=pos,after:=after,guard:=some (j,true)})(k:(ops[j]?).bind (·.dst)=some dj)(l:look F dj=some (.bool g))
 (m:∀R,g=true→Ev P n F (Mm c (Fp++R)) op ty v) (o:((Region.ready .any ops listed).contains i&&Region.free .any ops listed i)=true) (hd:Nat.ble (d+1) n=true)
 (h:SW P ops Q n ((d,J.gv g v)::F) c Fp r f (listed.setIfInBounds i true)):SW P ops Q n F c Fp r (f+1) listed:=SW.My i g a b e k l (WG g) m o hd h
theorem SW.gf {g:Bool}(a:NP Q)(b:Region.noSelect ops=true)(e:ops[i]?=some {dst:=some d,op:=op,type:=ty,pos:=pos,after:=after,guard:=some (j,false)})(k:(ops[j]?).bind (·.dst)=some dj)(l:look F dj=some (.bool g))
 (m:∀R,(!g)=true→Ev P n F (Mm c (Fp++R)) op ty v) (o:((Region.ready .any ops listed).contains i&&Region.free .any ops listed i)=true) (hd:Nat.ble (d+1) n=true)
 (h:SW P ops Q n ((d,J.gv (!g) v)::F) c Fp r f (listed.setIfInBounds i true)):SW P ops Q n F c Fp r (f+1) listed:=SW.My i (!g) a b e k l (WE g) m o hd h
end
theorem SW.slot (k:Nat){v:Value}(v':Value)(hk:look F k=some v)(h:v=v')(g:SW P ops Q n ((k,v')::F) c Fp r f listed):SW P ops Q n F c Fp r f listed:=by
 subst h
 refine λa b=>g a ⟨b.size,b.defers,λt u hu=> ?_⟩
 simp only[look]at hu
 cases d:Nat.beq t k with
 |true=>
  have e:=mo d
  subst e
  simp only[d,cond_true,Option.some.injEq]at hu
  subst hu;exact b.slot _ _ hk
 |false=>
  simp only[d,cond_false]at hu
  exact b.slot _ _ hu
theorem Has.swap {a:Act}{b c:Nat}{v1 v2:Value}(f:Nat.beq b c=false)(h:Has n a ((b,v1)::(c,v2)::F)):Has n a ((c,v2)::(b,v1)::F):=by
 refine⟨h.size,h.defers,λt u hu=>h.slot t u ?_⟩
 simp only[look]at hu⊢
 cases d:Nat.beq t b with
 |true=>
  have e:=mo d
  subst e
  simp only[f,cond_false,d,cond_true]at hu⊢
  exact hu
 |false=>
  simp only[d,cond_false]at hu⊢
  exact hu
end
theorem Ev.Cl {P:Program}{n:Nat}{F:Fr}{A:World→Prop}{ty t:TypeId}{x:Operand}{xs:Array Value}{b:Array Field}{fd:Field}{i:Nat}{v:Value}(hx:ah F x (.agg xs))(ht:P.underlying t=some (.struct b))(c:b[i]?=some fd)
 (hk:(match P.underlying fd.type with|some (.struct _)|some (.array _ _)|none=>false|_=>true)=true) (d:xs[fd.offset]?=some v):Ev P n F A (.field t x i) ty v:= .of_run λa w e _=>by
 simp[execOp,hx.eval e,Instr.field,run_underlying ht,c,asAgg,Ey hk d]
theorem eE.Z0 {P:Program}{f:FuncId}{fn:Func}{cd:Code}{args:List Value}{u:Value}{d1 d2 d3 d4 d5:du}(n:Nat)
 (a:P.funcs[f]?=some fn) (b:fn.body=some cd) (d:fn.ntmps=n) (g:Nat.ble args.length n=true)
 (h:∀c:Ctx,St n (tG 0 args) (Mm c [aB d1,aB d2,aB d3,aB d4,aB d5]) (cd.wp P (bodyPost P fn λe w'=>∃v H',e= .returned v∧v=u∧Mm c H' w'))):eE P f args.toArray [d1,d2,d3,d4,d5] u:=dz.body n a b d g h
theorem eM:(∀b:Bool,(b&&true)=b)∧(∀b:Bool,(true&&b)=b)∧(∀(p:Prop) [Decidable p],(decide p=true)=p)∧(∀(p:Prop) [Decidable p],(decide p=false)↔¬p)∧(∀a b:Bool,((a&&b)=true)=(a=true∧b=true))∧(∀a b:Bool,((a||b)=true)=(a=true∨b=true))∧
 (∀a b:Bool,(a&&b)=false↔a=false∨b=false)∧(∀a b:Bool,(a||b)=false↔a=false∧b=false)∧(∀b:Bool,((!b)=true)=(b=false))∧(∀b:Bool,((!b)=false)=(b=true))∧(∀{α:Type} [BEq α] [LawfulBEq α] (a b:α),(a==b)=true↔a=b)∧(∀{α:Type} [BEq α] [LawfulBEq α] (a b:α),(a==b)=false↔a≠b)∧
 (∀a b:Int,¬a<b↔b≤a)∧(∀a b:Int,¬a≤b↔b<a):=
 ⟨λ_=>Bool.and_true _,λ_=>Bool.true_and _,λ_ _=>gq,λ_ _=>decide_eq_false_iff_not,rY,Bool.or_eq_true,λ_ _=>Bool.and_eq_false_iff,λ_ _=>Bool.or_eq_false_iff,λ_=>Bool.not_eq_true' _,λ_=>Bool.not_eq_false' _,λ_ _=>beq_iff_eq,λ_ _=>sj,λ_ _=>Int.not_lt,λ_ _=>Int.not_le⟩
section
variable {P:Program}{n:Nat}{F:Fr}{A:World→Prop}{Q:Exit→Act→World→Prop}{ops:Array Oper}{d:Nat}{ty:TypeId}{pos:String}{after:Array Edge}{rest:List Oper}{x:Operand}{v:Value}{c:Ctx}{H:List ak}{t e:TypeId}
theorem St.mv (h:St n ((d,v)::F) A (wpList P ops Q rest))(hx:ah F x v:=by exact .mk rfl)(hd:Nat.ble (d+1) n=true:=by rfl):St n F A (wpList P ops Q ({dst:=some d,op:= .move x,type:=ty,pos:=pos,after:=after,guard:=none}::rest)):=St.ev _ (Ev.move hx) hd h
theorem St.asg (h:St n ((d,v)::F) A (wpList P ops Q rest))(hx:ah F x v:=by exact .mk rfl)(hd:Nat.ble (d+1) n=true:=by rfl):St n F A (wpList P ops Q ({dst:=some d,op:= .assign x,type:=ty,pos:=pos,after:=after,guard:=none}::rest)):=St.ev _ (Ev.assign hx) hd h
theorem uY {α:Type}:∀(ps:List (Nat×α)) (k:Nat),ps.map (·.1)=List.range' k ps.length→ps=((ps.map (·.2)).zipIdx k).map λp=>(p.2,p.1)
 | [],_,_=>rfl
 |(i,a)::ps,k,h=>by
  simp only[List.map_cons,List.length_cons,List.range'_succ,List.cons.injEq]at h
  simp only[List.map_cons,List.zipIdx_cons]
  rw[←uY ps (k+1) h.2,h.1]
theorem St.gV {size:Nat}{vs:List Value}{ps:List (Nat×Operand)}{zv:Value}(hp:ps.map (·.1)=List.range' 0 ps.length)(hx:bH F (ps.map (·.2)) vs)(ht:P.underlying t=some (.slice e))(a:(P.info? e).map (·.size)=some size)
 (hz:(P.info? e).bind (·.zero)=some zv) (f:Nat.ble 1 size=true) (hlen:Nat.ble (vs.length*size) 16777216=true) (g:∀u∈vs,u.cells.size=size) (hd:Nat.ble (d+1) n=true)
 {m:Nat} (hm:m=vs.length)
 (h:∀b,St n ((d,.slice (some ⟨b,0,none⟩) m m)::F) (Mm c (row (.slice (some ⟨b,0,none⟩) m m) e size m (vs.flatMap λu=>u.cells.toList)::H)) (wpList P ops Q rest)):
 St n F (Mm c H) (wpList P ops Q ({dst:=some d,op:= .buildSlice t m ps.toArray,type:=ty,pos:=pos,after:=after,guard:=none}::rest)):=St.Cc (uY ps 0 hp) hx ht a hz f hlen g hd hm h
theorem St.cq {o:Operand}{x y:Code}{b:Bool}{p q:Prop}(ht:p→St n F A (x.wp P Q))(a:q→St n F A (y.wp P Q))(c:vl F o=some (.bool b):=by exact rfl)
 (hp:b=true→p:=by intro h;first|(simp only[eM]at h;exact h)|exact h) (d:b=false→q:=by intro h;first|(simp only[eM]at h;exact h)|exact h):St n F A ((Code.cond o x y).wp P Q):=St.cond b c (λh=>ht (hp h)) (λh=>a (d h))
theorem SW.tg {a:Exit→Act→World→Prop}{Fp:List ak}{f:Nat}{o:Oper}{listed:Array Bool}(i:Nat)(h:St n F A (wpList P ops (Exit.then (KW P ops Q n c Fp f (listed.setIfInBounds i true)) a) [o])):
 St n F A (wpList P ops (Exit.then (KW P ops Q n c Fp f (listed.setIfInBounds i true)) a) [o]):=h
end
structure MK (κ:Type) where
 enc:κ→Value
 kd:TypeDesc
 same:∀a b:κ,∀ [DecidableEq κ],Instr.sameNow kd (enc a) (enc b)=some (decide (a=b))
 key:∀a,MapKept.IsKey kd (enc a)
 bits:∀a,Instr.sameBits 10000 (enc a) (enc a)=true
def mkStr:MK bC:=⟨λs=>sv s,.string,λa b _=>by
    simp only[Instr.sameNow,Option.some.injEq];rw[A8,MapKept.bytes_beq];simp,λa=>by simp[MapKept.IsKey],λa=>by simp only[Instr.sameBits];exact(MapKept.bytes_beq _ _).2 rfl⟩
section assoc
variable {κ:Type}[DecidableEq κ]
def qP:List (κ×Value)→κ→Option Value
 | [],_=>none
 |p::l,k=>if k=p.1 then some p.2 else qP l k
def l8:List (κ×Value)→κ→Value→List (κ×Value)
 | [],k,v=>[(k,v)]
 |p::l,k,v=>if k=p.1 then(k,v)::l else p::l8 l k v
theorem Ek (l:List (κ×Value))(k:κ)(v:Value)(b:κ):qP (l8 l k v) b=if b=k then some v else qP l b:=by
 induction l with
 |nil=>simp[l8,qP]
 |cons p l c=>
  unfold l8
  by_cases h:k=p.1
  ·rw[aC h]
   simp only[qP]
   by_cases a:b=k
   ·rw[aC a,aC a]
   ·rw[aA a,aA a,aA (by rw[←h];exact a)]
  ·rw[aA h]
   simp only[qP,c]
   by_cases a:b=p.1
   ·rw[aC a,aC a,aA (λe=>h (by rw[←e,a]))]
   ·rw[aA a,aA a]
end assoc
section
variable {κ:Type}[DecidableEq κ]
def kQ (K:MK κ):List (κ×Value)→Nat→List MapEntry
 | [],_=>[]
 |p::l,i=>⟨K.enc p.1,p.2,i⟩::kQ K l (i+1)
def eW (K:MK κ)(l:List (κ×Value)):Obj:= .map (kQ K l 0).toArray l.length
omit [DecidableEq κ]in
def OC:List (κ×Value)→κ→Nat→Option (Nat×Value)
 | [],_,_=>none
 |p::l,k,i=>if k=p.1 then some (i,p.2)else OC l k (i+1)
theorem Sr (l:List (κ×Value))(k:κ)(i:Nat):(OC l k i).map (·.2)=qP l k:=by
 induction l generalizing i with
 |nil=>rfl
 |cons p l a=>simp only[OC,qP];split
              ·rfl
              ·exact a _
theorem ni (K:MK κ)(k:κ):∀(l:List (κ×Value)) (i c:Nat),Instr.findNow K.kd (K.enc k) (kQ K l i) c=some (OC l k c)
 | [],i,c=>rfl
 |p::l,i,c=>by
  simp only[kQ,Instr.findNow,K.same k p.1,OC]
  by_cases h:k=p.1
  ·simp[h]
  ·simp only[h,decide_false,if_false]
   exact ni K k l _ _
omit [DecidableEq κ]in
theorem zB (K:MK κ)(k:κ)(v:Value):∀(l:List (κ×Value)) (i:Nat),kQ K (l++ [(k,v)]) i=kQ K l i++ [⟨K.enc k,v,i+l.length⟩]
 | [],i=>by simp[kQ]
 |p::l,i=>by simp only[List.cons_append,kQ,zB K k v l (i+1),List.length_cons];congr 4;omega
theorem LB {l:List (κ×Value)}{k:κ}{v:Value}{c:Nat}(h:OC l k c=none):l8 l k v=l++ [(k,v)]:=by
 induction l generalizing c with
 |nil=>rfl
 |cons p l a=>
  simp only[OC]at h
  split at h
  ·cases h
  ·rename_i h1;unfold l8;rw[aA h1,a h];rfl
theorem BQ {K:MK κ}{k:κ}{v u:Value}:∀{l:List (κ×Value)} {c j:Nat} (i:Nat),OC l k c=some (j,u)→c≤j∧j-c<l.length∧((kQ K l i)[j-c]?).map (·.key)=some (K.enc k)∧
 kQ K (l8 l k v) i=(kQ K l i).modify (j-c) (λe=>{e with key:=K.enc k,val:=v})∧(l8 l k v).length=l.length
 | [],c,j,i,h=>by cases h
 |p::l,c,j,i,h=>by
  simp only[OC]at h
  split at h
  ·rename_i h1
   simp only[Option.some.injEq,Prod.mk.injEq]at h
   obtain⟨rfl,rfl⟩:=h;unfold l8;rw[aC h1];subst h1
   simp[kQ]
  ·rename_i h1
   obtain⟨f,g,a,b,d⟩:=BQ (K:=K) (v:=v) (i+1) h
   have e:j-c=(j-(c+1))+1:=by omega
   unfold l8;rw[aA h1];refine⟨by omega,by simp only[List.length_cons];omega,?_,?_,by simp[d]⟩
   ·rw[e];simpa[kQ]using a
   ·rw[e];simp only[kQ,List.modify_succ_cons,b]
variable {P:Program}{n:Nat}{F:Fr}{A:World→Prop}{c:Ctx}{H R:List ak}{ty t kt et:TypeId}{x y z:Operand}{v:Value}{Q:Exit→Act→World→Prop}{ops:Array Oper}{rest:List Oper}{d:Nat}{pos:String}{after:Array Edge}
class VL (b:Nat)(H:List ak)(κ:outParam Type)(K:outParam (MK κ))(l:outParam (List (κ×Value))):Prop where
 mem:aW b (eW K l)∈H
instance (priority:=high) VL.here {κ:Type}(b:Nat)(K:MK κ)(l:List (κ×Value))(H:List ak):VL b (aW b (eW K l)::H) κ K l:=⟨aQ ..⟩
instance VL.there {κ:Type}(b:Nat)(K:MK κ)(l:List (κ×Value))(E:ak)(H:List ak)[h:VL b H κ K l]:VL b (E::H) κ K l:=⟨cO _ h.mem⟩
class B6 (b:Nat)(H:List ak)(κ:outParam Type)(K:outParam (MK κ))(l:outParam (List (κ×Value)))(R:outParam (List ak)):Prop where
 perm:H.Perm (aW b (eW K l)::R)
instance (priority:=high) B6.here {κ:Type}(b:Nat)(K:MK κ)(l:List (κ×Value))(H:List ak):B6 b (aW b (eW K l)::H) κ K l H:=⟨.refl _⟩
instance B6.there {κ:Type}(b:Nat)(K:MK κ)(l:List (κ×Value))(E:ak)(H R:List ak)[h:B6 b H κ K l R]:B6 b (E::H) κ K l (E::R):=⟨(h.perm.cons E).trans (.swap ..)⟩
omit [DecidableEq κ]in
theorem St.makeMap (K:MK κ)(hd:Nat.ble (d+1) n=true)(h:∀b,St n ((d,.map (some b))::F) (Mm c (aW b (eW K [])::H)) (wpList P ops Q rest)):
 St n F (Mm c H) (wpList P ops Q ({dst:=some d,op:= .makeMap t none,type:=ty,pos:=pos,after:=after,guard:=none}::rest)):=by
 refine St.QS (K:=λu H'=>∃b,u= .map (some b)∧H'=aW b (eW K [])::H) ?_ hd ?_
 ·intro a w ρ e hm
  refine⟨.value (.map (some w.heap.size)),w.alloc (.map #[] 0),ρ,_,?_,⟨_,.inl rfl,_,rfl,rfl⟩,hm.alloc _⟩
  simp[execOp,RowKit.run_makeMap]
 ·rintro _ _ ⟨b,rfl,rfl⟩
  exact h b
theorem PB {zv:Value}{w:World}(hz:(P.info? et).bind (·.zero)=some zv):(zeroValue et).run P w= .ok zv w:=by
 obtain⟨i,b,a⟩:=pN.1 hz
 simp[zeroValue,typeInfo,b,a]
theorem zX (K:MK κ){l:List (κ×Value)}{b:Nat}{k:κ}{zv:Value}{w:World}(ok:Bool)(ht:P.underlying t=some (.map kt et))(hk:P.underlying kt=some K.kd)(hz:(P.info? et).bind (·.zero)=some zv)(a:w.heap[b]?=some (eW K l)):
 (Instr.lookup t (.map (some b)) (K.enc k) ok).run P w= .ok (if ok then .tuple #[(qP l k).getD zv,.bool (qP l k).isSome]else(qP l k).getD zv) w:=by
 have h1:=MapKept.run_findKey (w:=w) hk (ni K k l 0 0)
 have c:=PB (P:=P) (w:=w) hz
 have d:=MapKept.run_getObj_map (P:=P) a
 have e:=MapKept.run_checkKey (w:=w) hk (K.key k) (kQ K l 0).toArray.isEmpty 9999
 simp only[Instr.lookup,Sem.run_bind,run_underlying ht,Result.andThen_ok,d,Sem.run_pure,e,h1,←Sr l k 0]
 cases hm:OC l k 0 with
 |none=>simp[c]
 |some p=>simp
theorem Ev.lookup (K:MK κ){l:List (κ×Value)}{b:Nat}{k:κ}{zv:Value}[e:VL b H κ K l](hx:ah F x (.map (some b)))(hy:ah F y (K.enc k))(ht:P.underlying t=some (.map kt et))(hk:P.underlying kt=some K.kd)(hz:(P.info? et).bind (·.zero)=some zv):
 Ev P n F (Mm c H) (.lookup t x y false) ty ((qP l k).getD zv):= .of_run λa w d hw=>by
 obtain⟨ρ,hm⟩:=hw.out
 have:=zX (P:=P) K (k:=k) false ht hk hz (fq.1 (hm.dM _ e.mem))
 simp[execOp,hx.eval d,hy.eval d,this]
theorem Ev.tn (K:MK κ){l:List (κ×Value)}{b:Nat}{k:κ}{zv:Value}[e:VL b H κ K l](hx:ah F x (.map (some b)))(hy:ah F y (K.enc k))(ht:P.underlying t=some (.map kt et))(hk:P.underlying kt=some K.kd)(hz:(P.info? et).bind (·.zero)=some zv):
 Ev P n F (Mm c H) (.lookup t x y true) ty (.tuple #[(qP l k).getD zv,.bool (qP l k).isSome]):= .of_run λa w d hw=>by
 obtain⟨ρ,hm⟩:=hw.out
 have:=zX (P:=P) K (k:=k) true ht hk hz (fq.1 (hm.dM _ e.mem))
 simp[execOp,hx.eval d,hy.eval d,this]
omit [DecidableEq κ]in
theorem Np (K:MK κ)(k:κ)(w:World):(Instr.keyThatStays (K.enc k) (K.enc k)).run P w= .ok (K.enc k) w:=by
 simp[Instr.keyThatStays,K.bits k]
theorem Ap (K:MK κ){l:List (κ×Value)}{b:Nat}{k:κ}{w:World}(ht:P.underlying t=some (.map kt et))(hk:P.underlying kt=some K.kd)(a:w.heap[b]?=some (eW K l)):
 (Instr.mapUpdate t (.map (some b)) (K.enc k) v).run P w= .ok () {w with heap:=w.heap.setIfInBounds b (eW K (l8 l k v))}:=by
 have h1:=MapKept.run_findKey (w:=w) hk (ni K k l 0 0)
 have f:=MapKept.run_getObj_map (P:=P) a
 have g:=MapKept.run_checkKey (w:=w) hk (K.key k) false 9999
 simp only[Instr.mapUpdate,Sem.run_bind,run_underlying ht,Result.andThen_ok,f,g,h1]
 cases hm:OC l k 0 with
 |none=>
  have e:eW K (l8 l k v)= .map ((kQ K l 0).toArray.push {key:=K.enc k,val:=v,born:=l.length}) (l.length+1):=by
   rw[LB hm]
   simp[eW,zB]
  rw[e];exact MapKept.run_setObj_map (P:=P) _ a
 |some p=>
  obtain⟨j,u⟩:=p;obtain⟨_,m,d,h,i⟩:=BQ (K:=K) (v:=v) 0 hm
  have e:eW K (l8 l k v)= .map ((kQ K l 0).toArray.modify j λe=>{e with key:=K.enc k,val:=v}) l.length:=by
   unfold eW;rw[h,i]
   simp
  rw[e]
  have c:(((kQ K l 0).toArray[j]?).map (·.key)).getD (K.enc k)=K.enc k:=by
   simp only[Nat.sub_zero]at d
   simp[d]
  simp only[c,Sem.run_bind,Np,Result.andThen_ok]
  exact MapKept.run_setObj_map (P:=P) _ a
theorem St.mapUpdate (K:MK κ){l:List (κ×Value)}{b:Nat}{k:κ}[tk:B6 b H κ K l R](hx:ah F x (.map (some b)))(hy:ah F y (K.enc k))(hz:ah F z v)(ht:P.underlying t=some (.map kt et))(hk:P.underlying kt=some K.kd)
 (h:St n F (Mm c (aW b (eW K (l8 l k v))::R)) (wpList P ops Q rest)):
 St n F (Mm c H) (wpList P ops Q ({dst:=none,op:= .mapUpdate t x y z,type:=ty,pos:=pos,after:=after,guard:=none}::rest)):=by
 refine St.lq (K:=λu H'=>H'=aW b (eW K (l8 l k v))::R) ?_ ?_
 ·intro a w ρ d hm
  have f:=hm.perm tk.perm
  have g:=fq.1 (f.dM _ (aQ ..))
  have p:=Ap (P:=P) K (k:=k) (v:=v) ht hk g
  refine⟨.skip,{w with heap:=w.heap.setIfInBounds b (eW K (l8 l k v))},ρ,_,?_,⟨_,.inr ⟨rfl,rfl⟩,rfl⟩,?_⟩
  ·simp[execOp,hx.eval d,hy.eval d,hz.eval d,p]
  ·have i:=MapKept.heap_set (o':=eW K (l8 l k v)) g
   refine f.alter rfl ⟨rfl,aR _⟩ rfl (by simp) (λj q m=> ?_) (fq.2 i.1) (λr o=>by rw[iZ]at o⊢;exact .inl o);rw[iZ]at m;exact i.2 j (λe=>m (by rw[e]))
 ·rintro _ _ rfl
  exact h
omit [DecidableEq κ]in
end
section
variable {n:Nat}{F:Fr}{c:Ctx}{H R:List ak}{T:Act→World→Prop}
theorem St.jQ {ι:Sort _}(d:du)[hd:lT d H](L:ι→List du)(h:∀ρ,d.f ρ→∃x,∀e∈L x,e.f ρ)(k:∀x,St n F (Mm c ((L x).map aB++H)) T):St n F (Mm c H) T:=by
 intro a w b hw;obtain⟨ρ,hm⟩:=hw.out;obtain⟨x,hx⟩:=h ρ (dA.1 (hm.dM _ hd.mem));exact k x a w b (Mm.mk (hm.AV (L x) hx))
theorem St.ea (d:du)(L:List du)[hd:kY L H](h:∀ρ,(∀e∈L,e.f ρ)→d.f ρ)(k:St n F (Mm c (aB d::H)) T):St n F (Mm c H) T:=
 St.fact d (λρ w hm=>h ρ λe he=>dA.1 (hm.dM _ (hd.mem e he))) k
def oI {α:Type}(Rr:Rp α)(v:Value)(l:List (List α)):du:=⟨λρ=>∃vs:List aV,vs.length=l.length∧(sl bN v vs).f ρ∧(j8 Rr vs l).f ρ,
 λρ jq h ⟨vs,h1,a,b⟩=>⟨vs,h1,(sl bN v vs).mono _ _ h a,(j8 Rr vs l).mono _ _ h b⟩⟩
class KA (v:Value)(H:List ak)(α:outParam Type)(R:outParam (Rp α))(xs:outParam (List (List α))):Prop where
 mem:aB (oI R v xs)∈H
instance (priority:=high) KA.here {α:Type}(v:Value)(R:Rp α)(xs:List (List α))(H:List ak):KA v (aB (oI R v xs)::H) α R xs:=⟨aQ ..⟩
instance KA.there {α:Type}(v:Value)(R:Rp α)(xs:List (List α))(E:ak)(H:List ak)[h:KA v H α R xs]:KA v (E::H) α R xs:=⟨cO _ h.mem⟩
theorem St.nu {α:Type}{Rr:Rp α}{l:List (List α)}(v:Value)[hd:KA v H α Rr l](k:∀vs:List aV,vs.length=l.length→St n F (Mm c (aB (sl bN v vs)::aB (J.j8 Rr vs l)::H)) T):St n F (Mm c H) T:=by
 intro a w b hw;obtain⟨ρ,hm⟩:=hw.out;obtain⟨vs,h1,d,e⟩:=dA.1 (hm.dM _ hd.mem);exact k vs h1 a w b (Mm.mk ((hm.fact _ e).fact _ d))
theorem St.L9 {α:Type}{Rr:Rp α}{l:List (List α)}(v:Value){vs:List aV}[h1:lT (sl bN v vs) H][a:lT (J.j8 Rr vs l) H](b:vs.length=l.length)(k:St n F (Mm c (aB (oI Rr v l)::H)) T):St n F (Mm c H) T:=
 St.fact (oI Rr v l) (λρ w hm=>⟨vs,b,dA.1 (hm.dM _ h1.mem),dA.1 (hm.dM _ a.mem)⟩) k
theorem Oh {α:Type}{Rr:Rp α}{vs:List aV}{gb:List (List α)}{u:aV}{x:List α}{ρ:Ro}(h:(J.j8 Rr vs gb).f ρ)(hu:(sl Rr u.1 x).f ρ)(g:vs.length=gb.length):(J.j8 Rr (vs++ [u]) (gb++ [x])).f ρ:=by
 intro i d e h1 a
 rcases eP i vs.length with b|b
 ·rw[oa b]at h1
  rw[oa (by omega)]at a;exact h i d e h1 a
 ·rw[lg b]at h1
  rw[lg (by omega)]at a
  have c:i-vs.length=0:=by
   have:=(fA.1 h1).1
   simp at this;omega
  rw[c]at h1;rw[show i-gb.length=0 by omega]at a
  simp only[List.getElem?_cons_zero,Option.some.injEq]at h1 a
  subst h1 a;exact hu
theorem St.JP {α:Type}{Rr:Rp α}(vs:List aV)(u:aV){x:List α}{gb:List (List α)}[h1:Tx vs H α Rr gb][a:sI u.1 H α Rr x](b:vs.length=gb.length)(k:St n F (Mm c (aB (J.j8 Rr (vs++ [u]) (gb++ [x]))::H)) T):St n F (Mm c H) T:=
 St.fact _ (λρ w hm=>Oh (dA.1 (hm.dM _ h1.mem)) (dA.1 (hm.dM _ a.mem)) b) k
theorem cS {α:Type}{xs:List α}{x:α}:xs.length+1=(xs++ [x]).length:=by rw[bR];rfl
theorem St.FJ {α:Type}{Rr:Rp α}(vs:List aV){gb:List (List α)}[h1:Tx vs H α Rr gb](h:vs.length=gb.length)(k:(∀xs∈gb,∀x∈xs,Rr.wf x)→St n F (Mm c H) T):St n F (Mm c H) T:=by
 intro a w d hw;obtain⟨ρ,hm⟩:=hw.out;refine k (λxs b x hx=> ?_) a w d hw;obtain⟨i,e,he⟩:=GA.1 b
 have f:i<vs.length:=by omega
 obtain⟨_,_,_,_,_,g,_⟩:=dA.1 (hm.dM _ h1.mem) i vs[i] xs (bU f) (by rw[bU e,he]);exact g x hx
theorem St.Og {α:Type}(Rr:Rp α)(k:St n F (Mm c (aB (J.j8 Rr [] [])::H)) T):St n F (Mm c H) T:=
 St.fact _ (λ_ _ _=>show(J.j8 Rr [] []).f _ from λi u l hu=>by simp at hu) k
theorem St.fp {α:Type}(Rr:Rp α)(k:St n F (Mm c (aB (sl Rr (.slice none 0 0) [])::H)) T):St n F (Mm c H) T:=St.fact _ (λ_ _ _=>sZ Rr _) k
end
section
variable {P:Program}{Q:Exit→Act→World→Prop}{n:Nat}{F:Fr}{c:Ctx}{H Fp:List ak}
theorem SW.split {ops:Array Oper}{r:List ak}{f:Nat}{listed:Array Bool}(k:Nat)(b:Bool)(hk:look F k=some (.bool b))(ht:b=true→SW P ops Q n ((k,.bool true)::F) c Fp r f listed)(a:b=false→SW P ops Q n ((k,.bool false)::F) c Fp r f listed):SW P ops Q n F c Fp r f listed:=by
 cases b with
 |true=>exact SW.slot k (.bool true) hk rfl (ht rfl)
 |false=>exact SW.slot k (.bool false) hk rfl (a rfl)
theorem St.alJ {id:Nat}{l:List Oper}(L:List ak)[tk:eV L H Fp](hm:P.follows .mixedOrders=true)
 (h:SW P l.toArray Q n F c Fp L l.length (Array.replicate l.length false)):St n F (Mm c H) ((Code.region id l.toArray true).wp P Q):=by
 intro a w b hw;refine wp_region_any hm ?_
 have h1:=h a b
 have d:Mm c (Fp++L) {w with drawn:=w.drawn+1}:=by
  obtain⟨ρ,k⟩:=((Mm.drawn c H) w hw).out;exact Mm.mk (k.perm (tk.perm.trans jX))
 simpa using WR.any (C:=λR=>Mm c (Fp++R)) l.length _ a L _ d h1
end
section
variable {P:Program}{Q:Exit→Act→World→Prop}{n:Nat}{F:Fr}{c:Ctx}{H Fp r:List ak}
theorem St.dc {id:Nat}{l:List Oper}(L:List ak)[tk:eV L H Fp](hm:P.follows .mixedOrders=true)
 (h:NP Q→Region.noSelect l.toArray=true→SW P l.toArray Q n F c Fp L l.length (Array.replicate l.length false)) (a:NP Q:=by repeat(first|refine NP.then ?_|refine NP.inBlock ?_|exact NP.body)) (b:Region.noSelect l.toArray=true:=by kernel_rfl):St n F (Mm c H) ((Code.region id l.toArray true).wp P Q):=
 St.alJ L hm (h a b)
theorem St.pA {id:Nat}{l:List Oper}(bs:List Nat)[tk:yI bs H r Fp](hm:P.follows .mixedOrders=true)
 (h:NP Q→Region.noSelect l.toArray=true→SW P l.toArray Q n F c Fp r l.length (Array.replicate l.length false)) (a:NP Q:=by repeat(first|refine NP.then ?_|refine NP.inBlock ?_|exact NP.body)) (b:Region.noSelect l.toArray=true:=by kernel_rfl):St n F (Mm c H) ((Code.region id l.toArray true).wp P Q):=
 St.par bs hm (h a b)
end
end Go.J
namespace Go.J
open Go Go.ChangeShapes Go.WideShapes Go.ChangeAt Go.RowKit Go.Deep
section
variable {H:Type}{enc:TypeId×Value→H}{P:Program}{W:World}{α:Type}
def Uo (Rr:Rp α)(W:World):Rp (aV×List α):=⟨1,by decide,λx=>[x.1.1],λx=>(sl Rr x.1.1 x.2).f (J.all W),λ_=>rfl,λx u h=>by simp at h;subst h;exact x.1.2⟩
theorem OI (Rr:Rp α){t e ee:TypeId}{v:Value}{d:DataW H}{p:List MemPlace}{o:Nat}(ht:P.underlying t=some (.slice e))(r:P.cellsOf e=1)(he:P.underlying e=some (.slice ee))(g:P.cellsOf ee=Rr.size)
 (s:∀(n:Nat) (cs:List Value) (y:DataW H×List MemPlace),cs.length=Rr.size→DataW.trod enc P W 0 (λ_=>true) true n ee cs=some y→nX (y.1.weights P ee)=true→∃x:α,cs=Rr.cells x∧Rr.wf x)
 (w:Value.okWide P W .any o t v) (z:nX (d.weights P t)=true) (h:DataW.Trod enc P W 0 (λ_=>true) true t v d p):∃xs:List (List α),(oI Rr v xs).f (J.all W)∧((d= .nil∧xs=[])∨∃es sp,d= .slice es sp∧es.length=xs.length):=by
 obtain⟨xs,h1,A⟩:=TL (Uo Rr W) ht r (λn cs y _ hy hw=>by
  obtain⟨v,xs,B,e2,D,_⟩:=FZ Rr he g s hw (d:=y.1) (p:=y.2) hy
  exact⟨(⟨v,e2⟩,xs),B,D⟩) w z h
 have k:∀l:List (aV×List α),rows (Uo Rr W) l=rows bN (l.map Prod.fst):=by
  intro l
  induction l with
  |nil=>rfl
  |cons x l m=>simp only[rows,List.flatMap_cons,List.map_cons]at m⊢;rw[m];rfl
 refine⟨xs.map Prod.snd,⟨xs.map Prod.fst,by simp,?_,?_⟩,?_⟩
 ·obtain⟨a,cap,g1,g2,g3,g4,g5⟩:=h1
  refine⟨a,cap,by rw[aO];exact g1,by rw[aO];exact g2,g3,λ_ _=>trivial,?_⟩
  rcases g5 with rfl|⟨b,off,C,E,fr,F,G,I⟩
  ·exact .inl rfl
  ·exact .inr ⟨b,off,C,E,fr,F,G,λj u K=>I j u (by rw[k];exact K)⟩
 ·obtain⟨a,cap,_,_,_,g4,_⟩:=h1
  intro i u l hu c;rw[bQ]at hu c
  cases hx:xs[i]? with
  |none=>rw[hx]at hu;cases hu
  |some x=>
   rw[hx]at hu c
   simp only[Option.map_some,Option.some.injEq]at hu c
   subst hu c;exact g4 x (aZ hx)
 ·rcases A with⟨q,rfl⟩|⟨es,sp,q,c⟩
  ·exact .inl ⟨q,rfl⟩
  ·exact .inr ⟨es,sp,q,by rw[aO];exact c⟩
end
theorem G3 {P : Program} {W : World} {g3 g4 k u m n : Nat} {o : Array Field} (n3 : P.globalNamed "unicode/utf8.first" = some g3) (n4 : P.globalNamed "unicode/utf8.acceptRanges" = some g4)
 (y3:(P.globals[g3]?).map (·.type)=some k) (y4:(P.globals[g4]?).map (·.type)=some u) (t3:P.underlying k=some (.array 256 m)) (t5:P.underlying m=some (.int .u8)) (t4:P.underlying u=some (.array 16 n)) (ts:P.underlying n=some (.struct o))
 (x:∀(i:Nat) (f:Field),o[i]?=some f→P.underlying f.type=some (.int .u8)∧f.offset=i∧P.cellsOf f.type=1) (r:o.size=2) (c5:P.cellsOf m=1) (c3:P.cellsOf k=256) (cs:P.cellsOf n=2)
 {l : List (String × DataW Unit)} (h : laidMetH P l W) (hp : (laidMetH P l W) = laidMet P l W) (m3 : ("unicode/utf8.first", Lib.firstData) ∈ l) (m4 : ("unicode/utf8.acceptRanges", Lib.acceptData) ∈ l) : Lib.Utf8Tabs g3 g4 W := by
 rw[hp]at h
 have y:=Lib.laidMet.reads h m3
 have z:=Lib.laidMet.reads h m4
 refine⟨λc A=> ?_,λi v=> ?_⟩
 ·obtain⟨g,t,cs,fuel,p,a,s,e,hd⟩:=y
  obtain rfl:=Option.some.inj (n3.symm.trans a);obtain rfl:=Option.some.inj (y3.symm.trans s)
  have j:=Lib.cells_of_tab t3 t5 c5 c3 hd
  have:=World.var?_cell a e c
  rw[this,←QJ,j]
  simp[Lib.firstTab,A]
 ·obtain⟨g,t,cells,fuel,p,a,s,e,hd⟩:=z
  obtain rfl:=Option.some.inj (n4.symm.trans a);obtain rfl:=Option.some.inj (y4.symm.trans s);obtain⟨B,d,q,b,he⟩:=Lib.array_elem t4 hd i v
  simp only[List.getElem?_map,List.getElem?_range v,Option.map_some,Option.some.injEq]at b
  subst b;rw[cs]at he
  have j:=Lib.ints_of_struct ts x (by rw[cs,r]) he
  have e0:=congrArg (·[0]?) j
  have w:=congrArg (·[1]?) j
  simp only[List.getElem?_take,List.getElem?_drop]at e0 w
  constructor
  ·rw[World.var?_cell a e (2*i),←QJ]
   simpa[Nat.mul_comm]using e0
  ·rw[World.var?_cell a e (2*i+1),←QJ]
   simpa[Nat.mul_comm]using w
theorem yX {W w:World}(h:∀(k:Nat) (o:Obj),W.heap[k]?=some o→w.heap[k]?=some o){g o:Nat}{v:Value}(a:W.cell? ⟨g,o,none⟩=some v):w.cell? ⟨g,o,none⟩=some v:=by
 obtain⟨_,C,e,fr,b,c⟩:=jg a
 rw[cV (h _ _ b)];exact c
theorem Da {W w:World}{g3 g4:Nat}(h:Lib.Utf8Tabs g3 g4 W)(hw:∀(k:Nat) (o:Obj),W.heap[k]?=some o→w.heap[k]?=some o):Lib.Utf8Tabs g3 g4 w:=
 ⟨λc b=>yX hw (h.1 c b),λi a=>⟨yX hw (h.2 i a).1,yX hw (h.2 i a).2⟩⟩
end Go.J
