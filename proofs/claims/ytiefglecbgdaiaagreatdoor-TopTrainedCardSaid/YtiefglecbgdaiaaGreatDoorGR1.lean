/-
  Laws of walks through programs, and facts on grammars, trees and queries.
  Conditions: none.
-/
import Derived.WalkKit
import Derived.Deep.Quiet
import Derived.Deep.LoopGhost
import Derived.Laws.StructEq
import Derived.ProofKit
import Derived.OpenShut
import Derived.JoinedCond
import Derived.Carry
import Derived.Deep.Slices
import Derived.SizedLaws
import Derived.Still
import Derived.MapKept
set_option linter.unusedVariables false
set_option linter.unusedSimpArgs false
namespace Go
theorem kp:type_of% @Array.getD_eq_getD_getElem?.{0}:= @Array.getD_eq_getD_getElem?
theorem py:type_of% @Array.getElem?_eq_getElem.{0}:= @Array.getElem?_eq_getElem
theorem SF:type_of% @Array.getElem?_eq_none.{0}:= @Array.getElem?_eq_none
theorem od:type_of% @Array.getElem?_eq_some_iff.{0}:= @Array.getElem?_eq_some_iff
theorem H9:type_of% @Array.getElem?_setIfInBounds.{0}:= @Array.getElem?_setIfInBounds
theorem Jg:type_of% @Array.getElem?_toList.{0}:= @Array.getElem?_toList
theorem HD:type_of% @BitVec.ofInt_natCast:= @BitVec.ofInt_natCast
theorem HE:type_of% @BitVec.toNat_ofNat:= @BitVec.toNat_ofNat
theorem nQ:type_of% @Bool.and_eq_true:= @Bool.and_eq_true
theorem HG:type_of% @Bool.eq_iff_iff:= @Bool.eq_iff_iff
theorem eY:type_of% @Decidable.not_not:= @Decidable.not_not
theorem jI:type_of% @Eq.symm.{1}:= @Eq.symm
theorem xP:type_of% @Int.toNat_natCast:= @Int.toNat_natCast
theorem vG:type_of% @Int.toNat_of_nonneg:= @Int.toNat_of_nonneg
theorem xQ:type_of% @List.Pairwise.imp_of_mem.{0}:= @List.Pairwise.imp_of_mem
theorem Cy:type_of% @List.Perm.append_left.{0}:= @List.Perm.append_left
theorem fY:type_of% @List.all_eq_true.{0}:= @List.all_eq_true
theorem An:type_of% @List.any_eq_true.{0}:= @List.any_eq_true
theorem dg:type_of% @List.append_assoc.{0}:= @List.append_assoc
theorem ib:type_of% @List.append_nil.{0}:= @List.append_nil
theorem se:type_of% @List.cons_append.{0}:= @List.cons_append
theorem sf:type_of% @List.countP_cons.{0}:= @List.countP_cons
theorem LN:type_of% @List.countP_eq_length_filter.{0}:= @List.countP_eq_length_filter
theorem iy:type_of% @List.drop_of_length_le.{0}:= @List.drop_of_length_le
theorem ka:type_of% @List.eq_nil_of_length_eq_zero.{0}:= @List.eq_nil_of_length_eq_zero
theorem Ao:type_of% @List.eq_of_mem_replicate.{0}:= @List.eq_of_mem_replicate
theorem nN:type_of% @List.ext_getElem?.{0}:= @List.ext_getElem?
theorem qF:type_of% @List.flatMap_append.{0,0}:= @List.flatMap_append
theorem iQ:type_of% @List.flatMap_cons.{0,0}:= @List.flatMap_cons
theorem rK:type_of% @List.foldl_append.{0,0}:= @List.foldl_append
theorem jX:type_of% @List.foldl_cons.{0,0}:= @List.foldl_cons
theorem ax:type_of% @List.getD_eq_getElem?_getD.{0}:= @List.getD_eq_getElem?_getD
theorem rL:type_of% @List.getElem?_append_left.{0}:= @List.getElem?_append_left
theorem nO:type_of% @List.getElem?_append_right.{0}:= @List.getElem?_append_right
theorem sg:type_of% @List.getElem?_cons_succ.{0}:= @List.getElem?_cons_succ
theorem Ap:type_of% @List.getElem?_drop.{0}:= @List.getElem?_drop
theorem bT:type_of% @List.getElem?_eq_getElem.{0}:= @List.getElem?_eq_getElem
theorem iR:type_of% @List.getElem?_eq_none.{0}:= @List.getElem?_eq_none
theorem fj:type_of% @List.getElem?_eq_some_iff.{0}:= @List.getElem?_eq_some_iff
theorem bJ:type_of% @List.getElem?_map.{0,0}:= @List.getElem?_map
theorem Cz:type_of% @List.getElem?_of_mem.{0}:= @List.getElem?_of_mem
theorem nP:type_of% @List.getElem?_range:= @List.getElem?_range
theorem si:type_of% @List.getElem?_replicate.{0}:= @List.getElem?_replicate
theorem iz:type_of% @List.getElem?_set_ne.{0}:= @List.getElem?_set_ne
theorem ic:type_of% @List.getElem?_set_self.{0}:= @List.getElem?_set_self
theorem sj:type_of% @List.getElem?_take.{0}:= @List.getElem?_take
theorem gl:type_of% @List.getElem_mem.{0}:= @List.getElem_mem
theorem cA:type_of% @List.length_append.{0}:= @List.length_append
theorem fL:type_of% @List.length_cons.{0}:= @List.length_cons
theorem Aq:type_of% @List.length_drop.{0}:= @List.length_drop
theorem aO:type_of% @List.length_map.{0,0}:= @List.length_map
theorem qG:type_of% @List.length_modify.{0}:= @List.length_modify
theorem kF:type_of% @List.length_range:= @List.length_range
theorem mI:type_of% @List.length_replicate.{0}:= @List.length_replicate
theorem D0:type_of% @List.length_reverse.{0}:= @List.length_reverse
theorem ep:type_of% @List.length_set.{0}:= @List.length_set
theorem eR:type_of% @List.length_take.{0}:= @List.length_take
theorem cY:type_of% @List.map_append.{0,0}:= @List.map_append
theorem sk:type_of% @List.map_congr_left.{0,0}:= @List.map_congr_left
theorem fM:type_of% @List.map_cons.{0,0}:= @List.map_cons
theorem jJ:type_of% @List.map_map.{0,0,0}:= @List.map_map
theorem kb:type_of% @List.map_nil.{0,0}:= @List.map_nil
theorem rM:type_of% @List.map_replicate.{0,0}:= @List.map_replicate
theorem mJ:type_of% @List.map_set.{0,0}:= @List.map_set
theorem ca:type_of% @List.mem_append.{0}:= @List.mem_append
theorem ke:type_of% @List.mem_append_left.{0}:= @List.mem_append_left
theorem kz:type_of% @List.mem_append_right.{0}:= @List.mem_append_right
theorem cN:type_of% @List.mem_cons.{0}:= @List.mem_cons
theorem cO:type_of% @List.mem_cons_of_mem.{0}:= @List.mem_cons_of_mem
theorem aR:type_of% @List.mem_cons_self.{0}:= @List.mem_cons_self
theorem Ar:type_of% @List.mem_iff_getElem.{0}:= @List.mem_iff_getElem
theorem cS:type_of% @List.mem_map.{0,0}:= @List.mem_map
theorem dh:type_of% @List.mem_map_of_mem.{0,0}:= @List.mem_map_of_mem
theorem aY:type_of% @List.mem_of_getElem?.{0}:= @List.mem_of_getElem?
theorem D1:type_of% @List.mem_of_mem_drop.{0}:= @List.mem_of_mem_drop
theorem Au:type_of% @List.mem_of_mem_take.{0}:= @List.mem_of_mem_take
theorem lV:type_of% @List.mem_or_eq_of_mem_set.{0}:= @List.mem_or_eq_of_mem_set
theorem dM:type_of% @List.mem_range:= @List.mem_range
theorem ba:type_of% @List.mem_singleton.{0}:= @List.mem_singleton
theorem sm:type_of% @List.mem_singleton_self.{0}:= @List.mem_singleton_self
theorem xR:type_of% @List.nil_append.{0}:= @List.nil_append
theorem sq:type_of% @List.pairwise_append.{0}:= @List.pairwise_append
theorem jq:type_of% @List.pairwise_cons.{0}:= @List.pairwise_cons
theorem su:type_of% @List.pairwise_map.{0,0}:= @List.pairwise_map
theorem D2:type_of% @List.pairwise_singleton.{0}:= @List.pairwise_singleton
theorem kf:type_of% @List.perm_append_comm.{0}:= @List.perm_append_comm
theorem qH:type_of% @List.perm_middle.{0}:= @List.perm_middle
theorem vH:type_of% @List.range_succ:= @List.range_succ
theorem oE:type_of% @List.set_append_right.{0}:= @List.set_append_right
theorem HF:type_of% @List.set_cons_succ.{0}:= @List.set_cons_succ
theorem Av:type_of% @List.set_cons_zero.{0}:= @List.set_cons_zero
theorem D3:type_of% @List.singleton_append.{0}:= @List.singleton_append
theorem pK:type_of% @List.sum_cons.{0}:= @List.sum_cons
theorem nR:type_of% @List.take_append_drop.{0}:= @List.take_append_drop
theorem iT:type_of% @List.take_length.{0}:= @List.take_length
theorem fZ:type_of% @List.take_of_length_le.{0}:= @List.take_of_length_le
theorem LO:type_of% @List.take_succ_eq_append_getElem.{0}:= @List.take_succ_eq_append_getElem
theorem pL:type_of% @List.take_zero.{0}:= @List.take_zero
theorem vI:type_of% @Nat.add_assoc:= @Nat.add_assoc
theorem jK:type_of% @Nat.add_mul:= @Nat.add_mul
theorem hY:type_of% @Nat.add_zero:= @Nat.add_zero
theorem nL:type_of% @Nat.eq_of_beq_eq_true:= @Nat.eq_of_beq_eq_true
theorem dS:type_of% @Nat.le_of_ble_eq_true:= @Nat.le_of_ble_eq_true
theorem aU:type_of% @Nat.le_refl:= @Nat.le_refl
theorem dH:type_of% @Nat.le_trans:= @Nat.le_trans
theorem oZ:type_of% @Nat.lt_of_le_of_lt:= @Nat.lt_of_le_of_lt
theorem fg:type_of% @Nat.lt_of_lt_of_le:= @Nat.lt_of_lt_of_le
theorem dI:type_of% @Nat.lt_or_ge:= @Nat.lt_or_ge
theorem il:type_of% @Nat.min_eq_left:= @Nat.min_eq_left
theorem fh:type_of% @Nat.mod_eq_of_lt:= @Nat.mod_eq_of_lt
theorem tZ:type_of% @Nat.mul_le_mul_left:= @Nat.mul_le_mul_left
theorem fC:type_of% @Nat.mul_le_mul_right:= @Nat.mul_le_mul_right
theorem fU:type_of% @Nat.mul_one:= @Nat.mul_one
theorem nM:type_of% @Nat.one_mul:= @Nat.one_mul
theorem Al:type_of% @Nat.pow_le_pow_right:= @Nat.pow_le_pow_right
theorem Am:type_of% @Nat.pow_lt_pow_right:= @Nat.pow_lt_pow_right
theorem gp:type_of% @Nat.sub_self:= @Nat.sub_self
theorem jH:type_of% @Nat.zero_add:= @Nat.zero_add
theorem aQ:type_of% @Nat.zero_le:= @Nat.zero_le
theorem rJ:type_of% @Nat.zero_mul:= @Nat.zero_mul
theorem oc:type_of% @Option.bind_eq_some_iff.{0,0}:= @Option.bind_eq_some_iff
theorem eE:type_of% @Option.map_eq_some_iff.{0,0}:= @Option.map_eq_some_iff
theorem tc:type_of% @beq_eq_false_iff_ne.{0}:= @beq_eq_false_iff_ne
theorem df:type_of% @decide_eq_false:= @decide_eq_false
theorem cX:type_of% @decide_eq_true:= @decide_eq_true
theorem gD:type_of% @decide_eq_true_eq:= @decide_eq_true_eq
theorem aA:type_of% @if_neg.{1}:= @if_neg
theorem aB:type_of% @if_pos.{1}:= @if_pos
theorem ly:type_of% @of_decide_eq_false:= @of_decide_eq_false
theorem im:type_of% @of_decide_eq_true:= @of_decide_eq_true
end Go
namespace Go.J
open Go
abbrev Fr:=List (Nat×Value)
def look:Fr→Nat→Option Value
 | [],_=>none
 |(k,v)::F,t=>bif Nat.beq t k then some v else look F t
def vl (F:Fr):Operand→Option Value
 | .tmp t=>look F t
 | .const v=>some v
 | .func f=>some (.func (.func f) #[] #[])
 | .global g=>some (.pointer (some ⟨g,0,none⟩))
structure Has (n:Nat)(a:Act)(F:Fr):Prop where
 size:a.tmps.size=n
 defers:a.defers=[]
 slot:∀t v,look F t=some v→a.tmps[t]?=some v
theorem Has.eval {n:Nat}{a:Act}{F:Fr}{x:Operand}{v:Value}(h:Has n a F)(hx:vl F x=some v):a.eval x=v:=by
 cases x with
 |tmp t=>simp only[vl]at hx;simp[Act.eval,Array.getD_eq_getD_getElem?,h.slot _ _ hx]
 |const u=>simp only[vl,Option.some.injEq]at hx;exact hx
 |func f=>simp only[vl,Option.some.injEq]at hx;exact hx
 |global g=>simp only[vl,Option.some.injEq]at hx;exact hx
theorem Has.put {n:Nat}{a:Act}{F:Fr}(h:Has n a F){d:Nat}(hd:d<n)(v:Value):Has n (a.put (some d) v) ((d,v)::F):=by
 refine⟨by simp[Act.put,h.size],by simp[Act.put,h.defers],λt u hu=> ?_⟩
 simp only[look]at hu
 cases b:Nat.beq t d with
 |true=>
  have e:t=d:=nL b
  subst e
  simp only[b,cond_true,Option.some.injEq]at hu
  subst hu
  simp[Act.put,h.size,hd]
 |false=>
  have e:t≠d:=Nat.ne_of_beq_eq_false b
  simp only[b,cond_false]at hu
  simp[Act.put,Ne.symm e,h.slot _ _ hu]
theorem Has.QR {n:Nat}{a:Act}{F:Fr}(h:Has n a F)(v:Value):Has n (a.put none v) F:=h
def Sub:Fr→Fr→Prop
 | [],_=>True
 |(k,v)::a,F=>look F k=some v∧Sub a F
theorem Sub.look {b F:Fr}(h:Sub b F):∀t v,look b t=some v→J.look F t=some v:=by
 induction b with
 |nil=>intro t v a;simp[J.look]at a
 |cons p b d=>
  obtain⟨k,u⟩:=p;intro t v a
  simp only[J.look]at a
  cases c:Nat.beq t k with
  |true=>
   have e:t=k:=nL c
   subst e
   simp only[c,cond_true,Option.some.injEq]at a
   subst a;exact h.1
  |false=>
   simp only[c,cond_false]at a
   exact d h.2 t v a
theorem Has.sub {n:Nat}{a:Act}{F b:Fr}(h:Has n a F)(c:Sub b F):Has n a b:=⟨h.size,h.defers,λt v d=>h.slot t v (c.look t v d)⟩
def St (n:Nat)(F:Fr)(A:World→Prop)(T:Act→World→Prop):Prop:=∀a w,Has n a F→A w→T a w
section
variable {P:Program}{n:Nat}{F:Fr}{A:World→Prop}{Q:Exit→Act→World→Prop}{ops:Array Oper}
theorem St.oY {A':World→Prop}{T:Act→World→Prop}(b:∀w,A w→A' w)(h:St n F A' T):St n F A T:=
 λa w c hw=>h a w c (b w hw)
theorem St.ex {ι:Sort _}{B:ι→World→Prop}{T:Act→World→Prop}(h:∀x,St n F (B x) T):St n F (λw=>∃x,B x w) T:=
 λa w b ⟨x,hx⟩=>h x a w b hx
theorem St.and {p:Prop}{T:Act→World→Prop}(h:p→St n F A T):St n F (λw=>p∧A w) T:=
 λa w b hw=>h hw.1 a w b hw.2
theorem St.seq {x y:Code}(h:St n F A (x.wp P (Exit.then (y.wp P Q) Q))):St n F A ((Code.seq x y).wp P Q):=
 λa w b hw=>wp_seq (h a w b hw)
theorem St.skip (h:St n F A (Q .normal)):St n F A (Code.skip.wp P Q):=λa w b hw=>wp_skip (h a w b hw)
theorem St.aoE (h:St n F A (Q .ret)):St n F A (Code.ret.wp P Q):=λa w b hw=>wp_ret (h a w b hw)
theorem St.exit {id:Nat}(h:St n F A (Q (.exit id))):St n F A ((Code.exit id).wp P Q):=λa w b hw=>wp_exit (h a w b hw)
theorem St.block {id:Nat}{c:Code}(h:St n F A (c.wp P (Exit.inBlock id Q))):St n F A ((Code.block id c).wp P Q):=
 λa w b hw=>wp_block (h a w b hw)
theorem St.cond {c:Operand}{x y:Code}(t:Bool)(d:vl F c=some (.bool t))(ht:t=true→St n F A (x.wp P Q))(e:t=false→St n F A (y.wp P Q)):
 St n F A ((Code.cond c x y).wp P Q):=
 λa w b hw=>wp_cond_split (b.eval d) (λh=>ht h a w b hw) (λh=>e h a w b hw)
theorem St.acP {c:Operand}{x y:Code}(t:Bool)(d:vl F c=some (.bool t))(h:t=true)(ht:St n F A (x.wp P Q)):
 St n F A ((Code.cond c x y).wp P Q):=
 λa w b hw=>wp_cond_true (by rw[b.eval d,h]) (ht a w b hw)
theorem St.uG {c:Operand}{x y:Code}(t:Bool)(d:vl F c=some (.bool t))(h:t=false)(e:St n F A (y.wp P Q)):
 St n F A ((Code.cond c x y).wp P Q):=
 λa w b hw=>wp_cond_false (by rw[b.eval d,h]) (e a w b hw)
theorem St.kC {K:Act→World→Prop}(h:St n F A K):St n F A (Exit.then K Q .normal):=h
theorem St.Mv {K:Act→World→Prop}{id:Nat}(h:St n F A (Q (.exit id))):St n F A (Exit.then K Q (.exit id)):=h
theorem St.RL {K:Act→World→Prop}(h:St n F A (Q .ret)):St n F A (Exit.then K Q .ret):=h
theorem St.MG {id:Nat}(h:St n F A (Q .normal)):St n F A (Exit.inBlock id Q .normal):=h
theorem St.Yf {id:Nat}(h:St n F A (Q .ret)):St n F A (Exit.inBlock id Q .ret):=h
theorem St.Ye {id:Nat}(h:St n F A (Q .normal)):St n F A (Exit.inBlock id Q (.exit id)):=by
 intro a w b hw
 simp only[Exit.inBlock,if_true]
 exact h a w b hw
theorem St.UM {id b:Nat}(c:Nat.beq b id=false)(h:St n F A (Q (.exit b))):St n F A (Exit.inBlock id Q (.exit b)):=by
 intro a w d hw
 simp only[Exit.inBlock,if_neg (Nat.ne_of_beq_eq_false c)]
 exact h a w d hw
theorem St.loop {ι:Type _}{body:Code}(c:ι→Fr)(d:ι→World→Prop)(μ:ι→Nat)(f:ι)(i:Sub (c f) F)(j:∀w,A w→d f w)
 (round:∀x,St n (c x) (d x) (body.wp P (Exit.then (λh w'=>∃y,μ y<μ x∧Has n h (c y)∧d y w') Q))):
 St n F A ((Code.loop body).wp P Q):=by
 intro a w m hw;refine wp_loop_ghost (λk a w=>∃x,μ x=k∧Has n a (c x)∧d x w) (μ f) ⟨f,rfl,m.sub i,j w hw⟩ ?_;rintro k a w ⟨x,rfl,hx,g⟩;refine wp_mono (round x a w hx g) ?_;intro e h w' b
 cases e with
 |normal=>obtain⟨y,h1,o,p⟩:=b;exact⟨μ y,h1,y,rfl,o,p⟩
 |exit id=>exact b
 |goto l=>exact b
 |ret=>exact b
 |panic ch=>exact b
 |outgrown=>exact b
theorem St.rg {id:Nat}{l:List Oper}(h:St n F A (wpList P l.toArray Q l)):St n F A ((Code.region id l.toArray false).wp P Q):=
 λa w b hw=>wp_region_lit (h a w b hw)
theorem St.nil (h:St n F A (Q .normal)):St n F A (wpList P ops Q []):=h
abbrev bare (op : Op) (ty : TypeId) : Oper := { dst := none, op := op, type := ty, pos := "", after := #[], guard := none }
theorem jA (ρ:Operand→Value)(o:Oper):execOp ρ o=execOp ρ (bare o.op o.type):=by
 obtain⟨d,op,ty,p,a,g⟩:=o
 cases op<;>rfl
def Ev (P:Program)(n:Nat)(F:Fr)(A:World→Prop)(op:Op)(ty:TypeId)(v:Value):Prop:=
 ∀a w,Has n a F→A w→Oper.quietUpon P A w v ((execOp a.eval (bare op ty)).run P w)
theorem Ev.quietAt {op:Op}{ty:TypeId}{v:Value}(h:Ev P n F A op ty v){d:Option Tmp}{pos:String}{after:Array Edge}{g:Option (Nat×Bool)}{a:Act}{w:World}
 (b:Has n a F) (hw:A w):({dst:=d,op:=op,type:=ty,pos:=pos,after:=after,guard:=g}:Oper).quietAt P a A w v:=by
 unfold Oper.quietAt;rw[jA];exact h a w b hw
theorem Ev.wp {op:Op}{ty:TypeId}{v:Value}(h:Ev P n F A op ty v){d:Option Tmp}{pos:String}{after:Array Edge}{g:Option (Nat×Bool)}{a:Act}{w:World}
 (c:Has n a F) (hw:A w) {K:Act→World→Prop} (hk:∀w',A w'→K (a.put d v) w'):
 ({dst:=d,op:=op,type:=ty,pos:=pos,after:=after,guard:=g}:Oper).wp P a w K Q:=by
 unfold Oper.wp Oper.upon;rw[jA]
 have b:=h a w c hw
 simp only at b⊢
 generalize (execOp a.eval (bare op ty)).run P w=r at b
 cases r with
 |ok f w'=>
  cases f<;>simp only[Oper.quietUpon]at b<;>(try exact b.elim)
  ·obtain⟨rfl,rfl⟩:=b;exact hk _ hw
  ·obtain⟨rfl,rfl⟩:=b;exact hk _ hw
  ·obtain⟨rfl,i⟩:=b
   exact i.mono λe j he=>by
    obtain⟨rfl,k⟩:=he;exact hk _ k
 |halt x w'=>simp only[Oper.quietUpon]at b
theorem hP {o:Oper}{rest:List Oper}{a:Act}{w:World}(b:o.guard=none)(h:o.wp P a w (wpList P ops Q rest) Q):wpList P ops Q (o::rest) a w:=by
 simp only[wpList,Region.wanted,b,if_true]
 exact .inl h
theorem St.ev {d:Nat}{op:Op}{ty:TypeId}{pos:String}{after:Array Edge}{rest:List Oper}(v:Value)(c:Ev P n F A op ty v)(hd:Nat.ble (d+1) n=true)
 (h:St n ((d,v)::F) A (wpList P ops Q rest)):
 St n F A (wpList P ops Q ({dst:=some d,op:=op,type:=ty,pos:=pos,after:=after,guard:=none}::rest)):=
 λa w b hw=>hP rfl (c.wp b hw λw' e=>h _ w' (b.put (dS hd) v) e)
@[irreducible] def gv (c:Bool)(v:Value):Value:=bif c then v else undef
theorem ga {c:Bool}(h:c=true)(v:Value):gv c v=v:=by unfold gv;simp[h]
theorem cQ {c:Bool}(h:c=false)(v:Value):gv c v=undef:=by unfold gv;simp[h]
def aa (F:Fr)(x:Operand)(v:Value):Prop:=∃u,vl F x=some u∧u=v
theorem aa.mk {x:Operand}{v:Value}(h:vl F x=some v):aa F x v:=⟨v,h,rfl⟩
theorem aa.gv {x:Operand}{v:Value}{c:Bool}(h:vl F x=some (gv c v))(a:c=true):aa F x v:=⟨_,h,ga a v⟩
theorem aa.eval {x:Operand}{v:Value}(h:aa F x v){a:Act}(b:Has n a F):a.eval x=v:=by
 obtain⟨u,h1,rfl⟩:=h;exact b.eval h1
theorem yk {a b:Bool}(h:a=true)(k:b=true):(a&&b)=true:=by simp[h,k]
def Xl:Value→Option Bool
 | .bool b=>some b
 |_=>none
theorem Je {l:Array Oper}{j dj:Nat}{u:Value}{tmps:Array Value}(a:(l[j]?).bind (·.dst)=some dj)(h:tmps[dj]?=some u):
 yielded l tmps j=Xl u:=by
 unfold yielded;rw[a]
 simp only[Option.bind_some,h]
 cases u<;>rfl
theorem pJ {l:Array Oper}{o:Oper}{j dj:Nat}{want c:Bool}{a:Act}{u:Value}(b:o.guard=some (j,want))(d:(l[j]?).bind (·.dst)=some dj)(h:a.tmps[dj]?=some u)
 (hu:(c=true→u= .bool want)∧(c=false→u= .bool (!want)∨u=undef)):Region.wanted o (yielded l a.tmps)=c:=by
 unfold Region.wanted;rw[b]
 simp only[]
 rw[Je d h]
 cases c with
 |true=>rw[hu.1 rfl];cases want<;>rfl
 |false=>
  rcases hu.2 rfl with h|h
  ·rw[h];cases want<;>rfl
  ·rw[h];cases want<;>rfl
theorem St.guarded {j:Nat}{want:Bool}{d:Nat}{op:Op}{ty:TypeId}{pos:String}{after:Array Edge}{rest:List Oper}(c:Bool){dj:Nat}{u:Value}(v:Value)
 (g:(ops[j]?).bind (·.dst)=some dj) (i:look F dj=some u) (hu:(c=true→u= .bool want)∧(c=false→u= .bool (!want)∨u=undef))
 (k:c=true→Ev P n F A op ty v) (hd:Nat.ble (d+1) n=true) (h:St n ((d,gv c v)::F) A (wpList P ops Q rest)):
 St n F A (wpList P ops Q ({dst:=some d,op:=op,type:=ty,pos:=pos,after:=after,guard:=some (j,want)}::rest)):=by
 intro a w b hw
 have f:=dS hd
 have m:=pJ (l:=ops) (o:={dst:=some d,op:=op,type:=ty,pos:=pos,after:=after,guard:=some (j,want)}) rfl g (b.slot _ _ i) hu
 simp only[wpList,m]
 cases e:c with
 |true=>
  rw[e]at h
  simp only[if_true]
  refine .inl ((k e).wp b hw λw' p=> ?_)
  have:=h _ w' (b.put f (gv true v)) p
  rwa[ga rfl]at this
 |false=>
  rw[e]at h
  have:=h _ w (b.put f (gv false v)) hw
  rw[cQ rfl]at this
  simpa using this
theorem YD (g:Bool):(g=true→Value.bool g= .bool true)∧(g=false→Value.bool g= .bool (!true)∨Value.bool g=undef):=by cases g<;>simp
theorem YC (g:Bool):((!g)=true→Value.bool g= .bool false)∧((!g)=false→Value.bool g= .bool (!false)∨Value.bool g=undef):=by cases g<;>simp
theorem W4 (c g:Bool):((c&&g)=true→J.gv c (.bool g)= .bool true)∧((c&&g)=false→J.gv c (.bool g)= .bool (!true)∨J.gv c (.bool g)=undef):=by
 cases c<;>cases g<;>simp[gv]
theorem ac1 (c g:Bool):((c&& !g)=true→J.gv c (.bool g)= .bool false)∧((c&& !g)=false→J.gv c (.bool g)= .bool (!false)∨J.gv c (.bool g)=undef):=by
 cases c<;>cases g<;>simp[gv]
section
variable {j:Nat}{d:Nat}{op:Op}{ty:TypeId}{pos:String}{after:Array Edge}{rest:List Oper}{dj:Nat}(v:Value)
theorem St.gt {g:Bool}(a:(ops[j]?).bind (·.dst)=some dj)(b:look F dj=some (.bool g))(c:g=true→Ev P n F A op ty v)(hd:Nat.ble (d+1) n=true)
 (h:St n ((d,gv g v)::F) A (wpList P ops Q rest)):
 St n F A (wpList P ops Q ({dst:=some d,op:=op,type:=ty,pos:=pos,after:=after,guard:=some (j,true)}::rest)):=St.guarded g v a b (YD g) c hd h
theorem St.gf {g:Bool}(a:(ops[j]?).bind (·.dst)=some dj)(b:look F dj=some (.bool g))(c:(!g)=true→Ev P n F A op ty v)(hd:Nat.ble (d+1) n=true)
 (h:St n ((d,gv (!g) v)::F) A (wpList P ops Q rest)):
 St n F A (wpList P ops Q ({dst:=some d,op:=op,type:=ty,pos:=pos,after:=after,guard:=some (j,false)}::rest)):=St.guarded (!g) v a b (YC g) c hd h
theorem St.CG {c g:Bool}(a:(ops[j]?).bind (·.dst)=some dj)(b:look F dj=some (gv c (.bool g)))(e:(c&&g)=true→Ev P n F A op ty v)(hd:Nat.ble (d+1) n=true)
 (h:St n ((d,gv (c&&g) v)::F) A (wpList P ops Q rest)):
 St n F A (wpList P ops Q ({dst:=some d,op:=op,type:=ty,pos:=pos,after:=after,guard:=some (j,true)}::rest)):=St.guarded (c&&g) v a b (W4 c g) e hd h
theorem St.Zy {c g:Bool}(a:(ops[j]?).bind (·.dst)=some dj)(b:look F dj=some (gv c (.bool g)))(e:(c&& !g)=true→Ev P n F A op ty v)(hd:Nat.ble (d+1) n=true)
 (h:St n ((d,gv (c&& !g) v)::F) A (wpList P ops Q rest)):
 St n F A (wpList P ops Q ({dst:=some d,op:=op,type:=ty,pos:=pos,after:=after,guard:=some (j,false)}::rest)):=St.guarded (c&& !g) v a b (ac1 c g) e hd h
end
def Sq (n:Nat)(F:Fr)(T:Act→Prop):Prop:=∀a,Has n a F→T a
theorem Sq.nil (h:St n F A (Q .normal)):Sq n F (wpQuiet P ops A (λb=>∀w',A w'→Q .normal b w') []):=λa c w hw=>h a w c hw
theorem Sq.ev {d:Nat}{op:Op}{ty:TypeId}{pos:String}{after:Array Edge}{rest:List Oper}{T:Act→Prop}(v:Value)(c:Ev P n F A op ty v)(hd:Nat.ble (d+1) n=true)
 (h:Sq n ((d,v)::F) (wpQuiet P ops A T rest)):
 Sq n F (wpQuiet P ops A T ({dst:=some d,op:=op,type:=ty,pos:=pos,after:=after,guard:=none}::rest)):=by
 intro a b
 simp only[wpQuiet,Region.wanted,if_true]
 exact⟨v,λw hw=>c.quietAt b hw,h _ (b.put (dS hd) v)⟩
theorem Sq.guarded {j:Nat}{want:Bool}{d:Nat}{op:Op}{ty:TypeId}{pos:String}{after:Array Edge}{rest:List Oper}{T:Act→Prop}(c:Bool){dj:Nat}{u:Value}(v:Value)
 (g:(ops[j]?).bind (·.dst)=some dj) (i:look F dj=some u) (hu:(c=true→u= .bool want)∧(c=false→u= .bool (!want)∨u=undef))
 (k:c=true→Ev P n F A op ty v) (hd:Nat.ble (d+1) n=true) (h:Sq n ((d,gv c v)::F) (wpQuiet P ops A T rest)):
 Sq n F (wpQuiet P ops A T ({dst:=some d,op:=op,type:=ty,pos:=pos,after:=after,guard:=some (j,want)}::rest)):=by
 intro a b
 have f:=dS hd
 have m:=pJ (l:=ops) (o:={dst:=some d,op:=op,type:=ty,pos:=pos,after:=after,guard:=some (j,want)}) rfl g (b.slot _ _ i) hu
 simp only[wpQuiet,m]
 cases e:c with
 |true=>
  rw[e]at h
  simp only[if_true]
  refine⟨v,λw hw=>(k e).quietAt b hw,?_⟩
  have:=h _ (b.put f (gv true v))
  rwa[ga rfl]at this
 |false=>
  rw[e]at h
  have:=h _ (b.put f (gv false v))
  rw[cQ rfl]at this
  simpa using this
section
variable {j:Nat}{d:Nat}{op:Op}{ty:TypeId}{pos:String}{after:Array Edge}{rest:List Oper}{dj:Nat}{T:Act→Prop}(v:Value)
theorem Sq.gt {g:Bool}(a:(ops[j]?).bind (·.dst)=some dj)(b:look F dj=some (.bool g))(c:g=true→Ev P n F A op ty v)(hd:Nat.ble (d+1) n=true)
 (h:Sq n ((d,gv g v)::F) (wpQuiet P ops A T rest)):
 Sq n F (wpQuiet P ops A T ({dst:=some d,op:=op,type:=ty,pos:=pos,after:=after,guard:=some (j,true)}::rest)):=Sq.guarded g v a b (YD g) c hd h
theorem Sq.gf {g:Bool}(a:(ops[j]?).bind (·.dst)=some dj)(b:look F dj=some (.bool g))(c:(!g)=true→Ev P n F A op ty v)(hd:Nat.ble (d+1) n=true)
 (h:Sq n ((d,gv (!g) v)::F) (wpQuiet P ops A T rest)):
 Sq n F (wpQuiet P ops A T ({dst:=some d,op:=op,type:=ty,pos:=pos,after:=after,guard:=some (j,false)}::rest)):=Sq.guarded (!g) v a b (YC g) c hd h
theorem Sq.CG {c g:Bool}(a:(ops[j]?).bind (·.dst)=some dj)(b:look F dj=some (gv c (.bool g)))(e:(c&&g)=true→Ev P n F A op ty v)(hd:Nat.ble (d+1) n=true)
 (h:Sq n ((d,gv (c&&g) v)::F) (wpQuiet P ops A T rest)):
 Sq n F (wpQuiet P ops A T ({dst:=some d,op:=op,type:=ty,pos:=pos,after:=after,guard:=some (j,true)}::rest)):=Sq.guarded (c&&g) v a b (W4 c g) e hd h
end
def Er (A:World→Prop):Prop:=∀w,A w→A {w with drawn:=w.drawn+1}
theorem St.rq {id:Nat}{l:List Oper}(hm:P.follows .mixedOrders=true)(b:Region.lexB .any l.toArray=true)(c:Er A)
 (h:Sq n F (wpQuiet P l.toArray A (λd=>∀w',A w'→Q .normal d w') l)):St n F A ((Code.region id l.toArray true).wp P Q):=
 λa w e hw=>wp_region_quiet hm b (c w hw) (by simpa using h a e)
end
abbrev Ro:=Nat→Option Obj
def Ro.le (ρ kK:Ro):Prop:=∀k o,ρ k=some o→kK k=some o
theorem Ro.le_refl (ρ:Ro):ρ.le ρ:=λ_ _ h=>h
theorem Ro.le_trans {a b c:Ro}(h:a.le b)(k:b.le c):a.le c:=λ_ _ x=>k _ _ (h _ _ x)
structure e8 where
 f:Ro→Prop
 mono:∀ρ kK,Ro.le ρ kK→f ρ→f kK
structure ay where
 key:Option Nat
 ok:Ro→World→Prop
 loc:∀{ρ kK w w'},Ro.le ρ kK→(∀b,key=some b→w'.heap[b]?=w.heap[b]?)→ok ρ w→ok kK w'
 lt:∀{ρ w b},ok ρ w→key=some b→b<w.heap.size
@[irreducible] def aD (d:e8):ay:=⟨none,λρ _=>d.f ρ,λh _ k=>d.mono _ _ h k,λ_ h=>by simp at h⟩
@[irreducible] def aW (b:Nat)(o:Obj):ay:=⟨some b,λ_ w=>w.heap[b]?=some o,λ_ h k=>by rw[h b rfl];exact k,λh a=>by
 simp only[Option.some.injEq]at a
 subst a
 exact(od.1 h).1⟩
theorem GQ {w w':World}{e:TypeId}{size n:Nat}{v:Value}{cs:List Value}(h:∀b,v.ownBlock=some b→w'.heap[b]?=w.heap[b]?)(k:w.ownsRow 0 e size v n cs):w'.ownsRow 0 e size v n cs:=by
 obtain⟨h1,a⟩:=k;refine⟨h1,?_⟩
 rcases a with a|⟨g,cap,cur,rfl,c,d,f⟩
 ·exact .inl a
 ·exact .inr ⟨g,cap,cur,rfl,c,by rw[h g rfl];exact d,f⟩
@[irreducible] def row (v:Value)(e:TypeId)(size n:Nat)(cs:List Value):ay:=⟨v.ownBlock,λ_ w=>w.ownsRow 0 e size v n cs,λ_ h k=>GQ h k,λh a=>(h.lt _ a).2⟩
theorem kP (d:e8):(aD d).key=none:=by unfold aD;rfl
theorem dJ {d:e8}{ρ:Ro}{w:World}:(aD d).ok ρ w↔d.f ρ:=by unfold aD;exact Iff.rfl
theorem ir (b:Nat)(o:Obj):(aW b o).key=some b:=by unfold aW;rfl
theorem gO {b:Nat}{o:Obj}{ρ:Ro}{w:World}:(aW b o).ok ρ w↔w.heap[b]?=some o:=by unfold aW;exact Iff.rfl
theorem eA (v:Value)(e:TypeId)(size n:Nat)(cs:List Value):(row v e size n cs).key=v.ownBlock:=by unfold row;rfl
theorem eQ {v:Value}{e:TypeId}{size n:Nat}{cs:List Value}{ρ:Ro}{w:World}:(row v e size n cs).ok ρ w↔w.ownsRow 0 e size v n cs:=by unfold row;exact Iff.rfl
def Jj (E a:ay):Prop:=∀b,E.key=some b→a.key≠some b
theorem Jj.symm {E a:ay}(h:Jj E a):Jj a E:=λb h1 c=>h b c h1
def jl (H:List ay)(b:Nat):Prop:=∃E∈H,E.key=some b
structure Ctx where
 w:World
 ρ:Ro
 M:Nat→Prop
 dr:Prop
structure fH (c:Ctx)(H:List ay)(ρ:Ro)(w:World):Prop where
 os:w.os=c.w.os
 tape:w.tape=c.w.tape∧(c.dr→c.w.drawn≤w.drawn)
 output:w.output=c.w.output
 size:c.w.heap.size≤w.heap.size
 Ax:∀k,k<c.w.heap.size→¬c.M k→w.heap[k]?=c.w.heap[k]?
 fits:∀k o,ρ k=some o→w.heap[k]?=some o
 le:Ro.le c.ρ ρ
 new:∀k,k<c.w.heap.size→¬c.M k→ρ k=c.ρ k
 dR:∀E∈H,E.ok ρ w
 own:∀E∈H,∀b,E.key=some b→ρ b=none∧(c.w.heap.size≤b∨c.M b)
 FV:H.Pairwise Jj
@[irreducible] def Mm (c:Ctx)(H:List ay)(w:World):Prop:=∃ρ,fH c H ρ w
theorem Mm.out {c:Ctx}{H:List ay}{w:World}(h:Mm c H w):∃ρ,fH c H ρ w:=by unfold Mm at h;exact h
theorem Mm.mk {c:Ctx}{H:List ay}{w:World}{ρ:Ro}(h:fH c H ρ w):Mm c H w:=by unfold Mm;exact⟨ρ,h⟩
theorem fH.lt {c:Ctx}{H:List ay}{ρ:Ro}{w:World}(h:fH c H ρ w){E:ay}(a:E∈H){b:Nat}(d:E.key=some b):b<w.heap.size:=E.lt (h.dR E a) d
theorem fH.Ay {c:Ctx}{H:List ay}{ρ:Ro}{w:World}(h:fH c H ρ w){b:Nat}{o:Obj}(a:ρ b=some o):b<w.heap.size:=(od.1 (h.fits b o a)).1
theorem fH.step {c:Ctx}{H1 H2 R:List ay}{ρ kK:Ro}{w w':World}(h:fH c (H1++R) ρ w)(k:fH ⟨w,ρ,jl H1,c.dr⟩ H2 kK w'):fH c (H2++R) kK w':=by
 have hd:=sq.1 h.FV
 have n:∀E∈R,∀b,E.key=some b→w'.heap[b]?=w.heap[b]?:=by
  intro E a b e;refine k.Ax b (h.lt (kz _ a) e) ?_;rintro ⟨j,g,l⟩;exact hd.2.2 j g E a b l e
 refine⟨k.os.trans h.os,⟨k.tape.1.trans h.tape.1,λd=>dH (h.tape.2 d) (k.tape.2 d)⟩,k.output.trans h.output,dH h.size k.size,?_,k.fits,Ro.le_trans h.le k.le,?_,?_,?_,?_⟩
 ·intro i hi hm
  rw[←h.Ax i hi hm];refine k.Ax i (fg hi h.size) ?_;rintro ⟨E,a,e⟩
  rcases(h.own E (ke _ a) i e).2 with f|f
  ·omega
  ·exact hm f
 ·intro i hi hm
  rw[←h.new i hi hm];refine k.new i (fg hi h.size) ?_;rintro ⟨E,a,e⟩
  rcases(h.own E (ke _ a) i e).2 with f|f
  ·omega
  ·exact hm f
 ·intro E a
  rcases ca.1 a with a|a
  ·exact k.dR E a
  ·exact E.loc k.le (n E a) (h.dR E (kz _ a))
 ·intro E a b e
  rcases ca.1 a with a|a
  ·refine⟨(k.own E a b e).1,?_⟩
   rcases(k.own E a b e).2 with f|⟨j,g,f⟩
   ·exact .inl (dH h.size f)
   ·exact(h.own j (ke _ g) b f).2
  ·have h1:=h.own E (kz _ a) b e
   refine⟨?_,h1.2⟩;rw[k.new b (h.lt (kz _ a) e)]
   ·exact h1.1
   ·rintro ⟨j,g,l⟩
    exact hd.2.2 j g E a b l e
 ·refine sq.2 ⟨k.FV,hd.2.1,?_⟩
  intro E a j g b e l
  rcases(k.own E a b e).2 with f|⟨m,o,f⟩
  ·have:=h.lt (kz _ g) l
   exact absurd this (by simpa using f)
  ·exact hd.2.2 m o j g b f l
theorem fH.perm {c:Ctx}{H H':List ay}{ρ:Ro}{w:World}(h:fH c H ρ w)(hp:H.Perm H'):fH c H' ρ w:=
 ⟨h.os,h.tape,h.output,h.size,h.Ax,h.fits,h.le,h.new,λE a=>h.dR E (hp.mem_iff.2 a),λE a=>h.own E (hp.mem_iff.2 a),
  (hp.pairwise_iff λh=>h.symm).1 h.FV⟩
theorem fH.drop {c:Ctx}{E:ay}{H:List ay}{ρ:Ro}{w:World}(h:fH c (E::H) ρ w):fH c H ρ w:=
 ⟨h.os,h.tape,h.output,h.size,h.Ax,h.fits,h.le,h.new,λE a=>h.dR E (cO _ a),λE a=>h.own E (cO _ a),(jq.1 h.FV).2⟩
theorem fH.fact {c:Ctx}{H:List ay}{ρ:Ro}{w:World}(h:fH c H ρ w)(d:e8)(hd:d.f ρ):fH c (aD d::H) ρ w:=
 ⟨h.os,h.tape,h.output,h.size,h.Ax,h.fits,h.le,h.new,λE a=>by
  rcases cN.1 a with rfl|a
  ·exact dJ.2 hd
  ·exact h.dR E a,
  λE a b e=>by
   rcases cN.1 a with rfl|a
   ·rw[kP]at e;cases e
   ·exact h.own E a b e,
  jq.2 ⟨λE _ b e=>(by rw[kP]at e;cases e),h.FV⟩⟩
theorem fH.drawn {c:Ctx}{H:List ay}{ρ:Ro}{w:World}(h:fH c H ρ w):fH c H ρ {w with drawn:=w.drawn+1}:=
 ⟨h.os,⟨h.tape.1,λd=>Nat.le_succ_of_le (h.tape.2 d)⟩,h.output,h.size,h.Ax,h.fits,h.le,h.new,λE a=>E.loc (w:=w) (Ro.le_refl _) (λ_ _=>rfl) (h.dR E a),h.own,h.FV⟩
theorem Mm.drawn (c:Ctx)(H:List ay):Er (Mm c H):=λ_ h=>let⟨_,k⟩:=h.out;Mm.mk k.drawn
def Start (H:List ay)(ρ:Ro)(w:World):Prop:=fH ⟨w,ρ,jl H,True⟩ H ρ w
theorem fH.start {c:Ctx}{H R:List ay}{ρ:Ro}{w:World}(h:fH c (H++R) ρ w):Start H ρ w:=
 ⟨rfl,⟨rfl,λ_=>aU _⟩,rfl,aU _,λ_ _ _=>rfl,h.fits,Ro.le_refl _,λ_ _ _=>rfl,λE a=>h.dR E (ke _ a),
  λE a b d=>⟨(h.own E (ke _ a) b d).1,.inr ⟨E,a,d⟩⟩,(sq.1 h.FV).1⟩
def dx (P:Program)(f:FuncId)(args:Array Value)(pre:List ay)(post:Value→List ay→Prop):Prop:=
 ∀w ρ,Start pre ρ w→Calls P f args w λe w'=>∃v H',e= .returned v∧post v H'∧Mm ⟨w,ρ,jl pre,True⟩ H' w'
def DA (dr:Prop)(P:Program)(f:FuncId)(args:Array Value)(pre:List ay)(post:Value→List ay→Prop):Prop:=
 ∀w ρ,Start pre ρ w→Calls P f args w λe w'=>∃v H',e= .returned v∧post v H'∧Mm ⟨w,ρ,jl pre,dr⟩ H' w'
theorem fH.dr {a:World}{b:Ro}{M:Nat→Prop}{d c:Prop}{H:List ay}{ρ:Ro}{w:World}(h:fH ⟨a,b,M,d⟩ H ρ w)(hd:c→d):fH ⟨a,b,M,c⟩ H ρ w:=
 ⟨h.os,⟨h.tape.1,λq=>h.tape.2 (hd q)⟩,h.output,h.size,h.Ax,h.fits,h.le,h.new,h.dR,h.own,h.FV⟩
theorem Mm.dr {a:World}{b:Ro}{M:Nat→Prop}{d c:Prop}{H:List ay}{w:World}(h:Mm ⟨a,b,M,d⟩ H w)(hd:c→d):Mm ⟨a,b,M,c⟩ H w:=let⟨_,k⟩:=h.out;Mm.mk (k.dr hd)
theorem dx.gen {P:Program}{f:FuncId}{args:Array Value}{pre:List ay}{post:Value→List ay→Prop}(h:dx P f args pre post):DA True P f args pre post:=h
theorem DA.dr {d a:Prop}{P:Program}{f:FuncId}{args:Array Value}{pre:List ay}{post:Value→List ay→Prop}(h:DA d P f args pre post)(hd:a→d):DA a P f args pre post:=
 λw ρ b=>(h w ρ b).mono λ_ _ ⟨v,H',h1,c,e⟩=>⟨v,H',h1,c,e.dr hd⟩
theorem DA.mono {d:Prop}{P:Program}{f:FuncId}{args:Array Value}{pre:List ay}{post a:Value→List ay→Prop}(h:DA d P f args pre post)(hp:∀v H,post v H→a v H):DA d P f args pre a:=
 λw ρ b=>(h w ρ b).mono λ_ _ ⟨v,H',h1,c,e⟩=>⟨v,H',h1,hp v H' c,e⟩
abbrev Be:=DA False
def kL (P:Program)(f:FuncId)(args:Array Value)(ds:List e8)(v:Value):Prop:=Be P f args (ds.map aD) λu _=>u=v
def dK (P:Program)(f:FuncId)(args:Array Value)(ds:List e8)(v:Value):Prop:=dx P f args (ds.map aD) λu _=>u=v
theorem dx.mono {P:Program}{f:FuncId}{args:Array Value}{pre:List ay}{post a:Value→List ay→Prop}(h:dx P f args pre post)(hp:∀v H,post v H→a v H):dx P f args pre a:=
 λw ρ b=>(h w ρ b).mono λ_ _ ⟨v,H',h1,c,d⟩=>⟨v,H',h1,hp v H' c,d⟩
theorem fH.BA {c:Ctx}{H:List ay}{ρ:Ro}{w:World}(h:fH c H ρ w):∀ds:List e8,(∀d∈ds,d.f ρ)→fH c (ds.map aD++H) ρ w
 | [],_=>h
 |d::ds,hd=>(h.BA ds λa b=>hd a (cO _ b)).fact d (hd d (aR ..))
section classes
class mT (d:e8)(H:List ay):Prop where
 mem:aD d∈H
instance (priority:=high) mT.here (d:e8)(H:List ay):mT d (aD d::H):=⟨aR ..⟩
instance mT.there (d:e8)(E:ay)(H:List ay)[h:mT d H]:mT d (E::H):=⟨cO _ h.mem⟩
class lG (ds:List e8)(H:List ay):Prop where
 mem:∀d∈ds,aD d∈H
instance lG.nil (H:List ay):lG [] H:=⟨λ_ h=>by simp at h⟩
instance lG.cons (d:e8)(ds:List e8)(H:List ay)[h:mT d H][k:lG ds H]:lG (d::ds) H:=
 ⟨λb a=>by rcases cN.1 a with rfl|a;exact h.mem;exact k.mem b a⟩
class Bf (b:Nat)(H:List ay)(o:outParam Obj):Prop where
 mem:aW b o∈H
instance (priority:=high) Bf.here (b:Nat)(o:Obj)(H:List ay):Bf b (aW b o::H) o:=⟨aR ..⟩
instance Bf.there (b:Nat)(o:Obj)(E:ay)(H:List ay)[h:Bf b H o]:Bf b (E::H) o:=⟨cO _ h.mem⟩
class mA (b:Nat)(H:List ay)(o:outParam Obj)(R:outParam (List ay)):Prop where
 perm:H.Perm (aW b o::R)
instance (priority:=high) mA.here (b:Nat)(o:Obj)(H:List ay):mA b (aW b o::H) o H:=⟨.refl _⟩
instance mA.there (b:Nat)(o:Obj)(E:ay)(H R:List ay)[h:mA b H o R]:mA b (E::H) o (E::R):=⟨(h.perm.cons E).trans (.swap ..)⟩
class mB (v:Value)(H:List ay)(e:outParam TypeId)(size n:outParam Nat)(cs:outParam (List Value))(R:outParam (List ay)):Prop where
 perm:H.Perm (row v e size n cs::R)
instance (priority:=high) mB.here (v:Value)(e:TypeId)(size n:Nat)(cs:List Value)(H:List ay):mB v (row v e size n cs::H) e size n cs H:=⟨.refl _⟩
instance mB.there (v:Value)(e:TypeId)(size n:Nat)(cs:List Value)(E:ay)(H R:List ay)[h:mB v H e size n cs R]:mB v (E::H) e size n cs (E::R):=⟨(h.perm.cons E).trans (.swap ..)⟩
class Bk (E:ay)(H:List ay)(R:outParam (List ay)):Prop where
 perm:H.Perm (E::R)
instance (priority:=high) Bk.here (E:ay)(H:List ay):Bk E (E::H) H:=⟨.refl _⟩
instance Bk.there (E a:ay)(H R:List ay)[h:Bk E H R]:Bk E (a::H) (a::R):=⟨(h.perm.cons a).trans (.swap ..)⟩
class fE (L H:List ay)(R:outParam (List ay)):Prop where
 perm:H.Perm (L++R)
instance fE.nil (H:List ay):fE [] H H:=⟨.refl _⟩
instance fE.cons (E:ay)(L H R a:List ay)[h:Bk E H R][k:fE L R a]:fE (E::L) H a:=⟨h.perm.trans (k.perm.cons E)⟩
end classes
theorem Mm.take {c:Ctx}{L H R:List ay}{w:World}[t:fE L H R](h:Mm c H w):Mm c (L++R) w:=let⟨_,k⟩:=h.out;Mm.mk (k.perm t.perm)
theorem fH.left {c:Ctx}{L R:List ay}{ρ:Ro}{w:World}(h:fH c (L++R) ρ w):fH c L ρ w:=by
 induction R generalizing L with
 |nil=>simpa using h
 |cons E R a=>exact a (h.perm qH).drop
theorem Mm.sub {c:Ctx}{L H R:List ay}{w:World}[t:fE L H R](h:Mm c H w):Mm c L w:=let⟨_,k⟩:=h.out;Mm.mk (k.perm t.perm).left
theorem Mm.fact {c:Ctx}{H:List ay}{w:World}(h:Mm c H w)(d:e8)(hd:∀ρ,fH c H ρ w→d.f ρ):Mm c (aD d::H) w:=let⟨_,k⟩:=h.out;Mm.mk (k.fact d (hd _ k))
section
variable {P:Program}{n:Nat}{F:Fr}{c:Ctx}{H R:List ay}{Q:Exit→Act→World→Prop}{ops:Array Oper}{T:Act→World→Prop}
theorem St.fact (d:e8)(hd:∀ρ w,fH c H ρ w→d.f ρ)(h:St n F (Mm c (aD d::H)) T):St n F (Mm c H) T:=
 h.oY λ_ hw=>hw.fact d λρ k=>hd ρ _ k
theorem St.sub (L:List ay)[t:fE L H R](h:St n F (Mm c L) T):St n F (Mm c H) T:=h.oY λ_ hw=>hw.sub
theorem St.take (L:List ay)[t:fE L H R](h:St n F (Mm c (L++R)) T):St n F (Mm c H) T:=h.oY λ_ hw=>hw.take
theorem St.aM (h:St n F (Mm c R) T):St n F (Mm c ([]++R)) T:=h
theorem St.bB {a:ay}(h:St n F (Mm c (a::R)) T):St n F (Mm c ([a]++R)) T:=h
theorem St.dD {a b:ay}(h:St n F (Mm c (a::b::R)) T):St n F (Mm c ([a,b]++R)) T:=h
theorem St.kG {a b d:ay}(h:St n F (Mm c (a::b::d::R)) T):St n F (Mm c ([a,b,d]++R)) T:=h
theorem St.aaO {a b d e:ay}(h:St n F (Mm c (a::b::d::e::R)) T):St n F (Mm c ([a,b,d,e]++R)) T:=h
def Do (P:Program)(n:Nat)(F:Fr)(c:Ctx)(H:List ay)(op:Op)(ty:TypeId)(K:Value→List ay→Prop):Prop:=
 ∀a w ρ,Has n a F→fH c H ρ w→∃v w' kK H',(execOp a.eval (bare op ty)).run P w= .ok v w'∧(∃u,(v= .value u∨(v= .skip∧u=undef))∧K u H')∧fH c H' kK w'
theorem Do.wp {op:Op}{ty:TypeId}{K:Value→List ay→Prop}(h:Do P n F c H op ty K){d:Option Tmp}{pos:String}{after:Array Edge}{g:Option (Nat×Bool)}{a:Act}{w:World}
 (i:Has n a F) (hw:Mm c H w) {J:Act→World→Prop} (hk:∀u H' w',K u H'→Mm c H' w'→J (a.put d u) w'):
 ({dst:=d,op:=op,type:=ty,pos:=pos,after:=after,guard:=g}:Oper).wp P a w J Q:=by
 obtain⟨ρ,hm⟩:=hw.out;obtain⟨v,w',kK,H',b,⟨u,j,e⟩,f⟩:=h a w ρ i hm;unfold Oper.wp Oper.upon;rw[jA]
 simp only at b⊢
 rw[b]
 rcases j with rfl|⟨rfl,rfl⟩
 ·exact hk _ _ _ e (Mm.mk f)
 ·exact hk _ _ _ e (Mm.mk f)
theorem St.SJ {d:Nat}{op:Op}{ty:TypeId}{pos:String}{after:Array Edge}{rest:List Oper}{K:Value→List ay→Prop}(b:Do P n F c H op ty K)(hd:Nat.ble (d+1) n=true)
 (h:∀v H',K v H'→St n ((d,v)::F) (Mm c H') (wpList P ops Q rest)):
 St n F (Mm c H) (wpList P ops Q ({dst:=some d,op:=op,type:=ty,pos:=pos,after:=after,guard:=none}::rest)):=
 λ_ _ a hw=>hP rfl (b.wp a hw λu H' w' e f=>h u H' e _ w' (a.put (dS hd) u) f)
theorem St.nu {op:Op}{ty:TypeId}{pos:String}{after:Array Edge}{rest:List Oper}{K:Value→List ay→Prop}(b:Do P n F c H op ty K)
 (h:∀v H',K v H'→St n F (Mm c H') (wpList P ops Q rest)):
 St n F (Mm c H) (wpList P ops Q ({dst:=none,op:=op,type:=ty,pos:=pos,after:=after,guard:=none}::rest)):=
 λ_ _ a hw=>hP rfl (b.wp a hw λu H' w' d e=>h u H' d _ w' (a.QR u) e)
end
def uB:Nat→List Value→Fr
 |_,[]=>[]
 |k,v::vs=>(k,v)::uB (k+1) vs
theorem vR {t:Nat}{v:Value}:∀(l:List Value) (i:Nat),look (uB i l) t=some v→i≤t∧l[t-i]?=some v
 | [],i,h=>by simp[uB,look]at h
 |x::l,i,h=>by
  simp only[uB,look]at h
  cases a:Nat.beq t i with
  |true=>
   have e:t=i:=nL a
   subst e
   simp only[a,cond_true,Option.some.injEq]at h
   subst h
   simp
  |false=>
   have e:t≠i:=Nat.ne_of_beq_eq_false a
   simp only[a,cond_false]at h
   obtain⟨h1,b⟩:=vR l (i+1) h;refine⟨by omega,?_⟩
   have:t-i=(t-(i+1))+1:=by omega
   rw[this,sg];exact b
theorem dx.body {P:Program}{f:FuncId}{fn:Func}{cd:Code}{args:List Value}{pre:List ay}{post:Value→List ay→Prop}(n:Nat)
 (b:P.funcs[f]?=some fn) (d:fn.body=some cd) (g:fn.ntmps=n) (i:Nat.ble args.length n=true)
 (h:∀c:Ctx,St n (uB 0 args) (Mm c pre) (cd.wp P (bodyPost P fn λe w'=>∃v H',e= .returned v∧post v H'∧Mm c H' w'))):
 dx P f args.toArray pre post:=by
 intro w ρ j;refine calls_of_wp b d (h ⟨w,ρ,jl pre,True⟩ _ w ⟨?_,rfl,?_⟩ (Mm.mk j))
 ·have:=dS i
  simp[g]
  omega
 ·intro t v ht
  obtain⟨_,a⟩:=vR args 0 ht
  simp only[Nat.sub_zero]at a
  have k:t<args.length:=(fj.1 a).1
  simp only[List.size_toArray,Array.getElem?_append,k,if_true]
  simpa using a
theorem Be.body {P:Program}{f:FuncId}{fn:Func}{cd:Code}{args:List Value}{pre:List ay}{post:Value→List ay→Prop}(n:Nat)
 (b:P.funcs[f]?=some fn) (d:fn.body=some cd) (g:fn.ntmps=n) (i:Nat.ble args.length n=true)
 (h:∀c:Ctx,¬c.dr→St n (uB 0 args) (Mm c pre) (cd.wp P (bodyPost P fn λe w'=>∃v H',e= .returned v∧post v H'∧Mm c H' w'))):
 Be P f args.toArray pre post:=by
 intro w ρ j;refine calls_of_wp b d (h ⟨w,ρ,jl pre,False⟩ (λh=>h) _ w ⟨?_,rfl,?_⟩ (Mm.mk (j.dr λh=>h.elim)))
 ·have:=dS i
  simp[g]
  omega
 ·intro t v ht
  obtain⟨_,a⟩:=vR args 0 ht
  simp only[Nat.sub_zero]at a
  have k:t<args.length:=(fj.1 a).1
  simp only[List.size_toArray,Array.getElem?_append,k,if_true]
  simpa using a
theorem kL.body {P:Program}{f:FuncId}{fn:Func}{cd:Code}{args:List Value}{u:Value}{ds:List e8}(n:Nat)
 (a:P.funcs[f]?=some fn) (b:fn.body=some cd) (d:fn.ntmps=n) (g:Nat.ble args.length n=true)
 (h:∀c:Ctx,¬c.dr→St n (uB 0 args) (Mm c (ds.map aD)) (cd.wp P (bodyPost P fn λe w'=>∃v H',e= .returned v∧v=u∧Mm c H' w'))):kL P f args.toArray ds u:=Be.body n a b d g h
theorem dK.gx {P:Program}{f:FuncId}{fn:Func}{cd:Code}{args:List Value}{u:Value}(n:Nat)
 (a:P.funcs[f]?=some fn) (b:fn.body=some cd) (d:fn.ntmps=n) (g:Nat.ble args.length n=true)
 (h:∀c:Ctx,St n (uB 0 args) (Mm c []) (cd.wp P (bodyPost P fn λe w'=>∃v H',e= .returned v∧v=u∧Mm c H' w'))):dK P f args.toArray [] u:=dx.body n a b d g h
theorem dK.pz {P:Program}{f:FuncId}{fn:Func}{cd:Code}{args:List Value}{u:Value}{d1:e8}(n:Nat)
 (a:P.funcs[f]?=some fn) (b:fn.body=some cd) (d:fn.ntmps=n) (g:Nat.ble args.length n=true)
 (h:∀c:Ctx,St n (uB 0 args) (Mm c [aD d1]) (cd.wp P (bodyPost P fn λe w'=>∃v H',e= .returned v∧v=u∧Mm c H' w'))):dK P f args.toArray [d1] u:=dx.body n a b d g h
theorem dK.qf {P:Program}{f:FuncId}{fn:Func}{cd:Code}{args:List Value}{u:Value}{d1 d2:e8}(n:Nat)
 (a:P.funcs[f]?=some fn) (b:fn.body=some cd) (d:fn.ntmps=n) (g:Nat.ble args.length n=true)
 (h:∀c:Ctx,St n (uB 0 args) (Mm c [aD d1,aD d2]) (cd.wp P (bodyPost P fn λe w'=>∃v H',e= .returned v∧v=u∧Mm c H' w'))):dK P f args.toArray [d1,d2] u:=dx.body n a b d g h
theorem dK.Ve {P:Program}{f:FuncId}{fn:Func}{cd:Code}{args:List Value}{u:Value}{d1 d2 d3:e8}(n:Nat)
 (a:P.funcs[f]?=some fn) (b:fn.body=some cd) (d:fn.ntmps=n) (g:Nat.ble args.length n=true)
 (h:∀c:Ctx,St n (uB 0 args) (Mm c [aD d1,aD d2,aD d3]) (cd.wp P (bodyPost P fn λe w'=>∃v H',e= .returned v∧v=u∧Mm c H' w'))):dK P f args.toArray [d1,d2,d3] u:=dx.body n a b d g h
theorem dK.Jt {P:Program}{f:FuncId}{fn:Func}{cd:Code}{args:List Value}{u:Value}{d1 d2 d3 d4:e8}(n:Nat)
 (a:P.funcs[f]?=some fn) (b:fn.body=some cd) (d:fn.ntmps=n) (g:Nat.ble args.length n=true)
 (h:∀c:Ctx,St n (uB 0 args) (Mm c [aD d1,aD d2,aD d3,aD d4]) (cd.wp P (bodyPost P fn λe w'=>∃v H',e= .returned v∧v=u∧Mm c H' w'))):dK P f args.toArray [d1,d2,d3,d4] u:=dx.body n a b d g h
theorem dK.Ns {P:Program}{f:FuncId}{fn:Func}{cd:Code}{args:List Value}{u:Value}{d1:e8}{ds:List e8}(n:Nat)
 (a:P.funcs[f]?=some fn) (b:fn.body=some cd) (d:fn.ntmps=n) (g:Nat.ble args.length n=true)
 (h:∀c:Ctx,St n (uB 0 args) (Mm c (aD d1::ds.map aD)) (cd.wp P (bodyPost P fn λe w'=>∃v H',e= .returned v∧v=u∧Mm c H' w'))):dK P f args.toArray (d1::ds) u:=dx.body n a b d g h
theorem Sub.nil {F:Fr}:Sub [] F:=trivial
theorem Sub.cons {F a:Fr}{k:Nat}{v:Value}(h:J.look F k=some v)(b:Sub a F):Sub ((k,v)::a) F:=⟨h,b⟩
def RV (P:Program)(F:Fr)(H:List ay):ResultVar→Value→Prop
 | .tmp t,v=>look F t=some v
 | .cell t ty,v=>∃b C e fr,look F t=some (.pointer (some ⟨b,0,none⟩))∧aW b (.cells C e fr)∈H∧
  ((∃a,P.underlying ty=some (.struct a))∧(P.info? ty).map (·.size)=some C.size∧v= .agg C∨
   (match P.underlying ty with|some (.struct _)|some (.array _ _)|none=>False|some _=>True)∧C[0]?=some v)
theorem cg {w:World}{b off:Nat}{C:Array Value}{e:TypeId}{fr:Nat×Nat}(h:w.heap[b]?=some (.cells C e fr)):w.cell? ⟨b,off,none⟩=C[off]?:=by
 simp[World.cell?,h]
theorem eS {P:Program}{w:World}{ty:TypeId}{b off:Nat}{L:List Value}{d:TypeDesc}(hd:P.underlying ty=some d)(hk:(match d with| .struct _| .array _ _=>True|_=>False))
 (a:(P.info? ty).map (·.size)=some L.length) (c:∀j v,L[j]?=some v→w.cell? ⟨b,off+j,none⟩=some v):(loadVar ty ⟨b,off,none⟩).run P w= .ok (.agg L.toArray) w:=by
 obtain⟨i,hi,e⟩:=eE.1 a
 have h1:=run_loadCells_list (P:=P) w ⟨b,off,none⟩ L (λj v h=>by rw[Addr.add_lit];exact c j v h)
 have f:(isAgg ty).run P w= .ok true w:=by
  cases d<;>simp at hk<;>simp[isAgg,run_underlying hd]
 simp[loadVar,f,sizeOf,typeInfo,hi,e,h1]
theorem fS {P:Program}{w:World}{ty:TypeId}{a:Addr}{v:Value}{d:TypeDesc}(hd:P.underlying ty=some d)(hk:(match d with| .struct _| .array _ _=>False|_=>True))
 (b:w.cell? a=some v):(loadVar ty a).run P w= .ok v w:=by
 have c:(isAgg ty).run P w= .ok false w:=by
  cases d<;>simp at hk<;>simp[isAgg,run_underlying hd]
 simp[loadVar,c,b]
def GZ (a:Act):ResultVar→Sem Value
 | .tmp t=>pure (a.tmps.getD t undef)
 | .cell t ty=>do loadVar ty (←asAddr (a.tmps.getD t undef))
theorem RV.run {P:Program}{n:Nat}{F:Fr}{H:List ay}{r:ResultVar}{v:Value}(h:RV P F H r v){a:Act}(i:Has n a F){c:Ctx}{w:World}(hw:Mm c H w):
 (GZ a r).run P w= .ok v w:=by
 obtain⟨ρ,hm⟩:=hw.out
 cases r with
 |tmp t=>simp[RV]at h;simp[GZ,Array.getD_eq_getD_getElem?,i.slot _ _ h]
 |cell t ty=>
  obtain⟨b,C,e,fr,h1,l,m⟩:=h
  have o:=gO.1 (hm.dR _ l)
  have k:∀off,w.cell? ⟨b,off,none⟩=C[off]?:=λoff=>cg o
  have ht:=i.slot _ _ h1
  simp only[GZ,Array.getD_eq_getD_getElem?,ht,Option.getD_some,asAddr,Sem.run_bind,Sem.run_pure,Result.andThen_ok]
  rcases m with⟨⟨q,f⟩,g,rfl⟩|⟨f,g⟩
  ·have:=eS (P:=P) (w:=w) (ty:=ty) (b:=b) (off:=0) (L:=C.toList) f trivial (by simpa using g) (λj v p=>by rw[k,Nat.zero_add];simpa using p)
   simpa using this
  ·cases hd:P.underlying ty with
   |none=>rw[hd]at f;exact f.elim
   |some d=>rw[hd]at f;exact fS hd (by cases d<;>simp_all) (by rw[k];exact g)
def Si (P:Program)(F:Fr)(H:List ay):List ResultVar→List Value→Prop
 | [],[]=>True
 |r::rs,v::vs=>RV P F H r v∧Si P F H rs vs
 |_,_=>False
theorem Si.run {P:Program}{n:Nat}{F:Fr}{H:List ay}{a:Act}(b:Has n a F){c:Ctx}{w:World}(hw:Mm c H w):∀{rs:List ResultVar} {vs:List Value},Si P F H rs vs→
 (rs.mapM (GZ a)).run P w= .ok vs w
 | [],[],_=>by simp
 |r::rs,v::vs,h=>by
  have h1:=RV.run h.1 b hw
  have d:=Si.run b hw h.2
  simp only[List.mapM_cons,Sem.run_bind,h1,Result.andThen_ok,d,Sem.run_pure]
def qS:List Value→Value
 | [v]=>v
 |vs=> .tuple vs.toArray
theorem J7 (fn:Func)(a:Act):results fn a.tmps=(fn.results.mapM (GZ a)>>=λvs=>pure (if h:vs.size=1 then vs[0]else .tuple vs)):=by
 unfold results
 congr 2
theorem St.Mf {P:Program}{n:Nat}{F:Fr}{c:Ctx}{H:List ay}{fn:Func}{post:Value→List ay→Prop}{rl:List ResultVar}(vs:List Value)(H':List ay)
 (d:fn.results=rl.toArray) (f:Si P F H rl vs) (hp:post (qS vs) H') (hH:∀w,Mm c H w→Mm c H' w):
 St n F (Mm c H) (bodyPost P fn (λe w'=>∃v H',e= .returned v∧post v H'∧Mm c H' w') .ret):=by
 intro a w b hw;refine⟨b.defers,_,?_,_,H',rfl,hp,hH w hw⟩
 have g:=Si.run b hw f
 rw[J7,d]
 simp only[List.mapM_toArray,Sem.run_bind,Sem.run_map,g,Result.andThen_ok,Sem.run_pure]
 congr 1
 cases vs with
 |nil=>rfl
 |cons v vs=>cases vs<;>rfl
theorem St.fi {P:Program}{n:Nat}{F:Fr}{c:Ctx}{H:List ay}{fn:Func}{R:Ending→World→Prop}
 (h:St n F (Mm c H) (bodyPost P fn R .ret)):St n F (Mm c H) (bodyPost P fn R .normal):=h
abbrev cM:=List UInt8
abbrev sv (l:cM):Value:= .string ⟨l.toArray⟩
abbrev iv (n:Int):Value:= .int .i64 n
structure Rp (α:Type) where
 size:Nat
 pos:0<size
 cells:α→List Value
 wf:α→Prop
 len:∀x,(cells x).length=size
 one:∀x,∀u∈cells x,u.oneCell'=true
def aZ (n:Int):Prop:= -9223372036854775808≤n∧n≤9223372036854775807
def aJ:Rp Int:=⟨1,by decide,λx=>[.int .i64 x],aZ,λ_=>rfl,λ_ u h=>by simp at h;subst h;rfl⟩
def fK:Rp cM:=⟨1,by decide,λx=>[sv x],λx=>x.length≤140737488351232,λ_=>rfl,λ_ u h=>by simp at h;subst h;rfl⟩
def eO:Rp Bool:=⟨1,by decide,λx=>[.bool x],λ_=>True,λ_=>rfl,λ_ u h=>by simp at h;subst h;rfl⟩
def cr:Rp {v:Value//v.oneCell'=true}:=⟨1,by decide,λx=>[x.1],λ_=>True,λ_=>rfl,λx u h=>by simp at h;subst h;exact x.2⟩
def rows {α:Type}(R:Rp α)(xs:List α):List Value:=xs.flatMap R.cells
theorem gh {α:Type}(R:Rp α)(xs:List α):(rows R xs).length=xs.length*R.size:=by
 induction xs with
 |nil=>simp[rows]
 |cons x xs a=>simp only[rows,List.flatMap_cons,List.length_append,R.len,List.length_cons,Nat.add_mul]at a⊢;omega
theorem eo {α:Type}(R:Rp α):∀(xs:List α) (k j:Nat) (x:α),xs[k]?=some x→j<R.size→(rows R xs)[k*R.size+j]?=(R.cells x)[j]?
 | [],_,_,_,h,_=>by simp at h
 |y::xs,0,j,x,h,a=>by
  simp only[List.getElem?_cons_zero,Option.some.injEq]at h
  subst h
  simp only[rows,List.flatMap_cons,Nat.zero_mul,Nat.zero_add]
  rw[rL (by rw[R.len];exact a)]
 |y::xs,k+1,j,x,h,a=>by
  simp only[List.getElem?_cons_succ]at h
  have b:=eo R xs k j x h a
  simp only[rows,List.flatMap_cons]at b⊢
  rw[nO (by rw[R.len,jK];omega),R.len]
  have e:(k+1)*R.size+j-R.size=k*R.size+j:=by rw[jK];omega
  rw[e];exact b
def sl {α:Type}(R:Rp α)(v:Value)(xs:List α):e8 where
 f ρ:=∃a cap,v= .slice a xs.length cap∧xs.length≤cap∧cap≤maxLen∧(∀x∈xs,R.wf x)∧
  (xs=[]∨∃b off C e fr,a=some ⟨b,off,none⟩∧ρ b=some (.cells C e fr)∧∀j u,(rows R xs)[j]?=some u→C[off+j]?=some u)
 mono ρ kK h:=by
  rintro ⟨a,cap,h1,d,g,i,c⟩;refine⟨a,cap,h1,d,g,i,?_⟩
  rcases c with c|⟨b,off,C,e,fr,k,l,m⟩
  ·exact .inl c
  ·exact .inr ⟨b,off,C,e,fr,k,h _ _ l,m⟩
class vK (v:Value)(H:List ay)(α:outParam Type)(R:outParam (Rp α))(xs:outParam (List α)):Prop where
 mem:aD (sl R v xs)∈H
instance (priority:=high) vK.here {α:Type}(v:Value)(R:Rp α)(xs:List α)(H:List ay):vK v (aD (sl R v xs)::H) α R xs:=⟨aR ..⟩
instance vK.there {α:Type}(v:Value)(R:Rp α)(xs:List α)(E:ay)(H:List ay)[h:vK v H α R xs]:vK v (E::H) α R xs:=⟨cO _ h.mem⟩
class gH {α:Type}(R:Rp α)(x:α)(L:outParam (List Value)):Prop where
 eq:R.cells x=L
@[irreducible] def eL (v:Value)(size k off:Nat):Value:=
 match v with
 | .slice (some a) _ _=> .pointer (some (a.add (k*size+off)))
 |_=>undef
theorem eJ (b o n c size k off:Nat):eL (.slice (some ⟨b,o,none⟩) n c) size k off= .pointer (some ⟨b,o+(k*size+off),none⟩):=by
 unfold eL;simp only[Addr.add_lit]
section
variable {P:Program}{n:Nat}{F:Fr}{A:World→Prop}{c:Ctx}{H:List ay}{ty:TypeId}{x y z:Operand}{v:Value}
theorem Ev.of_run {op:Op}(h:∀a w,Has n a F→A w→(execOp a.eval (bare op ty)).run P w= .ok (.value v) w):Ev P n F A op ty v:=
 λa w b hw=>by rw[h a w b hw];exact⟨rfl,rfl⟩
theorem Ev.move (hx:aa F x v):Ev P n F A (.move x) ty v:= .of_run λa w b _=>by simp[execOp,hx.eval b]
theorem Ev.assign (hx:aa F x v):Ev P n F A (.assign x) ty v:= .of_run λa w b _=>by simp[execOp,hx.eval b]
theorem Ev.and {p q:Bool}(hx:aa F x (.bool p))(hy:p=true→aa F y (.bool q)):Ev P n F A (.pick x y (.const (.bool false))) ty (.bool (p&&q)):= .of_run λa w b _=>by
 cases p with
 |true=>simp only[execOp,hx.eval b,(hy rfl).eval b];simp[asBool]
 |false=>simp only[execOp,hx.eval b];simp[asBool,Act.eval]
theorem Ev.or {p q:Bool}(hx:aa F x (.bool p))(hy:(!p)=true→aa F y (.bool q)):Ev P n F A (.pick x (.const (.bool true)) y) ty (.bool (p||q)):= .of_run λa w b _=>by
 cases p with
 |true=>simp only[execOp,hx.eval b];simp[asBool,Act.eval]
 |false=>simp only[execOp,hx.eval b,(hy rfl).eval b];simp[asBool]
theorem Ev.not {p:Bool}(hx:aa F x (.bool p)){t:TypeId}:Ev P n F A (.unOp .not t x) ty (.bool (!p)):= .of_run λa w b _=>by
 simp[execOp,hx.eval b,Op.unary]
section ints
variable {k:IntKind}{i j:Int}{t u:TypeId}
theorem Ev.lss (hx:aa F x (.int k i))(hy:aa F y (.int k j)):Ev P n F A (.binOp .lss t x y u) ty (.bool (decide (i<j))):= .of_run λa w ha _=>by simp only[execOp,hx.eval ha,hy.eval ha];simp[go_sem]
theorem Ev.leq (hx:aa F x (.int k i))(hy:aa F y (.int k j)):Ev P n F A (.binOp .leq t x y u) ty (.bool (decide (i≤j))):= .of_run λa w ha _=>by simp only[execOp,hx.eval ha,hy.eval ha];simp[go_sem]
theorem Ev.gtr (hx:aa F x (.int k i))(hy:aa F y (.int k j)):Ev P n F A (.binOp .gtr t x y u) ty (.bool (decide (j<i))):= .of_run λa w ha _=>by simp only[execOp,hx.eval ha,hy.eval ha];simp[go_sem]
theorem Ev.geq (hx:aa F x (.int k i))(hy:aa F y (.int k j)):Ev P n F A (.binOp .geq t x y u) ty (.bool (decide (j≤i))):= .of_run λa w ha _=>by simp only[execOp,hx.eval ha,hy.eval ha];simp[go_sem]
theorem Ev.eql (hx:aa F x (.int k i))(hy:aa F y (.int k j)):Ev P n F A (.binOp .eql t x y u) ty (.bool (decide (i=j))):= .of_run λa w ha _=>by
 simp only[execOp,hx.eval ha,hy.eval ha];simp[go_sem]
 rfl
theorem Ev.neq (hx:aa F x (.int k i))(hy:aa F y (.int k j)):Ev P n F A (.binOp .neq t x y u) ty (.bool (!decide (i=j))):= .of_run λa w ha _=>by
 simp only[execOp,hx.eval ha,hy.eval ha];simp[go_sem]
 rfl
theorem Ev.XZ (hx:aa F x (.int k i))(hy:aa F y (.int k j)):Ev P n F A (.binOp .add t x y u) ty (.int k (k.wrap (i+j))):= .of_run λa w ha _=>by simp only[execOp,hx.eval ha,hy.eval ha];simp[go_sem,Op.intArith]
theorem Ev.ahP (hx:aa F x (.int k i))(hy:aa F y (.int k j)):Ev P n F A (.binOp .sub t x y u) ty (.int k (k.wrap (i-j))):= .of_run λa w ha _=>by simp only[execOp,hx.eval ha,hy.eval ha];simp[go_sem,Op.intArith]
theorem Ev.ag0 (hx:aa F x (.int k i))(hy:aa F y (.int k j)):Ev P n F A (.binOp .mul t x y u) ty (.int k (k.wrap (i*j))):= .of_run λa w ha _=>by simp only[execOp,hx.eval ha,hy.eval ha];simp[go_sem,Op.intArith]
theorem Ev.an4 (hx:aa F x (.int k i)):Ev P n F A (.unOp .neg t x) ty (.int k (k.wrap (0-i))):= .of_run λa w b _=>by simp[execOp,hx.eval b,Op.unary,Op.intArith]
theorem s8 {i:Int}(h: -9223372036854775808≤i∧i≤9223372036854775807):IntKind.i64.wrap i=i:=by
 simp only[IntKind.wrap,IntKind.bits,IntKind.signed]
 simp
 omega
theorem Ev.add (hx:aa F x (iv i))(hy:aa F y (iv j))(h: -9223372036854775808≤i+j∧i+j≤9223372036854775807):Ev P n F A (.binOp .add t x y u) ty (iv (i+j)):=by
 have:=Ev.XZ (P:=P) (n:=n) (A:=A) (ty:=ty) (t:=t) (u:=u) hx hy;rwa[s8 h]at this
theorem Ev.sub (hx:aa F x (iv i))(hy:aa F y (iv j))(h: -9223372036854775808≤i-j∧i-j≤9223372036854775807):Ev P n F A (.binOp .sub t x y u) ty (iv (i-j)):=by
 have:=Ev.ahP (P:=P) (n:=n) (A:=A) (ty:=ty) (t:=t) (u:=u) hx hy;rwa[s8 h]at this
theorem Ev.mul (hx:aa F x (iv i))(hy:aa F y (iv j))(h: -9223372036854775808≤i*j∧i*j≤9223372036854775807):Ev P n F A (.binOp .mul t x y u) ty (iv (i*j)):=by
 have:=Ev.ag0 (P:=P) (n:=n) (A:=A) (ty:=ty) (t:=t) (u:=u) hx hy;rwa[s8 h]at this
theorem Ev.neg (hx:aa F x (iv i))(h: -9223372036854775807≤i∧i≤9223372036854775807):Ev P n F A (.unOp .neg t x) ty (iv (-i)):=by
 have:=Ev.an4 (P:=P) (n:=n) (A:=A) (ty:=ty) (t:=t) hx;rwa[s8 (by omega),Int.zero_sub]at this
theorem Ev.ahJ (hx:aa F x (.int k i))(hy:aa F y (.int k j))(h:j≠0):Ev P n F A (.binOp .quo t x y u) ty (.int k (k.wrap (i.tdiv j))):= .of_run λa w ha _=>by simp only[execOp,hx.eval ha,hy.eval ha];simp[go_sem,Op.intDiv,h]
theorem Ev.rem (hx:aa F x (.int k i))(hy:aa F y (.int k j))(h:j≠0):Ev P n F A (.binOp .rem t x y u) ty (.int k (i.tmod j)):= .of_run λa w ha _=>by simp only[execOp,hx.eval ha,hy.eval ha];simp[go_sem,Op.intDiv,h]
theorem Ev.aoF {k':IntKind}(hx:aa F x (.int k i))(hy:aa F y (.int k' j))(h:0≤j):Ev P n F A (.binOp .shl t x y u) ty (.int k (k.wrap (i*2^(min j.toNat k.bits)))):= .of_run λa w ha _=>by
 simp only[execOp,hx.eval ha,hy.eval ha];simp[go_sem,Op.shift,Int.not_lt.2 h]
theorem Ev.shr {k':IntKind}(hx:aa F x (.int k i))(hy:aa F y (.int k' j))(h:0≤j):Ev P n F A (.binOp .shr t x y u) ty (.int k (i.fdiv (2^(min j.toNat k.bits)))):= .of_run λa w ha _=>by
 simp only[execOp,hx.eval ha,hy.eval ha];simp[go_sem,Op.shift,Int.not_lt.2 h]
theorem Ev.sU {b:IntKind}{s d:TypeId}(hx:aa F x (.int k i))(c:(P.underlying s).isSome=true)(hd:P.underlying d=some (.int b)):Ev P n F A (.convert s d x) ty (.int b (b.wrap i)):= .of_run λa w e _=>by
 obtain⟨d0,f⟩:=Option.isSome_iff_exists.mp c
 simp[execOp,hx.eval e,convert,run_underlying f,run_underlying hd,Conv.intToInt]
end ints
section strings
variable {s r:cM}{t u:TypeId}
theorem Ev.R6 (hx:aa F x (sv s))(hy:aa F y (sv r)):Ev P n F A (.binOp .eql t x y u) ty (.bool (s==r)):= .of_run λa w ha _=>by simp only[execOp,hx.eval ha,hy.eval ha];simp[go_sem]
theorem Ev.ahO (hx:aa F x (sv s))(hy:aa F y (sv r)):Ev P n F A (.binOp .neq t x y u) ty (.bool (!(s==r))):= .of_run λa w ha _=>by simp only[execOp,hx.eval ha,hy.eval ha];simp[go_sem]
theorem Ev.Pc {o:TypeId}(hx:aa F x (sv s))(ht:P.underlying o=some .string):Ev P n F A (.call {callee:= .builtin .len,args:= #[x],argTypes:= #[o]}) ty (iv s.length):= .of_run λa w b _=>by
 have h1:=run_len_string (P:=P) w o ty ⟨s.toArray⟩ ht
 simp[execOp,resolve,invoke,builtin,hx.eval b,h1,goInt,ByteArray.size]
theorem Ev.Yd {k:Nat}{i:Int}{b:UInt8}(hx:aa F x (sv s))(hy:aa F y (iv i))(ht:P.underlying t=some .string)(hi:i=k)(c:s[k]?=some b):
 Ev P n F A (.index t x y) ty (.int .u8 b.toNat):= .of_run λa w d _=>by
 subst hi
 have e:k<(⟨s.toArray⟩:ByteArray).size:=by simpa[ByteArray.size]using (fj.1 c).1
 have h1:(⟨s.toArray⟩:ByteArray)[k]?=some b:=by
  rw[ByteArray.getElem?_lt' _ _ e]
  have:=(fj.1 c).2
  simpa[ByteArray.getElem_eq_getElem_data]using this
 simp[execOp,hx.eval d,hy.eval d,Instr.index,asIntOf,run_underlying ht,h1]
theorem Ev.E6 {k:Nat}{i:Int}(hx:aa F x (sv s))(hy:aa F y (iv i))(ht:P.underlying t=some .string)(hi:i=k)(a:k<s.length):
 Ev P n F A (.index t x y) ty (.int .u8 (s.getD k 0).toNat):=Ev.Yd hx hy ht hi (by simp[List.getD_eq_getElem?_getD,List.getElem?_eq_getElem a])
theorem Ev.extract {vs:List Value}{i:Nat}(hx:aa F x (.tuple vs.toArray))(hi:vs[i]?=some v):Ev P n F A (.extract x i) ty v:= .of_run λa w b _=>by
 simp[execOp,hx.eval b,Instr.extract,hi]
end strings
section slices
variable {α:Type}{R:Rp α}{xs:List α}{t:TypeId}
theorem fH.aD {H:List ay}{ρ:Ro}{w:World}{d:e8}(h:fH c H ρ w)(hd:mT d H):d.f ρ:=dJ.1 (h.dR _ hd.mem)
theorem fH.sl {H:List ay}{ρ:Ro}{w:World}(h:fH c H ρ w)(hd:vK v H α R xs):(J.sl R v xs).f ρ:=dJ.1 (h.dR _ hd.mem)
theorem Ev.gN {e:TypeId}[hd:vK v H α R xs](hx:aa F x v)(ht:P.underlying t=some (.slice e)):
 Ev P n F (Mm c H) (.call {callee:= .builtin .len,args:= #[x],argTypes:= #[t]}) ty (iv xs.length):= .of_run λa w b hw=>by
 obtain⟨ρ,hm⟩:=hw.out;obtain⟨ad,cap,rfl,_⟩:=hm.sl hd
 simp[execOp,resolve,invoke,builtin,hx.eval b,Builtin.len_,run_underlying ht,goInt]
theorem Ev.cI {e:TypeId}{k:Nat}{i:Int}{kd:IntKind}[hd:vK v H α R xs](hx:aa F x v)(hy:aa F y (.int kd i))(ht:P.underlying t=some (.slice e))(f:(P.info? e).map (·.size)=some R.size)
 (hi:i=k) (hk:k<xs.length):Ev P n F (Mm c H) (.indexAddr t x y) ty (eL v R.size k 0):= .of_run λa w d hw=>by
 obtain⟨ρ,hm⟩:=hw.out;obtain⟨ad,cap,rfl,_,_,_,g⟩:=hm.sl hd
 rcases g with rfl|⟨b,off,C,l,fr,rfl,m,o⟩
 ·simp at hk
 ·obtain⟨inf,h,j⟩:=eE.1 f
  subst hi
  simp[execOp,hx.eval d,hy.eval d,Instr.indexAt,asIntOf,run_underlying ht,sizeOf,typeInfo,h,j,hk,eJ,Addr.add_lit]
theorem EN {H:List ay}{ρ:Ro}{w:World}(hm:fH c H ρ w)(hd:vK v H α R xs){k off:Nat}{x:α}(hk:xs[k]?=some x):
 ∃b o,eL v R.size k off= .pointer (some ⟨b,o,none⟩)∧∀j,off+j<R.size→w.cell? ⟨b,o+j,none⟩=(R.cells x)[off+j]?:=by
 obtain⟨ad,cap,rfl,_,_,_,e⟩:=hm.sl hd
 rcases e with rfl|⟨b,o,C,i,fr,rfl,f,g⟩
 ·simp at hk
 ·refine⟨b,_,eJ ..,λj a=> ?_⟩
  have d:=eo R xs k (off+j) x hk a
  rw[cg (hm.fits _ _ f)]
  have h:off+j<(R.cells x).length:=by rw[R.len];exact a
  rw[bT h]at d⊢;rw[show o+(k*R.size+off)+j=o+(k*R.size+(off+j)) by omega];exact g _ _ d
theorem wL {β:Type}(d:β){l:List β}{k:Nat}(h:k<l.length):l[k]?=some (l.getD k d):=by rw[ax,bT h];rfl
theorem Ev.ld1 {k off:Nat}{e:α}{d:TypeDesc}{u:Value}[hd:vK v H α R xs](hx:aa F x (eL v R.size k off))(hk:xs[k]?=some e)(ht:P.underlying t=some d)(g:(match d with| .struct _| .array _ _=>False|_=>True))
 (hu:(R.cells e)[off]?=some u):Ev P n F (Mm c H) (.load t x) ty u:= .of_run λa w h hw=>by
 obtain⟨ρ,hm⟩:=hw.out
 have i:off<R.size:=by have:=(fj.1 hu).1;rwa[R.len]at this
 obtain⟨b,o,h1,j⟩:=EN hm hd hk
 have f:=j 0 (by simpa using i)
 simp only[Nat.add_zero]at f
 rw[h1]at hx
 simp[execOp,hx.eval h,Instr.loadAt,Instr.sureAddr,fS ht g (f.trans hu)]
theorem Ev.iD {k:Nat}{e:α}{d:TypeDesc}{L:List Value}[hd:vK v H α R xs](hx:aa F x (eL v R.size k 0))(hk:xs[k]?=some e)(ht:P.underlying t=some d)(g:(match d with| .struct _| .array _ _=>True|_=>False))
 (h:(P.info? t).map (·.size)=some R.size) (i:R.cells e=L):Ev P n F (Mm c H) (.load t x) ty (.agg L.toArray):= .of_run λa w l hw=>by
 obtain⟨ρ,hm⟩:=hw.out;obtain⟨b,o,h1,m⟩:=EN hm hd hk (off:=0);subst i;rw[h1]at hx
 have p:=eS (P:=P) (w:=w) (b:=b) (off:=o) (L:=R.cells e) ht g (by rw[h,R.len]) (λj u f=>by
  have q:=(fj.1 f).1
  rw[R.len]at q
  have:=m j (by omega)
  rw[jH]at this
  rw[this];exact f)
 simp[execOp,hx.eval l,Instr.loadAt,Instr.sureAddr,p]
def bq (P:Program)(s i:Nat):Option Nat:=
 match P.underlying s with
 |some (.struct a)=>match a[i]? with
  |some f=>match P.info? f.type with
   |some inf=>if inf.size=0 then none else some f.offset
   |none=>none
  |none=>none
 |_=>none
theorem o7 {w:World}{s i o:Nat}{ad:Addr}(h:bq P s i=some o):(Instr.fieldAt s (.pointer (some ad)) i).run P w= .ok (.pointer (some (ad.add o))) w:=by
 unfold bq at h
 split at h
 ·rename_i c hu
  split at h
  ·rename_i f a
   split at h
   ·rename_i inf b
    split at h
    ·simp at h
    ·rename_i hz
     simp only[Option.some.injEq]at h
     subst h
     simp[Instr.fieldAt,run_underlying hu,a,Instr.sureAddr,fieldPlace,sizeOf,typeInfo,b,hz]
   ·simp at h
  ·simp at h
 ·simp at h
theorem Ev.W1 {k off o i:Nat}{s:TypeId}[hd:vK v H α R xs](hx:aa F x (eL v R.size k off))(hk:k<xs.length)(d:bq P s i=some o):Ev P n F (Mm c H) (.fieldAddr s x i) ty (eL v R.size k (off+o)):= .of_run λa w e hw=>by
 obtain⟨ρ,hm⟩:=hw.out;obtain⟨ad,cap,rfl,_,_,_,f⟩:=hm.sl hd
 rcases f with rfl|⟨b,of,C,g,fr,rfl,h,j⟩
 ·simp at hk
 ·rw[eJ]at hx
  simp[execOp,hx.eval e,o7 d,eJ,Addr.add_lit,Nat.add_assoc]
end slices
section blocks
variable {t:TypeId}{b off:Nat}{C:Array Value}{e:TypeId}{fr:Nat×Nat}
theorem Ev.Y7 {o i:Nat}{s:TypeId}(hx:aa F x (.pointer (some ⟨b,off,none⟩)))(c:bq P s i=some o):Ev P n F A (.fieldAddr s x i) ty (.pointer (some ⟨b,off+o,none⟩)):= .of_run λa w d hw=>by
 simp[execOp,hx.eval d,o7 c,Addr.add_lit]
theorem Ev.cU {o i:Nat}{s:TypeId}(hx:aa F x (.pointer (some ⟨b,0,none⟩)))(a:bq P s i=some o):Ev P n F A (.fieldAddr s x i) ty (.pointer (some ⟨b,o,none⟩)):=by
 have:=Ev.Y7 (P:=P) (n:=n) (A:=A) (ty:=ty) hx a
 rwa[jH]at this
theorem Ev.jN {d:TypeDesc}{u:Value}{L:List Value}[f:Bf b H (.cells L.toArray e fr)](hx:aa F x (.pointer (some ⟨b,off,none⟩)))(ht:P.underlying t=some d)(g:(match d with| .struct _| .array _ _=>False|_=>True))
 (hu:L[off]?=some u):Ev P n F (Mm c H) (.load t x) ty u:= .of_run λa w h hw=>by
 obtain⟨ρ,hm⟩:=hw.out
 have h1:=gO.1 (hm.dR _ f.mem)
 have i:w.cell? ⟨b,off,none⟩=some u:=by rw[cg h1];simpa using hu
 simp[execOp,hx.eval h,Instr.loadAt,Instr.sureAddr,fS ht g i]
theorem Ev.MS {d:TypeDesc}{L:List Value}[f:Bf b H (.cells L.toArray e fr)](hx:aa F x (.pointer (some ⟨b,0,none⟩)))(ht:P.underlying t=some d)(g:(match d with| .struct _| .array _ _=>True|_=>False))
 (h:(P.info? t).map (·.size)=some L.length):Ev P n F (Mm c H) (.load t x) ty (.agg L.toArray):= .of_run λa w i hw=>by
 obtain⟨ρ,hm⟩:=hw.out
 have h1:=gO.1 (hm.dR _ f.mem)
 have k:=eS (P:=P) (w:=w) (b:=b) (off:=0) (L:=L) ht g h (λj u l=>by rw[cg h1];simpa using l)
 simp[execOp,hx.eval i,Instr.loadAt,Instr.sureAddr,k]
end blocks
def au (F:Fr):List Operand→List Value→Prop
 | [],[]=>True
 |x::xs,v::vs=>aa F x v∧au F xs vs
 |_,_=>False
theorem au.nil:au F [] []:=trivial
theorem au.cons {xs:List Operand}{vs:List Value}(h:aa F x v)(k:au F xs vs):au F (x::xs) (v::vs):=⟨h,k⟩
theorem au.eval {a:Act}(b:Has n a F):∀{xs:List Operand} {vs:List Value},au F xs vs→xs.map a.eval=vs
 | [],[],_=>rfl
 |x::xs,v::vs,h=>by rw[fM,h.1.eval b,au.eval b h.2]
theorem Ev.build {t:TypeId}{ps:List (Nat×Operand)}{vs:List Value}(hp:au F (ps.map (·.2)) vs)(b:∀w,(Instr.build t ((ps.map (·.1)).zip vs).toArray).run P w= .ok v w):Ev P n F A (.build t ps.toArray) ty v:= .of_run λa w c _=>by
 have h1:ps.map (λp=>(p.1,a.eval p.2))=(ps.map (·.1)).zip vs:=by
  rw[←au.eval c hp]
  clear hp b
  induction ps with
  |nil=>rfl
  |cons p ps d=>simp[d]
 have e:(ps.toArray.map λ(i,x)=>(i,a.eval x))=((ps.map (·.1)).zip vs).toArray:=by
  rw[←h1];simp
 simp only[execOp,e,Sem.run_bind,b,Result.andThen_ok,Sem.run_pure]
theorem DZ {f : FuncId} {args : Array Value} {w : World} {fn : Func} (b : P.funcs[f]? = some fn) (c : fn.body.isSome = true) (d : (fn.name == "runtime.NumGoroutine") = false) : (callFunc f args).run P w = .ok (.enter f args) w := by
 unfold callFunc
 simp[b]
 cases a:fn.body with
 |none=>simp[a]at c
 |some cd=>simpa using d
end
theorem fH.GK {c:Ctx}{H:List ay}{ρ:Ro}{w w':World}{E:ay}(h:fH c H ρ w)(e:w'.os=w.os)(ht:w'.tape=w.tape∧w.drawn≤w'.drawn)(i:w'.output=w.output)(j:w.heap.size≤w'.heap.size)
 (hk:∀k,k<w.heap.size→w'.heap[k]?=w.heap[k]?) (l:E.ok ρ w') (f:∀b,E.key=some b→w.heap.size≤b):fH c (E::H) ρ w':=by
 have m:fH c ([]++H) ρ w:=h
 refine fH.step (H2:=[E]) m ⟨e,⟨ht.1,λ_=>ht.2⟩,i,j,λk n _=>hk k n,λk o d=> ?_,Ro.le_refl _,λ_ _ _=>rfl,?_,?_,?_⟩
 ·rw[hk k (h.Ay d)];exact h.fits k o d
 ·intro p a;simp at a;subst a;exact l
 ·intro p a b g
  simp at a;subst a
  refine⟨?_,.inl (f b g)⟩
  cases d:ρ b with
  |none=>rfl
  |some o=>have h1:=h.Ay d;have q:=f b g;omega
 ·exact D2 ..
theorem fH.alter {c:Ctx}{H:List ay}{ρ:Ro}{w w':World}{E f:ay}(h:fH c (E::H) ρ w)(g:w'.os=w.os)(ht:w'.tape=w.tape∧w.drawn≤w'.drawn)(j:w'.output=w.output)(l:w.heap.size≤w'.heap.size)
 (hk:∀k,k<w.heap.size→E.key≠some k→w'.heap[k]?=w.heap[k]?) (m:f.ok ρ w') (n:∀b,f.key=some b→E.key=some b∨w.heap.size≤b):fH c (f::H) ρ w':=by
 have p:fH c ([E]++H) ρ w:=h
 refine fH.step (H2:=[f]) p ⟨g,⟨ht.1,λ_=>ht.2⟩,j,l,λk q r=>hk k q (λe=>r ⟨E,by simp,e⟩),λk o a=> ?_,Ro.le_refl _,λ_ _ _=>rfl,?_,?_,?_⟩
 ·rw[hk k (h.Ay a)]
  ·exact h.fits k o a
  ·intro e
   have:=(h.own E (by simp) k e).1
   rw[a]at this;cases this
 ·intro i d;simp at d;subst d;exact m
 ·intro i d b s
  simp at d;subst d
  rcases n b s with h1|h1
  ·exact⟨(h.own E (by simp) b h1).1,.inr ⟨E,by simp,h1⟩⟩
  ·refine⟨?_,.inl h1⟩
   cases a:ρ b with
   |none=>rfl
   |some o=>have:=h.Ay a;omega
 ·exact D2 ..
theorem fH.alloc {c:Ctx}{H:List ay}{ρ:Ro}{w:World}(h:fH c H ρ w)(o:Obj):fH c (aW w.heap.size o::H) ρ (w.alloc o):=
 h.GK rfl ⟨rfl,aU _⟩ rfl (by simp) (λk hk=>RowKit.Below.heap_alloc w _ k hk) (gO.2 (heap_alloc_new w o)) (λb a=>by rw[ir]at a;simp at a;omega)
class Ez (L:List Value)(off:Nat)(v:Value)(L':outParam (List Value)):Prop where
 eq:L.set off v=L'
instance Ez.here (x:Value)(L:List Value)(v:Value):Ez (x::L) 0 v (v::L):=⟨rfl⟩
instance Ez.there (x:Value)(L:List Value)(v:Value)(k:Nat)(L':List Value)[h:Ez L k v L']:Ez (x::L) (k+1) v (x::L'):=⟨by rw[HF,h.eq]⟩
class xU (v:Value)(H:List ay)(e:outParam TypeId)(size n:outParam Nat)(cs:outParam (List Value)):Prop where
 mem:row v e size n cs∈H
instance (priority:=high) xU.here (v:Value)(e:TypeId)(size n:Nat)(cs:List Value)(H:List ay):xU v (row v e size n cs::H) e size n cs:=⟨aR ..⟩
instance xU.there (v:Value)(e:TypeId)(size n:Nat)(cs:List Value)(E:ay)(H:List ay)[h:xU v H e size n cs]:xU v (E::H) e size n cs:=⟨cO _ h.mem⟩
theorem bL (C:Array Value):(Value.agg C).cells=C:=rfl
theorem cells_one {v:Value}(h:v.oneCell'=true):v.cells= #[v]:=by
 cases v<;>first|rfl|simp[Value.oneCell']at h
section
variable {P:Program}{n:Nat}{F:Fr}{A:World→Prop}{c:Ctx}{H R:List ay}{ty:TypeId}{x y z:Operand}{v:Value}{Q:Exit→Act→World→Prop}{ops:Array Oper}{rest:List Oper}
 {d:Nat} {pos:String} {after:Array Edge} {t e:TypeId}
theorem St.alloc {Z:Array Value}(hz:(P.info? t).bind (λi=>i.zero.map Value.cells)=some Z)(hd:Nat.ble (d+1) n=true)
 (h:∀b,St n ((d,.pointer (some ⟨b,0,none⟩))::F) (Mm c (aW b (.cells Z t (0,0))::H)) (wpList P ops Q rest)):
 St n F (Mm c H) (wpList P ops Q ({dst:=some d,op:= .alloc t,type:=ty,pos:=pos,after:=after,guard:=none}::rest)):=by
 refine St.SJ (K:=λu H'=>∃b,u= .pointer (some ⟨b,0,none⟩)∧H'=aW b (.cells Z t (0,0))::H) ?_ hd ?_
 ·intro a w ρ g hm
  obtain⟨i,hi,f⟩:=oc.1 hz;obtain⟨zv,e,rfl⟩:=eE.1 f;refine⟨.value (.pointer (some ⟨w.heap.size,0,none⟩)),w.alloc (.cells zv.cells t),ρ,_,?_,⟨_,.inl rfl,_,rfl,rfl⟩,hm.alloc _⟩
  simp[execOp,Instr.alloc,zeroValue,typeInfo,hi,e,newVar,newRow]
 ·rintro _ _ ⟨b,rfl,rfl⟩
  exact h b
theorem St.Ll (hx:aa F x v)(h1:v.oneCell'=true)(hd:Nat.ble (d+1) n=true)
 (h:∀b,St n ((d,.pointer (some ⟨b,0,none⟩))::F) (Mm c (aW b (.cells #[v] t (0,0))::H)) (wpList P ops Q rest)):
 St n F (Mm c H) (wpList P ops Q ({dst:=some d,op:= .box t x,type:=ty,pos:=pos,after:=after,guard:=none}::rest)):=by
 refine St.SJ (K:=λu H'=>∃b,u= .pointer (some ⟨b,0,none⟩)∧H'=aW b (.cells #[v] t (0,0))::H) ?_ hd ?_
 ·intro a w ρ e hm
  refine⟨.value (.pointer (some ⟨w.heap.size,0,none⟩)),w.alloc (.cells #[v] t),ρ,_,?_,⟨_,.inl rfl,_,rfl,rfl⟩,hm.alloc _⟩
  simp[execOp,Instr.box,hx.eval e,newVar,newRow,cells_one h1]
 ·rintro _ _ ⟨b,rfl,rfl⟩
  exact h b
theorem St.cC {L:List Value}(hx:aa F x (.agg L.toArray))(hd:Nat.ble (d+1) n=true)
 (h:∀b,St n ((d,.pointer (some ⟨b,0,none⟩))::F) (Mm c (aW b (.cells L.toArray t (0,0))::H)) (wpList P ops Q rest)):
 St n F (Mm c H) (wpList P ops Q ({dst:=some d,op:= .box t x,type:=ty,pos:=pos,after:=after,guard:=none}::rest)):=by
 refine St.SJ (K:=λu H'=>∃b,u= .pointer (some ⟨b,0,none⟩)∧H'=aW b (.cells L.toArray t (0,0))::H) ?_ hd ?_
 ·intro a w ρ e hm
  refine⟨.value (.pointer (some ⟨w.heap.size,0,none⟩)),w.alloc (.cells L.toArray t),ρ,_,?_,⟨_,.inl rfl,_,rfl,rfl⟩,hm.alloc _⟩
  simp[execOp,Instr.box,hx.eval e,newVar,newRow,Value.cells]
 ·rintro _ _ ⟨b,rfl,rfl⟩
  exact h b
theorem o8 {w:World}{b off:Nat}{C:Array Value}{v:Value}(h:w.heap[b]?=some (.cells C e (0,0))):(w.setCell ⟨b,off,none⟩ v).heap[b]?=some (.cells (C.setIfInBounds off v) e (0,0)):=by
 simp[World.setCell,Array.getElem?_modify,h]
theorem St.cP {b off:Nat}{L L':List Value}[m:mA b H (.cells L.toArray e (0,0)) R](hx:aa F x (.pointer (some ⟨b,off,none⟩)))(hy:aa F y v)[sl:Ez L off v L'](o:(P.info? t).map (·.size)=some 1)(h1:v.oneCell'=true)
 (p:Nat.ble (off+1) L.length=true) (h:St n F (Mm c (aW b (.cells L'.toArray e (0,0))::R)) (wpList P ops Q rest)):
 St n F (Mm c H) (wpList P ops Q ({dst:=none,op:= .store t x y,type:=ty,pos:=pos,after:=after,guard:=none}::rest)):=by
 refine St.nu (K:=λu H'=>H'=aW b (.cells L'.toArray e (0,0))::R) ?_ ?_
 ·intro a w ρ f hm
  have g:=hm.perm m.perm
  have d:=gO.1 (g.dR _ (aR ..))
  have z:=dS p
  have q:w.cell? ⟨b,off,none⟩=some L[off]:=by rw[cg d];simp
  have r:w.frozen? ⟨b,off,none⟩=false:=by simp[World.frozen?,d]
  obtain⟨i,hi,s⟩:=eE.1 o;refine⟨.skip,w.setCell ⟨b,off,none⟩ v,ρ,_,?_,⟨_,.inr ⟨rfl,rfl⟩,rfl⟩,?_⟩
  ·simp[execOp,hx.eval f,hy.eval f,Instr.storeAt,Instr.sureAddr,storeVar,sizeOf,typeInfo,hi,s,cells_one h1,storeCells,run_store P w _ v _ h1,q,r,Addr.add_zero']
  ·refine g.alter rfl ⟨rfl,aU _⟩ rfl (by simp) (λk hk j=> ?_) (gO.2 ?_) (λA l=>by rw[ir]at l⊢;exact .inl l)
   ·rw[ir]at j
    simp only[World.setCell,Array.getElem?_modify]
    rw[aA (λe=>j (by rw[e]))]
   ·rw[o8 d,←sl.eq]
    simp
 ·rintro _ _ rfl
  exact h
theorem St.R3 {b:Nat}{L L':List Value}[l:mA b H (.cells L.toArray t (0,0)) R](hx:aa F x (.pointer (some ⟨b,0,none⟩)))(hy:aa F y (.agg L'.toArray))(m:(P.info? e).map (·.size)=some L'.length)(o:L.length=L'.length)
 (h1:L'.all (·.oneCell')=true) (h:St n F (Mm c (aW b (.cells L'.toArray t (0,0))::R)) (wpList P ops Q rest)):
 St n F (Mm c H) (wpList P ops Q ({dst:=none,op:= .store e x y,type:=ty,pos:=pos,after:=after,guard:=none}::rest)):=by
 refine St.nu (K:=λu H'=>H'=aW b (.cells L'.toArray t (0,0))::R) ?_ ?_
 ·intro a w ρ d hm
  have f:=hm.perm l.perm
  have g:=gO.1 (f.dR _ (aR ..))
  have p:=run_storeVar_row (P:=P) w b t e L.toArray L'.toArray g (by simpa using m) (by simpa using o) (by simpa using h1)
  refine⟨.skip,w.setRow b L'.toArray,ρ,_,?_,⟨_,.inr ⟨rfl,rfl⟩,rfl⟩,?_⟩
  ·simp[execOp,hx.eval d,hy.eval d,Instr.storeAt,Instr.sureAddr,p]
  ·refine f.alter rfl ⟨rfl,aU _⟩ rfl (by simp) (λk hk i=> ?_) (gO.2 ?_) (λq j=>by rw[ir]at j⊢;exact .inl j)
   ·rw[ir]at i
    exact setRow_other w b k _ (λe=>i (by rw[e]))
   ·exact setRow_heap w b L.toArray L'.toArray t _ g
 ·rintro _ _ rfl
  exact h
theorem Ev.func {f:FuncId}{cs:List Operand}{vs:List Value}(b:au F cs vs):Ev P n F A (.makeFunc (.func f) #[] cs.toArray) ty (.func (.func f) #[] vs.toArray):= .of_run λa w c _=>by
 have:=au.eval c b
 simp[execOp,Instr.makeFunc,this]
theorem Fc (size:Nat):∀(vs:List Value) (k:Nat) (pre post:List Value),pre.length=k*size→(∀u∈vs,u.cells.size=size)→post.length=vs.length*size→
 Instr.fill (λi=>some (i*size,size)) (pre++post).toArray ((vs.zipIdx k).map λp=>(p.2,p.1))=some (pre++vs.flatMap λu=>u.cells.toList).toArray
 | [],k,pre,post,_,_,hp=>by
  have:post=[]:=ka (by simpa using hp)
  subst this
  simp[Instr.fill]
 |u::vs,k,pre,post,a,hu,b=>by
  have f:=hu u (by simp)
  have hlen:post.length=size+vs.length*size:=by rw[b,fL,jK];omega
  have d:∀(l:List Value) (m:Nat) (Z:List Value),m+l.length≤Z.length→((l.zipIdx m).foldl (λcs p=>cs.setIfInBounds (k*size+p.2) p.1) (pre++Z).toArray)=(pre++(Z.take m++l++Z.drop (m+l.length))).toArray:=by
   intro l
   induction l with
   |nil=>intro m Z _;simp
   |cons y l e=>
    intro m Z g
    simp only[List.length_cons]at g
    simp only[List.zipIdx_cons,List.foldl_cons]
    have h:(pre++Z).toArray.setIfInBounds (k*size+m) y=(pre++Z.set m y).toArray:=by
     simp only[List.setIfInBounds_toArray]
     rw[oE _ _ (by omega)]
     congr 2
     rw[show k*size+m-pre.length=m by omega]
    rw[h,e (m+1) (Z.set m y) (by simp;omega)]
    congr 2
    simp only[List.length_cons]
    rw[List.drop_set_of_lt (by omega),show m+1+l.length=m+(l.length+1) by omega];rw[List.take_set]
    have:(Z.take (m+1)).set m y=Z.take m++ [y]:=by
     rw[LO (by omega),oE _ _ (by simp[Nat.min_le_left])]
     simp[show min m Z.length=m by omega]
    rw[this]
    simp
  simp only[List.zipIdx_cons,List.map_cons,Instr.fill]
  have q:¬(u.cells.size≠size∨(pre++post).toArray.size<k*size+u.cells.size):=by simp;omega
  have n:((decide (u.cells.size≠size))||decide (k*size+u.cells.size>(pre++post).toArray.size))=false:=by
   simp;omega
  simp only[n,Bool.false_eq_true,if_false]
  have o:=d u.cells.toList 0 post (by simp;omega)
  have hz:u.cells.zipIdx.foldl (λcs (c,j)=>cs.setIfInBounds (k*size+j) c) (pre++post).toArray=(pre++(u.cells.toList++post.drop size)).toArray:=by
   rw[←Array.foldl_toList]
   simp only[Array.toList_zipIdx]
   rw[o]
   simp[f]
  rw[hz,←dg]
  have e:=Fc size vs (k+1) (pre++u.cells.toList) (post.drop size) (by simp[f,a,Nat.add_mul]) (λx hx=>hu x (by simp[hx])) (by simp;omega)
  rw[e]
  simp
theorem St.DY {size:Nat}{xs:List Operand}{vs:List Value}{ps:List (Nat×Operand)}{zv:Value}(hp:ps=xs.zipIdx.map λp=>(p.2,p.1))(hx:au F xs vs)(ht:P.underlying t=some (.slice e))(C:(P.info? e).map (·.size)=some size)
 (hz:(P.info? e).bind (·.zero)=some zv) (s:Nat.ble 1 size=true) (hlen:Nat.ble (vs.length*size) 16777216=true) (g:∀u∈vs,u.cells.size=size) (hd:Nat.ble (d+1) n=true)
 {m:Nat} (hm:m=vs.length)
 (h:∀b,St n ((d,.slice (some ⟨b,0,none⟩) m m)::F) (Mm c (row (.slice (some ⟨b,0,none⟩) m m) e size m (vs.flatMap λu=>u.cells.toList)::H)) (wpList P ops Q rest)):
 St n F (Mm c H) (wpList P ops Q ({dst:=some d,op:= .buildSlice t m ps.toArray,type:=ty,pos:=pos,after:=after,guard:=none}::rest)):=by
 subst hm;refine St.SJ (K:=λu H'=>∃b,u= .slice (some ⟨b,0,none⟩) vs.length vs.length∧H'=row (.slice (some ⟨b,0,none⟩) vs.length vs.length) e size vs.length (vs.flatMap λu=>u.cells.toList)::H) ?_ hd ?_
 ·intro a w ρ D E
  have hle:=dS hlen
  have j:=au.eval D hx
  have G:xs.length=vs.length:=by rw[←j,aO]
  obtain⟨i,hi,v⟩:=eE.1 C
  have l:i.zero=some zv:=by rw[hi]at hz;simpa using hz
  have o:(vs.flatMap λu=>u.cells.toList).length=vs.length*size:=by
   clear hx j G hle hlen h
   induction vs with
   |nil=>simp
   |cons u vs I=>
    simp only[List.flatMap_cons,List.length_append,List.length_cons,Nat.add_mul]
    rw[I (λx hx=>g x (by simp[hx]))]
    have:=g u (by simp)
    simp[this];omega
  have q:(ps.toArray.map λ(i,x)=>(i,a.eval x)).toList=(vs.zipIdx).map λp=>(p.2,p.1):=by
   subst hp;rw[←j]
   simp[List.zipIdx_map,Function.comp_def]
  refine⟨.value (.slice (some ⟨w.heap.size,0,none⟩) vs.length vs.length),w.alloc (.cells (vs.flatMap λu=>u.cells.toList).toArray e),ρ,_,?_,⟨_,.inl rfl,_,rfl,rfl⟩,?_⟩
  ·by_cases y:vs.length*size=0
   ·have r:vs=[]:=by
     rcases Nat.mul_eq_zero.1 y with h1|h1
     ·exact ka h1
     ·have:=dS s;omega
    rw[r]at q⊢
    simp only[execOp,Instr.buildSlice,Sem.run_bind,run_underlying ht,Result.andThen_ok,sizeOf,typeInfo,Sem.run_pure,q,run_program,hi,v]
    simp[Instr.fill,newRow,Array.range_zero']
   ·obtain⟨z,f⟩:∃z:List Value,((Array.range (vs.length*size)).map (zv.cells[· %zv.cells.size]!))=z.toArray:=⟨_,(Array.toArray_toList).symm⟩
    have J:z.length=vs.length*size:=by have:=congrArg Array.size f;simpa using this.symm
    have A:=Fc size vs 0 [] z (by simp) g J
    simp only[List.nil_append]at A
    have p5:¬vs.length*size>2^24:=by simp;omega
    simp only[execOp,Instr.buildSlice,Sem.run_bind,run_underlying ht,Result.andThen_ok,sizeOf,typeInfo,Sem.run_pure,q,run_program,hi,v,zeroValue,l,p5,y,if_false,f,Sem.run_ite]
    simp[A,newRow]
  ·refine E.GK rfl ⟨rfl,aU _⟩ rfl (by simp) (λk hk=>RowKit.Below.heap_alloc w _ k hk) (eQ.2 ⟨o,.inr ⟨w.heap.size,vs.length,_,rfl,aQ _,heap_alloc_new w _,aU _,?_,?_,?_⟩⟩) ?_
   ·have:vs.length≤vs.length*size:=Nat.le_mul_of_pos_right _ (dS s)
    unfold maxLen;omega
   ·rw[List.size_toArray,o]
   ·rw[←o,iT]
   ·intro b B;rw[eA]at B;simp[Value.ownBlock]at B;omega
 ·rintro _ _ ⟨b,rfl,rfl⟩
  exact h b
def aK (P : Program) (f : FuncId) : Prop := ∃ fn, P.funcs[f]? = some fn ∧ fn.body.isSome = true ∧ (fn.name == "runtime.NumGoroutine") = false
theorem aK.run {f:FuncId}(h:aK P f){args:Array Value}{w:World}:(callFunc f args).run P w= .ok (.enter f args) w:=
 let⟨_,h1,a,b⟩:=h;DZ h1 a b
theorem Mm.wh {dr:Prop}{f:FuncId}{args:Array Value}{pre R:List ay}{post:Value→List ay→Prop}(b:DA dr P f args pre post)(d:c.dr→dr){w:World}(hm:Mm c (pre++R) w):
 Calls P f args w λe w'=>∃v H',e= .returned v∧post v H'∧Mm c (H'++R) w':=by
 obtain⟨ρ,hm⟩:=hm.out;refine(b w ρ hm.start).mono ?_;rintro e w' ⟨v,H',he,hp,a⟩;obtain⟨kK,a⟩:=a.out;exact⟨v,H',he,hp,Mm.mk (hm.step (a.dr d))⟩
theorem Mm.call {f:FuncId}{args:Array Value}{pre R:List ay}{post:Value→List ay→Prop}(a:dx P f args pre post){w:World}(hm:Mm c (pre++R) w):
 Calls P f args w λe w'=>∃v H',e= .returned v∧post v H'∧Mm c (H'++R) w':=Mm.wh a.gen (λ_=>trivial) hm
theorem Mm.nK {ds:List e8}[hd:lG ds H]{w:World}(hm:Mm c H w):Mm c (ds.map aD++H) w:=
 let⟨_,k⟩:=hm.out;Mm.mk (k.BA ds λd h=>dJ.1 (k.dR _ (hd.mem d h)))
theorem mV {f:FuncId}{xs:List Operand}{c:Array TypeId}{vs caps:List Value}(d:aK P f)(hx:au F (x::xs) (.func (.func f) #[] caps.toArray::vs)){a:Act}(b:Has n a F)(w:World):
 (execOp a.eval (bare (.call {callee:= .value x,args:=xs.toArray,argTypes:=c}) ty)).run P w= .ok (.enter f (vs++caps).toArray) w:=by
 have h1:=hx.1.eval b
 have g:=au.eval b hx.2
 simp only[execOp,resolve,h1,Deferred.ofValue,Sem.run_bind,Sem.run_pure,Result.andThen_ok,invoke]
 have e:(#[]++xs.toArray.map a.eval++caps.toArray)=(vs++caps).toArray:=by simp[g]
 rw[e];exact d.run
theorem Ev.call {f:FuncId}{xs:List Operand}{b:Array TypeId}{vs:List Value}{ds:List e8}(d:dK P f vs.toArray ds v)(g:aK P f)(hx:au F xs vs)[hd:lG ds H]:
 Ev P n F (Mm c H) (.call {callee:= .value (.func f),args:=xs.toArray,argTypes:=b}) ty v:=by
 intro a w h hw;rw[mV (caps:=[]) g (au.cons (aa.mk rfl) hx) h w]
 simp only[List.append_nil,Oper.quietUpon,true_and]
 refine(Mm.call d hw.nK).mono ?_;rintro e w' ⟨u,H',rfl,rfl,hm⟩;refine⟨rfl,?_⟩;obtain⟨ρ,hm⟩:=hm.out;exact Mm.mk ((hm.perm kf).left)
theorem Ev.nj {f:FuncId}{xs:List Operand}{b:Array TypeId}{vs:List Value}{ds:List e8}(d:¬c.dr)(g:kL P f vs.toArray ds v)(i:aK P f)(hx:au F xs vs)[hd:lG ds H]:
 Ev P n F (Mm c H) (.call {callee:= .value (.func f),args:=xs.toArray,argTypes:=b}) ty v:=by
 intro a w j hw;rw[mV (caps:=[]) i (au.cons (aa.mk rfl) hx) j w]
 simp only[List.append_nil,Oper.quietUpon,true_and]
 refine(Mm.wh g (λh=>absurd h d) hw.nK).mono ?_;rintro e w' ⟨u,H',rfl,rfl,hm⟩;refine⟨rfl,?_⟩;obtain⟨ρ,hm⟩:=hm.out;exact Mm.mk ((hm.perm kf).left)
theorem Ev.ej {f:FuncId}{xs:List Operand}{b:Array TypeId}{vs caps:List Value}{ds:List e8}(d:dK P f (vs++caps).toArray ds v)(g:aK P f)(h:aa F x (.func (.func f) #[] caps.toArray))(hx:au F xs vs)[hd:lG ds H]:
 Ev P n F (Mm c H) (.call {callee:= .value x,args:=xs.toArray,argTypes:=b}) ty v:=by
 intro a w i hw;rw[mV g (au.cons h hx) i w]
 simp only[Oper.quietUpon,true_and]
 refine(Mm.call d hw.nK).mono ?_;rintro e w' ⟨u,H',rfl,rfl,hm⟩;refine⟨rfl,?_⟩;obtain⟨ρ,hm⟩:=hm.out;exact Mm.mk ((hm.perm kf).left)
theorem gW {f:FuncId}{xs:List Operand}{b:Array TypeId}{vs caps:List Value}(c:aK P f)(hx:au F (x::xs) (.func (.func f) #[] caps.toArray::vs)){a:Act}(d:Has n a F)(w:World){K:Act→World→Prop}
 {dd:Option Tmp} {g:Option (Nat×Bool)}
 (hk:Calls P f (vs++caps).toArray w λe w'=>∃v,e= .returned v∧K (a.put dd v) w'):
 ({dst:=dd,op:= .call {callee:= .value x,args:=xs.toArray,argTypes:=b},type:=ty,pos:=pos,after:=after,guard:=g}:Oper).wp P a w K Q:=by
 unfold Oper.wp Oper.upon;rw[jA,mV c hx d w]
 exact hk.mono λe w' ⟨v,he,h⟩=>by subst he;exact h
theorem St.call {f:FuncId}{xs:List Operand}{g:Array TypeId}{vs:List Value}{pre R:List ay}{post:Value→List ay→Prop}(i:dx P f vs.toArray pre post)(j:aK P f)(hx:au F xs vs)(hd:Nat.ble (d+1) n=true)[k:fE pre H R]
 (h:∀v H',post v H'→St n ((d,v)::F) (Mm c (H'++R)) (wpList P ops Q rest)):
 St n F (Mm c H) (wpList P ops Q ({dst:=some d,op:= .call {callee:= .value (.func f),args:=xs.toArray,argTypes:=g},type:=ty,pos:=pos,after:=after,guard:=none}::rest)):=by
 intro a w b hw;refine hP rfl (gW (caps:=[]) j (au.cons (aa.mk rfl) hx) b w ?_)
 simp only[List.append_nil]
 refine(Mm.call i (hw.take (L:=pre))).mono ?_;rintro e w' ⟨u,H',rfl,hp,hm⟩;exact⟨u,rfl,h u H' hp _ w' (b.put (dS hd) u) hm⟩
theorem St.ak {f:FuncId}{xs:List Operand}{g:Array TypeId}{vs:List Value}{ds:List e8}{post:Value→List ay→Prop}(i:dx P f vs.toArray (ds.map aD) post)(j:aK P f)(hx:au F xs vs)(hd:Nat.ble (d+1) n=true)[k:lG ds H]
 (h:∀v H',post v H'→St n ((d,v)::F) (Mm c (H'++H)) (wpList P ops Q rest)):
 St n F (Mm c H) (wpList P ops Q ({dst:=some d,op:= .call {callee:= .value (.func f),args:=xs.toArray,argTypes:=g},type:=ty,pos:=pos,after:=after,guard:=none}::rest)):=by
 intro a w b hw;refine hP rfl (gW (caps:=[]) j (au.cons (aa.mk rfl) hx) b w ?_)
 simp only[List.append_nil]
 refine(Mm.call i (hw.nK (ds:=ds))).mono ?_;rintro e w' ⟨u,H',rfl,hp,hm⟩;exact⟨u,rfl,h u H' hp _ w' (b.put (dS hd) u) hm⟩
theorem St.pS {f:FuncId}{xs:List Operand}{g:Array TypeId}{vs:List Value}{ds:List e8}{post:Value→List ay→Prop}(i:¬c.dr)(j:Be P f vs.toArray (ds.map aD) post)(k:aK P f)(hx:au F xs vs)(hd:Nat.ble (d+1) n=true)[l:lG ds H]
 (h:∀v H',post v H'→St n ((d,v)::F) (Mm c (H'++H)) (wpList P ops Q rest)):
 St n F (Mm c H) (wpList P ops Q ({dst:=some d,op:= .call {callee:= .value (.func f),args:=xs.toArray,argTypes:=g},type:=ty,pos:=pos,after:=after,guard:=none}::rest)):=by
 intro a w b hw;refine hP rfl (gW (caps:=[]) k (au.cons (aa.mk rfl) hx) b w ?_)
 simp only[List.append_nil]
 refine(Mm.wh j (λh=>absurd h i) (hw.nK (ds:=ds))).mono ?_;rintro e w' ⟨u,H',rfl,hp,hm⟩;exact⟨u,rfl,h u H' hp _ w' (b.put (dS hd) u) hm⟩
theorem St.ej {f:FuncId}{xs:List Operand}{g:Array TypeId}{vs caps:List Value}{pre R:List ay}{post:Value→List ay→Prop}(i:dx P f (vs++caps).toArray pre post)(j:aK P f)(k:aa F x (.func (.func f) #[] caps.toArray))(hx:au F xs vs)(hd:Nat.ble (d+1) n=true)[l:fE pre H R]
 (h:∀v H',post v H'→St n ((d,v)::F) (Mm c (H'++R)) (wpList P ops Q rest)):
 St n F (Mm c H) (wpList P ops Q ({dst:=some d,op:= .call {callee:= .value x,args:=xs.toArray,argTypes:=g},type:=ty,pos:=pos,after:=after,guard:=none}::rest)):=by
 intro a w b hw;refine hP rfl (gW j (au.cons k hx) b w ?_);refine(Mm.call i (hw.take (L:=pre))).mono ?_;rintro e w' ⟨u,H',rfl,hp,hm⟩;exact⟨u,rfl,h u H' hp _ w' (b.put (dS hd) u) hm⟩
def dB (P:Program)(t:TypeId)(w:World):Result (Array (Nat×Nat)):=
 match P.underlying t with
 |some (.struct a)=>(a.mapM λf=>(do pure (f.offset,←sizeOf f.type):Sem (Nat×Nat))).run P w
 | _ => .halt (.stuck "") w
theorem bI {Z C:Array Value}{pl:Array (Nat×Nat)}{parts:List (Nat×Value)}{w:World}(hz:(P.info? t).bind (λi=>i.zero.map Value.cells)=some Z)(hp:dB P t w= .ok pl w)(b:Instr.fill (pl[·]?) Z parts=some C):
 (Instr.build t parts.toArray).run P w= .ok (.agg C) w:=by
 obtain⟨i,hi,c⟩:=oc.1 hz;obtain⟨zv,a,rfl⟩:=eE.1 c;unfold dB at hp
 split at hp
 ·rename_i d hu
  simp only[Instr.build,zeroValue,typeInfo,Sem.run_bind,run_program,Result.andThen_ok,hi,a,Sem.run_pure,run_underlying hu,hp,b]
 ·cases hp
end
def aC:Fr→Fr→Prop
 |F,F0=>Sub F0 F
theorem aC.nil {F:Fr}:aC F []:=trivial
theorem aC.cons {F F0:Fr}(k:Nat){v:Value}(h:look F k=some v)(a:aC F F0):aC F ((k,v)::F0):=⟨h,a⟩
theorem zE {p:Prop}(h:p:=by omega):p:=h
abbrev tW (b:Nat):Value:=.pointer (some ⟨b,0,none⟩)
abbrev tO (b n m:Nat):Value:=.slice (some ⟨b,0,none⟩) n m
abbrev tI (b:Nat)(L:List Value)(t:TypeId):ay:=aW b (.cells L.toArray t (0,0))
theorem aC.k1 {F:Fr}(a0:Nat){u0:Value}(h0:look F a0=some u0:=by rfl):aC F [(a0,u0)]:=⟨h0,trivial⟩
theorem aC.k2 {F:Fr}(a0 a1:Nat){u0 u1:Value}(h0:look F a0=some u0:=by rfl)(h1:look F a1=some u1:=by rfl):aC F [(a0,u0),(a1,u1)]:=⟨h0,⟨h1,trivial⟩⟩
theorem aC.k3 {F:Fr}(a0 a1 a2:Nat){u0 u1 u2:Value}(h0:look F a0=some u0:=by rfl)(h1:look F a1=some u1:=by rfl)(h2:look F a2=some u2:=by rfl):aC F [(a0,u0),(a1,u1),(a2,u2)]:=⟨h0,⟨h1,⟨h2,trivial⟩⟩⟩
theorem aC.k4 {F:Fr}(a0 a1 a2 a3:Nat){u0 u1 u2 u3:Value}(h0:look F a0=some u0:=by rfl)(h1:look F a1=some u1:=by rfl)(h2:look F a2=some u2:=by rfl)(h3:look F a3=some u3:=by rfl):aC F [(a0,u0),(a1,u1),(a2,u2),(a3,u3)]:=⟨h0,⟨h1,⟨h2,⟨h3,trivial⟩⟩⟩⟩
theorem aC.k5 {F:Fr}(a0 a1 a2 a3 a4:Nat){u0 u1 u2 u3 u4:Value}(h0:look F a0=some u0:=by rfl)(h1:look F a1=some u1:=by rfl)(h2:look F a2=some u2:=by rfl)(h3:look F a3=some u3:=by rfl)(h4:look F a4=some u4:=by rfl):aC F [(a0,u0),(a1,u1),(a2,u2),(a3,u3),(a4,u4)]:=⟨h0,⟨h1,⟨h2,⟨h3,⟨h4,trivial⟩⟩⟩⟩⟩
theorem aC.k6 {F:Fr}(a0 a1 a2 a3 a4 a5:Nat){u0 u1 u2 u3 u4 u5:Value}(h0:look F a0=some u0:=by rfl)(h1:look F a1=some u1:=by rfl)(h2:look F a2=some u2:=by rfl)(h3:look F a3=some u3:=by rfl)(h4:look F a4=some u4:=by rfl)(h5:look F a5=some u5:=by rfl):aC F [(a0,u0),(a1,u1),(a2,u2),(a3,u3),(a4,u4),(a5,u5)]:=⟨h0,⟨h1,⟨h2,⟨h3,⟨h4,⟨h5,trivial⟩⟩⟩⟩⟩⟩
theorem aC.k7 {F:Fr}(a0 a1 a2 a3 a4 a5 a6:Nat){u0 u1 u2 u3 u4 u5 u6:Value}(h0:look F a0=some u0:=by rfl)(h1:look F a1=some u1:=by rfl)(h2:look F a2=some u2:=by rfl)(h3:look F a3=some u3:=by rfl)(h4:look F a4=some u4:=by rfl)(h5:look F a5=some u5:=by rfl)(h6:look F a6=some u6:=by rfl):aC F [(a0,u0),(a1,u1),(a2,u2),(a3,u3),(a4,u4),(a5,u5),(a6,u6)]:=⟨h0,⟨h1,⟨h2,⟨h3,⟨h4,⟨h5,⟨h6,trivial⟩⟩⟩⟩⟩⟩⟩
theorem aC.k8 {F:Fr}(a0 a1 a2 a3 a4 a5 a6 a7:Nat){u0 u1 u2 u3 u4 u5 u6 u7:Value}(h0:look F a0=some u0:=by rfl)(h1:look F a1=some u1:=by rfl)(h2:look F a2=some u2:=by rfl)(h3:look F a3=some u3:=by rfl)(h4:look F a4=some u4:=by rfl)(h5:look F a5=some u5:=by rfl)(h6:look F a6=some u6:=by rfl)(h7:look F a7=some u7:=by rfl):aC F [(a0,u0),(a1,u1),(a2,u2),(a3,u3),(a4,u4),(a5,u5),(a6,u6),(a7,u7)]:=⟨h0,⟨h1,⟨h2,⟨h3,⟨h4,⟨h5,⟨h6,⟨h7,trivial⟩⟩⟩⟩⟩⟩⟩⟩
theorem aC.k9 {F:Fr}(a0 a1 a2 a3 a4 a5 a6 a7 a8:Nat){u0 u1 u2 u3 u4 u5 u6 u7 u8:Value}(h0:look F a0=some u0:=by rfl)(h1:look F a1=some u1:=by rfl)(h2:look F a2=some u2:=by rfl)(h3:look F a3=some u3:=by rfl)(h4:look F a4=some u4:=by rfl)(h5:look F a5=some u5:=by rfl)(h6:look F a6=some u6:=by rfl)(h7:look F a7=some u7:=by rfl)(h8:look F a8=some u8:=by rfl):aC F [(a0,u0),(a1,u1),(a2,u2),(a3,u3),(a4,u4),(a5,u5),(a6,u6),(a7,u7),(a8,u8)]:=⟨h0,⟨h1,⟨h2,⟨h3,⟨h4,⟨h5,⟨h6,⟨h7,⟨h8,trivial⟩⟩⟩⟩⟩⟩⟩⟩⟩
theorem aC.k10 {F:Fr}(a0 a1 a2 a3 a4 a5 a6 a7 a8 a9:Nat){u0 u1 u2 u3 u4 u5 u6 u7 u8 u9:Value}(h0:look F a0=some u0:=by rfl)(h1:look F a1=some u1:=by rfl)(h2:look F a2=some u2:=by rfl)(h3:look F a3=some u3:=by rfl)(h4:look F a4=some u4:=by rfl)(h5:look F a5=some u5:=by rfl)(h6:look F a6=some u6:=by rfl)(h7:look F a7=some u7:=by rfl)(h8:look F a8=some u8:=by rfl)(h9:look F a9=some u9:=by rfl):aC F [(a0,u0),(a1,u1),(a2,u2),(a3,u3),(a4,u4),(a5,u5),(a6,u6),(a7,u7),(a8,u8),(a9,u9)]:=⟨h0,⟨h1,⟨h2,⟨h3,⟨h4,⟨h5,⟨h6,⟨h7,⟨h8,⟨h9,trivial⟩⟩⟩⟩⟩⟩⟩⟩⟩⟩
theorem aC.k11 {F:Fr}(a0 a1 a2 a3 a4 a5 a6 a7 a8 a9 a10:Nat){u0 u1 u2 u3 u4 u5 u6 u7 u8 u9 u10:Value}(h0:look F a0=some u0:=by rfl)(h1:look F a1=some u1:=by rfl)(h2:look F a2=some u2:=by rfl)(h3:look F a3=some u3:=by rfl)(h4:look F a4=some u4:=by rfl)(h5:look F a5=some u5:=by rfl)(h6:look F a6=some u6:=by rfl)(h7:look F a7=some u7:=by rfl)(h8:look F a8=some u8:=by rfl)(h9:look F a9=some u9:=by rfl)(h10:look F a10=some u10:=by rfl):aC F [(a0,u0),(a1,u1),(a2,u2),(a3,u3),(a4,u4),(a5,u5),(a6,u6),(a7,u7),(a8,u8),(a9,u9),(a10,u10)]:=⟨h0,⟨h1,⟨h2,⟨h3,⟨h4,⟨h5,⟨h6,⟨h7,⟨h8,⟨h9,⟨h10,trivial⟩⟩⟩⟩⟩⟩⟩⟩⟩⟩⟩
theorem aC.k12 {F:Fr}(a0 a1 a2 a3 a4 a5 a6 a7 a8 a9 a10 a11:Nat){u0 u1 u2 u3 u4 u5 u6 u7 u8 u9 u10 u11:Value}(h0:look F a0=some u0:=by rfl)(h1:look F a1=some u1:=by rfl)(h2:look F a2=some u2:=by rfl)(h3:look F a3=some u3:=by rfl)(h4:look F a4=some u4:=by rfl)(h5:look F a5=some u5:=by rfl)(h6:look F a6=some u6:=by rfl)(h7:look F a7=some u7:=by rfl)(h8:look F a8=some u8:=by rfl)(h9:look F a9=some u9:=by rfl)(h10:look F a10=some u10:=by rfl)(h11:look F a11=some u11:=by rfl):aC F [(a0,u0),(a1,u1),(a2,u2),(a3,u3),(a4,u4),(a5,u5),(a6,u6),(a7,u7),(a8,u8),(a9,u9),(a10,u10),(a11,u11)]:=⟨h0,⟨h1,⟨h2,⟨h3,⟨h4,⟨h5,⟨h6,⟨h7,⟨h8,⟨h9,⟨h10,⟨h11,trivial⟩⟩⟩⟩⟩⟩⟩⟩⟩⟩⟩⟩
theorem aC.k13 {F:Fr}(a0 a1 a2 a3 a4 a5 a6 a7 a8 a9 a10 a11 a12:Nat){u0 u1 u2 u3 u4 u5 u6 u7 u8 u9 u10 u11 u12:Value}(h0:look F a0=some u0:=by rfl)(h1:look F a1=some u1:=by rfl)(h2:look F a2=some u2:=by rfl)(h3:look F a3=some u3:=by rfl)(h4:look F a4=some u4:=by rfl)(h5:look F a5=some u5:=by rfl)(h6:look F a6=some u6:=by rfl)(h7:look F a7=some u7:=by rfl)(h8:look F a8=some u8:=by rfl)(h9:look F a9=some u9:=by rfl)(h10:look F a10=some u10:=by rfl)(h11:look F a11=some u11:=by rfl)(h12:look F a12=some u12:=by rfl):aC F [(a0,u0),(a1,u1),(a2,u2),(a3,u3),(a4,u4),(a5,u5),(a6,u6),(a7,u7),(a8,u8),(a9,u9),(a10,u10),(a11,u11),(a12,u12)]:=⟨h0,⟨h1,⟨h2,⟨h3,⟨h4,⟨h5,⟨h6,⟨h7,⟨h8,⟨h9,⟨h10,⟨h11,⟨h12,trivial⟩⟩⟩⟩⟩⟩⟩⟩⟩⟩⟩⟩⟩
theorem aC.k16 {F:Fr}(a0 a1 a2 a3 a4 a5 a6 a7 a8 a9 a10 a11 a12 a13 a14 a15:Nat){u0 u1 u2 u3 u4 u5 u6 u7 u8 u9 u10 u11 u12 u13 u14 u15:Value}(h0:look F a0=some u0:=by rfl)(h1:look F a1=some u1:=by rfl)(h2:look F a2=some u2:=by rfl)(h3:look F a3=some u3:=by rfl)(h4:look F a4=some u4:=by rfl)(h5:look F a5=some u5:=by rfl)(h6:look F a6=some u6:=by rfl)(h7:look F a7=some u7:=by rfl)(h8:look F a8=some u8:=by rfl)(h9:look F a9=some u9:=by rfl)(h10:look F a10=some u10:=by rfl)(h11:look F a11=some u11:=by rfl)(h12:look F a12=some u12:=by rfl)(h13:look F a13=some u13:=by rfl)(h14:look F a14=some u14:=by rfl)(h15:look F a15=some u15:=by rfl):aC F [(a0,u0),(a1,u1),(a2,u2),(a3,u3),(a4,u4),(a5,u5),(a6,u6),(a7,u7),(a8,u8),(a9,u9),(a10,u10),(a11,u11),(a12,u12),(a13,u13),(a14,u14),(a15,u15)]:=⟨h0,⟨h1,⟨h2,⟨h3,⟨h4,⟨h5,⟨h6,⟨h7,⟨h8,⟨h9,⟨h10,⟨h11,⟨h12,⟨h13,⟨h14,⟨h15,trivial⟩⟩⟩⟩⟩⟩⟩⟩⟩⟩⟩⟩⟩⟩⟩⟩
theorem aC.k17 {F:Fr}(a0 a1 a2 a3 a4 a5 a6 a7 a8 a9 a10 a11 a12 a13 a14 a15 a16:Nat){u0 u1 u2 u3 u4 u5 u6 u7 u8 u9 u10 u11 u12 u13 u14 u15 u16:Value}(h0:look F a0=some u0:=by rfl)(h1:look F a1=some u1:=by rfl)(h2:look F a2=some u2:=by rfl)(h3:look F a3=some u3:=by rfl)(h4:look F a4=some u4:=by rfl)(h5:look F a5=some u5:=by rfl)(h6:look F a6=some u6:=by rfl)(h7:look F a7=some u7:=by rfl)(h8:look F a8=some u8:=by rfl)(h9:look F a9=some u9:=by rfl)(h10:look F a10=some u10:=by rfl)(h11:look F a11=some u11:=by rfl)(h12:look F a12=some u12:=by rfl)(h13:look F a13=some u13:=by rfl)(h14:look F a14=some u14:=by rfl)(h15:look F a15=some u15:=by rfl)(h16:look F a16=some u16:=by rfl):aC F [(a0,u0),(a1,u1),(a2,u2),(a3,u3),(a4,u4),(a5,u5),(a6,u6),(a7,u7),(a8,u8),(a9,u9),(a10,u10),(a11,u11),(a12,u12),(a13,u13),(a14,u14),(a15,u15),(a16,u16)]:=⟨h0,⟨h1,⟨h2,⟨h3,⟨h4,⟨h5,⟨h6,⟨h7,⟨h8,⟨h9,⟨h10,⟨h11,⟨h12,⟨h13,⟨h14,⟨h15,⟨h16,trivial⟩⟩⟩⟩⟩⟩⟩⟩⟩⟩⟩⟩⟩⟩⟩⟩⟩
section
variable {P:Program}{n:Nat}{F F0:Fr}{A:World→Prop}{c:Ctx}{H R:List ay}{ty:TypeId}{x y z:Operand}{v:Value}{Q:Exit→Act→World→Prop}{ops:Array Oper}{rest:List Oper}
 {d:Nat} {pos:String} {after:Array Edge} {t e:TypeId}
def wb {ι:Type}(n:Nat)(G:ι→Fr→Fr)(F0:Fr)(φ:ι→Prop)(μ:ι→Nat)(c:Ctx)(b:ι→List ay)(k:Nat)(a:Act)(w:World):Prop:=
 ∃y,μ y<k∧Has n a (G y F0)∧φ y∧Mm c (b y) w
def Met {ι:Type}(n:Nat)(G:ι→Fr→Fr)(F0:Fr)(φ:ι→Prop)(c:Ctx)(b:ι→List ay)(a:Act)(w:World):Prop:=
 ∃y,Has n a (G y F0)∧φ y∧Mm c (b y) w
theorem St.G6 {ι:Type}{body:Code}(G:ι→Fr→Fr)(a:ι→List ay)(φ:ι→Prop)(μ:ι→Nat)(b:ι)(d:aC F F0)(e:φ b)(f:Sub (G b F0) F)(hH:∀w,Mm c H w→Mm c (a b) w)
 (round:∀x,φ x→St n (G x F0) (Mm c (a x)) (body.wp P (Exit.then (wb n G F0 φ μ c a (μ x)) Q))):
 St n F (Mm c H) ((Code.loop body).wp P Q):=by
 refine St.loop (λx=>G x F0) (λx w=>φ x∧Mm c (a x) w) μ b f (λw hw=>⟨e,hH w hw⟩) λx=> ?_
 exact St.and λhx=>round x hx
theorem St.vQ {ι:Type}{G:ι→Fr→Fr}{a:ι→List ay}{φ:ι→Prop}{μ:ι→Nat}{k:Nat}(y:ι)(b:φ y)(hm:μ y<k)(d:Sub (G y F0) F)(e:∀w,Mm c H w→Mm c (a y) w):
 St n F (Mm c H) (wb n G F0 φ μ c a k):=
 λ_ w f hw=>⟨y,hm,f.sub d,b,e w hw⟩
theorem St.agV {ι:Type}{body:Code}(G:ι→Fr→Fr)(φ:ι→Prop)(μ:ι→Nat)(a:ι)(hk:aC F F0)(b:φ a)(d:Sub (G a F0) F)
 (round:∀x,φ x→St n (G x F0) (Mm c H) (body.wp P (Exit.then (wb n G F0 φ μ c (λ_=>H) (μ x)) Q))):
 St n F (Mm c H) ((Code.loop body).wp P Q):=St.G6 G (λ_=>H) φ μ a hk b d (λ_ hw=>hw) round
theorem St.Hi {ι:Type}{G:ι→Fr→Fr}{φ:ι→Prop}{μ:ι→Nat}{k:Nat}{H':List ay}(y:ι)(a:φ y)(hm:μ y<k)(b:Sub (G y F0) F)(d:∀w,Mm c H w→Mm c H' w):
 St n F (Mm c H) (wb n G F0 φ μ c (λ_=>H') k):=St.vQ y a hm b d
def D4 {ι κ:Type}(n:Nat)(G:ι→κ→Fr→Fr)(F0:Fr)(φ:ι→κ→Prop)(μ:ι→κ→Nat)(c:Ctx)(b:ι→κ→List ay)(k:Nat)(a:Act)(w:World):Prop:=
 ∃y z,μ y z<k∧Has n a (G y z F0)∧φ y z∧Mm c (b y z) w
theorem St.Yr {ι κ:Type}{body:Code}(G:ι→κ→Fr→Fr)(d:ι→κ→List ay)(φ:ι→κ→Prop)(μ:ι→κ→Nat)(e:ι)(f:κ)(g:aC F F0)(h:φ e f)(i:Sub (G e f F0) F)(hH:∀w,Mm c H w→Mm c (d e f) w)
 (round:∀x z,φ x z→St n (G x z F0) (Mm c (d x z)) (body.wp P (Exit.then (D4 n G F0 φ μ c d (μ x z)) Q))):
 St n F (Mm c H) ((Code.loop body).wp P Q):=by
 refine St.loop (ι:=ι×κ) (λx=>G x.1 x.2 F0) (λx w=>φ x.1 x.2∧Mm c (d x.1 x.2) w) (λx=>μ x.1 x.2) (e,f) i (λw hw=>⟨h,hH w hw⟩) λx=> ?_
 refine St.and λhx=>λa w j hw=>wp_mono (round x.1 x.2 hx a w j hw) ?_
 intro ex p w' b
 cases ex with
 |normal=>obtain⟨y,z,h1,k,m,o⟩:=b;exact⟨(y,z),h1,k,m,o⟩
 |exit id=>exact b
 |goto l=>exact b
 |ret=>exact b
 |panic ch=>exact b
 |outgrown=>exact b
theorem St.ni {ι κ:Type}{G:ι→κ→Fr→Fr}{a:ι→κ→List ay}{φ:ι→κ→Prop}{μ:ι→κ→Nat}{k:Nat}(y:ι)(z:κ)(b:φ y z)(hm:μ y z<k)(d:Sub (G y z F0) F)(e:∀w,Mm c H w→Mm c (a y z) w):
 St n F (Mm c H) (D4 n G F0 φ μ c a k):=
 λ_ w f hw=>⟨y,z,hm,f.sub d,b,e w hw⟩
theorem St.join {ι:Type}{p q:Code}(G:ι→Fr→Fr)(d:ι→List ay)(φ:ι→Prop)(e:aC F F0)
 (h1:St n F (Mm c H) (p.wp P (Exit.then (Met n G F0 φ c d) Q))) (f:∀y,φ y→St n (G y F0) (Mm c (d y)) (q.wp P Q)):
 St n F (Mm c H) ((Code.seq p q).wp P Q):=by
 intro a w g hw;refine wp_seq (wp_mono (h1 a w g hw) ?_);intro ex h w' b
 cases ex with
 |normal=>obtain⟨y,i,j,k⟩:=b;exact f y j h w' i k
 |exit id=>exact b
 |goto l=>exact b
 |ret=>exact b
 |panic ch=>exact b
 |outgrown=>exact b
theorem St.met {ι:Type}{G:ι→Fr→Fr}{a:ι→List ay}{φ:ι→Prop}(y:ι)(b:φ y)(d:Sub (G y F0) F)(e:∀w,Mm c H w→Mm c (a y) w):
 St n F (Mm c H) (Met n G F0 φ c a):=
 λ_ w f hw=>⟨y,f.sub d,b,e w hw⟩
theorem St.wf {α:Type}{Rr:Rp α}{xs:List α}{T:Act→World→Prop}(v:Value)[hd:vK v H α Rr xs](h:(∀x∈xs,Rr.wf x)→xs.length≤9223372036854775807→St n F (Mm c H) T):St n F (Mm c H) T:=by
 intro a w b hw;obtain⟨ρ,hm⟩:=hw.out;obtain⟨ad,cap,_,f,d,e,_⟩:=hm.sl hd;exact h e (by simp only[maxLen]at d;omega) a w b hw
theorem St.e7 {T:Act→World→Prop}(e:TypeId)(size:Nat)(h:St n F (Mm c (row (.slice none 0 0) e size 0 []::H)) T):St n F (Mm c H) T:=by
 refine h.oY λw hw=> ?_
 obtain⟨ρ,hm⟩:=hw.out;exact Mm.mk (hm.GK rfl ⟨rfl,aU _⟩ rfl (aU _) (λ_ _=>rfl) (eQ.2 (World.ownsRow_nil _ _ _ _)) (λb a=>by rw[eA]at a;simp[Value.ownBlock]at a))
theorem run_equalIn_bool (k:Nat){p q:Bool}{w:World}(ht:P.underlying t=some .bool):(Op.equalIn (k+1) t (.bool p) (.bool q)).run P w= .ok (p==q) w:=by
 simp only[Op.equalIn,Sem.run_bind,run_underlying ht,Result.andThen_ok,Sem.run_pure]
theorem run_equal_bool {p q:Bool}{w:World}(ht:P.underlying t=some .bool):(Op.equal t (.bool p) (.bool q)).run P w= .ok (p==q) w:=by
 have:=run_equalIn_bool (P:=P) (w:=w) 9999 (p:=p) (q:=q) ht
 unfold Op.equal Op.maxDepth;exact this
theorem Ev.Ju {p q:Bool}{u:TypeId}(hx:aa F x (.bool p))(hy:aa F y (.bool q))(ht:P.underlying t=some .bool):Ev P n F A (.binOp .eql t x y u) ty (.bool (p==q)):= .of_run λa w b _=>by
 simp only[execOp,hx.eval b,hy.eval b,eqGuard_at_bool,binOp,Sem.run_bind,Sem.run_pure,Result.andThen_ok,run_equal_bool ht]
theorem Ev.uF {p q:Bool}{u:TypeId}(hx:aa F x (.bool p))(hy:aa F y (.bool q))(ht:P.underlying t=some .bool):Ev P n F A (.binOp .neq t x y u) ty (.bool (!(p==q))):= .of_run λa w b _=>by
 simp only[execOp,hx.eval b,hy.eval b,eqGuard_at_bool,binOp,Sem.run_bind,Sem.run_pure,Result.andThen_ok,run_equal_bool ht]
section rows
variable {size m k:Nat}{cs:List Value}
theorem fH.row {H:List ay}{ρ:Ro}{w:World}(h:fH c H ρ w)(a:xU v H e size m cs):w.ownsRow 0 e size v m cs:=eQ.1 (h.dR _ a.mem)
theorem Ev.Yo {d:TypeId}[f:xU v H e size m cs](hx:aa F x v)(ht:P.underlying t=some (.slice d)):
 Ev P n F (Mm c H) (.call {callee:= .builtin .len,args:= #[x],argTypes:= #[t]}) ty (iv m):= .of_run λa w b hw=>by
 obtain⟨ρ,hm⟩:=hw.out
 rcases(hm.row f).2 with⟨rfl,rfl⟩|⟨g,cap,cur,rfl,_⟩
 ·simp[execOp,resolve,invoke,builtin,hx.eval b,Builtin.len_,run_underlying ht,goInt]
 ·simp[execOp,resolve,invoke,builtin,hx.eval b,Builtin.len_,run_underlying ht,goInt]
theorem Ev.dV {i:Int}{kd:IntKind}[d:xU v H e size m cs](hx:aa F x v)(hy:aa F y (.int kd i))(ht:P.underlying t=some (.slice e))(f:(P.info? e).map (·.size)=some size)
 (hi:i=k) (hk:k<m):Ev P n F (Mm c H) (.indexAddr t x y) ty (eL v size k 0):= .of_run λa w b hw=>by
 obtain⟨ρ,hm⟩:=hw.out
 rcases(hm.row d).2 with⟨rfl,rfl⟩|⟨g,cap,cur,rfl,_⟩
 ·omega
 ·obtain⟨inf,h,j⟩:=eE.1 f
  subst hi
  simp[execOp,hx.eval b,hy.eval b,Instr.indexAt,asIntOf,run_underlying ht,sizeOf,typeInfo,h,j,hk,eJ,Addr.add_lit]
theorem kV {w:World}(h:w.ownsRow 0 e size v m cs){k off:Nat}{u:Value}(hk:k<m)(hu:cs[k*size+off]?=some u):
 ∃b,eL v size k off= .pointer (some ⟨b,k*size+off,none⟩)∧w.cell? ⟨b,k*size+off,none⟩=some u∧v.ownBlock=some b∧w.frozen? ⟨b,k*size+off,none⟩=false:=by
 obtain⟨f,c⟩:=h
 rcases c with⟨rfl,rfl⟩|⟨g,cap,cur,rfl,_,a,i,j,l,d⟩
 ·omega
 ·refine⟨g,by rw[eJ];simp,?_,rfl,by simp[World.frozen?,a]⟩
  rw[cg a];rw[←d]at hu
  have n:=(fj.1 hu).1
  rw[sj]at hu
  split at hu
  ·simpa using hu
  ·simp at hu
theorem Ev.dw {off:Nat}{dd:TypeDesc}{u:Value}[d:xU v H e size m cs](hx:aa F x (eL v size k off))(ht:P.underlying t=some dd)(f:(match dd with| .struct _| .array _ _=>False|_=>True))
 (hk:k<m) (hu:cs[k*size+off]?=some u):Ev P n F (Mm c H) (.load t x) ty u:= .of_run λa w g hw=>by
 obtain⟨ρ,hm⟩:=hw.out;obtain⟨b,h1,h,_⟩:=kV (hm.row d) hk hu;rw[h1]at hx
 simp[execOp,hx.eval g,Instr.loadAt,Instr.sureAddr,fS ht f h]
theorem Ev.Y8 {off o i:Nat}{s:TypeId}[b:xU v H e size m cs](hx:aa F x (eL v size k off))(hk:k<m)(d:bq P s i=some o):Ev P n F (Mm c H) (.fieldAddr s x i) ty (eL v size k (off+o)):= .of_run λa w f hw=>by
 obtain⟨ρ,hm⟩:=hw.out
 rcases(hm.row b).2 with⟨rfl,rfl⟩|⟨g,cap,cur,rfl,_⟩
 ·omega
 ·rw[eJ]at hx
  simp[execOp,hx.eval f,o7 d,eJ,Addr.add_lit,Nat.add_assoc]
theorem St.dF {off:Nat}{u:Value}[r:mB v H e size m cs R](hx:aa F x (eL v size k off))(hy:aa F y u)(s:(P.info? t).map (·.size)=some 1)(h1:u.oneCell'=true)
 (hk:k<m) (S:off<size) (h:St n F (Mm c (row v e size m (cs.set (k*size+off) u)::R)) (wpList P ops Q rest)):
 St n F (Mm c H) (wpList P ops Q ({dst:=none,op:= .store t x y,type:=ty,pos:=pos,after:=after,guard:=none}::rest)):=by
 refine St.nu (K:=λT H'=>H'=row v e size m (cs.set (k*size+off) u)::R) ?_ ?_
 ·intro a w ρ l hm
  have o:=hm.perm r.perm
  have d:=eQ.1 (o.dR _ (aR ..))
  have z:k*size+off<cs.length:=by
   rw[d.1]
   have:(k+1)*size≤m*size:=fC _ hk
   rw[jK]at this;omega
  obtain⟨b,A,B,f,C⟩:=kV d hk (bT z);rw[A]at hx;obtain⟨i,hi,D⟩:=eE.1 s;refine⟨.skip,w.setCell ⟨b,k*size+off,none⟩ u,ρ,_,?_,⟨_,.inr ⟨rfl,rfl⟩,rfl⟩,?_⟩
  ·simp[execOp,hx.eval l,hy.eval l,Instr.storeAt,Instr.sureAddr,storeVar,sizeOf,typeInfo,hi,D,cells_one h1,storeCells,run_store P w _ u _ h1,B,C,Addr.add_zero']
  ·refine o.alter rfl ⟨rfl,aU _⟩ rfl (by simp) (λj U p=> ?_) (eQ.2 ?_) (λV q=>by rw[eA]at q⊢;exact .inl q)
   ·rw[eA,f]at p
    simp only[World.setCell,Array.getElem?_modify]
    rw[aA (λe=>p (by rw[e]))]
   ·obtain⟨E,G⟩:=d
    refine⟨by rw[ep];exact E,?_⟩
    rcases G with⟨rfl,rfl⟩|⟨g,cap,cur,rfl,I,J,L,M,N,O⟩
    ·omega
    ·simp only[Value.ownBlock,Option.some.injEq]at f
     subst f;refine .inr ⟨_,cap,_,rfl,I,o8 J,L,M,by simp[N],?_⟩;rw[←O,Array.toList_setIfInBounds,List.take_set]
 ·rintro _ _ rfl
  exact h
theorem rI {i:TypeInfo}{zv:Value}{yu:Nat}(a:(P.info? e).map (·.size)=some size)(hz:(P.info? e).bind (·.zero)=some zv)(b:(P.info? e).map (·.bytes)=some yu)(hi:P.info? e=some i):i.size=size∧i.zero=some zv∧i.bytes=yu:=by
 rw[hi]at a hz b;exact⟨by simpa using a,by simpa using hz,by simpa using b⟩
theorem sa {w:World}{i:TypeInfo}{zv:Value}{yu:Nat}(t ty e:TypeId)(ht:P.underlying t=some (.slice e))(hi:P.info? e=some i)(hz:i.zero=some zv)(r:i.size=size)(s:i.bytes=yu)(B:zv.cells.size=size)(C:0<size)
 (v:Value) (m:Nat) (cs:List Value) (n:w.ownsRow 0 e size v m cs) (a:Addr) (k cc:Nat) (news:List Value) (f:news.length=k*size) (p:∀j u,news[j]?=some u→w.cell? (a.add j)=some u) (h1:∀u∈news,u.oneCell'=true)
 (d:m+k≤maxLen) (x:(m+k)*yu≤140737488355328):
 ∃v' w',(Builtin.append_ #[t,t] ty #[v,.slice (some a) k cc]).run P w= .ok v' w'∧w'.ownsRow 0 e size v' (m+k) (cs++news)∧w.grownBy w' v.ownBlock∧
  (v'= .slice none 0 0↔v= .slice none 0 0∧k=0)∧(∀b,v'.ownBlock=some b→v.ownBlock=some b∨w.heap.size≤b)∧w.drawn≤w'.drawn:=by
 subst r;subst s;obtain⟨v',w',o,E,F,G⟩:=run_append_own (P:=P) w 0 t ty e i zv i.size i.bytes ht hi hz rfl rfl B C v m cs n a k cc news f p h1 d x (aQ _);refine⟨v',w',o,E,F,G,?_⟩
 rcases n.2 with⟨rfl,rfl⟩|⟨g,cap,cur,rfl,q,H,N,O,I,J⟩
 ·obtain⟨K,L,c,y,_⟩:=run_append_own (P:=P) w w.heap.size t ty e i zv i.size i.bytes ht hi hz rfl rfl B C (.slice none 0 0) 0 cs ⟨n.1,.inl ⟨rfl,rfl⟩⟩ a k cc news f p h1 d x (aU _)
  rw[o]at c
  simp only[Result.ok.injEq]at c
  obtain⟨rfl,rfl⟩:=c;refine⟨?_,?_⟩
  ·intro b h
   rcases y.2 with⟨rfl,_⟩|⟨g,cap,cur,rfl,q,_⟩
   ·simp[Value.ownBlock]at h
   ·simp only[Value.ownBlock,Option.some.injEq]at h
    subst h;exact .inr q
  ·have M:cs=[]:=by
    have:=n.1
    simpa using this
   rcases Nat.eq_zero_or_pos k with rfl|hk
   ·have z:news=[]:=by simpa using f
    subst z
    have l:(Builtin.append_ #[t,t] ty #[.slice none 0 0,.slice (some a) 0 cc]).run P w= .ok (.slice none 0 0) w:=by
     simp[Builtin.append_,run_underlying ht,sizeOf,typeInfo,hi,Builtin.lenOf,Builtin.firstCells,loadCells,loadCellsFrom]
    rw[o]at l
    simp only[Result.ok.injEq]at l
    rw[l.2];exact aU _
   ·have l:=run_append_nil (P:=P) w t ty e i zv ht hi hz a k cc news f p hk (by simp only[maxLen]at d;omega) (by have:(0+k)*i.bytes=k*i.bytes:=by rw[jH]
                                                                                                                 omega)
    rw[o]at l
    simp only[Result.ok.injEq]at l
    rw[l.2];exact Nat.le_succ _
 ·by_cases D:m+k≤cap
  ·have A:m*i.size+news.length≤cur.size:=by rw[f,I,←jK];exact fC _ D
   have c:=run_append_room (P:=P) w t ty e i ht hi g m cap cur H a k cc news f p h1 D A
   rw[o]at c
   simp only[Result.ok.injEq]at c
   obtain⟨rfl,rfl⟩:=c;exact⟨λb h=> .inl h,aU _⟩
  ·have holds:∀j u,cs[j]?=some u→w.cell? ((⟨g,0,none⟩:Addr).add j)=some u:=n.cells (g:=g) rfl
   have c:=run_append_grow (P:=P) w t ty e i zv ht hi hz ⟨g,0,none⟩ m cap cs n.1 holds a k cc news f p zE (by simp only[maxLen]at d;omega) (growslice_fits zE x)
   rw[o]at c
   simp only[Result.ok.injEq]at c
   obtain⟨rfl,rfl⟩:=c;refine⟨λb h=> ?_,Nat.le_succ _⟩
   simp only[Value.ownBlock,Option.some.injEq]at h
   exact .inr zE
theorem St.bH {v2:Value}{m2:Nat}{news:List Value}{p:List ay}{zv:Value}{yu:Nat}[t2:mB v2 H e size m2 news p][t1:mB v p e size m cs R]
 (hx:aa F x v) (hy:aa F y v2) (ht:P.underlying t=some (.slice e)) (q:(P.info? e).map (·.size)=some size) (hz:(P.info? e).bind (·.zero)=some zv) (C:(P.info? e).map (·.bytes)=some yu)
 (D:∀u∈news,u.oneCell'=true) (hlen:m+m2≤9223372036854775807) (E:(m+m2)*yu≤140737488355328) (G:zv.cells.size=size) (I:Nat.ble 1 size=true) (g:Nat.ble 1 m2=true) (hd:Nat.ble (d+1) n=true)
 (h:∀v',(v'= .slice none 0 0↔v= .slice none 0 0∧m2=0)→St n ((d,v')::F) (Mm c (row v' e size (m+m2) (cs++news)::R)) (wpList P ops Q rest)):
 St n F (Mm c H) (wpList P ops Q ({dst:=some d,op:= .call {callee:= .builtin .append,args:= #[x,y],argTypes:= #[t,t]},type:=ty,pos:=pos,after:=after,guard:=none}::rest)):=by
 refine St.SJ (K:=λv' H'=>(v'= .slice none 0 0↔v= .slice none 0 0∧m2=0)∧H'=row v' e size (m+m2) (cs++news)::R) ?_ hd ?_
 ·intro a w ρ r hm
  have s:=hm.perm t2.perm
  have z:=eQ.1 (s.dR _ (aR ..))
  have A:=s.drop.perm t1.perm
  have J:=eQ.1 (A.dR _ (aR ..))
  have L:=dS g
  obtain⟨i,hi,hsz⟩:=eE.1 q;obtain⟨M,N,O⟩:=rI q hz C hi
  rcases z.2 with⟨_,rfl⟩|⟨g2,S,T,rfl,_,U,YJ,hc2,V,k⟩
  ·omega
  ·obtain⟨v',w',W,l,f,X,o,Y⟩:=sa (P:=P) (w:=w) t ty e ht hi N M O G (dS I) v m cs J ⟨g2,0,none⟩ m2 S news z.1
    (λj u b=>by
     rw[Addr.add_lit,jH,cg U];rw[←k,sj]at b
     split at b
     ·simpa using b
     ·simp at b) D (by unfold maxLen;omega) E
   refine⟨.value v',w',ρ,_,?_,⟨_,.inl rfl,X,rfl⟩,?_⟩
   ·simp[execOp,resolve,invoke,builtin,hx.eval r,hy.eval r,W]
   ·refine A.alter f.os ⟨f.tape,Y⟩ f.output f.size (λj b g=> ?_) (eQ.2 l) (λZ B=> ?_)
    ·rw[eA]at g;exact f.block j b (λe=>g e.symm)
    ·rw[eA]at B⊢;exact o Z B
 ·rintro _ _ ⟨h1,rfl⟩
  exact h _ h1
theorem St.ym {α:Type}{Rr:Rp α}{xs:List α}{v2:Value}{zv:Value}{yu:Nat}[t2:vK v2 H α Rr xs][t1:mB v H e Rr.size m cs R]
 (hx:aa F x v) (hy:aa F y v2) (ht:P.underlying t=some (.slice e)) (A:(P.info? e).map (·.size)=some Rr.size) (hz:(P.info? e).bind (·.zero)=some zv) (G:(P.info? e).map (·.bytes)=some yu)
 (I:∀u∈rows Rr xs,u.oneCell'=true) (hlen:m+xs.length≤9223372036854775807) (J:(m+xs.length)*yu≤140737488355328) (L:zv.cells.size=Rr.size) (M:Nat.ble 1 Rr.size=true) (N:True) (hd:Nat.ble (d+1) n=true)
 (h:∀v',(v'= .slice none 0 0↔v= .slice none 0 0∧xs.length=0)∨xs=[]→St n ((d,v')::F) (Mm c (row v' e Rr.size (m+xs.length) (cs++rows Rr xs)::R)) (wpList P ops Q rest)):
 St n F (Mm c H) (wpList P ops Q ({dst:=some d,op:= .call {callee:= .builtin .append,args:= #[x,y],argTypes:= #[t,t]},type:=ty,pos:=pos,after:=after,guard:=none}::rest)):=by
 refine St.SJ (K:=λv' H'=>((v'= .slice none 0 0↔v= .slice none 0 0∧xs.length=0)∨xs=[])∧H'=row v' e Rr.size (m+xs.length) (cs++rows Rr xs)::R) ?_ hd ?_
 ·intro a w ρ k hm
  obtain⟨ad,cap,rfl,_,_,_,o⟩:=hm.sl t2
  have p:=hm.perm t1.perm
  have B:=eQ.1 (p.dR _ (aR ..))
  obtain⟨i,hi,hsz⟩:=eE.1 A;obtain⟨O,S,T⟩:=rI A hz G hi
  cases l:xs with
  |nil=>
   subst l
   have q:(Builtin.append_ #[t,t] ty #[v,.slice ad ([]:List α).length cap]).run P w= .ok v w:=by
    rcases B.2 with⟨rfl,rfl⟩|⟨g,apL,cur,rfl,_,hg,U,_⟩
    ·cases ad<;>simp[Builtin.append_,run_underlying ht,sizeOf,typeInfo,hi,Builtin.lenOf,Builtin.firstCells,loadCells,loadCellsFrom]
    ·cases ad<;>simp[Builtin.append_,run_underlying ht,sizeOf,typeInfo,hi,Builtin.lenOf,Builtin.firstCells,loadCells,loadCellsFrom,U,storeCells]
   refine⟨.value v,w,ρ,_,?_,⟨_,.inl rfl,.inr rfl,rfl⟩,?_⟩
   ·simp only[execOp,resolve,invoke,builtin,hx.eval k,hy.eval k,List.map_toArray,List.map_cons,List.map_nil,Sem.run_bind,Sem.run_pure,Result.andThen_ok]
    rw[q];rfl
   ·simpa[rows]using p
  |cons x0 V=>
   rcases o with o|⟨b,off,C,e',fr,rfl,W,X⟩
   ·rw[o]at l;cases l
   ·rw[←l]
    obtain⟨v',w',q,r,f,Y,s,Z⟩:=sa (P:=P) (w:=w) t ty e ht hi S O T L (dS M) v m cs B ⟨b,off,none⟩ xs.length cap (rows Rr xs) (gh Rr xs)
     (λj u z=>by
      rw[Addr.add_lit,cg (hm.fits _ _ W)]
      exact X j u z) I (by unfold maxLen;omega) J
    refine⟨.value v',w',ρ,_,?_,⟨_,.inl rfl,.inl Y,rfl⟩,?_⟩
    ·simp[execOp,resolve,invoke,builtin,hx.eval k,hy.eval k,q]
    ·refine p.alter f.os ⟨f.tape,Z⟩ f.output f.size (λj z D=> ?_) (eQ.2 r) (λb' E=> ?_)
     ·rw[eA]at D;exact f.block j z (λe=>D e.symm)
     ·rw[eA]at E⊢;exact s b' E
 ·rintro _ _ ⟨h1,rfl⟩
  exact h _ h1
theorem AB {α:Type}(Rr:Rp α)(xs:List α):∀u∈rows Rr xs,u.oneCell'=true:=by
 intro u hu
 simp only[rows,List.mem_flatMap]at hu
 obtain⟨x,_,hx⟩:=hu;exact Rr.one x u hx
theorem St.nC {zv:Value}{yu:Nat}{i j:Int}{kl g:IntKind}{m:Nat}(hx:aa F x (.int kl i))(hy:aa F y (.int g j))(ht:P.underlying t=some (.slice e))(l:(P.info? e).map (·.size)=some 1)(hz:(P.info? e).bind (·.zero)=some zv)(f:(P.info? e).map (·.bytes)=some yu)
 (hm:i=m) (q:j=m) (r:yu*m≤281474976710656∧m≤9223372036854775807) (h1:zv.cells= #[zv]) (hd:Nat.ble (d+1) n=true)
 (h:∀b,St n ((d,tO b m m)::F) (Mm c (row (tO b m m) e 1 m (List.replicate m zv)::H)) (wpList P ops Q rest)):
 St n F (Mm c H) (wpList P ops Q ({dst:=some d,op:= .makeSlice t x y,type:=ty,pos:=pos,after:=after,guard:=none}::rest)):=by
 subst hm q;refine St.SJ (K:=λu H'=>∃b,u= tO b m m∧H'=row (tO b m m) e 1 m (List.replicate m zv)::H) ?_ hd ?_
 ·intro a w ρ o s
  obtain⟨i,hi,C⟩:=eE.1 l;obtain⟨v,z,A⟩:=rI l hz f hi
  have p:=run_make (P:=P) w t e i zv ht hi z kl g m m zE zE (by rw[A,←Int.natCast_mul];exact Int.ofNat_le.2 r.1) zE
  have B:madeCells zv.cells (m*i.size)=(List.replicate m zv).toArray:=by
   rw[v,h1]
   apply Array.ext
   ·simp[madeCells]
   ·intro k D E
    simp[madeCells,Nat.mod_one]
  simp only[Int.toNat_natCast,B]at p
  refine⟨.value (.slice (some ⟨w.heap.size,0,none⟩) m m),w.alloc (.cells (List.replicate m zv).toArray e),ρ,_,?_,⟨_,.inl rfl,_,rfl,rfl⟩,?_⟩
  ·simp[execOp,hx.eval o,hy.eval o,p]
  ·refine s.GK rfl ⟨rfl,aU _⟩ rfl (by simp) (λk hk=>RowKit.Below.heap_alloc w _ k hk) (eQ.2 ⟨by simp,.inr ⟨w.heap.size,m,_,rfl,aQ _,heap_alloc_new w _,aU _,by unfold maxLen;omega,by simp,by simp⟩⟩) ?_
   intro b f;rw[eA]at f;simp[Value.ownBlock]at f;omega
 ·rintro _ _ ⟨b,rfl,rfl⟩
  exact h b
theorem fH.bU {α:Type}(Rr:Rp α)(xs:List α){H:List ay}{ρ:Ro}{w:World}(h:fH c (J.row v e Rr.size m cs::H) ρ w)(i:cs=rows Rr xs)(hm:m=xs.length)(y:∀x∈xs,Rr.wf x):Mm c (J.aD (J.sl Rr v xs)::H) w:=by
 subst i hm
 have z:=eQ.1 (h.dR _ (aR ..))
 rcases z.2 with⟨rfl,A⟩|⟨g,cap,cur,rfl,_,l,B,C,i,D⟩
 ·have hx:xs=[]:=ka A
  subst hx;exact Mm.mk (h.drop.fact _ ⟨none,0,rfl,aU _,by unfold maxLen;omega,λx hx=>by simp at hx,.inl rfl⟩)
 ·have n:(J.row (tO g xs.length cap) e Rr.size xs.length (rows Rr xs)).key=some g:=by rw[eA];rfl
  have p:=h.own _ (aR ..) g n
  have F:g<w.heap.size:=(od.1 l).1
  have q:=jq.1 h.FV
  refine Mm.mk (ρ:=λk=>if k=g then some (.cells cur e (0,0))else ρ k) ?_
  have hle:Ro.le ρ (λk=>if k=g then some (.cells cur e (0,0))else ρ k):=by
   intro k o hk
   by_cases a:k=g
   ·subst a;rw[p.1]at hk;cases hk
   ·simp only[a,if_false];exact hk
  refine fH.fact ⟨h.os,h.tape,h.output,h.size,h.Ax,?_,Ro.le_trans h.le hle,?_,?_,?_,q.2⟩ _ ?_
  ·intro k o hk
   by_cases a:k=g
   ·subst a;simp only[if_true,Option.some.injEq]at hk;subst hk;exact l
   ·simp only[a,if_false]at hk;exact h.fits k o hk
  ·intro k hk r
   by_cases a:k=g
   ·subst a
    rcases p.2 with s|s
    ·omega
    ·exact absurd s r
   ·simp only[a,if_false];exact h.new k hk r
  ·intro E d
   exact E.loc hle (λ_ _=>rfl) (h.dR E (cO _ d))
  ·intro E d b t
   have h1:=h.own E (cO _ d) b t
   refine⟨?_,h1.2⟩
   by_cases a:b=g
   ·subst a;exact absurd t (q.1 E d _ n)
   ·simp only[a,if_false];exact h1.1
  ·refine⟨some ⟨g,0,none⟩,cap,rfl,B,C,y,?_⟩
   refine .inr ⟨g,0,cur,e,(0,0),rfl,by simp,λj u f=> ?_⟩;rw[←D,sj]at f
   split at f
   ·simpa using f
   ·simp at f
theorem St.bU {α:Type}{T:Act→World→Prop}(v:Value)(Rr:Rp α)(xs:List α)[a:mB v H e Rr.size m cs R](b:cs=rows Rr xs)(hm:m=xs.length)(d:∀x∈xs,Rr.wf x)
 (h:St n F (Mm c (aD (sl Rr v xs)::R)) T):St n F (Mm c H) T:=
 h.oY λ_ hw=>let⟨_,k⟩:=hw.out;(k.perm a.perm).bU Rr xs b hm d
end rows
end
section
variable {P:Program}{ops:Array Oper}{C:World→Prop}{Q:Exit→Act→World→Prop}
def zY (ops:Array Oper)(m:Nat):Bool:=
 (List.range ops.size).all λi=>match ops[i]? with
  |some o=>(o.after.all λe=>Nat.ble (e.on+1) i)&&(match o.guard with|some (j,_)=>Nat.ble (j+1) i|none=>true)&&
   (Nat.ble (i+1) m||(List.range i).all λj=>o.after.any λe=>Region.binds .any e&&e.on==j)
  |none=>false
theorem pY {m i:Nat}{o:Oper}(h:zY ops m=true)(a:ops[i]?=some o):∀e∈o.after,e.on<i:=by
 have hi:i<ops.size:=(od.1 a).1
 have h1:=fY.1 h i (dM.2 hi)
 simp only[a,Bool.and_eq_true]at h1
 intro e he;exact dS ((Array.all_eq_true_iff_forall_mem.1 h1.1.1) e he)
theorem Fu {m i j:Nat}{b:Bool}{o:Oper}(h:zY ops m=true)(a:ops[i]?=some o)(c:o.guard=some (j,b)):j<i:=by
 have hi:i<ops.size:=(od.1 a).1
 have h1:=fY.1 h i (dM.2 hi)
 simp only[a,c,Bool.and_eq_true]at h1
 exact dS h1.1.2
theorem zZ {m i j:Nat}{o:Oper}(h:zY ops m=true)(c:ops[i]?=some o)(hm:m≤i)(d:j<i):∃e∈o.after,Region.binds .any e=true∧e.on=j:=by
 have hi:i<ops.size:=(od.1 c).1
 have h1:=fY.1 h i (dM.2 hi)
 simp only[c,Bool.and_eq_true,Bool.or_eq_true]at h1
 rcases h1.2 with a|a
 ·have:=dS a;omega
 ·have f:=fY.1 a j (dM.2 d)
  obtain⟨e,he,b⟩:=Array.any_eq_true'.1 f
  simp only[Bool.and_eq_true,beq_iff_eq]at b
  exact⟨e,he,b.1,b.2⟩
def Af (k:Nat)(listed:Array Bool)(N:Nat):Prop:=listed.size=N∧∀j,j<N→listed[j]?=some (decide (j<k))
theorem Af.getD {k N:Nat}{listed:Array Bool}(h:Af k listed N)(j:Nat)(d:Bool)(a:j<N):listed.getD j d=decide (j<k):=by
 rw[kp,h.2 j a];rfl
theorem Af.out {k N:Nat}{listed:Array Bool}(h:Af k listed N)(j:Nat)(d:Bool)(a:N≤j):listed.getD j d=d:=by
 rw[kp,SF (by rw[h.1];exact a)];rfl
theorem Af.set {k N:Nat}{listed:Array Bool}(h:Af k listed N):Af (k+1) (listed.setIfInBounds k true) N:=by
 refine⟨by simp[h.1],λj a=> ?_⟩;rw[H9]
 by_cases e:k=j
 ·subst e;simp[h.1,a]
 ·rw[aA e,h.2 j a];congr 1
  rw[HG];simp only[decide_eq_true_eq];omega
theorem xO {m:Nat}(n:zY ops m=true):∀(l:List Oper) (k:Nat) (listed:Array Bool) (a:Act) (w:World),m≤k→(∀j,l[j]?=ops[k+j]?)→k+l.length=ops.size→Af k listed ops.size→
 wpList P ops Q l a w→wpAny P .any ops Q l.length listed a w
 | [],k,listed,a,w,_,_,f,hu,h=>by
  refine⟨?_,h⟩;unfold Region.ready;rw[List.filter_eq_nil_iff];intro i hi
  have s:=dM.1 hi
  have:listed.getD i true=true:=by rw[hu.getD i true s];simp at f;simp;omega
  simp[this]
 |o::l,k,listed,a,w,t,r,f,hu,h=>by
  have hk:k<ops.size:=by simp at f;omega
  have u:ops[k]?=some o:=by simpa using (r 0).symm
  have v:Region.ready .any ops listed=[k]:=by
   have key:∀i,i<ops.size→((!listed.getD i true&&((ops[i]?).map (·.after.all λe=> !Region.binds .any e||listed.getD e.on false)).getD false)=true↔i=k):=by
    intro i hi
    have b:ops[i]?=some ops[i]:=py hi
    rw[hu.getD i true hi,b]
    simp only[Option.map_some,Option.getD_some,Bool.and_eq_true,Bool.not_eq_true',decide_eq_false_iff_not]
    constructor
    ·rintro ⟨h1,g⟩
     rcases dI k i with c|c
     ·obtain⟨e,he,x,p⟩:=zZ n b zE c
      have:=(Array.all_eq_true_iff_forall_mem.1 g) e he
      rw[x,p,hu.getD k false hk]at this
      simp at this
     ·omega
    ·rintro rfl
     refine⟨by omega,Array.all_eq_true_iff_forall_mem.2 λe he=> ?_⟩
     have h1:=pY n b e he
     rw[hu.getD e.on false zE]
     simp[h1]
   unfold Region.ready
   have h1:∀(N:Nat),N≤ops.size→(List.range N).filter (λi=> !listed.getD i true&&((ops[i]?).map (·.after.all λe=> !Region.binds .any e||listed.getD e.on false)).getD false)=if k<N then [k]else []:=by
    intro N
    induction N with
    |zero=>intro _;simp
    |succ N q=>
     intro y;rw[vH,List.filter_append,q zE]
     have g:=key N zE
     by_cases e:N=k
     ·subst e
      have c:=g.2 rfl
      simp only[List.filter_cons,c,if_true,List.filter_nil]
      simp
     ·have c:¬_:=λh=>e (g.1 h)
      simp only[List.filter_cons,c,if_false,List.filter_nil,List.append_nil]
      by_cases e2:k<N
      ·simp[e2,show k<N+1 by omega]
      ·simp[e2,show ¬k<N+1 by omega]
   rw[h1 ops.size (aU _),aB hk]
  refine wpAny_all (rs:=[k]) v (by simp) ?_;intro i hi
  simp only[List.mem_singleton]at hi
  subst hi;unfold wpOp;rw[u]
  simp only[wpList]at h
  have q:=xO n l (i+1) (listed.setIfInBounds i true)
  have d:∀a w,wpList P ops Q l a w→wpAny P .any ops Q l.length (listed.setIfInBounds i true) a w:=λa w h=>
   q a w zE (λj=>by have:=r (j+1);simpa[Nat.add_assoc,Nat.add_comm 1 j]using this) (by simp at f⊢;omega) hu.set h
  simp only
  split
  ·rename_i hw
   simp only[hw,if_true]at h
   exact h.imp (Oper.wp_mono d) id
  ·rename_i hw
   simp only[hw]at h
   exact d _ _ h
theorem sW {ops':Array Oper}{listed:Array Bool}(j:listed.size=ops'.size)(f:∀(i:Nat) (o:Oper),ops'[i]?=some o→∀e∈o.after,e.on<i)(hu:∃i,i<ops'.size∧listed.getD i true=false):Region.ready .any ops' listed≠ []:=by
 obtain⟨i,hi⟩:=exists_least hu;obtain⟨⟨a,b⟩,c⟩:=hi;intro g
 have:i∈Region.ready .any ops' listed:=by
  refine mem_ready.2 ⟨b,ops'[i],py a,λe he _=> ?_⟩
  have h1:=f i _ (py a) e he
  have h:e.on<listed.size:=by omega
  cases d:listed.getD e.on true with
  |false=>
   have:=c e.on ⟨by omega,d⟩
   omega
  |true=>rw[kp,py h]at d⊢;exact d
 rw[g]at this
 cases this
theorem Eg {ops':Array Oper}{m j:Nat}{tmps:Array Value}(a:∀j,j<m→ops'[j]?=ops[j]?)(b:j<m):yielded ops' tmps j=yielded ops tmps j:=by
 unfold yielded;rw[a j b]
theorem Oz {ops':Array Oper}{m:Nat}{D:Act→Prop}(v:zY ops m=true)(hm:ops'.size=m)(S:m≤ops.size)(B:∀j,j<m→ops'[j]?=ops[j]?)
 (T:∀q,D q→∀w',C w'→∀listed,Af m listed ops.size→wpAny P .any ops Q (ops.size-m) listed q w'):
 ∀(f:Nat) (c listed:Array Bool) (a:Act) (w:World),c.size=m→listed.size=ops.size→(∀j,j<m→listed[j]?=c[j]?)→(∀j,m≤j→j<ops.size→listed[j]?=some false)→
  c.toList.count false=f→wpAnyQ P .any ops' C D f c a→C w→wpAny P .any ops Q (f+(ops.size-m)) listed a w:=by
 intro f
 induction f with
 |zero=>
  intro c listed a w x E h1 F G h hw;rw[jH];refine T a h.2 w hw listed ⟨E,λj y=> ?_⟩
  by_cases r:j<m
  ·have H:=List.count_eq_zero.1 G
   rw[h1 j r]
   have g:j<c.size:=by omega
   rw[py g]
   cases U:c[j]with
   |true=>simp[r]
   |false=>exact absurd (by rw[←U];simp) H
  ·rw[F j zE y];simp[r]
 |succ f V=>
  intro c listed a w x E h1 F G h hw
  have hex:∃i,i<ops'.size∧c.getD i true=false:=by
   have H:false∈c.toList:=by
    rw[←List.count_pos_iff];omega
   obtain⟨i,hi,he⟩:=Ar.1 H
   simp only[Array.length_toList]at hi
   refine⟨i,by omega,?_⟩;rw[kp,py hi]
   simpa using he
  have W:∀(i:Nat) (o:Oper),ops'[i]?=some o→∀e∈o.after,e.on<i:=by
   intro i o t
   have hi:i<ops'.size:=(od.1 t).1
   rw[B i zE]at t;exact pY v t
  have X:=sW zE W hex
  have N:∀i,i∈Region.ready .any ops listed↔i∈Region.ready .any ops' c:=by
   intro i;rw[mem_ready,mem_ready]
   by_cases hi:i<m
   ·rw[B i hi]
    have Y:listed.getD i true=c.getD i true:=by rw[kp,kp,h1 i hi]
    rw[Y]
    constructor
    ·rintro ⟨n,o,d,u⟩
     refine⟨n,o,d,λe he z=> ?_⟩
     have:=pY v d e he
     have p:=u e he z
     rwa[kp,h1 e.on zE,←kp]at p
    ·rintro ⟨n,o,d,u⟩
     refine⟨n,o,d,λe he z=> ?_⟩
     have:=pY v d e he
     have p:=u e he z
     rwa[kp,h1 e.on zE,←kp]
   ·constructor
    ·rintro ⟨n,o,d,u⟩
     exfalso
     obtain⟨k,hk,I⟩:=hex;obtain⟨e,he,z,J⟩:=zZ v d zE (show k<i by omega)
     have p:=u e he z
     rw[J,kp,h1 k zE]at p
     have g:k<c.size:=by omega
     rw[kp,py g]at I;rw[py g]at p
     simp only[Option.getD_some]at I p
     rw[I]at p;cases p
    ·rintro ⟨n,o,d,_⟩
     have:=(od.1 d).1
     omega
  rw[show f+1+(ops.size-m)=(f+(ops.size-m))+1 by omega];refine⟨λZ=> ?_,λi hi=> ?_⟩
  ·exfalso
   cases O:Region.ready .any ops' c with
   |nil=>exact X O
   |cons i l=>
    have:=(N i).2 (by rw[O];exact aR ..)
    rw[Z]at this;cases this
  ·have R:=(N i).1 hi
   have s:=h.2 i R
   obtain⟨n,o,d,u⟩:=mem_ready.1 R
   have him:i<m:=by have:=(od.1 d).1;omega
   have A:c[i]?=some false:=by
    have g:i<c.size:=by omega
    rw[kp,py g]at n;rw[py g]
    simpa using n
   have next:∀q w',C w'→wpAnyQ P .any ops' C D f (c.setIfInBounds i true) q→wpAny P .any ops Q (f+(ops.size-m)) (listed.setIfInBounds i true) q w':=by
    intro q w' hw' hk;refine V (c.setIfInBounds i true) (listed.setIfInBounds i true) q w' (by simp[x]) (by simp[E]) ?_ ?_ ?_ hk hw'
    ·intro j y
     rw[H9,H9,h1 j y]
     by_cases e:i=j
     ·subst e;simp only[if_true];rw[aB zE,aB zE]
     ·simp only[e,if_false]
    ·intro j y K
     rw[H9,aA zE];exact F j y K
    ·rw[Array.toList_setIfInBounds,List.count_set (by simp;omega)]
     have g:i<c.size:=by omega
     have he:c.toList[i]'(by simpa using g)=false:=by
      rw[py g]at A;simpa using A
     rw[he]
     simp only[beq_self_eq_true,if_true]
     rw[G];simp
   unfold wpOp;unfold qOp at s
   have t:ops[i]?=some o:=by rw[←B i him];exact d
   rw[t];rw[d]at s
   have L:Region.wanted o (yielded ops' a.tmps)=Region.wanted o (yielded ops a.tmps):=by
    unfold Region.wanted
    split
    ·rfl
    ·rename_i j b hg
     have:=Fu v t hg
     rw[Eg B zE]
   simp only[L]at s
   simp only
   split
   ·rename_i M
    simp only[M,if_true]at s
    exact .inl (Oper.wp_of_quiet hw next s)
   ·rename_i M
    simp only[M]at s
    exact next _ w hw s
theorem St.rqt {n:Nat}{F:Fr}{A:World→Prop}{id:Nat}(hd tl:List Oper){l:List Oper}(i:l=hd++tl)(hm:P.follows .mixedOrders=true)(d:Region.lexB .any hd.toArray=true)(b:zY l.toArray hd.length=true)(k:Er A)
 (h:Sq n F (wpQuiet P hd.toArray A (λe=>∀w',A w'→wpList P l.toArray Q tl e w') hd)):St n F A ((Code.region id l.toArray true).wp P Q):=by
 intro a w m hw;subst i
 simp only[Region.lexB,Bool.and_eq_true]at d
 refine wp_region_any hm ?_
 have o:=wpAnyQ_lex (P:=P) (C:=A) (md:= .any) (ops:=hd.toArray) d.1 hd 0 (Array.replicate hd.toArray.size false) a (by simp) (by simpa using d.2) (h a m)
 have p:(hd++tl).toArray.size=hd.length+((hd++tl).toArray.size-hd.length):=by simp
 rw[p];refine Oz (ops':=hd.toArray) b (by simp) (by simp) (λj c=> ?_) ?_ hd.length _ _ a _ (by simp) (by simp) ?_ ?_ ?_ o (k w hw)
 ·simp[List.getElem?_append_left c]
 ·intro e f w' q listed hu
  have h1:=xO (P:=P) (Q:=Q) b tl hd.length listed e w' (aU _) (λj=>by simp[List.getElem?_append_right]) (by simp) hu (f w' q)
  have r:(hd++tl).toArray.size-hd.length=tl.length:=by simp
  rw[r];exact h1
 ·intro j c
  rw[Array.getElem?_replicate,Array.getElem?_replicate,aB (by simp;omega),aB (by simpa using c)]
 ·intro j c g
  rw[Array.getElem?_replicate,aB (by simpa using g)]
 ·simp
theorem St.any {n:Nat}{F:Fr}{A:World→Prop}{id:Nat}{l:List Oper}(hm:P.follows .mixedOrders=true)(b:Er A)
 (h:St n F A (wpAny P .any l.toArray Q l.length (Array.replicate l.length false))):St n F A ((Code.region id l.toArray true).wp P Q):=
 λa w c hw=>wp_region_any hm (by simpa using h a _ c (b w hw))
theorem St.one {n:Nat}{F:Fr}{A:World→Prop}{i:Nat}{o:Oper}{K:Act→World→Prop}(c:ops[i]?=some o)(h:St n F A (wpList P ops (Exit.then K Q) [o])):St n F A (wpOp P ops Q i K):=by
 intro a w d hw
 have h1:=h a w d hw
 unfold wpOp;rw[c]
 simp only[wpList]at h1
 simp only
 split
 ·rename_i b
  simp only[b,if_true]at h1
  rcases h1 with h1|⟨h1,a0,f,g⟩
  ·refine .inl ?_
   unfold Oper.wp at h1⊢
   generalize (execOp a.eval o).run P w=r at h1⊢
   cases r with
   |ok j w'=>
    cases j<;>simp only[Oper.upon]at h1⊢ <;>
     first
      |exact h1
      |exact Calls.mono h1 (λe k he=>by cases e<;>exact he)
      |exact Rows.mono h1 (λ_ _ he=>he)
   |halt x w'=>cases x<;>simp only[Oper.upon]at h1⊢ <;>exact h1
  ·exact .inr ⟨h1,a0,f,g⟩
 ·rename_i b
  simp only[b]at h1
  exact h1
theorem St.FD {n:Nat}{F:Fr}{A:World→Prop}{f:Nat}{listed:Array Bool}(b:Region.ready .any ops listed=[])(h:St n F A (Q .normal)):St n F A (wpAny P .any ops Q f listed):=
 λa w c hw=>wpAny_done b (h a w c hw) f
theorem St.aaN {n:Nat}{F:Fr}{A:World→Prop}{f i:Nat}{o:Oper}{listed:Array Bool}(b:Region.ready .any ops listed=[i])(c:ops[i]?=some o)
 (h:St n F A (wpList P ops (Exit.then (wpAny P .any ops Q f (listed.setIfInBounds i true)) Q) [o])):St n F A (wpAny P .any ops Q (f+1) listed):=
 λa w d hw=>wpAny_all b (by simp) (by simpa using St.one c h a w d hw)
theorem St.aiC {n:Nat}{F:Fr}{A:World→Prop}{f i j:Nat}{o o':Oper}{listed:Array Bool}(d:Region.ready .any ops listed=[i,j])(e:ops[i]?=some o)(b:ops[j]?=some o')
 (h:St n F A (wpList P ops (Exit.then (wpAny P .any ops Q f (listed.setIfInBounds i true)) Q) [o])) (g:St n F A (wpList P ops (Exit.then (wpAny P .any ops Q f (listed.setIfInBounds j true)) Q) [o'])):St n F A (wpAny P .any ops Q (f+1) listed):=
 λa w c hw=>wpAny_all d (by simp) (by
  intro k hk
  simp only[List.mem_cons,List.not_mem_nil,or_false]at hk
  rcases hk with rfl|rfl
  ·exact St.one e h a w c hw
  ·exact St.one b g a w c hw)
class Split (m:Nat)(l:List Oper)(hd tl:outParam (List Oper)):Prop where
 eq:l=hd++tl
 len:hd.length=m
instance Split.zero (l:List Oper):Split 0 l [] l:=⟨rfl,rfl⟩
instance Split.succ (m:Nat)(o:Oper)(l hd tl:List Oper)[h:Split m l hd tl]:Split (m+1) (o::l) (o::hd) tl:=⟨by rw[h.eq];rfl,by rw[fL,h.len]⟩
theorem St.rqs {n:Nat}{F:Fr}{A:World→Prop}{id:Nat}{l hd tl:List Oper}(m:Nat)[sp:Split m l hd tl](hm:P.follows .mixedOrders=true)(b:Region.lexB .any hd.toArray=true)(a:zY l.toArray m=true)(c:Er A)
 (h:Sq n F (wpQuiet P hd.toArray A (λd=>∀w',A w'→wpList P l.toArray Q tl d w') hd)):St n F A ((Code.region id l.toArray true).wp P Q):=
 St.rqt hd tl sp.eq hm b (by rw[sp.len];exact a) c h
theorem Sq.tail {n:Nat}{F:Fr}{A:World→Prop}{ops':Array Oper}{tl:List Oper}(h:St n F A (wpList P ops Q tl)):Sq n F (wpQuiet P ops' A (λb=>∀w',A w'→wpList P ops Q tl b w') []):=λa c w hw=>h a w c hw
end
def kH (b:Nat)(v:Value):e8 where
 f ρ:=∃C e fr,ρ b=some (.cells C e fr)∧C[0]?=some v
 mono ρ kK h:=by
  rintro ⟨C,e,fr,h1,a⟩;exact⟨C,e,fr,h _ _ h1,a⟩
class sN (b:Nat)(H:List ay)(v:outParam Value):Prop where
 mem:aD (kH b v)∈H
instance (priority:=high) sN.here (b:Nat)(v:Value)(H:List ay):sN b (aD (kH b v)::H) v:=⟨aR ..⟩
instance sN.there (b:Nat)(v:Value)(E:ay)(H:List ay)[h:sN b H v]:sN b (E::H) v:=⟨cO _ h.mem⟩
instance lG.map (ds:List e8):lG ds (ds.map aD):=⟨λ_ h=>dh h⟩
instance (priority:=low) lG.lift (ds:List e8)(E:ay)(H:List ay)[h:lG ds H]:lG ds (E::H):=⟨λd hd=>cO _ (h.mem d hd)⟩
def all (w:World):Ro:=λk=>w.heap[k]?
theorem fH.Yk {c:Ctx}{H:List ay}{ρ:Ro}{w:World}(h:fH c H ρ w):Ro.le ρ (J.all w):=λk o hk=>h.fits k o hk
def eu (c:Ctx)(H:List ay)(ds:List e8):Prop:=∀ρ w,fH c H ρ w→∀d∈ds,d.f (J.all w)
section
variable {c:Ctx}{H R:List ay}{ds:List e8}{v:Value}
theorem eu.nil:eu c H []:=λ_ _ _ _ h=>by simp at h
theorem eu.aD {d:e8}(h:eu c H ds)[hd:mT d H]:eu c H (d::ds):=λρ w hm b a=>by
 rcases cN.1 a with rfl|a
 ·exact b.mono _ _ hm.Yk (hm.aD hd)
 ·exact h ρ w hm b a
theorem Cc {α:Type}{Rr:Rp α}{xs:List α}{e:TypeId}{m:Nat}{cs:List Value}{w:World}(h:w.ownsRow 0 e Rr.size v m cs)(b:cs=rows Rr xs)(hm:m=xs.length)(c:∀x∈xs,Rr.wf x):(sl Rr v xs).f (J.all w):=by
 subst b hm
 rcases h.2 with⟨rfl,d⟩|⟨g,cap,cur,rfl,_,i,k,l,b,n⟩
 ·have hx:xs=[]:=ka d
  subst hx;exact⟨none,0,rfl,aU _,by unfold maxLen;omega,λx hx=>by simp at hx,.inl rfl⟩
 ·refine⟨some ⟨g,0,none⟩,cap,rfl,k,l,c,.inr ⟨g,0,cur,e,(0,0),rfl,i,λj u a=> ?_⟩⟩
  rw[←n,sj]at a
  split at a
  ·simpa using a
  ·simp at a
theorem eu.row {α:Type}{Rr:Rp α}{xs:List α}{e:TypeId}{size m:Nat}{cs:List Value}(h:eu c H ds)[d:xU v H e size m cs](f:size=Rr.size)(g:cs=rows Rr xs)(hm:m=xs.length)(i:∀x∈xs,Rr.wf x):eu c H (sl Rr v xs::ds):=λρ w b j a=>by
 subst f
 rcases cN.1 a with rfl|a
 ·exact Cc (b.row d) g hm i
 ·exact h ρ w b j a
theorem eu.aW {b:Nat}{u:Value}{e:TypeId}{fr:Nat×Nat}{L:List Value}(h:eu c H ds)[f:Bf b H (.cells (u::L).toArray e fr)]:eu c H (kH b u::ds):=λρ w d g a=>by
 rcases cN.1 a with rfl|a
 ·exact⟨_,e,fr,gO.1 (d.dR _ f.mem),by simp⟩
 ·exact h ρ w d g a
def iW (H:List ay):Prop:=∀E∈H,∀ρ kK w,E.ok ρ w→E.ok kK w
theorem iW.nil:iW []:=λ_ h=>by simp at h
theorem iW.row {H:List ay}{e:TypeId}{size m:Nat}{cs:List Value}(h:iW H):iW (J.row v e size m cs::H):=λE a ρ kK w k=>by
 rcases cN.1 a with rfl|a
 ·exact eQ.2 (eQ.1 k)
 ·exact h E a ρ kK w k
theorem iW.aW {H:List ay}{b:Nat}{o:Obj}(h:iW H):iW (J.aW b o::H):=λE a ρ kK w k=>by
 rcases cN.1 a with rfl|a
 ·exact gO.2 (gO.1 k)
 ·exact h E a ρ kK w k
theorem jP (ds:List e8)(b:Nat):¬jl (ds.map aD) b:=by
 rintro ⟨E,c,a⟩;obtain⟨d,_,rfl⟩:=cS.1 c
 rw[kP]at a;cases a
theorem Mm.agS {dr:Prop}{P:Program}{f:FuncId}{args:Array Value}{post:Value→List ay→Prop}(l:DA dr P f args (ds.map J.aD) post)(m:c.dr→dr)(n:eu c H ds)(p:∀v H',post v H'→iW H'){w:World}(hm:Mm c H w):
 Calls P f args w λe w'=>∃v H',e= .returned v∧post v H'∧Mm c (H'++H) w':=by
 obtain⟨ρ,hm⟩:=hm.out
 have st:Start (ds.map J.aD) (J.all w) w:=
  ⟨rfl,⟨rfl,λ_=>aU _⟩,rfl,aU _,λ_ _ _=>rfl,λ_ _ h=>h,Ro.le_refl _,λ_ _ _=>rfl,λE a=>by
   obtain⟨d,hd,rfl⟩:=cS.1 a;exact dJ.2 (n ρ w hm d hd),
   (λE a b i=>by
    obtain⟨d,hd,rfl⟩:=cS.1 a
    rw[kP]at i;cases i),
   by
    refine su.2 (xQ (R:=λ_ _=>True) ?_ (List.pairwise_of_forall λ_ _=>trivial));intro d t _ _ _ b i
    rw[kP]at i;cases i⟩
 refine(l w (J.all w) st).mono ?_;rintro e w' ⟨v,H',he,hp,g⟩;obtain⟨kK,g⟩:=g.out;refine⟨v,H',he,hp,?_⟩
 have hold:∀k,k<w.heap.size→w'.heap[k]?=w.heap[k]?:=λk hk=>g.Ax k hk (jP ds k)
 have j:∀E∈H',∀b,E.key=some b→w.heap.size≤b:=λE a b i=>by
  rcases(g.own E a b i).2 with h1|h1
  ·exact h1
  ·exact absurd h1 (jP ds b)
 refine Mm.mk (ρ:=ρ) ?_
 have r:fH c ([]++H) ρ w:=hm
 refine fH.step r ⟨g.os,⟨g.tape.1,λq=>g.tape.2 (m q)⟩,g.output,g.size,λk hk _=>hold k hk,λk o hk=> ?_,Ro.le_refl _,λ_ _ _=>rfl,λE a=>p v H' hp E a kK ρ w' (g.dR E a),?_,g.FV⟩
 ·rw[hold k (hm.Ay hk)];exact hm.fits k o hk
 ·intro E a b i
  refine⟨?_,.inl (j E a b i)⟩
  cases s:ρ b with
  |none=>rfl
  |some o=>have h1:=hm.Ay s;have u:=j E a b i;omega
theorem Mm.agR {P:Program}{f:FuncId}{args:Array Value}{post:Value→List ay→Prop}(a:dx P f args (ds.map J.aD) post)(b:eu c H ds)(d:∀v H',post v H'→iW H'){w:World}(hm:Mm c H w):
 Calls P f args w λe w'=>∃v H',e= .returned v∧post v H'∧Mm c (H'++H) w':=Mm.agS a.gen (λ_=>trivial) b d hm
end
section
variable {P:Program}{n:Nat}{F:Fr}{A:World→Prop}{c:Ctx}{H R:List ay}{ty:TypeId}{x y z:Operand}{v:Value}{Q:Exit→Act→World→Prop}{ops:Array Oper}{rest:List Oper}
 {d:Nat} {pos:String} {after:Array Edge} {t e:TypeId}
theorem Ev.agM {b:Nat}{u:Value}{dd:TypeDesc}[d:sN b H u](hx:aa F x (tW b))(ht:P.underlying t=some dd)(f:(match dd with| .struct _| .array _ _=>False|_=>True)):
 Ev P n F (Mm c H) (.load t x) ty u:= .of_run λa w g hw=>by
 obtain⟨ρ,hm⟩:=hw.out;obtain⟨C,e,fr,h1,h⟩:=dJ.1 (hm.dR _ d.mem)
 simp[execOp,hx.eval g,Instr.loadAt,Instr.sureAddr,fS ht f ((cg (hm.fits _ _ h1)).trans h)]
theorem Ev.Bt {f:FuncId}{xs:List Operand}{d:Array TypeId}{vs:List Value}{ds:List e8}(g:dK P f vs.toArray ds v)(i:aK P f)(hx:au F xs vs)(j:eu c H ds):
 Ev P n F (Mm c H) (.call {callee:= .value (.func f),args:=xs.toArray,argTypes:=d}) ty v:=by
 intro a w k hw;rw[mV (caps:=[]) i (au.cons (aa.mk rfl) hx) k w]
 simp only[List.append_nil,Oper.quietUpon,true_and]
 refine(Mm.agR (post:=λu H'=>u=v∧H'=[]) (λw ρ l=>(g w ρ l).mono λe w' ⟨u,H',h1,m,b⟩=>⟨u,[],h1,⟨m,rfl⟩,?_⟩) j (λ_ _ h=>by rw[h.2];exact iW.nil) hw).mono ?_
 ·obtain⟨kK,b⟩:=b.out
  exact Mm.mk (fH.left (L:=[]) b)
 ·rintro e w' ⟨u,H',rfl,⟨rfl,rfl⟩,hm⟩
  exact⟨rfl,hm⟩
theorem Ev.oK {f:FuncId}{xs:List Operand}{d:Array TypeId}{vs caps:List Value}{ds:List e8}(g:dK P f (vs++caps).toArray ds v)(i:aK P f)(j:aa F x (.func (.func f) #[] caps.toArray))(hx:au F xs vs)(k:eu c H ds):
 Ev P n F (Mm c H) (.call {callee:= .value x,args:=xs.toArray,argTypes:=d}) ty v:=by
 intro a w l hw;rw[mV i (au.cons j hx) l w]
 simp only[Oper.quietUpon,true_and]
 refine(Mm.agR (post:=λu H'=>u=v∧H'=[]) (λw ρ m=>(g w ρ m).mono λe w' ⟨u,H',h1,o,b⟩=>⟨u,[],h1,⟨o,rfl⟩,?_⟩) k (λ_ _ h=>by rw[h.2];exact iW.nil) hw).mono ?_
 ·obtain⟨kK,b⟩:=b.out
  exact Mm.mk (fH.left (L:=[]) b)
 ·rintro e w' ⟨u,H',rfl,⟨rfl,rfl⟩,hm⟩
  exact⟨rfl,hm⟩
@[irreducible] def th (v:Value)(size l h:Nat):Value:=
 match v with
 | .slice a _ cap=> .slice (if cap=l then a else a.map (·.add (l*size))) (h-l) (cap-l)
 |_=>undef
theorem lA (a:Option Addr)(m cap size l h:Nat):th (.slice a m cap) size l h= .slice (if cap=l then a else a.map (·.add (l*size))) (h-l) (cap-l):=by unfold th;rfl
theorem V6 {α:Type}{Rr:Rp α}{xs:List α}{l h:Nat}{ρ:Ro}(n:(sl Rr v xs).f ρ)(A:l≤h)(o:h≤xs.length):(sl Rr (th v Rr.size l h) ((xs.drop l).take (h-l))).f ρ:=by
 obtain⟨a,cap,rfl,B,D,p,q⟩:=n
 have hlen:((xs.drop l).take (h-l)).length=h-l:=by simp;omega
 refine⟨if cap=l then a else a.map (·.add (l*Rr.size)),cap-l,by rw[lA,hlen],by omega,by omega,λx hx=>p x (D1 (Au hx)),?_⟩
 by_cases i:(xs.drop l).take (h-l)=[]
 ·exact .inl i
 ·right
  have E:l<h:=by
   rcases dI l h with g|g
   ·exact g
   ·exact absurd (by rw[show h-l=0 by omega];rfl) i
  have r:cap≠l:=by omega
  rcases q with rfl|⟨b,off,C,e,fr,rfl,g,s⟩
  ·simp at o;omega
  ·refine⟨b,off+l*Rr.size,C,e,fr,by rw[aA r];simp[Addr.add_lit],g,λj u k=> ?_⟩
   rw[vI]
   apply s
   -- c cells of c part t c cells of c whole,from there on
   have key:∀(d:List α) (l:Nat),l≤d.length→rows Rr d=rows Rr (d.take l)++rows Rr (d.drop l):=λd l _=>by
    unfold rows;rw[←qF,nR]
   have w:=key xs l zE
   have y:=key (xs.drop l) (h-l) (by simp;omega)
   have m:(xs.take l).length=l:=by simp;omega
   rw[w,nO (by rw[gh,m];omega),gh,y];rw[m,show l*Rr.size+j-l*Rr.size=j by omega]
   have z:=(fj.1 k).1
   rw[rL z];exact k
theorem St.part {α:Type}{Rr:Rp α}{xs:List α}{T:Act→World→Prop}(v:Value)(l h:Nat)[hd:vK v H α Rr xs](a:l≤h)(b:h≤xs.length)
 (k:St n F (Mm c (aD (sl Rr (th v Rr.size l h) ((xs.drop l).take (h-l)))::H)) T):St n F (Mm c H) T:=
 St.fact _ (λ_ _ hm=>V6 (hm.sl hd) a b) k
theorem Ev.rj {α:Type}{Rr:Rp α}{xs:List α}{i:Int}{l:Nat}{d:IntKind}{lo:Operand}[hd:vK v H α Rr xs](hx:aa F x v)(f:aa F lo (.int d i))(ht:P.underlying t=some (.slice e))(g:(P.info? e).map (·.size)=some Rr.size)
 (h:i=l) (o:l≤xs.length):Ev P n F (Mm c H) (.slice t x (some lo) none none) ty (th v Rr.size l xs.length):= .of_run λa w b hw=>by
 obtain⟨ρ,hm⟩:=hw.out;obtain⟨ad,cap,rfl,p,_⟩:=hm.sl hd;obtain⟨inf,j,k⟩:=eE.1 g;subst h
 have m:(0:Int)≤(l:Int)∧(l:Int)≤(xs.length:Int):=by omega
 simp only[execOp,hx.eval b,f.eval b,Option.map_some,Option.map_none,Instr.sliceAt,Instr.slice,Instr.sliceBounds,Instr.sliceBound,asIntOf,Sem.run_bind,run_underlying ht,Result.andThen_ok,Sem.run_pure,m,and_self,if_true,Int.toNat_natCast,sizeOf,typeInfo,run_program,j,k,lA]
def isNil:Value→Bool
 | .slice none _ _=>true
 |_=>false
theorem uo (k:Nat){ad:Option Addr}{m cap:Nat}{w:World}(ht:P.underlying t=some (.slice e)):(Op.equalIn (k+1) t (.slice ad m cap) (.slice none 0 0)).run P w= .ok (isNil (.slice ad m cap)) w:=by
 cases ad<;>simp[Op.equalIn,run_underlying ht,isNil]
theorem Ev.slnil {ad:Option Addr}{m cap:Nat}{u:TypeId}(hx:aa F x (.slice ad m cap))(ht:P.underlying t=some (.slice e)):Ev P n F A (.binOp .eql t x (.const (.slice none 0 0)) u) ty (.bool (isNil (.slice ad m cap))):= .of_run λa w b _=>by
 have h1:=uo (P:=P) (w:=w) 9999 (ad:=ad) (m:=m) (cap:=cap) ht
 have c:a.eval (.const (.slice none 0 0))= .slice none 0 0:=rfl
 simp only[execOp,hx.eval b,c,eqGuard_at_slice,binOp,Sem.run_bind,Sem.run_pure,Result.andThen_ok]
 unfold Op.equal Op.maxDepth;rw[h1];rfl
theorem St.aP {size m a:Nat}{cs gG:List Value}{T:Act→World→Prop}(v:Value)[b:mB v H e size m cs R](hm:m=a)(h:cs=gG)(k:St n F (Mm c (row v e size a gG::R)) T):St n F (Mm c H) T:=by
 subst h hm
 exact k.oY λ_ hw=>let⟨_,q⟩:=hw.out;Mm.mk (q.perm b.perm)
theorem CV {α:Type}{Rr:Rp α}(h1:Rr.size=1){u:Value}{x:α}(hx:Rr.cells x=[u]):∀(xs:List α) (k:Nat),(rows Rr xs).set k u=rows Rr (xs.set k x)
 | [],_=>by simp[rows]
 |y::xs,0=>by
  have:=Rr.len y
  rw[h1]at this
  obtain⟨v,a⟩:∃v,Rr.cells y=[v]:=by
   match c:Rr.cells y,this with
   | [v],_=>exact⟨v,rfl⟩
  simp[rows,a,hx]
 |y::xs,k+1=>by
  have:=Rr.len y
  rw[h1]at this
  obtain⟨v,a⟩:∃v,Rr.cells y=[v]:=by
   match c:Rr.cells y,this with
   | [v],_=>exact⟨v,rfl⟩
  have b:=CV h1 hx xs k
  simp only[rows,List.flatMap_cons,a,List.singleton_append,List.set_cons_succ]at b⊢
  rw[b]
theorem bN {α:Type}(Rr:Rp α)(xs:List α)(x:α):rows Rr (xs++ [x])=rows Rr xs++Rr.cells x:=by simp[rows]
theorem AD {α:Type}{Rr:Rp α}{u:Value}{x:α}(hx:Rr.cells x=[u])(m:Nat):rows Rr (List.replicate m x)=List.replicate m u:=by
 induction m with
 |zero=>rfl
 |succ m a=>simp only[List.replicate_succ,rows,List.flatMap_cons,hx,List.singleton_append]at a⊢;rw[a]
end
instance (priority:=high) fE.self (L:List ay):fE L L []:=⟨by simp⟩
instance (priority:=low) fE.skip (L:List ay)(E:ay)(H R:List ay)[h:fE L H R]:fE L (E::H) (E::R):=⟨(h.perm.cons E).trans qH.symm⟩
open Classical in
noncomputable def pQ (L:List ay) (w:World):Ro:=λk=>if jl L k then none else w.heap[k]?
def j4 (c:Ctx)(L R:List ay)(ds:List e8):Prop:=∀ρ w,fH c (L++R) ρ w→∀d∈ds,d.f (pQ L w)
section
variable {c:Ctx}{L R:List ay}{ds:List e8}{v:Value}
theorem fH.Yl {ρ:Ro}{w:World}(h:fH c (L++R) ρ w):Ro.le ρ (pQ L w):=λk o hk=>by
 unfold pQ;rw[aA]
 ·exact h.fits k o hk
 ·rintro ⟨E,a,b⟩
  have:=(h.own E (ke _ a) k b).1
  rw[hk]at this;cases this
theorem Bn {ρ:Ro}{w:World}(h:fH c (L++R) ρ w){E:ay}(a:E∈R){b:Nat}(d:E.key=some b):pQ L w b=w.heap[b]?:=by
 unfold pQ;rw[aA];rintro ⟨e,f,g⟩;exact(sq.1 h.FV).2.2 e f E a b g d
theorem j4.nil:j4 c L R []:=λ_ _ _ _ h=>by simp at h
theorem j4.aD {d:e8}(h:j4 c L R ds)[hd:mT d R]:j4 c L R (d::ds):=λρ w hm b a=>by
 rcases cN.1 a with rfl|a
 ·exact b.mono _ _ hm.Yl (dJ.1 (hm.dR _ (kz _ hd.mem)))
 ·exact h ρ w hm b a
theorem j4.row {α:Type}{Rr:Rp α}{xs:List α}{e:TypeId}{size m:Nat}{cs:List Value}(h:j4 c L R ds)[i:xU v R e size m cs](j:size=Rr.size)(k:cs=rows Rr xs)(hm:m=xs.length)(l:∀x∈xs,Rr.wf x):j4 c L R (sl Rr v xs::ds):=λρ w d n f=>by
 subst j
 rcases cN.1 f with rfl|f
 ·have o:=eQ.1 (d.dR _ (kz _ i.mem))
  obtain⟨a,cap,h1,p,q,r,g⟩:=Cc (w:=w) o k hm l;refine⟨a,cap,h1,p,q,r,?_⟩
  rcases g with g|⟨b,off,C,s,fr,rfl,t,u⟩
  ·exact .inl g
  ·refine .inr ⟨b,off,C,s,fr,rfl,?_,u⟩
   rw[Bn d i.mem (b:=b) (by rw[eA,h1];rfl)];exact t
 ·exact h ρ w d n f
theorem j4.aW {b:Nat}{u:Value}{e:TypeId}{fr:Nat×Nat}{l:List Value}(h:j4 c L R ds)[f:Bf b R (.cells (u::l).toArray e fr)]:j4 c L R (kH b u::ds):=λρ w a g d=>by
 rcases cN.1 d with rfl|d
 ·refine⟨(u::l).toArray,e,fr,?_,rfl⟩
  rw[Bn a f.mem (b:=b) (ir _ _)];exact gO.1 (a.dR _ (kz _ f.mem))
 ·exact h ρ w a g d
theorem Mm.Yn {dr:Prop}{P:Program}{f:FuncId}{args:Array Value}{post:Value→List ay→Prop}(r:DA dr P f args (ds.map J.aD++L) post)(s:c.dr→dr)(t:j4 c L R ds)(m:iW L)(u:∀v H',post v H'→iW H'){w:World}(hm:Mm c (L++R) w):
 Calls P f args w λe w'=>∃v H',e= .returned v∧post v H'∧Mm c (H'++R) w':=by
 obtain⟨ρ,hm⟩:=hm.out
 have l:∀b,jl (ds.map J.aD++L) b↔jl L b:=λb=>by
  constructor
  ·rintro ⟨E,a,g⟩
   rcases ca.1 a with a|a
   ·exact absurd ⟨E,a,g⟩ (jP ds b)
   ·exact⟨E,a,g⟩
  ·rintro ⟨E,a,g⟩;exact⟨E,kz _ a,g⟩
 have st:Start (ds.map J.aD++L) (pQ L w) w:=by
  refine⟨rfl,⟨rfl,λ_=>aU _⟩,rfl,aU _,λ_ _ _=>rfl,λk o hk=> ?_,Ro.le_refl _,λ_ _ _=>rfl,λE a=> ?_,λE a b g=> ?_,?_⟩
  ·unfold pQ at hk
   split at hk
   ·cases hk
   ·exact hk
  ·rcases ca.1 a with a|a
   ·obtain⟨d,hd,rfl⟩:=cS.1 a
    exact dJ.2 (t ρ w hm d hd)
   ·exact m E a ρ _ w (hm.dR E (ke _ a))
  ·have j:jl L b:=(l b).1 ⟨E,a,g⟩
   exact⟨by unfold pQ;rw[aB j],.inr ((l b).2 j)⟩
  ·refine sq.2 ⟨?_,(sq.1 hm.FV).1,?_⟩
   ·refine su.2 (xQ (R:=λ_ _=>True) ?_ (List.pairwise_of_forall λ_ _=>trivial))
    intro d A _ _ _ b g
    rw[kP]at g;cases g
   ·intro E a n _ b g
    obtain⟨d,_,rfl⟩:=cS.1 a
    rw[kP]at g;cases g
 refine(r w (pQ L w) st).mono ?_;rintro e w' ⟨v,H',he,hp,i⟩;obtain⟨kK,i⟩:=i.out;refine⟨v,H',he,hp,?_⟩
 have hold:∀k,k<w.heap.size→¬jl L k→w'.heap[k]?=w.heap[k]?:=λk hk h=>i.Ax k hk (λx=>h ((l k).1 x))
 refine Mm.mk (ρ:=ρ) (fH.step hm ⟨i.os,⟨i.tape.1,λq=>i.tape.2 (s q)⟩,i.output,i.size,λk hk h=>hold k hk h,λk o hk=> ?_,Ro.le_refl _,λ_ _ _=>rfl,λE a=>u v H' hp E a kK ρ w' (i.dR E a),?_,i.FV⟩)
 ·rw[hold k (hm.Ay hk)]
  ·exact hm.fits k o hk
  ·rintro ⟨E,a,g⟩
   have:=(hm.own E (ke _ a) k g).1
   rw[hk]at this;cases this
 ·intro E a b g
  rcases(i.own E a b g).2 with h1|h1
  ·refine⟨?_,.inl h1⟩
   cases y:ρ b with
   |none=>rfl
   |some o=>have B:=hm.Ay y;simp only at h1;omega
  ·have z:=(l b).1 h1
   obtain⟨n,p,j⟩:=z;exact⟨(hm.own n (ke _ p) b j).1,.inr ⟨n,p,j⟩⟩
theorem Mm.agT {P:Program}{f:FuncId}{args:Array Value}{post:Value→List ay→Prop}(b:dx P f args (ds.map J.aD++L) post)(d:j4 c L R ds)(a:iW L)(g:∀v H',post v H'→iW H'){w:World}(hm:Mm c (L++R) w):
 Calls P f args w λe w'=>∃v H',e= .returned v∧post v H'∧Mm c (H'++R) w':=Mm.Yn b.gen (λ_=>trivial) d a g hm
end
section
variable {P:Program}{n:Nat}{F:Fr}{A:World→Prop}{c:Ctx}{H R:List ay}{ty:TypeId}{x y z:Operand}{v:Value}{Q:Exit→Act→World→Prop}{ops:Array Oper}{rest:List Oper}
 {d:Nat} {pos:String} {after:Array Edge} {t e:TypeId}
theorem St.aa5 {f:FuncId}{xs:List Operand}{i:Array TypeId}{vs:List Value}{ds:List e8}{L R:List ay}{post:Value→List ay→Prop}(j:dx P f vs.toArray (ds.map aD++L) post)(k:aK P f)(hx:au F xs vs)[o:fE L H R]
 (l:j4 c L R ds) (b:iW L) (m:∀v H',post v H'→iW H') (hd:Nat.ble (d+1) n=true)
 (h:∀v H',post v H'→St n ((d,v)::F) (Mm c (H'++R)) (wpList P ops Q rest)):
 St n F (Mm c H) (wpList P ops Q ({dst:=some d,op:= .call {callee:= .value (.func f),args:=xs.toArray,argTypes:=i},type:=ty,pos:=pos,after:=after,guard:=none}::rest)):=by
 intro a w g hw;refine hP rfl (gW (caps:=[]) k (au.cons (aa.mk rfl) hx) g w ?_)
 simp only[List.append_nil]
 refine(Mm.agT j l b m (hw.take (L:=L))).mono ?_;rintro e w' ⟨u,H',rfl,hp,hm⟩;exact⟨u,rfl,h u H' hp _ w' (g.put (dS hd) u) hm⟩
theorem St.split {T:Act→World→Prop}(k:Nat)(b:Bool)(hk:look F k=some (.bool b))(ht:b=true→St n ((k,.bool true)::F) A T)(g:b=false→St n ((k,.bool false)::F) A T):St n F A T:=by
 intro a w f hw
 have key:∀u,u=Value.bool b→Has n a ((k,u)::F):=λu hu=>⟨f.size,f.defers,λt v d=>by
  simp only[look]at d
  cases c:Nat.beq t k with
  |true=>
   have e:t=k:=nL c
   subst e
   simp only[c,cond_true,Option.some.injEq]at d
   subst d
   rw[hu];exact f.slot _ _ hk
  |false=>simp only[c,cond_false]at d;exact f.slot _ _ d⟩
 cases c:b with
 |true=>exact ht c a w (key _ (by rw[c])) hw
 |false=>exact g c a w (key _ (by rw[c])) hw
theorem St.dq {j dj:Nat}{want:Bool}{op:Op}(e:(ops[j]?).bind (·.dst)=some dj)(f:look F dj=some (.bool (!want)))(hd:Nat.ble (d+1) n=true)
 (h:St n ((d,undef)::F) A (wpList P ops Q rest)):St n F A (wpList P ops Q ({dst:=some d,op:=op,type:=ty,pos:=pos,after:=after,guard:=some (j,want)}::rest)):=by
 intro a w b hw
 have g:=pJ (l:=ops) (c:=false) (o:={dst:=some d,op:=op,type:=ty,pos:=pos,after:=after,guard:=some (j,want)}) rfl e (b.slot _ _ f) ⟨(λh=>by cases h),λ_=> .inl rfl⟩
 simp only[wpList,g]
 exact h _ w (b.put (dS hd) undef) hw
theorem St.eK {j dj:Nat}{want:Bool}{op:Op}{dd:Option Tmp}(d:(ops[j]?).bind (·.dst)=some dj)(e:look F dj=some (.bool want))
 (h:St n F A (wpList P ops Q ({dst:=dd,op:=op,type:=ty,pos:=pos,after:=after,guard:=none}::rest))):
 St n F A (wpList P ops Q ({dst:=dd,op:=op,type:=ty,pos:=pos,after:=after,guard:=some (j,want)}::rest)):=by
 intro a w b hw
 have f:=pJ (l:=ops) (c:=true) (o:={dst:=dd,op:=op,type:=ty,pos:=pos,after:=after,guard:=some (j,want)}) rfl d (b.slot _ _ e) ⟨λ_=>rfl,(λh=>by cases h)⟩
 have h1:=h a w b hw
 simp only[wpList,f,if_true]
 simp only[wpList,Region.wanted,if_true]at h1
 rcases h1 with h1|⟨h1,g⟩
 ·left
  unfold Oper.wp Oper.upon at h1⊢;rw[jA]at h1⊢;exact h1
 ·right
  refine⟨?_,g⟩;unfold Oper.asks at h1⊢;rw[jA]at h1⊢;exact h1
section rows
variable {size m:Nat}{cs:List Value}
theorem St.cH {T:Act→World→Prop}(v:Value)[b:xU v H e size m cs](h:v.oneCell'=true→cs.length=m*size→St n F (Mm c H) T):St n F (Mm c H) T:=by
 intro a w d hw;obtain⟨ρ,hm⟩:=hw.out
 have h1:=hm.row b
 refine h ?_ h1.1 a w d hw
 rcases h1.2 with⟨rfl,_⟩|⟨g,cap,cur,rfl,_⟩<;>rfl
theorem Ev.tR {j:Int}{h:Nat}{l:IntKind}{hi:Operand}[o:xU v H e size m cs](hx:aa F x v)(b:aa F hi (.int l j))(ht:P.underlying t=some (.slice e))(p:(P.info? e).map (·.size)=some size)
 (q:j=h) (r:h≤m):Ev P n F (Mm c H) (.slice t x none (some hi) none) ty (th v size 0 h):= .of_run λa w d hw=>by
 obtain⟨ρ,hm⟩:=hw.out;obtain⟨inf,i,k⟩:=eE.1 p;subst q
 rcases(hm.row o).2 with⟨rfl,rfl⟩|⟨g,cap,cur,rfl,_,_,s,_⟩
 ·have f:(0:Int)≤(h:Int)∧(h:Int)≤((0:Nat):Int):=by omega
  simp only[execOp,hx.eval d,b.eval d,Option.map_some,Option.map_none,Instr.sliceAt,Instr.slice,Instr.sliceBounds,Instr.sliceBound,asIntOf,Sem.run_bind,run_underlying ht,Result.andThen_ok,Sem.run_pure,f,and_self,if_true,Int.toNat_natCast,sizeOf,typeInfo,run_program,i,k,lA]
 ·have f:(0:Int)≤(h:Int)∧(h:Int)≤(cap:Int):=by omega
  simp only[execOp,hx.eval d,b.eval d,Option.map_some,Option.map_none,Instr.sliceAt,Instr.slice,Instr.sliceBounds,Instr.sliceBound,asIntOf,Sem.run_bind,run_underlying ht,Result.andThen_ok,Sem.run_pure,f,and_self,if_true,Int.toNat_natCast,sizeOf,typeInfo,run_program,i,k,lA]
theorem St.J8 {T:Act→World→Prop}(v:Value)(h:Nat)[i:mB v H e size m cs R](d:h≤m)(k:St n F (Mm c (row (th v size 0 h) e size h (cs.take (h*size))::R)) T):St n F (Mm c H) T:=by
 refine k.oY λw hw=> ?_
 obtain⟨ρ,hm⟩:=hw.out
 have hm:=hm.perm i.perm
 have f:=eQ.1 (hm.dR _ (aR ..))
 have hlen:(cs.take (h*size)).length=h*size:=by
  rw[eR,f.1];exact il (fC _ d)
 rcases f.2 with⟨rfl,rfl⟩|⟨g,cap,cur,rfl,j,l,s,o,p,q⟩
 ·have:h=0:=by omega
  subst this;refine Mm.mk (hm.alter rfl ⟨rfl,aU _⟩ rfl (aU _) (λ_ _ _=>rfl) (eQ.2 ⟨hlen,.inl ⟨?_,rfl⟩⟩) (λb a=> ?_))
  ·rw[lA];simp
  ·rw[eA,lA]at a;simp[Value.ownBlock]at a
 ·have r:th (tO g m cap) size 0 h= tO g h cap:=by
   rw[lA]
   simp[Addr.add_zero']
  rw[r];refine Mm.mk (hm.alter rfl ⟨rfl,aU _⟩ rfl (aU _) (λ_ _ _=>rfl) (eQ.2 ⟨hlen,.inr ⟨g,cap,cur,rfl,j,l,by omega,o,p,?_⟩⟩) (λb a=> ?_))
  ·rw[←q,List.take_take,il (fC _ d)]
  ·rw[eA]at a⊢;exact .inl a
end rows
theorem St.pA {T:Act→World→Prop}(b:Nat){u:Value}{L:List Value}[q:mA b H (.cells (u::L).toArray e (0,0)) R](h:St n F (Mm c (aD (kH b u)::R)) T):St n F (Mm c H) T:=by
 refine h.oY λw hw=> ?_
 obtain⟨ρ,hm⟩:=hw.out
 have hm:=hm.perm q.perm
 have f:=gO.1 (hm.dR _ (aR ..))
 have g:=hm.own _ (aR ..) b (ir _ _)
 have r:b<w.heap.size:=(od.1 f).1
 have i:=jq.1 hm.FV
 refine Mm.mk (ρ:=λk=>if k=b then some (.cells (u::L).toArray e (0,0))else ρ k) ?_
 have hle:Ro.le ρ (λk=>if k=b then some (.cells (u::L).toArray e (0,0))else ρ k):=by
  intro k o hk
  by_cases a:k=b
  ·subst a;rw[g.1]at hk;cases hk
  ·simp only[a,if_false];exact hk
 refine fH.fact ⟨hm.os,hm.tape,hm.output,hm.size,hm.Ax,?_,Ro.le_trans hm.le hle,?_,?_,?_,i.2⟩ _ ?_
 ·intro k o hk
  by_cases a:k=b
  ·subst a;simp only[if_true,Option.some.injEq]at hk;subst hk;exact f
  ·simp only[a,if_false]at hk;exact hm.fits k o hk
 ·intro k hk j
  by_cases a:k=b
  ·subst a
   rcases g.2 with l|l
   ·omega
   ·exact absurd l j
  ·simp only[a,if_false];exact hm.new k hk j
 ·intro E d
  exact E.loc hle (λ_ _=>rfl) (hm.dR E (cO _ d))
 ·intro E d m p
  have h1:=hm.own E (cO _ d) m p
  refine⟨?_,h1.2⟩
  by_cases a:m=b
  ·subst a;exact absurd p (i.1 E d _ (ir _ _))
  ·simp only[a,if_false];exact h1.1
 ·exact⟨(u::L).toArray,e,(0,0),by simp,by simp⟩
end
theorem zz {P:Program}{t:TypeId}{xs:Array Value}{k:Nat}{v:Value}{w:World}(h:(match P.underlying t with|some (.struct _)|some (.array _ _)|none=>false|_=>true)=true)(a:xs[k]?=some v):(part t xs k).run P w= .ok v w:=by
 unfold part
 cases hu:P.underlying t with
 |none=>rw[hu]at h;cases h
 |some d=>
  rw[hu]at h
  cases d<;>simp_all [isAgg,run_underlying hu]
theorem KC (d:Nat)(xs a:Array Value)(P:Program)(w:World):(Op.eqFields d xs a []).run P w= .ok true w:=rfl
theorem uH {d : Nat} {xs c : Array Value} {P : Program} {f : Field} {g : List Field} {r s : Bool} {a b : Value} (e : (f.name != "_") = true) (h : ∀ w, (part f.type xs f.offset).run P w = .ok a w) (i : ∀ w, (part f.type c f.offset).run P w = .ok b w) (j : ∀ w, (Op.equalIn d f.type a b).run P w = .ok r w) (k : ∀ w, (Op.eqFields d xs c g).run P w = .ok s w) (w : World) :
 (Op.eqFields d xs c (f::g)).run P w= .ok (r&&s) w:=by
 have e : f.name ≠ "_" := by simpa using e
 simp only[Op.eqFields,if_pos e,Sem.run_bind,h,i,j,Result.andThen_ok]
 cases r with
 |true=>simp only[Bool.not_true,Bool.false_eq_true,if_false,k,Bool.true_and]
 |false=>simp
class App (A B:List ay)(C:outParam (List ay)):Prop where
 eq:A++B=C
instance App.nil (B:List ay):App [] B B:=⟨rfl⟩
instance App.cons (E:ay)(A B C:List ay)[h:App A B C]:App (E::A) B (E::C):=⟨by rw[se,h.eq]⟩
section
variable {P:Program}{n:Nat}{F:Fr}{A:World→Prop}{c:Ctx}{H R C:List ay}{ty:TypeId}{x y z:Operand}{u v:Value}{T:Act→World→Prop}
theorem St.known (k:Nat)(b u:Bool)(hk:look F k=some (.bool b))(a:b=u)(h:St n ((k,.bool u)::F) A T):St n F A T:=by
 subst a
 cases b with
 |true=>exact St.split k true hk (λ_=>h) (λh=>by cases h)
 |false=>exact St.split k false hk (λh=>by cases h) (λ_=>h)
theorem Ev.Cg {t d:TypeId}{xs b:Array Value}{r:Bool}(hx:aa F x (.agg xs))(hy:aa F y (.agg b))(e:P.eqGuardType P.depth t=false)(h:∀w,(Op.equalIn 10000 t (.agg xs) (.agg b)).run P w= .ok r w):Ev P n F A (.binOp .neq t x y d) ty (.bool (!r)):= .of_run λa w c _=>by
 simp only[execOp,hx.eval c,hy.eval c,Sem.run_bind,run_eqGuard_agg w .neq t x y xs b e,run_neq_struct,h,Result.andThen_ok,Sem.run_pure]
theorem Ev.o5 {p:Bool}(hx:aa F x (.bool p))(hp:p=true)(hy:aa F y v):Ev P n F A (.pick x y z) ty v:= .of_run λa w b _=>by
 subst hp;simp only[execOp,hx.eval b,hy.eval b];simp[asBool]
theorem Ev.p8 {p:Bool}(hx:aa F x (.bool p))(hp:p=false)(hz:aa F z v):Ev P n F A (.pick x y z) ty v:= .of_run λa w b _=>by
 subst hp;simp only[execOp,hx.eval b,hz.eval b];simp[asBool]
end
abbrev ah:={v:Value//v.oneCell'=true}
def Ut {α:Type}(Rr:Rp α)(vs:List ah)(iZ:List (List α)):e8 where
 f ρ:=∀(i:Nat) (u:ah) (l:List α),vs[i]?=some u→iZ[i]?=some l→(sl Rr u.1 l).f ρ
 mono ρ kK h k i u l h1 a:=(sl Rr u.1 l).mono _ _ h (k i u l h1 a)
class XK (vs:List ah)(H:List ay)(α:outParam Type)(Rr:outParam (Rp α))(iZ:outParam (List (List α))):Prop where
 mem:aD (Ut Rr vs iZ)∈H
instance (priority:=high) XK.here {α:Type}(vs:List ah)(Rr:Rp α)(iZ:List (List α))(H:List ay):XK vs (aD (Ut Rr vs iZ)::H) α Rr iZ:=⟨aR ..⟩
instance XK.there {α:Type}(vs:List ah)(Rr:Rp α)(iZ:List (List α))(E:ay)(H:List ay)[h:XK vs H α Rr iZ]:XK vs (E::H) α Rr iZ:=⟨cO _ h.mem⟩
section
variable {n:Nat}{F:Fr}{c:Ctx}{H R:List ay}{T:Act→World→Prop}{e:TypeId}
theorem St.Ut {α:Type}{Rr:Rp α}{vs:List ah}{iZ:List (List α)}(k:Nat){u:ah}{l:List α}[hd:XK vs H α Rr iZ](hu:vs[k]?=some u)(a:iZ[k]?=some l)(h:St n F (Mm c (aD (sl Rr u.1 l)::H)) T):St n F (Mm c H) T:=
 St.fact _ (λ_ _ hm=>dJ.1 (hm.dR _ hd.mem) k u l hu a) h
theorem lp {α:Type}(Rr:Rp α)(ρ:Ro):(sl Rr (.slice none 0 0) []).f ρ:=⟨none,0,rfl,aU _,by unfold maxLen;omega,(λx hx=>by cases hx),.inl rfl⟩
theorem wE (vs:List ah):rows cr vs=vs.map Subtype.val:=by
 induction vs with
 |nil=>rfl
 |cons v vs a=>simp only[rows,List.flatMap_cons,List.map_cons]at a⊢;rw[a];rfl
end
end Go.J
namespace Go.J
open Go Go.ChangeShapes Go.WideShapes Go.ChangeAt Go.RowKit Go.Deep
theorem DA.below {dr:Prop}{P:Program}{f:FuncId}{args:Array Value}{ds:List e8}{v:Value}{W:World}(h:DA dr P f args (ds.map J.aD) λu _=>u=v)(hd:∀d∈ds,d.f (J.all W)):Calls P f args W λe g=>e= .returned v∧Below W.heap.size W g:=by
 have st:Start (ds.map J.aD) (J.all W) W:=
  ⟨rfl,⟨rfl,λ_=>aU _⟩,rfl,aU _,λ_ _ _=>rfl,λ_ _ h=>h,Ro.le_refl _,λ_ _ _=>rfl,λE c=>by
   obtain⟨d,i,rfl⟩:=cS.1 c;exact dJ.2 (hd d i),
   (λE c b a=>by
    obtain⟨d,hd,rfl⟩:=cS.1 c
    rw[kP]at a;cases a),
   by
    refine su.2 (xQ (R:=λ_ _=>True) ?_ (List.pairwise_of_forall λ_ _=>trivial));intro d j _ _ _ b a
    rw[kP]at a;cases a⟩
 refine(h W (J.all W) st).mono ?_;rintro e w' ⟨u,H',rfl,rfl,hm⟩;obtain⟨kK,hm⟩:=hm.out;exact⟨rfl,hm.os,hm.tape.1,hm.output,hm.size,λk hk=>hm.Ax k hk (jP ds k)⟩
theorem kL.below {P:Program}{f:FuncId}{args:Array Value}{ds:List e8}{v:Value}{W:World}(h:kL P f args ds v)(hd:∀d∈ds,d.f (J.all W)):Calls P f args W λe a=>e= .returned v∧Below W.heap.size W a:=DA.below (dr:=False) h hd
section
variable {H:Type}{enc:TypeId×Value→H}{P:Program}{W:World}{α:Type}
theorem jz {a:Addr}{v:Value}(h:W.cell? a=some v):a.spot=none∧∃C e fr,W.heap[a.block]?=some (.cells C e fr)∧C[a.off]?=some v:=by
 refine⟨World.cell?_spot h,?_⟩;unfold World.cell? at h
 split at h
 ·rename_i C e fr b
  split at h
  ·cases h
  ·exact⟨C,e,fr,b,h⟩
 ·cases h
theorem EL {R:Rp α}:∀(xs:List α) (j:Nat) (u:Value),(rows R xs)[j]?=some u→∃i k x,xs[i]?=some x∧k<R.size∧j=i*R.size+k∧(R.cells x)[k]?=some u
 | [],j,u,h=>by simp[rows]at h
 |x::xs,j,u,h=>by
  simp only[rows,List.flatMap_cons]at h
  by_cases a:j<R.size
  ·rw[rL (by rw[R.len];exact a)]at h
   exact⟨0,j,x,rfl,a,by omega,h⟩
  ·rw[nO (by rw[R.len];omega),R.len]at h
   obtain⟨i,k,y,h1,b,d,c⟩:=EL xs (j-R.size) u h;exact⟨i+1,k,y,by simpa using h1,b,by rw[Nat.add_mul,Nat.one_mul];omega,c⟩
abbrev oD (l:List Nat):Bool:=l.all (· ≤reachBytes)
theorem Ef {e:TypeId}:∀{ds:List (DataW H)} {x:DataW H},oD (DataW.weightsAll P e ds)=true→x∈ds→oD (x.weights P e)=true
 | [],_,_,h=>by cases h
 |d::ds,x,h,hx=>by
  simp only[oD,DataW.weightsAll,List.all_append,Bool.and_eq_true]at h
  rcases cN.1 hx with rfl|hx
  ·exact h.1
  ·exact Ef h.2 hx
theorem rG:∀{a:List TypeId} {ds:List (DataW H)} {j:Nat} {t:TypeId} {d:DataW H},oD (DataW.weightsEach P a ds)=true→a[j]?=some t→ds[j]?=some d→oD (d.weights P t)=true
 | [],_,_,_,_,_,h,_=>by simp at h
 |_::_,[],_,_,_,_,_,h=>by simp at h
 |t::a,d::ds,0,_,_,h,h1,b=>by
  simp only[List.getElem?_cons_zero,Option.some.injEq]at h1 b
  subst h1 b
  simp only[oD,DataW.weightsEach,List.all_append,Bool.and_eq_true]at h
  exact h.1
 |t::a,d::ds,j+1,_,_,h,h1,b=>by
  simp only[oD,DataW.weightsEach,List.all_append,Bool.and_eq_true]at h
  exact rG (j:=j) h.2 (by simpa using h1) (by simpa using b)
theorem Cw {t e:TypeId}{es sp:List (DataW H)}(ht:P.underlying t=some (.slice e))(h:oD ((DataW.slice es sp).weights P t)=true){x:DataW H}(hx:x∈es∨x∈sp):oD (x.weights P e)=true:=by
 simp only[oD,DataW.weights,ht,List.all_cons,List.all_append,Bool.and_eq_true]at h
 rcases hx with hx|hx
 ·exact Ef h.2.1 hx
 ·exact Ef h.2.2 hx
theorem Qo (R:Rp α){t e:TypeId}{M:List Value}{d:DataW H}{p:List MemPlace}{fuel:Nat}(ht:P.underlying t=some (.slice e))(U:P.cellsOf e=R.size)
 (V:∀(n:Nat) (cs:List Value) (y:DataW H×List MemPlace),cs.length=R.size→DataW.trod enc P W 0 (λ_=>true) true n e cs=some y→oD (y.1.weights P e)=true→∃x:α,cs=R.cells x∧R.wf x)
 (N:oD (d.weights P t)=true) (Y:DataW.trod enc P W 0 (λ_=>true) true fuel t M=some (d,p)):∃(v:Value) (xs:List α),M=[v]∧v.oneCell'=true∧(sl R v xs).f (J.all W)∧((d= .nil∧xs=[])∨∃es sp,d= .slice es sp∧es.length=xs.length):=by
 rcases open_slice ht Y with⟨z,g⟩|⟨a,len,cap,m,n,D,Pl,z,_,Z,hm,O,g,hx⟩
 ·exact⟨.slice none 0 0,[],z,rfl,lp _ _,.inl ⟨by simpa using (Prod.mk.inj g).1,rfl⟩⟩
 ·refine⟨.slice (some a) len cap,?_⟩
  rw[z]
  suffices A:∃xs:List α,(sl R (.slice (some a) len cap) xs).f (J.all W)∧((d= .nil∧xs=[])∨∃es sp,d= .slice es sp∧es.length=xs.length) by
   obtain⟨xs,h1,o⟩:=A;exact⟨xs,rfl,rfl,h1,o⟩
  simp only[if_true]at O
  subst O
  rcases Nat.eq_zero_or_pos len with rfl|aeU
  ·exact⟨[],⟨_,m,rfl,aQ _,hm,(λx hx=>by cases hx),.inl rfl⟩,.inr ⟨_,_,(Prod.mk.inj g).1,by simp⟩⟩
  have each:∀i,i<m→∃x:α,R.wf x∧∀k u,k<R.size→(R.cells x)[k]?=some u→W.cell? ((a.add (i*R.size)).add k)=some u:=λi hi=>by
   obtain⟨cs,h1,o⟩:=hx i hi;rw[U]at h1;obtain⟨_,B,h5⟩:=World.cells?_some h1
   obtain⟨x,rfl,hw⟩:=V n cs _ B o (Cw ht (by rw[(Prod.mk.inj g).1]at N;exact N) (by
    rcases dI i len with q|q
    ·exact .inl (by simp only[List.mem_map,List.mem_range];exact⟨i,q,rfl⟩)
    ·exact .inr (by simp;exact⟨i-len,by omega,by congr 1;omega⟩)))
   exact⟨x,hw,λk u hk hu=>by rw[h5 k hk,hu]⟩
  obtain⟨x0,WQ⟩:=each 0 zE
  haveI:Inhabited α:=⟨x0⟩
  obtain⟨X,E⟩:=choose_lt (α:=α) each
  have F:((List.range len).map X).length=len:=by simp
  obtain⟨b,off,spot⟩:=a
  have G:∃u,(R.cells (X 0))[0]?=some u:=by
   have:=R.len (X 0)
   have:=R.pos
   exact⟨_,bT zE⟩
  obtain⟨u0,G⟩:=G
  have Q:=(E 0 zE).2 0 u0 R.pos G
  rw[rJ,Deep.add_add]at Q;obtain⟨A,C,S,fr,s,_⟩:=jz Q
  have afM:spot=none:=by simpa[Addr.add]using A
  subst afM
  have s:W.heap[b]?=some (.cells C S fr):=by simpa[Addr.add]using s
  refine⟨(List.range len).map X,⟨some ⟨b,off,none⟩,m,by rw[F],by rw[F];exact Z,hm,?_,.inr ⟨b,off,C,S,fr,rfl,s,?_⟩⟩,.inr ⟨_,_,(Prod.mk.inj g).1,by simp⟩⟩
  ·intro x I
   obtain⟨i,hi,rfl⟩:=cS.1 I;exact(E i (by have:=dM.1 hi;omega)).1
  ·intro j u hj
   obtain⟨i,k,x,h1,o,h3,B⟩:=EL _ _ _ hj
   have T:=GA h1
   rw[F]at T
   have UI:x=X i:=by simpa[T]using h1.symm
   subst UI
   have:=(E i zE).2 k u o B
   rw[Deep.add_add,←h3]at this;obtain⟨_,C',K,L,c,w⟩:=jz this
   have c:W.heap[b]?=some (.cells C' K L):=by
    by_cases r:j=0
    ·subst r;simpa[Addr.add]using c
    ·simpa[Addr.add,r]using c
   have w:C'[off+j]?=some u:=by
    by_cases r:j=0
    ·subst r;simpa[Addr.add]using w
    ·simpa[Addr.add,r]using w
   rw[s]at c
   simp only[Option.some.injEq,Obj.cells.injEq]at c
   rw[c.1];exact w
where GA {β:Type} {l:List β} {i:Nat} {x:β} (h:l[i]?=some x):i<l.length:=(fj.1 h).1
theorem V5 (R:Rp α){t e:TypeId}{v:Value}{d:DataW H}{p:List MemPlace}{c:Nat}(ht:P.underlying t=some (.slice e))(g:P.cellsOf e=R.size)
 (i:∀(n:Nat) (cs:List Value) (y:DataW H×List MemPlace),cs.length=R.size→DataW.trod enc P W 0 (λ_=>true) true n e cs=some y→oD (y.1.weights P e)=true→∃x:α,cs=R.cells x∧R.wf x)
 (j:Value.okWide P W .any c t v) (k:oD (d.weights P t)=true) (h:DataW.Trod enc P W 0 (λ_=>true) true t v d p):∃xs:List α,(sl R v xs).f (J.all W)∧((d= .nil∧xs=[])∨∃es sp,d= .slice es sp∧es.length=xs.length):=by
 obtain⟨a0,a,b,rfl⟩:=okWide_slice ht j;obtain⟨fuel,l⟩:=h;obtain⟨v,xs,h1,_,m,o⟩:=Qo R ht g i k l
 obtain rfl:Value.slice a0 a b=v:=by simpa[Value.cells]using h1
 exact⟨xs,m,o⟩
theorem Qp {a:List TypeId}{ds:List (DataW H)}(h:(DataW.weightsEach P a ds).all (· ≤reachBytes)=true)(j:Nat){t e:TypeId}{d:DataW H}{xs:List α}(ht:a[j]?=some t)(hd:ds[j]?=some d)(hu:P.underlying t=some (.slice e))
 (b:(d= .nil∧xs=[])∨∃es sp,d= .slice es sp∧es.length=xs.length) (n:Nat) (c:P.bytesOf e=n):xs.length*n≤140737488351232:=by
 subst c
 rcases b with⟨_,rfl⟩|⟨es,sp,rfl,f⟩
 ·simp
 ·have h1:=sized_slice h ht hd hu
  rw[←f]
  have g:es.length*P.bytesOf e≤(es.length+sp.length)*P.bytesOf e:=fC _ zE
  unfold reachBytes at h1;omega
theorem wf_i64 {n:Int}(h:(Lit.int .i64 n).wf=true):aZ n:=by
 have a:IntKind.i64.min= -9223372036854775808:=rfl
 have e2:IntKind.i64.max=9223372036854775807:=rfl
 simpa[Lit.wf,a,e2,aZ]using h
theorem Ws (s:ByteArray):Value.string s=sv s.data.toList:=by
 cases s;rfl
theorem Y6 {e:TypeId}(he:P.underlying e=some .string)(n:Nat)(cs:List Value)(y:DataW H×List MemPlace)(_:cs.length=1)(h:DataW.trod enc P W 0 (λ_=>true) true n e cs=some y)(a:oD (y.1.weights P e)=true):∃x:cM,cs=fK.cells x∧fK.wf x:=by
 obtain⟨s,rfl,hy,hw⟩:=DataW.trod_string he h;refine⟨s.data.toList,by rw[Ws];rfl,?_⟩;subst hy
 have b:s.data.toList.length≤140737488351232:=by
  simp only[oD,DataW.weights,reachBytes,List.all_cons,List.all_nil,Bool.and_true]at a
  exact im a
 exact b
end
end Go.J
namespace Go.J
open Go
def Es (P:Program)(n:Nat)(F:Fr)(op:Op)(ty:TypeId)(v:Value):Prop:=∀a w,Has n a F→(execOp a.eval (bare op ty)).run P w= .ok (.value v) w
def NP (Q:Exit→Act→World→Prop):Prop:=∀c a w,¬Q (.panic c) a w
theorem NP.then {K:Act→World→Prop}{Q:Exit→Act→World→Prop}(h:NP Q):NP (Exit.then K Q):=λc a w k=>h c a w k
theorem NP.inBlock {id:Nat}{Q:Exit→Act→World→Prop}(h:NP Q):NP (Exit.inBlock id Q):=λc a w k=>h c a w k
section
variable {P:Program}{ops:Array Oper}{Q:Exit→Act→World→Prop}
theorem wpOp_put {j:Nat}{g i:Oper}{v:Value}(t:ops[j]?=some i)(n:g.apart ops i=true)
 (o:∀cs b,g.op≠ .select cs b) (m:∀cs b,i.op≠ .select cs b) (q:NP Q) {K:Act→World→Prop} {a:Act} {w:World}
 (hy:∀w,(execOp a.eval g).run P w= .ok (.value v) w) (h:wpOp P ops Q j K (a.put g.dst v) w):
 wpOp P ops Q j (λs w'=>(∀w,(execOp s.eval g).run P w= .ok (.value v) w)∧K (s.put g.dst v) w') a w:=by
 obtain⟨h1,k,y⟩:=Oper.apart_spec n
 have l:∀u,∀w,(execOp (a.put i.dst u).eval g).run P w= .ok (.value v) w:=λu w=>by
  rw[execOp_put (ops:=ops) g o a i.dst u y];exact hy w
 have put_defers:∀(d:Deferred) (u:Value),({a with defers:=d::a.defers}:Act).put i.dst u={(a.put i.dst u)with defers:=d::a.defers}:=λd u=>by
  cases i.dst<;>rfl
 unfold wpOp at*
 simp only[t]at*
 rw[wanted_put i a g.dst v h1]at h
 split
 ·rename_i hw
  simp only[hw,if_true]at h
  rcases h with h|⟨h,z⟩
  ·left
   unfold Oper.wp at*;rw[execOp_put i m a g.dst v h1]at h
   generalize (execOp a.eval i).run P w=r at*
   cases r with
   |ok A w'=>
    cases A<;>simp only[Oper.upon]at h⊢
    case value u=>exact⟨l u,by rw[←Act.put_comm a v u k];exact h⟩
    case skip=>exact⟨l _,by rw[←Act.put_comm a v undef k];exact h⟩
    case defer d=>
     refine⟨λw=> ?_,?_⟩
     ·rw[put_defers];exact l undef w
     ·have e:({(a.put g.dst v)with defers:=d::(a.put g.dst v).defers}:Act).put i.dst undef=(({a with defers:=d::a.defers}:Act).put i.dst undef).put g.dst v:=by
       have:=Act.put_comm ({a with defers:=d::a.defers}:Act) v undef k
       rw[←this]
       cases g.dst<;>rfl
      rw[←e];exact h
    case enter f args=>
     refine Calls.mono h λe p he=> ?_
     cases e with
     |returned u=>exact⟨l u,by rw[←Act.put_comm a v u k];exact he⟩
     |panicked c=>exact(q _ _ _ he).elim
     |outgrown=>exact he
    case row B args=>exact Rows.mono h λu p he=>⟨l u,by rw[←Act.put_comm a v u k];exact he⟩
    all_goals exact h
   |halt x w'=>
    cases x<;>simp only[Oper.upon]at h⊢
    all_goals first|exact(q _ _ _ h).elim|exact h
  ·right
   refine⟨?_,z⟩;unfold Oper.asks at*;rw[execOp_put i m a g.dst v h1]at h;exact h
 ·rename_i hw
  simp only[hw]at h
  exact⟨l _,by rw[←Act.put_comm a v undef k];exact h⟩
theorem wpOp_mono {j:Nat}{K d:Act→World→Prop}{a:Act}{w:World}(h:∀a w,K a w→d a w)(b:wpOp P ops Q j K a w):wpOp P ops Q j d a w:=by
 unfold wpOp at*
 split
 ·rename_i c;simp only[c]at b;exact h _ _ b
 ·rename_i o c
  simp only[c]at b
  split
  ·rename_i hw;simp only[hw,if_true]at b;exact b.imp (Oper.wp_mono h) id
  ·rename_i hw;simp only[hw]at b;exact h _ _ b
theorem wpAny_first {md:Region.Mode}{i:Nat}{c:Oper}{v:Value}(hi:ops[i]?=some c)(A:c.guard=none)(B:NP Q)(s:∀(j:Nat) (o:Oper) cs b,ops[j]?=some o→o.op≠ .select cs b):
 ∀(fuel:Nat) (listed:Array Bool) (a:Act) (w:World),
  (∀j f,ops[j]?=some f→j≠i→listed.getD j true=false→(∀e∈f.after,Region.binds md e=true→e.on≠i)→c.apart ops f=true)→
  i∈Region.ready md ops listed→(∀w,(execOp a.eval c).run P w= .ok (.value v) w)→
  wpAny P md ops Q fuel (listed.setIfInBounds i true) (a.put c.dst v) w→wpAny P md ops Q (fuel+1) listed a w:=by
 have self:∀{K:Act→World→Prop} {a:Act} {w:World},(∀w,(execOp a.eval c).run P w= .ok (.value v) w)→K (a.put c.dst v) w→wpOp P ops Q i K a w:=by
  intro K a w hy C;unfold wpOp
  simp only[hi,Region.wanted,A,if_true]
  left
  unfold Oper.wp;rw[hy w];exact C
 intro fuel
 induction fuel with
 |zero=>
  intro listed a w _ g hy H;refine⟨λh=>(by rw[h]at g;cases g),λj n=> ?_⟩
  by_cases d:j=i
  ·subst d;exact self hy H
  ·have:=ready_mono n d
   rw[H.1]at this
   cases this
 |succ fuel D=>
  intro listed a w t g hy H;refine⟨λh=>(by rw[h]at g;cases g),λj n=> ?_⟩
  by_cases d:j=i
  ·subst d;exact self hy H
  ·have h1:=H.2 j (ready_mono n d)
   obtain⟨u,f,l,E⟩:=mem_ready.1 n
   have p:∀e∈f.after,Region.binds md e=true→e.on≠i:=λe he F heq=>by
    have h1:=E e he F
    have x:=(mem_ready.1 g).1
    rw[heq]at h1
    rcases dI i listed.size with q|q
    ·simp[q]at x h1;rw[x]at h1;cases h1
    ·simp[Array.getElem?_eq_none q]at h1
   have G:=wpOp_put l (t j f l d u p) (λcs b=>s i c cs b hi) (λcs b=>s j f cs b l) B hy h1
   have I:∀k ok,ops[k]?=some ok→k≠i→(listed.setIfInBounds j true).getD k true=false→
    (∀e∈ok.after,Region.binds md e=true→e.on≠i)→c.apart ops ok=true:=λk ok hk r y J=>by
    refine t k ok hk r ?_ J
    by_cases m:j=k
    ·subst m;exact u
    ·rw[getD_set_ne true m]at y;exact y
   refine wpOp_mono (λL w' z=>D (listed.setIfInBounds j true) L w' I (ready_mono g (Ne.symm d)) z.1 ?_) G;rw[Array.setIfInBounds_comm _ _ d];exact z.2
theorem St.defer {n:Nat}{F:Fr}{A:World→Prop}{f d:Nat}{listed:Array Bool}{op:Op}{ty:TypeId}{pos:String}{after:Array Edge}{v:Value}(i:Nat)
 (e:NP Q) (g:Region.noSelect ops=true) (hi:ops[i]?=some {dst:=some d,op:=op,type:=ty,pos:=pos,after:=after,guard:=none}) (j:Es P n F op ty v)
 (b:((Region.ready .any ops listed).contains i&&Region.free .any ops listed i)=true) (hd:Nat.ble (d+1) n=true)
 (h:St n ((d,v)::F) A (wpAny P .any ops Q f (listed.setIfInBounds i true))):St n F A (wpAny P .any ops Q (f+1) listed):=by
 intro a w c hw
 simp only[Bool.and_eq_true]at b
 refine wpAny_first hi rfl e (Region.noSelect_spec g) f listed a w (Region.free_spec hi b.2) (by simpa using b.1) (λw'=> ?_) (h _ w (c.put (dS hd) v) hw);rw[jA];exact j a w' c
end
section
variable {P:Program}{n:Nat}{F:Fr}{c:Ctx}{H:List ay}{ty:TypeId}{x y:Operand}{v:Value}{t e:TypeId}
theorem NP.body {fn:Func}{R:Value→List ay→World→Prop}:NP (bodyPost P fn λe w'=>∃v H',e= .returned v∧R v H' w'):=λc a w h=>by
 obtain⟨_,_,_,h1,_⟩:=h
 cases h1
theorem Es.move (hx:aa F x v):Es P n F (.move x) ty v:=λa w b=>by simp[execOp,hx.eval b]
theorem Es.assign (hx:aa F x v):Es P n F (.assign x) ty v:=λa w b=>by simp[execOp,hx.eval b]
theorem Es.extract {vs:List Value}{i:Nat}(hx:aa F x (.tuple vs.toArray))(hi:vs[i]?=some v):Es P n F (.extract x i) ty v:=λa w b=>by
 simp[execOp,hx.eval b,Instr.extract,hi]
theorem Es.idx {b o m cap size k:Nat}{i:Int}{kd:IntKind}(d:v= .slice (some ⟨b,o,none⟩) m cap)(hx:aa F x v)(hy:aa F y (.int kd i))(ht:P.underlying t=some (.slice e))(f:(P.info? e).map (·.size)=some size)
 (hi:i=k) (hk:k<m):Es P n F (.indexAddr t x y) ty (eL v size k 0):=λa w c=>by
 subst d;obtain⟨inf,g,h⟩:=eE.1 f;subst hi
 simp[execOp,hx.eval c,hy.eval c,Instr.indexAt,asIntOf,run_underlying ht,sizeOf,typeInfo,g,h,hk,eJ,Addr.add_lit]
theorem St.lO {T:Act→World→Prop}{size m:Nat}{cs:List Value}(v:Value)[d:xU v H e size m cs](hm:0<m)(h:∀b cap,v= tO b m cap→St n F (Mm c H) T):St n F (Mm c H) T:=by
 intro a w f hw;obtain⟨ρ,i⟩:=hw.out
 rcases(i.row d).2 with⟨rfl,rfl⟩|⟨g,cap,cur,h1,_⟩
 ·omega
 ·exact h g cap h1 a w f hw
theorem St.Kn {α:Type}{Rr:Rp α}{xs:List α}{T:Act→World→Prop}(v:Value)[hd:vK v H α Rr xs](hm:0<xs.length)(h:∀b o cap,v= .slice (some ⟨b,o,none⟩) xs.length cap→St n F (Mm c H) T):St n F (Mm c H) T:=by
 intro a w f hw;obtain⟨ρ,g⟩:=hw.out;obtain⟨ad,cap,h1,_,_,_,d⟩:=g.sl hd
 rcases d with d|⟨b,off,C,e,fr,i,_⟩
 ·subst d;simp at hm
 ·subst i;exact h b off cap h1 a w f hw
end
theorem St.slot {n:Nat}{F:Fr}{A:World→Prop}{T:Act→World→Prop}{v:Value}(k:Nat)(v':Value)(hk:look F k=some v)(h:v=v')(d:St n ((k,v')::F) A T):St n F A T:=by
 subst h
 refine λa w b hw=>d a w ⟨b.size,b.defers,λt u hu=> ?_⟩ hw
 simp only[look]at hu
 cases c:Nat.beq t k with
 |true=>
  have e:=nL c
  subst e
  simp only[c,cond_true,Option.some.injEq]at hu
  subst hu;exact b.slot _ _ hk
 |false=>
  simp only[c,cond_false]at hu
  exact b.slot _ _ hu
section
variable {ι:Type}{P:Program}{C:ι→World→Prop}{ops:Array Oper}{Q:Exit→Act→World→Prop}
def WR (P:Program)(C:ι→World→Prop)(ops:Array Oper)(Q:Exit→Act→World→Prop):Nat→Array Bool→Act→ι→Prop
 |0,listed,a,r=>Region.ready .any ops listed=[]∧∀w,C r w→Q .normal a w
 |fuel+1,listed,a,r=>(Region.ready .any ops listed=[]→∀w,C r w→Q .normal a w)∧
  ∀i∈Region.ready .any ops listed,∀w,C r w→wpOp P ops Q i (λb w'=>∃r',C r' w'∧WR P C ops Q fuel (listed.setIfInBounds i true) b r') a w
theorem WR.any:∀(fuel:Nat) (listed:Array Bool) (a:Act) (r:ι) (w:World),C r w→WR P C ops Q fuel listed a r→wpAny P .any ops Q fuel listed a w
 |0,_,_,_,_,hw,h=>⟨h.1,h.2 _ hw⟩
 |fuel+1,_,_,_,_,hw,h=>⟨λb=>h.1 b _ hw,λi hi=>wpOp_mono (λc w' ⟨r',d,hk⟩=>WR.any fuel _ c r' w' d hk) (h.2 i hi _ hw)⟩
def YS (P:Program)(C:ι→World→Prop)(ops:Array Oper)(o:Oper)(v:Value)(a:Act):Prop:=
 (Region.wanted o (yielded ops a.tmps)=true∧∀r w,C r w→o.quietAt P a (C r) w v)∨(Region.wanted o (yielded ops a.tmps)=false∧v=undef)
theorem YS.of_same {o:Oper}{v:Value}{a b:Act}(hy:YS P C ops o v a)(he:execOp b.eval o=execOp a.eval o)
 (hw:Region.wanted o (yielded ops b.tmps)=Region.wanted o (yielded ops a.tmps)):YS P C ops o v b:=by
 unfold YS Oper.quietAt at*;rw[he,hw];exact hy
theorem YS.self {i:Nat}{o:Oper}{v:Value}{a:Act}(hi:ops[i]?=some o)(hy:YS P C ops o v a){K:Act→World→Prop}{r:ι}{w:World}(hw:C r w)(h:∀w',C r w'→K (a.put o.dst v) w'):wpOp P ops Q i K a w:=by
 have h1:YieldsIn P ops (C r) o v a:=hy.imp (λ⟨h1,c⟩=>⟨h1,c r⟩) id
 exact wpOp_of_qOp hw (K:=λb=>b=a.put o.dst v) (λb w' d e=>by rw[e];exact h w' d) (h1.qOp hi rfl)
theorem N6 {j:Nat}{g i:Oper}{v:Value}(y:ops[j]?=some i)(n:g.apart ops i=true)
 (o:∀cs b,g.op≠ .select cs b) (m:∀cs b,i.op≠ .select cs b) (q:NP Q) {K:Act→World→Prop} {a:Act} {w:World}
 (hy:YS P C ops g v a) (h:wpOp P ops Q j K (a.put g.dst v) w):
 wpOp P ops Q j (λs w'=>YS P C ops g v s∧K (s.put g.dst v) w') a w:=by
 obtain⟨h1,k,t⟩:=Oper.apart_spec n
 have l:∀u,YS P C ops g v (a.put i.dst u):=λu=>hy.of_same (execOp_put (ops:=ops) g o a i.dst u t) (wanted_put g a i.dst u t)
 have put_defers:∀(d:Deferred) (u:Value),({a with defers:=d::a.defers}:Act).put i.dst u={(a.put i.dst u)with defers:=d::a.defers}:=λd u=>by
  cases i.dst<;>rfl
 unfold wpOp at*
 simp only[y]at*
 rw[wanted_put i a g.dst v h1]at h
 split
 ·rename_i hw
  simp only[hw,if_true]at h
  rcases h with h|⟨h,z⟩
  ·left
   unfold Oper.wp at*;rw[execOp_put i m a g.dst v h1]at h
   generalize (execOp a.eval i).run P w=r at*
   cases r with
   |ok A w'=>
    cases A<;>simp only[Oper.upon]at h⊢
    case value u=>exact⟨l u,by rw[←Act.put_comm a v u k];exact h⟩
    case skip=>exact⟨l _,by rw[←Act.put_comm a v undef k];exact h⟩
    case defer d=>
     refine⟨?_,?_⟩
     ·rw[put_defers];exact(l undef).of_same rfl rfl
     ·have e:({(a.put g.dst v)with defers:=d::(a.put g.dst v).defers}:Act).put i.dst undef=(({a with defers:=d::a.defers}:Act).put i.dst undef).put g.dst v:=by
       have:=Act.put_comm ({a with defers:=d::a.defers}:Act) v undef k
       rw[←this]
       cases g.dst<;>rfl
      rw[←e];exact h
    case enter f args=>
     refine Calls.mono h λe p he=> ?_
     cases e with
     |returned u=>exact⟨l u,by rw[←Act.put_comm a v u k];exact he⟩
     |panicked c=>exact(q _ _ _ he).elim
     |outgrown=>exact he
    case row B args=>exact Rows.mono h λu p he=>⟨l u,by rw[←Act.put_comm a v u k];exact he⟩
    all_goals exact h
   |halt x w'=>
    cases x<;>simp only[Oper.upon]at h⊢
    all_goals first|exact(q _ _ _ h).elim|exact h
  ·right
   refine⟨?_,z⟩;unfold Oper.asks at*;rw[execOp_put i m a g.dst v h1]at h;exact h
 ·rename_i hw
  simp only[hw]at h
  exact⟨l _,by rw[←Act.put_comm a v undef k];exact h⟩
theorem WR.first {i:Nat}{l:Oper}{v:Value}(hi:ops[i]?=some l)(D:NP Q)(x:∀(j:Nat) (o:Oper) cs b,ops[j]?=some o→o.op≠ .select cs b):
 ∀(fuel:Nat) (listed:Array Bool) (a:Act) (r:ι),
  (∀j d,ops[j]?=some d→j≠i→listed.getD j true=false→(∀e∈d.after,Region.binds .any e=true→e.on≠i)→l.apart ops d=true)→
  i∈Region.ready .any ops listed→YS P C ops l v a→
  WR P C ops Q fuel (listed.setIfInBounds i true) (a.put l.dst v) r→WR P C ops Q (fuel+1) listed a r:=by
 intro fuel
 induction fuel with
 |zero=>
  intro listed a r _ f hy H;refine⟨λh=>(by rw[h]at f;cases f),λj n w hw=> ?_⟩
  by_cases c:j=i
  ·subst c;exact hy.self hi hw λw' p=>⟨r,p,H⟩
  ·have:=ready_mono n c
   rw[H.1]at this
   cases this
 |succ fuel E=>
  intro listed a r y f hy H;refine⟨λh=>(by rw[h]at f;cases f),λj n w hw=> ?_⟩
  by_cases c:j=i
  ·subst c;exact hy.self hi hw λw' p=>⟨r,p,H⟩
  ·have h1:=H.2 j (ready_mono n c) w hw
   obtain⟨z,d,g,F⟩:=mem_ready.1 n
   have q:∀e∈d.after,Region.binds .any e=true→e.on≠i:=λe he G heq=>by
    have h1:=F e he G
    have A:=(mem_ready.1 f).1
    rw[heq]at h1
    rcases dI i listed.size with s|s
    ·simp[s]at A h1;rw[A]at h1;cases h1
    ·simp[Array.getElem?_eq_none s]at h1
   have I:=N6 g (y j d g c z q) (λcs b=>x i l cs b hi) (λcs b=>x j d cs b g) D hy h1
   have J:∀k ok,ops[k]?=some ok→k≠i→(listed.setIfInBounds j true).getD k true=false→
    (∀e∈ok.after,Region.binds .any e=true→e.on≠i)→l.apart ops ok=true:=λk ok hk t B K=>by
    refine y k ok hk t ?_ K
    by_cases m:j=k
    ·subst m;exact z
    ·rw[getD_set_ne true m]at B;exact B
   refine wpOp_mono (λL w' u=> ?_) I;obtain⟨u,r',M,N⟩:=u;refine⟨r',M,E (listed.setIfInBounds j true) L r' J (ready_mono f (Ne.symm c)) u ?_⟩;rw[Array.setIfInBounds_comm _ _ c];exact N
end
class ye (bs:List Nat)(H:List ay)(r R:outParam (List ay)):Prop where
 perm:H.Perm (R++r)
instance ye.nil (H:List ay):ye [] H [] H:=⟨by simp⟩
instance ye.cons (b:Nat)(bs:List Nat)(H H1 r R:List ay)(o:Obj)[h:mA b H o H1][k:ye bs H1 r R]:ye (b::bs) H (aW b o::r) R:=
 ⟨(h.perm.trans (k.perm.cons _)).trans qH.symm⟩
section app
instance (priority:=low) mT.app (d:e8)(L R:List ay)[h:mT d L]:mT d (L++R):=⟨ke _ h.mem⟩
instance (priority:=low) Bf.app (b:Nat)(o:Obj)(L R:List ay)[h:Bf b L o]:Bf b (L++R) o:=⟨ke _ h.mem⟩
instance (priority:=low) vK.app {α:Type}(v:Value)(Rr:Rp α)(xs:List α)(L R:List ay)[h:vK v L α Rr xs]:vK v (L++R) α Rr xs:=⟨ke _ h.mem⟩
instance (priority:=low) sN.app (b:Nat)(v:Value)(L R:List ay)[h:sN b L v]:sN b (L++R) v:=⟨ke _ h.mem⟩
instance (priority:=low) xU.app (v:Value)(e:TypeId)(size n:Nat)(cs:List Value)(L R:List ay)[h:xU v L e size n cs]:xU v (L++R) e size n cs:=⟨ke _ h.mem⟩
end app
def SW (P:Program)(ops:Array Oper)(Q:Exit→Act→World→Prop)(n:Nat)(F:Fr)(c:Ctx)(Fp r:List ay)(f:Nat)(listed:Array Bool):Prop:=
 ∀a,Has n a F→WR P (λR=>Mm c (Fp++R)) ops Q f listed a r
def KW (P:Program)(ops:Array Oper)(Q:Exit→Act→World→Prop)(n:Nat)(c:Ctx)(Fp:List ay)(f:Nat)(listed:Array Bool)(a:Act)(w:World):Prop:=
 ∃F r,Has n a F∧Mm c (Fp++r) w∧SW P ops Q n F c Fp r f listed
section
variable {P:Program}{ops:Array Oper}{Q:Exit→Act→World→Prop}{n:Nat}{F:Fr}{c:Ctx}{H Fp r r' C':List ay}{f:Nat}{listed:Array Bool}
theorem St.par {id:Nat}{l:List Oper}(bs:List Nat)[b:ye bs H r Fp](hm:P.follows .mixedOrders=true)
 (h:SW P l.toArray Q n F c Fp r l.length (Array.replicate l.length false)):St n F (Mm c H) ((Code.region id l.toArray true).wp P Q):=by
 intro a w d hw;refine wp_region_any hm ?_
 have h1:=h a d
 have e:Mm c (Fp++r) {w with drawn:=w.drawn+1}:=by
  obtain⟨ρ,k⟩:=((Mm.drawn c H) w hw).out;exact Mm.mk (k.perm b.perm)
 simpa using WR.any (C:=λR=>Mm c (Fp++R)) l.length _ a r _ e h1
theorem SW.done (b:Region.ready .any ops listed=[])[ap:App Fp r C'](h:St n F (Mm c C') (Q .normal)):SW P ops Q n F c Fp r f listed:=by
 intro a d
 have h1:∀w,Mm c (Fp++r) w→Q .normal a w:=λw hw=>h a w d (by rw[←ap.eq];exact hw)
 cases f with
 |zero=>exact⟨b,h1⟩
 |succ f=>exact⟨λ_=>h1,λi hi=>by rw[b]at hi;cases hi⟩
theorem SW.perm {b:Fr}(d:Sub F b)(hp:∀w,Mm c (Fp++r') w→Mm c (Fp++r) w)(h:SW P ops Q n F c Fp r (f+1) listed):SW P ops Q n b c Fp r' (f+1) listed:=by
 intro a e
 have h1:=h a (e.sub d)
 exact⟨λg w hw=>h1.1 g w (hp w hw),λi hi w hw=>h1.2 i hi w (hp w hw)⟩
theorem SW.go [b:fE Fp H r'](h:SW P ops Q n F c Fp r' f listed):St n F (Mm c H) (KW P ops Q n c Fp f listed):=
 λ_ _ a hw=>⟨F,r',a,hw.take,h⟩
theorem SW.each [ap:App Fp r C'](b:Region.ready .any ops listed≠ [])(h:∀i∈Region.ready .any ops listed,St n F (Mm c C') (wpOp P ops Q i (KW P ops Q n c Fp f (listed.setIfInBounds i true)))):SW P ops Q n F c Fp r (f+1) listed:=by
 intro a d;refine⟨λe=>absurd e b,λi hi w hw=> ?_⟩;refine wpOp_mono ?_ (h i hi a w d (by rw[←ap.eq];exact hw));rintro g w' ⟨l,r',h1,j,k⟩;exact⟨r',j,k g h1⟩
theorem SW.RZ {i:Nat}{o:Oper}[ap:App Fp r C'](a:Region.ready .any ops listed=[i])(b:ops[i]?=some o)
 (h:St n F (Mm c C') (wpList P ops (Exit.then (KW P ops Q n c Fp f (listed.setIfInBounds i true)) Q) [o])):SW P ops Q n F c Fp r (f+1) listed:=
 SW.each (by rw[a];simp) (by rw[a];intro k hk;rw[ba.1 hk];exact St.one b h)
theorem SW.Ww {i j:Nat}{o o':Oper}[ap:App Fp r C'](b:Region.ready .any ops listed=[i,j])(d:ops[i]?=some o)(a:ops[j]?=some o')
 (h:St n F (Mm c C') (wpList P ops (Exit.then (KW P ops Q n c Fp f (listed.setIfInBounds i true)) Q) [o]))
 (e:St n F (Mm c C') (wpList P ops (Exit.then (KW P ops Q n c Fp f (listed.setIfInBounds j true)) Q) [o'])):SW P ops Q n F c Fp r (f+1) listed:=
 SW.each (by rw[b];simp) (by
  rw[b];intro k hk
  simp only[List.mem_cons,List.not_mem_nil,or_false]at hk
  rcases hk with rfl|rfl
  ·exact St.one d h
  ·exact St.one a e)
theorem SW.Wx {i j k:Nat}{o o' a:Oper}[ap:App Fp r C'](g:Region.ready .any ops listed=[i,j,k])(l:ops[i]?=some o)(b:ops[j]?=some o')(d:ops[k]?=some a)
 (h:St n F (Mm c C') (wpList P ops (Exit.then (KW P ops Q n c Fp f (listed.setIfInBounds i true)) Q) [o]))
 (p:St n F (Mm c C') (wpList P ops (Exit.then (KW P ops Q n c Fp f (listed.setIfInBounds j true)) Q) [o']))
 (e:St n F (Mm c C') (wpList P ops (Exit.then (KW P ops Q n c Fp f (listed.setIfInBounds k true)) Q) [a])):SW P ops Q n F c Fp r (f+1) listed:=
 SW.each (by rw[g];simp) (by
  rw[g];intro m hm
  simp only[List.mem_cons,List.not_mem_nil,or_false]at hm
  rcases hm with rfl|rfl|rfl
  ·exact St.one l h
  ·exact St.one b p
  ·exact St.one d e)
section
variable {d:Nat}{op:Op}{ty:TypeId}{pos:String}{after:Array Edge}{v:Value}
theorem SW.defer (i:Nat)(g:NP Q)(j:Region.noSelect ops=true)(hi:ops[i]?=some {dst:=some d,op:=op,type:=ty,pos:=pos,after:=after,guard:=none})(k:∀R,Ev P n F (Mm c (Fp++R)) op ty v)
 (b:((Region.ready .any ops listed).contains i&&Region.free .any ops listed i)=true) (hd:Nat.ble (d+1) n=true)
 (h:SW P ops Q n ((d,v)::F) c Fp r f (listed.setIfInBounds i true)):SW P ops Q n F c Fp r (f+1) listed:=by
 intro a e
 simp only[Bool.and_eq_true]at b
 refine WR.first (v:=v) hi g (Region.noSelect_spec j) f listed a r (Region.free_spec hi b.2) (by simpa using b.1) ?_ (h _ (e.put (dS hd) v));exact .inl ⟨rfl,λR w hw=>(k R).quietAt e hw⟩
theorem SW.OM (i:Nat){j dj:Nat}{want:Bool}{u:Value}(cd:Bool)(m:NP Q)(p:Region.noSelect ops=true)(hi:ops[i]?=some {dst:=some d,op:=op,type:=ty,pos:=pos,after:=after,guard:=some (j,want)})
 (q:(ops[j]?).bind (·.dst)=some dj) (s:look F dj=some u) (hu:(cd=true→u= .bool want)∧(cd=false→u= .bool (!want)∨u=undef))
 (t:∀R,cd=true→Ev P n F (Mm c (Fp++R)) op ty v)
 (e:((Region.ready .any ops listed).contains i&&Region.free .any ops listed i)=true) (hd:Nat.ble (d+1) n=true)
 (h:SW P ops Q n ((d,gv cd v)::F) c Fp r f (listed.setIfInBounds i true)):SW P ops Q n F c Fp r (f+1) listed:=by
 intro a g
 simp only[Bool.and_eq_true]at e
 have b:=pJ (l:=ops) (o:={dst:=some d,op:=op,type:=ty,pos:=pos,after:=after,guard:=some (j,want)}) rfl q (g.slot _ _ s) hu
 refine WR.first (v:=gv cd v) hi m (Region.noSelect_spec p) f listed a r (Region.free_spec hi e.2) (by simpa using e.1) ?_ (h _ (g.put (dS hd) _))
 cases k:cd with
 |true=>
  rw[k]at b;rw[ga rfl];exact .inl ⟨b,λR w hw=>(t R k).quietAt g hw⟩
 |false=>
  rw[k]at b;rw[cQ rfl];exact .inr ⟨b,rfl⟩
end
section
variable {d:Nat}{op:Op}{ty:TypeId}{pos:String}{after:Array Edge}{dj:Nat}{j:Nat}(i:Nat)(v:Value)
theorem SW.gt {g:Bool}(a:NP Q)(b:Region.noSelect ops=true)(hi:ops[i]?=some {dst:=some d,op:=op,type:=ty,pos:=pos,after:=after,guard:=some (j,true)})(e:(ops[j]?).bind (·.dst)=some dj)(k:look F dj=some (.bool g))
 (l:∀R,g=true→Ev P n F (Mm c (Fp++R)) op ty v) (m:((Region.ready .any ops listed).contains i&&Region.free .any ops listed i)=true) (hd:Nat.ble (d+1) n=true)
 (h:SW P ops Q n ((d,J.gv g v)::F) c Fp r f (listed.setIfInBounds i true)):SW P ops Q n F c Fp r (f+1) listed:=SW.OM i g a b hi e k (YD g) l m hd h
theorem SW.gf {g:Bool}(a:NP Q)(b:Region.noSelect ops=true)(hi:ops[i]?=some {dst:=some d,op:=op,type:=ty,pos:=pos,after:=after,guard:=some (j,false)})(e:(ops[j]?).bind (·.dst)=some dj)(k:look F dj=some (.bool g))
 (l:∀R,(!g)=true→Ev P n F (Mm c (Fp++R)) op ty v) (m:((Region.ready .any ops listed).contains i&&Region.free .any ops listed i)=true) (hd:Nat.ble (d+1) n=true)
 (h:SW P ops Q n ((d,J.gv (!g) v)::F) c Fp r f (listed.setIfInBounds i true)):SW P ops Q n F c Fp r (f+1) listed:=SW.OM i (!g) a b hi e k (YC g) l m hd h
end
theorem SW.slot (k:Nat){v:Value}(v':Value)(hk:look F k=some v)(h:v=v')(g:SW P ops Q n ((k,v')::F) c Fp r f listed):SW P ops Q n F c Fp r f listed:=by
 subst h
 refine λa b=>g a ⟨b.size,b.defers,λt u hu=> ?_⟩
 simp only[look]at hu
 cases d:Nat.beq t k with
 |true=>
  have e:=nL d
  subst e
  simp only[d,cond_true,Option.some.injEq]at hu
  subst hu;exact b.slot _ _ hk
 |false=>
  simp only[d,cond_false]at hu
  exact b.slot _ _ hu
theorem Has.swap {a:Act}{b c:Nat}{v1 v2:Value}(f:Nat.beq b c=false)(h:Has n a ((b,v1)::(c,v2)::F)):Has n a ((c,v2)::(b,v1)::F):=by
 refine⟨h.size,h.defers,λt u hu=>h.slot t u ?_⟩
 simp only[look]at hu⊢
 cases d:Nat.beq t b with
 |true=>
  have e:=nL d
  subst e
  simp only[f,cond_false,d,cond_true]at hu⊢
  exact hu
 |false=>
  simp only[d,cond_false]at hu⊢
  exact hu
theorem SW.Xe (i j:Nat){t dj g l y z:Nat}{pi C:String}{D G:Array Edge}{u v:Array Value}(H:Region.ready .any ops listed=[i,j])
 (hi:ops[i]?=some {dst:=some t,op:= .alloc g,type:=y,pos:=pi,after:=D,guard:=none}) (x:ops[j]?=some {dst:=some dj,op:= .alloc l,type:=z,pos:=C,after:=G,guard:=none})
 (I:Region.ready .any ops (listed.setIfInBounds i true)=[j]) (J:Region.ready .any ops (listed.setIfInBounds j true)=[i])
 (m:(P.info? g).bind (λi=>i.zero.map Value.cells)=some u) (p:(P.info? l).bind (λi=>i.zero.map Value.cells)=some v) (q:Nat.ble (t+1) n=true) (s:Nat.ble (dj+1) n=true) (A:Nat.beq t dj=false)
 (h:∀b d,SW P ops Q n ((dj,tW d)::(t,tW b)::F) c Fp (aW d (.cells v l (0,0))::aW b (.cells u g (0,0))::r) f ((listed.setIfInBounds i true).setIfInBounds j true)):
 SW P ops Q n F c Fp r (f+2) listed:=by
 have K:i≠j:=by
  rintro rfl;rw[hi]at x
  have B:=congrArg (λo:Option Oper=>o.bind (·.dst)) x
  simp only[Option.bind_some,Option.some.injEq]at B
  rw[B]at A
  simp at A
 have hp:∀{w:World} {E:ay} {r:List ay},Mm c (E::(Fp++r)) w→Mm c (Fp++E::r) w:=λhw=>by
  obtain⟨ρ,k⟩:=hw.out;exact Mm.mk (k.perm qH.symm)
 haveI app:∀r,App Fp r (Fp++r):=λr=>⟨rfl⟩
 refine SW.Ww H hi x ?_ ?_
 ·refine St.alloc m q (λb=>St.nil (St.kC λa w e hw=>⟨_,aW b (.cells u g (0,0))::r,e,hp hw,?_⟩))
  refine SW.RZ I x (St.alloc p s (λd=>St.nil (St.kC λa w e hw=>⟨_,_,e,hp hw,h b d⟩)))
 ·refine St.alloc p s (λd=>St.nil (St.kC λa w e hw=>⟨_,aW d (.cells v l (0,0))::r,e,hp hw,?_⟩))
  refine SW.RZ J hi (St.alloc m q (λb=>St.nil (St.kC λa w e hw=>⟨_,aW d (.cells v l (0,0))::aW b (.cells u g (0,0))::r,Has.swap A e,?_,?_⟩)))
  ·have L:=hp hw
   obtain⟨ρ,k⟩:=L.out;exact Mm.mk (k.perm (Cy Fp (List.Perm.swap ..)))
  ·rw[Array.setIfInBounds_comm _ _ (Ne.symm K)]
   exact h b d
end
theorem Ev.Dj {P:Program}{n:Nat}{F:Fr}{A:World→Prop}{ty t:TypeId}{x:Operand}{xs:Array Value}{b:Array Field}{fd:Field}{i:Nat}{v:Value}(hx:aa F x (.agg xs))(ht:P.underlying t=some (.struct b))(c:b[i]?=some fd)
 (hk:(match P.underlying fd.type with|some (.struct _)|some (.array _ _)|none=>false|_=>true)=true) (d:xs[fd.offset]?=some v):Ev P n F A (.field t x i) ty v:= .of_run λa w e _=>by
 simp[execOp,hx.eval e,Instr.field,run_underlying ht,c,asAgg,zz hk d]
theorem dK.aaY {P:Program}{f:FuncId}{fn:Func}{cd:Code}{args:List Value}{u:Value}{d1 d2 d3 d4 d5:e8}(n:Nat)
 (a:P.funcs[f]?=some fn) (b:fn.body=some cd) (d:fn.ntmps=n) (g:Nat.ble args.length n=true)
 (h:∀c:Ctx,St n (uB 0 args) (Mm c [aD d1,aD d2,aD d3,aD d4,aD d5]) (cd.wp P (bodyPost P fn λe w'=>∃v H',e= .returned v∧v=u∧Mm c H' w'))):dK P f args.toArray [d1,d2,d3,d4,d5] u:=dx.body n a b d g h
theorem cn:(∀b:Bool,(b&&true)=b)∧(∀b:Bool,(true&&b)=b)∧(∀(p:Prop) [Decidable p],(decide p=true)=p)∧(∀(p:Prop) [Decidable p],(decide p=false)↔¬p)∧(∀a b:Bool,((a&&b)=true)=(a=true∧b=true))∧(∀a b:Bool,((a||b)=true)=(a=true∨b=true))∧
 (∀a b:Bool,(a&&b)=false↔a=false∨b=false)∧(∀a b:Bool,(a||b)=false↔a=false∧b=false)∧(∀b:Bool,((!b)=true)=(b=false))∧(∀b:Bool,((!b)=false)=(b=true))∧(∀{α:Type} [BEq α] [LawfulBEq α] (a b:α),(a==b)=true↔a=b)∧(∀{α:Type} [BEq α] [LawfulBEq α] (a b:α),(a==b)=false↔a≠b)∧
 (∀a b:Int,¬a<b↔b≤a)∧(∀a b:Int,¬a≤b↔b<a):=
 ⟨λ_=>Bool.and_true _,λ_=>Bool.true_and _,λ_ _=>gD,λ_ _=>decide_eq_false_iff_not,nQ,Bool.or_eq_true,λ_ _=>Bool.and_eq_false_iff,λ_ _=>Bool.or_eq_false_iff,λ_=>Bool.not_eq_true' _,λ_=>Bool.not_eq_false' _,λ_ _=>beq_iff_eq,λ_ _=>tc,λ_ _=>Int.not_lt,λ_ _=>Int.not_le⟩
section
variable {P:Program}{n:Nat}{F:Fr}{A:World→Prop}{Q:Exit→Act→World→Prop}{ops:Array Oper}{d:Nat}{ty:TypeId}{pos:String}{after:Array Edge}{rest:List Oper}{x:Operand}{v:Value}{c:Ctx}{H:List ay}{t e:TypeId}
theorem St.mv (h:St n ((d,v)::F) A (wpList P ops Q rest))(hx:aa F x v:=by exact .mk rfl)(hd:Nat.ble (d+1) n=true:=by rfl):St n F A (wpList P ops Q ({dst:=some d,op:= .move x,type:=ty,pos:=pos,after:=after,guard:=none}::rest)):=St.ev _ (Ev.move hx) hd h
theorem St.asg (h:St n ((d,v)::F) A (wpList P ops Q rest))(hx:aa F x v:=by exact .mk rfl)(hd:Nat.ble (d+1) n=true:=by rfl):St n F A (wpList P ops Q ({dst:=some d,op:= .assign x,type:=ty,pos:=pos,after:=after,guard:=none}::rest)):=St.ev _ (Ev.assign hx) hd h
theorem vF {α:Type}:∀(ps:List (Nat×α)) (k:Nat),ps.map (·.1)=List.range' k ps.length→ps=((ps.map (·.2)).zipIdx k).map λp=>(p.2,p.1)
 | [],_,_=>rfl
 |(i,a)::ps,k,h=>by
  simp only[List.map_cons,List.length_cons,List.range'_succ,List.cons.injEq]at h
  simp only[List.map_cons,List.zipIdx_cons]
  rw[←vF ps (k+1) h.2,h.1]
theorem St.iu {size:Nat}{vs:List Value}{ps:List (Nat×Operand)}{zv:Value}(hp:ps.map (·.1)=List.range' 0 ps.length)(hx:au F (ps.map (·.2)) vs)(ht:P.underlying t=some (.slice e))(a:(P.info? e).map (·.size)=some size)
 (hz:(P.info? e).bind (·.zero)=some zv) (f:Nat.ble 1 size=true) (hlen:Nat.ble (vs.length*size) 16777216=true) (g:∀u∈vs,u.cells.size=size) (hd:Nat.ble (d+1) n=true)
 {m:Nat} (hm:m=vs.length)
 (h:∀b,St n ((d,tO b m m)::F) (Mm c (row (tO b m m) e size m (vs.flatMap λu=>u.cells.toList)::H)) (wpList P ops Q rest)):
 St n F (Mm c H) (wpList P ops Q ({dst:=some d,op:= .buildSlice t m ps.toArray,type:=ty,pos:=pos,after:=after,guard:=none}::rest)):=St.DY (vF ps 0 hp) hx ht a hz f hlen g hd hm h
theorem St.cq {o:Operand}{x y:Code}{b:Bool}{p q:Prop}(ht:p→St n F A (x.wp P Q))(a:q→St n F A (y.wp P Q))(c:vl F o=some (.bool b):=by exact rfl)
 (hp:b=true→p:=by intro h;first|(simp only[cn]at h;exact h)|exact h) (d:b=false→q:=by intro h;first|(simp only[cn]at h;exact h)|exact h):St n F A ((Code.cond o x y).wp P Q):=St.cond b c (λh=>ht (hp h)) (λh=>a (d h))
theorem SW.tg {a:Exit→Act→World→Prop}{Fp:List ay}{f:Nat}{o:Oper}{listed:Array Bool}(i:Nat)(h:St n F A (wpList P ops (Exit.then (KW P ops Q n c Fp f (listed.setIfInBounds i true)) a) [o])):
 St n F A (wpList P ops (Exit.then (KW P ops Q n c Fp f (listed.setIfInBounds i true)) a) [o]):=h
end
structure MK (κ:Type) where
 enc:κ→Value
 kd:TypeDesc
 same:∀a b:κ,∀ [DecidableEq κ],Instr.sameNow kd (enc a) (enc b)=some (decide (a=b))
 key:∀a,MapKept.IsKey kd (enc a)
 bits:∀a,Instr.sameBits 10000 (enc a) (enc a)=true
def mkStr:MK cM:=⟨λs=>sv s,.string,λa b _=>by
    simp only[Instr.sameNow,Option.some.injEq];rw[HG,MapKept.bytes_beq];simp,λa=>by simp[MapKept.IsKey],λa=>by simp only[Instr.sameBits];exact(MapKept.bytes_beq _ _).2 rfl⟩
section assoc
variable {κ:Type}[DecidableEq κ]
def qu:List (κ×Value)→κ→Option Value
 | [],_=>none
 |p::l,k=>if k=p.1 then some p.2 else qu l k
def lN:List (κ×Value)→κ→Value→List (κ×Value)
 | [],k,v=>[(k,v)]
 |p::l,k,v=>if k=p.1 then(k,v)::l else p::lN l k v
theorem GF (l:List (κ×Value))(k:κ)(v:Value)(b:κ):qu (lN l k v) b=if b=k then some v else qu l b:=by
 induction l with
 |nil=>simp[lN,qu]
 |cons p l c=>
  unfold lN
  by_cases h:k=p.1
  ·rw[aB h]
   simp only[qu]
   by_cases a:b=k
   ·rw[aB a,aB a]
   ·rw[aA a,aA a,aA (by rw[←h];exact a)]
  ·rw[aA h]
   simp only[qu,c]
   by_cases a:b=p.1
   ·rw[aB a,aB a,aA (λe=>h (by rw[←e,a]))]
   ·rw[aA a,aA a]
end assoc
section
variable {κ:Type}[DecidableEq κ]
def kr (K:MK κ):List (κ×Value)→Nat→List MapEntry
 | [],_=>[]
 |p::l,i=>⟨K.enc p.1,p.2,i⟩::kr K l (i+1)
def eW (K:MK κ)(l:List (κ×Value)):Obj:= .map (kr K l 0).toArray l.length
omit [DecidableEq κ]in
def Pz:List (κ×Value)→κ→Nat→Option (Nat×Value)
 | [],_,_=>none
 |p::l,k,i=>if k=p.1 then some (i,p.2)else Pz l k (i+1)
theorem Ue (l:List (κ×Value))(k:κ)(i:Nat):(Pz l k i).map (·.2)=qu l k:=by
 induction l generalizing i with
 |nil=>rfl
 |cons p l a=>simp only[Pz,qu];split
              ·rfl
              ·exact a _
theorem oO (K:MK κ)(k:κ):∀(l:List (κ×Value)) (i c:Nat),Instr.findNow K.kd (K.enc k) (kr K l i) c=some (Pz l k c)
 | [],i,c=>rfl
 |p::l,i,c=>by
  simp only[kr,Instr.findNow,K.same k p.1,Pz]
  by_cases h:k=p.1
  ·simp[h]
  ·simp only[h,decide_false,if_false]
   exact oO K k l _ _
omit [DecidableEq κ]in
theorem zq (K:MK κ)(k:κ)(v:Value):∀(l:List (κ×Value)) (i:Nat),kr K (l++ [(k,v)]) i=kr K l i++ [⟨K.enc k,v,i+l.length⟩]
 | [],i=>by simp[kr]
 |p::l,i=>by simp only[List.cons_append,kr,zq K k v l (i+1),List.length_cons];congr 4;omega
theorem MY {l:List (κ×Value)}{k:κ}{v:Value}{c:Nat}(h:Pz l k c=none):lN l k v=l++ [(k,v)]:=by
 induction l generalizing c with
 |nil=>rfl
 |cons p l a=>
  simp only[Pz]at h
  split at h
  ·cases h
  ·rename_i h1;unfold lN;rw[aA h1,a h];rfl
theorem CO {K:MK κ}{k:κ}{v u:Value}:∀{l:List (κ×Value)} {c j:Nat} (i:Nat),Pz l k c=some (j,u)→c≤j∧j-c<l.length∧((kr K l i)[j-c]?).map (·.key)=some (K.enc k)∧
 kr K (lN l k v) i=(kr K l i).modify (j-c) (λe=>{e with key:=K.enc k,val:=v})∧(lN l k v).length=l.length
 | [],c,j,i,h=>by cases h
 |p::l,c,j,i,h=>by
  simp only[Pz]at h
  split at h
  ·rename_i h1
   simp only[Option.some.injEq,Prod.mk.injEq]at h
   obtain⟨rfl,rfl⟩:=h;unfold lN;rw[aB h1];subst h1
   simp[kr]
  ·rename_i h1
   obtain⟨f,g,a,b,d⟩:=CO (K:=K) (v:=v) (i+1) h
   have e:j-c=(j-(c+1))+1:=by omega
   unfold lN;rw[aA h1];refine⟨by omega,by simp only[List.length_cons];omega,?_,?_,by simp[d]⟩
   ·rw[e];simpa[kr]using a
   ·rw[e];simp only[kr,List.modify_succ_cons,b]
variable {P:Program}{n:Nat}{F:Fr}{A:World→Prop}{c:Ctx}{H R:List ay}{ty t kt et:TypeId}{x y z:Operand}{v:Value}{Q:Exit→Act→World→Prop}{ops:Array Oper}{rest:List Oper}{d:Nat}{pos:String}{after:Array Edge}
class XI (b:Nat)(H:List ay)(κ:outParam Type)(K:outParam (MK κ))(l:outParam (List (κ×Value))):Prop where
 mem:aW b (eW K l)∈H
instance (priority:=high) XI.here {κ:Type}(b:Nat)(K:MK κ)(l:List (κ×Value))(H:List ay):XI b (aW b (eW K l)::H) κ K l:=⟨aR ..⟩
instance XI.there {κ:Type}(b:Nat)(K:MK κ)(l:List (κ×Value))(E:ay)(H:List ay)[h:XI b H κ K l]:XI b (E::H) κ K l:=⟨cO _ h.mem⟩
class Bl (b:Nat)(H:List ay)(κ:outParam Type)(K:outParam (MK κ))(l:outParam (List (κ×Value)))(R:outParam (List ay)):Prop where
 perm:H.Perm (aW b (eW K l)::R)
instance (priority:=high) Bl.here {κ:Type}(b:Nat)(K:MK κ)(l:List (κ×Value))(H:List ay):Bl b (aW b (eW K l)::H) κ K l H:=⟨.refl _⟩
instance Bl.there {κ:Type}(b:Nat)(K:MK κ)(l:List (κ×Value))(E:ay)(H R:List ay)[h:Bl b H κ K l R]:Bl b (E::H) κ K l (E::R):=⟨(h.perm.cons E).trans (.swap ..)⟩
omit [DecidableEq κ]in
theorem St.makeMap (K:MK κ)(hd:Nat.ble (d+1) n=true)(h:∀b,St n ((d,.map (some b))::F) (Mm c (aW b (eW K [])::H)) (wpList P ops Q rest)):
 St n F (Mm c H) (wpList P ops Q ({dst:=some d,op:= .makeMap t none,type:=ty,pos:=pos,after:=after,guard:=none}::rest)):=by
 refine St.SJ (K:=λu H'=>∃b,u= .map (some b)∧H'=aW b (eW K [])::H) ?_ hd ?_
 ·intro a w ρ e hm
  refine⟨.value (.map (some w.heap.size)),w.alloc (.map #[] 0),ρ,_,?_,⟨_,.inl rfl,_,rfl,rfl⟩,hm.alloc _⟩
  simp[execOp,RowKit.run_makeMap]
 ·rintro _ _ ⟨b,rfl,rfl⟩
  exact h b
theorem Qk {zv:Value}{w:World}(hz:(P.info? et).bind (·.zero)=some zv):(zeroValue et).run P w= .ok zv w:=by
 obtain⟨i,hi,a⟩:=oc.1 hz
 simp[zeroValue,typeInfo,hi,a]
theorem AG (K:MK κ){l:List (κ×Value)}{b:Nat}{k:κ}{zv:Value}{w:World}(ok:Bool)(ht:P.underlying t=some (.map kt et))(hk:P.underlying kt=some K.kd)(hz:(P.info? et).bind (·.zero)=some zv)(a:w.heap[b]?=some (eW K l)):
 (Instr.lookup t (.map (some b)) (K.enc k) ok).run P w= .ok (if ok then .tuple #[(qu l k).getD zv,.bool (qu l k).isSome]else(qu l k).getD zv) w:=by
 have h1:=MapKept.run_findKey (w:=w) hk (oO K k l 0 0)
 have c:=Qk (P:=P) (w:=w) hz
 have d:=MapKept.run_getObj_map (P:=P) a
 have e:=MapKept.run_checkKey (w:=w) hk (K.key k) (kr K l 0).toArray.isEmpty 9999
 simp only[Instr.lookup,Sem.run_bind,run_underlying ht,Result.andThen_ok,d,Sem.run_pure,e,h1,←Ue l k 0]
 cases hm:Pz l k 0 with
 |none=>simp[c]
 |some p=>simp
theorem Ev.lookup (K:MK κ){l:List (κ×Value)}{b:Nat}{k:κ}{zv:Value}[e:XI b H κ K l](hx:aa F x (.map (some b)))(hy:aa F y (K.enc k))(ht:P.underlying t=some (.map kt et))(hk:P.underlying kt=some K.kd)(hz:(P.info? et).bind (·.zero)=some zv):
 Ev P n F (Mm c H) (.lookup t x y false) ty ((qu l k).getD zv):= .of_run λa w d hw=>by
 obtain⟨ρ,hm⟩:=hw.out
 have:=AG (P:=P) K (k:=k) false ht hk hz (gO.1 (hm.dR _ e.mem))
 simp[execOp,hx.eval d,hy.eval d,this]
theorem Ev.uV (K:MK κ){l:List (κ×Value)}{b:Nat}{k:κ}{zv:Value}[e:XI b H κ K l](hx:aa F x (.map (some b)))(hy:aa F y (K.enc k))(ht:P.underlying t=some (.map kt et))(hk:P.underlying kt=some K.kd)(hz:(P.info? et).bind (·.zero)=some zv):
 Ev P n F (Mm c H) (.lookup t x y true) ty (.tuple #[(qu l k).getD zv,.bool (qu l k).isSome]):= .of_run λa w d hw=>by
 obtain⟨ρ,hm⟩:=hw.out
 have:=AG (P:=P) K (k:=k) true ht hk hz (gO.1 (hm.dR _ e.mem))
 simp[execOp,hx.eval d,hy.eval d,this]
omit [DecidableEq κ]in
theorem PR (K:MK κ)(k:κ)(w:World):(Instr.keyThatStays (K.enc k) (K.enc k)).run P w= .ok (K.enc k) w:=by
 simp[Instr.keyThatStays,K.bits k]
theorem BP (K:MK κ){l:List (κ×Value)}{b:Nat}{k:κ}{w:World}(ht:P.underlying t=some (.map kt et))(hk:P.underlying kt=some K.kd)(a:w.heap[b]?=some (eW K l)):
 (Instr.mapUpdate t (.map (some b)) (K.enc k) v).run P w= .ok () {w with heap:=w.heap.setIfInBounds b (eW K (lN l k v))}:=by
 have h1:=MapKept.run_findKey (w:=w) hk (oO K k l 0 0)
 have f:=MapKept.run_getObj_map (P:=P) a
 have g:=MapKept.run_checkKey (w:=w) hk (K.key k) false 9999
 simp only[Instr.mapUpdate,Sem.run_bind,run_underlying ht,Result.andThen_ok,f,g,h1]
 cases hm:Pz l k 0 with
 |none=>
  have e:eW K (lN l k v)= .map ((kr K l 0).toArray.push {key:=K.enc k,val:=v,born:=l.length}) (l.length+1):=by
   rw[MY hm]
   simp[eW,zq]
  rw[e];exact MapKept.run_setObj_map (P:=P) _ a
 |some p=>
  obtain⟨j,u⟩:=p;obtain⟨_,m,d,h,i⟩:=CO (K:=K) (v:=v) 0 hm
  have e:eW K (lN l k v)= .map ((kr K l 0).toArray.modify j λe=>{e with key:=K.enc k,val:=v}) l.length:=by
   unfold eW;rw[h,i]
   simp
  rw[e]
  have c:(((kr K l 0).toArray[j]?).map (·.key)).getD (K.enc k)=K.enc k:=by
   simp only[Nat.sub_zero]at d
   simp[d]
  simp only[c,Sem.run_bind,PR,Result.andThen_ok]
  exact MapKept.run_setObj_map (P:=P) _ a
theorem St.mapUpdate (K:MK κ){l:List (κ×Value)}{b:Nat}{k:κ}[p:Bl b H κ K l R](hx:aa F x (.map (some b)))(hy:aa F y (K.enc k))(hz:aa F z v)(ht:P.underlying t=some (.map kt et))(hk:P.underlying kt=some K.kd)
 (h:St n F (Mm c (aW b (eW K (lN l k v))::R)) (wpList P ops Q rest)):
 St n F (Mm c H) (wpList P ops Q ({dst:=none,op:= .mapUpdate t x y z,type:=ty,pos:=pos,after:=after,guard:=none}::rest)):=by
 refine St.nu (K:=λu H'=>H'=aW b (eW K (lN l k v))::R) ?_ ?_
 ·intro a w ρ d hm
  have f:=hm.perm p.perm
  have g:=gO.1 (f.dR _ (aR ..))
  have q:=BP (P:=P) K (k:=k) (v:=v) ht hk g
  refine⟨.skip,{w with heap:=w.heap.setIfInBounds b (eW K (lN l k v))},ρ,_,?_,⟨_,.inr ⟨rfl,rfl⟩,rfl⟩,?_⟩
  ·simp[execOp,hx.eval d,hy.eval d,hz.eval d,q]
  ·have i:=MapKept.heap_set (o':=eW K (lN l k v)) g
   refine f.alter rfl ⟨rfl,aU _⟩ rfl (by simp) (λj r m=> ?_) (gO.2 i.1) (λs o=>by rw[ir]at o⊢;exact .inl o);rw[ir]at m;exact i.2 j (λe=>m (by rw[e]))
 ·rintro _ _ rfl
  exact h
omit [DecidableEq κ]in
end
end Go.J
