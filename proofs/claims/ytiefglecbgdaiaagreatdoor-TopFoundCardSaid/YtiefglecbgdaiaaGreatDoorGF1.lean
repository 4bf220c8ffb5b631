/-
  Laws of walks through programs, and facts on grammars, trees and queries.
  Conditions: none.
-/
import Derived.WalkKit
import Derived.Deep.Quiet
import Derived.Deep.LoopGhost
import Derived.Laws.StructEq
import Derived.ProofKit
import Derived.OpenShut
import Derived.JoinedCond
import Derived.Carry
import Derived.Deep.Slices
import Derived.SizedLaws
import Derived.Still
import Derived.MapKept
import Derived.Lib.LaidU8
import Derived.LaidMore
import Derived.Lay
import Derived.Stop.Joined
import Derived.Deep.DeepHandedRow
set_option linter.unusedVariables false
set_option linter.unusedSimpArgs false
namespace Go
theorem WK:type_of% @Array.getElem?_eq_getElem.{0}:= @Array.getElem?_eq_getElem
theorem Sy:type_of% @Array.getElem?_eq_none.{0}:= @Array.getElem?_eq_none
theorem wI:type_of% @Array.getElem?_eq_some_iff.{0}:= @Array.getElem?_eq_some_iff
theorem KD:type_of% @Array.getElem?_toList.{0}:= @Array.getElem?_toList
theorem Nu:type_of% @BitVec.ofInt_natCast:= @BitVec.ofInt_natCast
theorem Nv:type_of% @BitVec.toNat_ofNat:= @BitVec.toNat_ofNat
theorem pV:type_of% @Bool.and_eq_true:= @Bool.and_eq_true
theorem rh:type_of% @Bool.eq_iff_iff:= @Bool.eq_iff_iff
theorem fK:type_of% @Decidable.not_not:= @Decidable.not_not
theorem ke:type_of% @Eq.symm.{1}:= @Eq.symm
theorem CY:type_of% @Int.toNat_natCast:= @Int.toNat_natCast
theorem um:type_of% @Int.toNat_of_nonneg:= @Int.toNat_of_nonneg
theorem uo:type_of% @List.Pairwise.imp_of_mem.{0}:= @List.Pairwise.imp_of_mem
theorem j8:type_of% @List.all_eq_true.{0}:= @List.all_eq_true
theorem uq:type_of% @List.any_eq_true.{0}:= @List.any_eq_true
theorem cr:type_of% @List.append_assoc.{0}:= @List.append_assoc
theorem fV:type_of% @List.append_nil.{0}:= @List.append_nil
theorem jg:type_of% @List.cons_append.{0}:= @List.cons_append
theorem sL:type_of% @List.countP_cons.{0}:= @List.countP_cons
theorem MB:type_of% @List.countP_eq_length_filter.{0}:= @List.countP_eq_length_filter
theorem fS:type_of% @List.drop_of_length_le.{0}:= @List.drop_of_length_le
theorem gg:type_of% @List.eq_nil_of_length_eq_zero.{0}:= @List.eq_nil_of_length_eq_zero
theorem jh:type_of% @List.ext_getElem?.{0}:= @List.ext_getElem?
theorem pk:type_of% @List.flatMap_append.{0,0}:= @List.flatMap_append
theorem iE:type_of% @List.flatMap_cons.{0,0}:= @List.flatMap_cons
theorem qv:type_of% @List.foldl_append.{0,0}:= @List.foldl_append
theorem im:type_of% @List.foldl_cons.{0,0}:= @List.foldl_cons
theorem aZ:type_of% @List.getD_eq_getElem?_getD.{0}:= @List.getD_eq_getElem?_getD
theorem oh:type_of% @List.getElem?_append_left.{0}:= @List.getElem?_append_left
theorem jM:type_of% @List.getElem?_append_right.{0}:= @List.getElem?_append_right
theorem CZ:type_of% @List.getElem?_cons_succ.{0}:= @List.getElem?_cons_succ
theorem x9:type_of% @List.getElem?_drop.{0}:= @List.getElem?_drop
theorem aj:type_of% @List.getElem?_eq_getElem.{0}:= @List.getElem?_eq_getElem
theorem fT:type_of% @List.getElem?_eq_none.{0}:= @List.getElem?_eq_none
theorem eh:type_of% @List.getElem?_eq_some_iff.{0}:= @List.getElem?_eq_some_iff
theorem aw:type_of% @List.getElem?_map.{0,0}:= @List.getElem?_map
theorem Ca:type_of% @List.getElem?_of_mem.{0}:= @List.getElem?_of_mem
theorem jy:type_of% @List.getElem?_range:= @List.getElem?_range
theorem sM:type_of% @List.getElem?_replicate.{0}:= @List.getElem?_replicate
theorem gV:type_of% @List.getElem?_set_ne.{0}:= @List.getElem?_set_ne
theorem fp:type_of% @List.getElem?_set_self.{0}:= @List.getElem?_set_self
theorem om:type_of% @List.getElem?_take.{0}:= @List.getElem?_take
theorem fq:type_of% @List.getElem_mem.{0}:= @List.getElem_mem
theorem bJ:type_of% @List.length_append.{0}:= @List.length_append
theorem eU:type_of% @List.length_cons.{0}:= @List.length_cons
theorem ur:type_of% @List.length_drop.{0}:= @List.length_drop
theorem AJ:type_of% @List.length_filter_le.{0}:= @List.length_filter_le
theorem aR:type_of% @List.length_map.{0,0}:= @List.length_map
theorem pn:type_of% @List.length_modify.{0}:= @List.length_modify
theorem db:type_of% @List.length_range:= @List.length_range
theorem nO:type_of% @List.length_replicate.{0}:= @List.length_replicate
theorem Cb:type_of% @List.length_reverse.{0}:= @List.length_reverse
theorem eC:type_of% @List.length_set.{0}:= @List.length_set
theorem cy:type_of% @List.length_take.{0}:= @List.length_take
theorem cL:type_of% @List.map_append.{0,0}:= @List.map_append
theorem qw:type_of% @List.map_congr_left.{0,0}:= @List.map_congr_left
theorem eV:type_of% @List.map_cons.{0,0}:= @List.map_cons
theorem iX:type_of% @List.map_map.{0,0,0}:= @List.map_map
theorem jz:type_of% @List.map_nil.{0,0}:= @List.map_nil
theorem uw:type_of% @List.map_replicate.{0,0}:= @List.map_replicate
theorem k9:type_of% @List.map_set.{0,0}:= @List.map_set
theorem cI:type_of% @List.mem_append.{0}:= @List.mem_append
theorem kA:type_of% @List.mem_append_left.{0}:= @List.mem_append_left
theorem iY:type_of% @List.mem_append_right.{0}:= @List.mem_append_right
theorem bT:type_of% @List.mem_cons.{0}:= @List.mem_cons
theorem bV:type_of% @List.mem_cons_of_mem.{0}:= @List.mem_cons_of_mem
theorem aV:type_of% @List.mem_cons_self.{0}:= @List.mem_cons_self
theorem po:type_of% @List.mem_filter.{0}:= @List.mem_filter
theorem lB:type_of% @List.mem_iff_getElem.{0}:= @List.mem_iff_getElem
theorem cA:type_of% @List.mem_map.{0,0}:= @List.mem_map
theorem di:type_of% @List.mem_map_of_mem.{0,0}:= @List.mem_map_of_mem
theorem aa:type_of% @List.mem_of_getElem?.{0}:= @List.mem_of_getElem?
theorem HU:type_of% @List.mem_of_mem_drop.{0}:= @List.mem_of_mem_drop
theorem xA:type_of% @List.mem_of_mem_take.{0}:= @List.mem_of_mem_take
theorem nP:type_of% @List.mem_or_eq_of_mem_set.{0}:= @List.mem_or_eq_of_mem_set
theorem cU:type_of% @List.mem_range:= @List.mem_range
theorem bN:type_of% @List.mem_singleton.{0}:= @List.mem_singleton
theorem pq:type_of% @List.mem_singleton_self.{0}:= @List.mem_singleton_self
theorem nQ:type_of% @List.nil_append.{0}:= @List.nil_append
theorem qx:type_of% @List.pairwise_append.{0}:= @List.pairwise_append
theorem fw:type_of% @List.pairwise_cons.{0}:= @List.pairwise_cons
theorem oq:type_of% @List.pairwise_map.{0,0}:= @List.pairwise_map
theorem Cc:type_of% @List.pairwise_singleton.{0}:= @List.pairwise_singleton
theorem kB:type_of% @List.perm_append_comm.{0}:= @List.perm_append_comm
theorem sN:type_of% @List.perm_middle.{0}:= @List.perm_middle
theorem mU:type_of% @List.range_succ:= @List.range_succ
theorem mV:type_of% @List.set_append_right.{0}:= @List.set_append_right
theorem HV:type_of% @List.set_cons_succ.{0}:= @List.set_cons_succ
theorem xB:type_of% @List.set_cons_zero.{0}:= @List.set_cons_zero
theorem Cd:type_of% @List.singleton_append.{0}:= @List.singleton_append
theorem ot:type_of% @List.sum_cons.{0}:= @List.sum_cons
theorem jN:type_of% @List.take_append_drop.{0}:= @List.take_append_drop
theorem fW:type_of% @List.take_length.{0}:= @List.take_length
theorem dV:type_of% @List.take_of_length_le.{0}:= @List.take_of_length_le
theorem HW:type_of% @List.take_succ_eq_append_getElem.{0}:= @List.take_succ_eq_append_getElem
theorem nR:type_of% @List.take_zero.{0}:= @List.take_zero
theorem pt:type_of% @Nat.add_assoc:= @Nat.add_assoc
theorem ji:type_of% @Nat.add_mul:= @Nat.add_mul
theorem fU:type_of% @Nat.add_zero:= @Nat.add_zero
theorem xC:type_of% @Nat.eq_of_beq_eq_true:= @Nat.eq_of_beq_eq_true
theorem eI:type_of% @Nat.le_of_ble_eq_true:= @Nat.le_of_ble_eq_true
theorem aQ:type_of% @Nat.le_refl:= @Nat.le_refl
theorem cz:type_of% @Nat.le_trans:= @Nat.le_trans
theorem sy:type_of% @Nat.lt_of_le_of_lt:= @Nat.lt_of_le_of_lt
theorem fI:type_of% @Nat.lt_of_lt_of_le:= @Nat.lt_of_lt_of_le
theorem cJ:type_of% @Nat.lt_or_ge:= @Nat.lt_or_ge
theorem gB:type_of% @Nat.min_eq_left:= @Nat.min_eq_left
theorem mT:type_of% @Nat.mod_eq_of_lt:= @Nat.mod_eq_of_lt
theorem tA:type_of% @Nat.mul_le_mul_left:= @Nat.mul_le_mul_left
theorem fJ:type_of% @Nat.mul_le_mul_right:= @Nat.mul_le_mul_right
theorem e8:type_of% @Nat.mul_one:= @Nat.mul_one
theorem nz:type_of% @Nat.one_mul:= @Nat.one_mul
theorem AG:type_of% @Nat.pow_le_pow_right:= @Nat.pow_le_pow_right
theorem AH:type_of% @Nat.pow_lt_pow_right:= @Nat.pow_lt_pow_right
theorem eX:type_of% @Nat.sub_self:= @Nat.sub_self
theorem iW:type_of% @Nat.zero_add:= @Nat.zero_add
theorem aP:type_of% @Nat.zero_le:= @Nat.zero_le
theorem o6:type_of% @Option.bind_eq_some_iff.{0,0}:= @Option.bind_eq_some_iff
theorem dX:type_of% @Option.map_eq_some_iff.{0,0}:= @Option.map_eq_some_iff
theorem tC:type_of% @beq_eq_false_iff_ne.{0}:= @beq_eq_false_iff_ne
theorem qu:type_of% @beq_iff_eq.{0}:= @beq_iff_eq
theorem e9:type_of% @decide_eq_false:= @decide_eq_false
theorem wH:type_of% @decide_eq_false_iff_not:= @decide_eq_false_iff_not
theorem dI:type_of% @decide_eq_true:= @decide_eq_true
theorem eJ:type_of% @decide_eq_true_eq:= @decide_eq_true_eq
theorem aA:type_of% @if_neg.{1}:= @if_neg
theorem aB:type_of% @if_pos.{1}:= @if_pos
theorem l3:type_of% @of_decide_eq_false:= @of_decide_eq_false
theorem gU:type_of% @of_decide_eq_true:= @of_decide_eq_true
end Go
namespace Go.J
open Go
abbrev Fr:=List (Nat×Value)
def look:Fr→Nat→Option Value
 | [],_=>none
 |(k,v)::F,t=>bif Nat.beq t k then some v else look F t
def vl (F:Fr):Operand→Option Value
 | .tmp t=>look F t
 | .const v=>some v
 | .func f=>some (.func (.func f) #[] #[])
 | .global g=>some (.pointer (some ⟨g,0,none⟩))
structure Has (n:Nat)(a:Act)(F:Fr):Prop where
 size:a.tmps.size=n
 defers:a.defers=[]
 slot:∀t v,look F t=some v→a.tmps[t]?=some v
theorem Has.eval {n:Nat}{a:Act}{F:Fr}{x:Operand}{v:Value}(h:Has n a F)(hx:vl F x=some v):a.eval x=v:=by
 cases x with
 |tmp t=>simp only[vl]at hx;simp[Act.eval,Array.getD_eq_getD_getElem?,h.slot _ _ hx]
 |const u=>simp only[vl,Option.some.injEq]at hx;exact hx
 |func f=>simp only[vl,Option.some.injEq]at hx;exact hx
 |global g=>simp only[vl,Option.some.injEq]at hx;exact hx
theorem Has.put {n:Nat}{a:Act}{F:Fr}(h:Has n a F){d:Nat}(hd:d<n)(v:Value):Has n (a.put (some d) v) ((d,v)::F):=by
 refine⟨by simp[Act.put,h.size],by simp[Act.put,h.defers],λt u hu=> ?_⟩
 simp only[look]at hu
 cases b:Nat.beq t d with
 |true=>
  have e:t=d:=xC b
  subst e
  simp only[b,cond_true,Option.some.injEq]at hu
  subst hu
  simp[Act.put,h.size,hd]
 |false=>
  have e:t≠d:=Nat.ne_of_beq_eq_false b
  simp only[b,cond_false]at hu
  simp[Act.put,Ne.symm e,h.slot _ _ hu]
theorem Has.R8 {n:Nat}{a:Act}{F:Fr}(h:Has n a F)(v:Value):Has n (a.put none v) F:=h
def Sub:Fr→Fr→Prop
 | [],_=>True
 |(k,v)::a,F=>look F k=some v∧Sub a F
theorem Sub.look {b F:Fr}(h:Sub b F):∀t v,look b t=some v→J.look F t=some v:=by
 induction b with
 |nil=>intro t v a;simp[J.look]at a
 |cons p b d=>
  obtain⟨k,u⟩:=p;intro t v a
  simp only[J.look]at a
  cases c:Nat.beq t k with
  |true=>
   have e:t=k:=xC c
   subst e
   simp only[c,cond_true,Option.some.injEq]at a
   subst a;exact h.1
  |false=>
   simp only[c,cond_false]at a
   exact d h.2 t v a
theorem Has.sub {n:Nat}{a:Act}{F b:Fr}(h:Has n a F)(c:Sub b F):Has n a b:=⟨h.size,h.defers,λt v d=>h.slot t v (c.look t v d)⟩
def St (n:Nat)(F:Fr)(A:World→Prop)(T:Act→World→Prop):Prop:=∀a w,Has n a F→A w→T a w
section
variable {P:Program}{n:Nat}{F:Fr}{A:World→Prop}{Q:Exit→Act→World→Prop}{ops:Array Oper}
theorem St.conv {b:World→Prop}{c:Fr}{T:Act→World→Prop}(d:Sub c F)(e:∀w,A w→b w)(h:St n c b T):St n F A T:=
 λa w f hw=>h a w (f.sub d) (e w hw)
theorem St.ny {b:World→Prop}{T:Act→World→Prop}(c:∀w,A w→b w)(h:St n F b T):St n F A T:=
 λa w d hw=>h a w d (c w hw)
theorem St.ex {ι:Sort _}{B:ι→World→Prop}{T:Act→World→Prop}(h:∀x,St n F (B x) T):St n F (λw=>∃x,B x w) T:=
 λa w b ⟨x,hx⟩=>h x a w b hx
theorem St.and {p:Prop}{T:Act→World→Prop}(h:p→St n F A T):St n F (λw=>p∧A w) T:=
 λa w b hw=>h hw.1 a w b hw.2
theorem St.seq {x y:Code}(h:St n F A (x.wp P (Exit.then (y.wp P Q) Q))):St n F A ((Code.seq x y).wp P Q):=
 λa w b hw=>wp_seq (h a w b hw)
theorem St.skip (h:St n F A (Q .normal)):St n F A (Code.skip.wp P Q):=λa w b hw=>wp_skip (h a w b hw)
theorem St.afS (h:St n F A (Q .ret)):St n F A (Code.ret.wp P Q):=λa w b hw=>wp_ret (h a w b hw)
theorem St.exit {id:Nat}(h:St n F A (Q (.exit id))):St n F A ((Code.exit id).wp P Q):=λa w b hw=>wp_exit (h a w b hw)
theorem St.block {id:Nat}{c:Code}(h:St n F A (c.wp P (Exit.inBlock id Q))):St n F A ((Code.block id c).wp P Q):=
 λa w b hw=>wp_block (h a w b hw)
theorem St.cond {c:Operand}{x y:Code}(t:Bool)(d:vl F c=some (.bool t))(ht:t=true→St n F A (x.wp P Q))(e:t=false→St n F A (y.wp P Q)):
 St n F A ((Code.cond c x y).wp P Q):=
 λa w b hw=>wp_cond_split (b.eval d) (λh=>ht h a w b hw) (λh=>e h a w b hw)
theorem St.X0 {c:Operand}{x y:Code}(t:Bool)(d:vl F c=some (.bool t))(h:t=true)(ht:St n F A (x.wp P Q)):
 St n F A ((Code.cond c x y).wp P Q):=
 λa w b hw=>wp_cond_true (by rw[b.eval d,h]) (ht a w b hw)
theorem St.BS {c:Operand}{x y:Code}(t:Bool)(d:vl F c=some (.bool t))(h:t=false)(e:St n F A (y.wp P Q)):
 St n F A ((Code.cond c x y).wp P Q):=
 λa w b hw=>wp_cond_false (by rw[b.eval d,h]) (e a w b hw)
theorem St.nJ {K:Act→World→Prop}(h:St n F A K):St n F A (Exit.then K Q .normal):=h
theorem St.Nb {K:Act→World→Prop}{id:Nat}(h:St n F A (Q (.exit id))):St n F A (Exit.then K Q (.exit id)):=h
theorem St.SB {K:Act→World→Prop}(h:St n F A (Q .ret)):St n F A (Exit.then K Q .ret):=h
theorem St.Mr {id:Nat}(h:St n F A (Q .normal)):St n F A (Exit.inBlock id Q .normal):=h
theorem St.Z8 {id:Nat}(h:St n F A (Q .ret)):St n F A (Exit.inBlock id Q .ret):=h
theorem St.Z7 {id:Nat}(h:St n F A (Q .normal)):St n F A (Exit.inBlock id Q (.exit id)):=by
 intro a w b hw
 simp only[Exit.inBlock,if_true]
 exact h a w b hw
theorem St.V2 {id b:Nat}(c:Nat.beq b id=false)(h:St n F A (Q (.exit b))):St n F A (Exit.inBlock id Q (.exit b)):=by
 intro a w d hw
 simp only[Exit.inBlock,if_neg (Nat.ne_of_beq_eq_false c)]
 exact h a w d hw
theorem St.loop {ι:Type _}{body:Code}(c:ι→Fr)(d:ι→World→Prop)(μ:ι→Nat)(f:ι)(i:Sub (c f) F)(j:∀w,A w→d f w)
 (round:∀x,St n (c x) (d x) (body.wp P (Exit.then (λh w'=>∃y,μ y<μ x∧Has n h (c y)∧d y w') Q))):
 St n F A ((Code.loop body).wp P Q):=by
 intro a w m hw;refine wp_loop_ghost (λk a w=>∃x,μ x=k∧Has n a (c x)∧d x w) (μ f) ⟨f,rfl,m.sub i,j w hw⟩ ?_;rintro k a w ⟨x,rfl,hx,g⟩;refine wp_mono (round x a w hx g) ?_;intro e h w' b
 cases e with
 |normal=>obtain⟨y,h1,o,p⟩:=b;exact⟨μ y,h1,y,rfl,o,p⟩
 |exit id=>exact b
 |goto l=>exact b
 |ret=>exact b
 |panic ch=>exact b
 |outgrown=>exact b
theorem St.rg {id:Nat}{l:List Oper}(h:St n F A (wpList P l.toArray Q l)):St n F A ((Code.region id l.toArray false).wp P Q):=
 λa w b hw=>wp_region_lit (h a w b hw)
theorem St.nil (h:St n F A (Q .normal)):St n F A (wpList P ops Q []):=h
abbrev bare (op : Op) (ty : TypeId) : Oper := { dst := none, op := op, type := ty, pos := "", after := #[], guard := none }
theorem iR (ρ:Operand→Value)(o:Oper):execOp ρ o=execOp ρ (bare o.op o.type):=by
 obtain⟨d,op,ty,p,a,g⟩:=o
 cases op<;>rfl
def Ev (P:Program)(n:Nat)(F:Fr)(A:World→Prop)(op:Op)(ty:TypeId)(v:Value):Prop:=
 ∀a w,Has n a F→A w→Oper.quietUpon P A w v ((execOp a.eval (bare op ty)).run P w)
theorem Ev.quietAt {op:Op}{ty:TypeId}{v:Value}(h:Ev P n F A op ty v){d:Option Tmp}{pos:String}{after:Array Edge}{g:Option (Nat×Bool)}{a:Act}{w:World}
 (b:Has n a F) (hw:A w):({dst:=d,op:=op,type:=ty,pos:=pos,after:=after,guard:=g}:Oper).quietAt P a A w v:=by
 unfold Oper.quietAt;rw[iR];exact h a w b hw
theorem Ev.wp {op:Op}{ty:TypeId}{v:Value}(h:Ev P n F A op ty v){d:Option Tmp}{pos:String}{after:Array Edge}{g:Option (Nat×Bool)}{a:Act}{w:World}
 (c:Has n a F) (hw:A w) {K:Act→World→Prop} (hk:∀w',A w'→K (a.put d v) w'):
 ({dst:=d,op:=op,type:=ty,pos:=pos,after:=after,guard:=g}:Oper).wp P a w K Q:=by
 unfold Oper.wp Oper.upon;rw[iR]
 have b:=h a w c hw
 simp only at b⊢
 generalize (execOp a.eval (bare op ty)).run P w=r at b
 cases r with
 |ok f w'=>
  cases f<;>simp only[Oper.quietUpon]at b<;>(try exact b.elim)
  ·obtain⟨rfl,rfl⟩:=b;exact hk _ hw
  ·obtain⟨rfl,rfl⟩:=b;exact hk _ hw
  ·obtain⟨rfl,i⟩:=b
   exact i.mono λe j he=>by
    obtain⟨rfl,k⟩:=he;exact hk _ k
 |halt x w'=>simp only[Oper.quietUpon]at b
theorem gT {o:Oper}{rest:List Oper}{a:Act}{w:World}(b:o.guard=none)(h:o.wp P a w (wpList P ops Q rest) Q):wpList P ops Q (o::rest) a w:=by
 simp only[wpList,Region.wanted,b,if_true]
 exact .inl h
theorem St.ev {d:Nat}{op:Op}{ty:TypeId}{pos:String}{after:Array Edge}{rest:List Oper}(v:Value)(c:Ev P n F A op ty v)(hd:Nat.ble (d+1) n=true)
 (h:St n ((d,v)::F) A (wpList P ops Q rest)):
 St n F A (wpList P ops Q ({dst:=some d,op:=op,type:=ty,pos:=pos,after:=after,guard:=none}::rest)):=
 λa w b hw=>gT rfl (c.wp b hw λw' e=>h _ w' (b.put (eI hd) v) e)
@[irreducible] def gv (c:Bool)(v:Value):Value:=bif c then v else undef
theorem dD {c:Bool}(h:c=true)(v:Value):gv c v=v:=by unfold gv;simp[h]
theorem bF {c:Bool}(h:c=false)(v:Value):gv c v=undef:=by unfold gv;simp[h]
def aX (F:Fr)(x:Operand)(v:Value):Prop:=∃u,vl F x=some u∧u=v
theorem aX.mk {x:Operand}{v:Value}(h:vl F x=some v):aX F x v:=⟨v,h,rfl⟩
theorem aX.gv {x:Operand}{v:Value}{c:Bool}(h:vl F x=some (gv c v))(a:c=true):aX F x v:=⟨_,h,dD a v⟩
theorem aX.eval {x:Operand}{v:Value}(h:aX F x v){a:Act}(b:Has n a F):a.eval x=v:=by
 obtain⟨u,h1,rfl⟩:=h;exact b.eval h1
theorem KM {a b:Bool}(h:a=true)(k:b=true):(a&&b)=true:=by simp[h,k]
def YM:Value→Option Bool
 | .bool b=>some b
 |_=>none
theorem KC {l:Array Oper}{j dj:Nat}{u:Value}{tmps:Array Value}(a:(l[j]?).bind (·.dst)=some dj)(h:tmps[dj]?=some u):
 yielded l tmps j=YM u:=by
 unfold yielded;rw[a]
 simp only[Option.bind_some,h]
 cases u<;>rfl
theorem lX {l:Array Oper}{o:Oper}{j dj:Nat}{want c:Bool}{a:Act}{u:Value}(b:o.guard=some (j,want))(d:(l[j]?).bind (·.dst)=some dj)(h:a.tmps[dj]?=some u)
 (hu:(c=true→u= .bool want)∧(c=false→u= .bool (!want)∨u=undef)):Region.wanted o (yielded l a.tmps)=c:=by
 unfold Region.wanted;rw[b]
 simp only[]
 rw[KC d h]
 cases c with
 |true=>rw[hu.1 rfl];cases want<;>rfl
 |false=>
  rcases hu.2 rfl with h|h
  ·rw[h];cases want<;>rfl
  ·rw[h];cases want<;>rfl
theorem St.guarded {j:Nat}{want:Bool}{d:Nat}{op:Op}{ty:TypeId}{pos:String}{after:Array Edge}{rest:List Oper}(c:Bool){dj:Nat}{u:Value}(v:Value)
 (g:(ops[j]?).bind (·.dst)=some dj) (i:look F dj=some u) (hu:(c=true→u= .bool want)∧(c=false→u= .bool (!want)∨u=undef))
 (k:c=true→Ev P n F A op ty v) (hd:Nat.ble (d+1) n=true) (h:St n ((d,gv c v)::F) A (wpList P ops Q rest)):
 St n F A (wpList P ops Q ({dst:=some d,op:=op,type:=ty,pos:=pos,after:=after,guard:=some (j,want)}::rest)):=by
 intro a w b hw
 have f:=eI hd
 have m:=lX (l:=ops) (o:={dst:=some d,op:=op,type:=ty,pos:=pos,after:=after,guard:=some (j,want)}) rfl g (b.slot _ _ i) hu
 simp only[wpList,m]
 cases e:c with
 |true=>
  rw[e]at h
  simp only[if_true]
  refine .inl ((k e).wp b hw λw' p=> ?_)
  have:=h _ w' (b.put f (gv true v)) p
  rwa[dD rfl]at this
 |false=>
  rw[e]at h
  have:=h _ w (b.put f (gv false v)) hw
  rw[bF rfl]at this
  simpa using this
theorem Ym (g:Bool):(g=true→Value.bool g= .bool true)∧(g=false→Value.bool g= .bool (!true)∨Value.bool g=undef):=by cases g<;>simp
theorem Yl (g:Bool):((!g)=true→Value.bool g= .bool false)∧((!g)=false→Value.bool g= .bool (!false)∨Value.bool g=undef):=by cases g<;>simp
theorem adE (c g:Bool):((c&&g)=true→J.gv c (.bool g)= .bool true)∧((c&&g)=false→J.gv c (.bool g)= .bool (!true)∨J.gv c (.bool g)=undef):=by
 cases c<;>cases g<;>simp[gv]
theorem adD (c g:Bool):((c&& !g)=true→J.gv c (.bool g)= .bool false)∧((c&& !g)=false→J.gv c (.bool g)= .bool (!false)∨J.gv c (.bool g)=undef):=by
 cases c<;>cases g<;>simp[gv]
section
variable {j:Nat}{d:Nat}{op:Op}{ty:TypeId}{pos:String}{after:Array Edge}{rest:List Oper}{dj:Nat}(v:Value)
theorem St.gt {g:Bool}(a:(ops[j]?).bind (·.dst)=some dj)(b:look F dj=some (.bool g))(c:g=true→Ev P n F A op ty v)(hd:Nat.ble (d+1) n=true)
 (h:St n ((d,gv g v)::F) A (wpList P ops Q rest)):
 St n F A (wpList P ops Q ({dst:=some d,op:=op,type:=ty,pos:=pos,after:=after,guard:=some (j,true)}::rest)):=St.guarded g v a b (Ym g) c hd h
theorem St.gf {g:Bool}(a:(ops[j]?).bind (·.dst)=some dj)(b:look F dj=some (.bool g))(c:(!g)=true→Ev P n F A op ty v)(hd:Nat.ble (d+1) n=true)
 (h:St n ((d,gv (!g) v)::F) A (wpList P ops Q rest)):
 St n F A (wpList P ops Q ({dst:=some d,op:=op,type:=ty,pos:=pos,after:=after,guard:=some (j,false)}::rest)):=St.guarded (!g) v a b (Yl g) c hd h
theorem St.Pd {c g:Bool}(a:(ops[j]?).bind (·.dst)=some dj)(b:look F dj=some (gv c (.bool g)))(e:(c&&g)=true→Ev P n F A op ty v)(hd:Nat.ble (d+1) n=true)
 (h:St n ((d,gv (c&&g) v)::F) A (wpList P ops Q rest)):
 St n F A (wpList P ops Q ({dst:=some d,op:=op,type:=ty,pos:=pos,after:=after,guard:=some (j,true)}::rest)):=St.guarded (c&&g) v a b (adE c g) e hd h
theorem St.gcf {c g:Bool}(a:(ops[j]?).bind (·.dst)=some dj)(b:look F dj=some (gv c (.bool g)))(e:(c&& !g)=true→Ev P n F A op ty v)(hd:Nat.ble (d+1) n=true)
 (h:St n ((d,gv (c&& !g) v)::F) A (wpList P ops Q rest)):
 St n F A (wpList P ops Q ({dst:=some d,op:=op,type:=ty,pos:=pos,after:=after,guard:=some (j,false)}::rest)):=St.guarded (c&& !g) v a b (adD c g) e hd h
end
def Sq (n:Nat)(F:Fr)(T:Act→Prop):Prop:=∀a,Has n a F→T a
theorem Sq.nil (h:St n F A (Q .normal)):Sq n F (wpQuiet P ops A (λb=>∀w',A w'→Q .normal b w') []):=λa c w hw=>h a w c hw
theorem Sq.ev {d:Nat}{op:Op}{ty:TypeId}{pos:String}{after:Array Edge}{rest:List Oper}{T:Act→Prop}(v:Value)(c:Ev P n F A op ty v)(hd:Nat.ble (d+1) n=true)
 (h:Sq n ((d,v)::F) (wpQuiet P ops A T rest)):
 Sq n F (wpQuiet P ops A T ({dst:=some d,op:=op,type:=ty,pos:=pos,after:=after,guard:=none}::rest)):=by
 intro a b
 simp only[wpQuiet,Region.wanted,if_true]
 exact⟨v,λw hw=>c.quietAt b hw,h _ (b.put (eI hd) v)⟩
theorem Sq.guarded {j:Nat}{want:Bool}{d:Nat}{op:Op}{ty:TypeId}{pos:String}{after:Array Edge}{rest:List Oper}{T:Act→Prop}(c:Bool){dj:Nat}{u:Value}(v:Value)
 (g:(ops[j]?).bind (·.dst)=some dj) (i:look F dj=some u) (hu:(c=true→u= .bool want)∧(c=false→u= .bool (!want)∨u=undef))
 (k:c=true→Ev P n F A op ty v) (hd:Nat.ble (d+1) n=true) (h:Sq n ((d,gv c v)::F) (wpQuiet P ops A T rest)):
 Sq n F (wpQuiet P ops A T ({dst:=some d,op:=op,type:=ty,pos:=pos,after:=after,guard:=some (j,want)}::rest)):=by
 intro a b
 have f:=eI hd
 have m:=lX (l:=ops) (o:={dst:=some d,op:=op,type:=ty,pos:=pos,after:=after,guard:=some (j,want)}) rfl g (b.slot _ _ i) hu
 simp only[wpQuiet,m]
 cases e:c with
 |true=>
  rw[e]at h
  simp only[if_true]
  refine⟨v,λw hw=>(k e).quietAt b hw,?_⟩
  have:=h _ (b.put f (gv true v))
  rwa[dD rfl]at this
 |false=>
  rw[e]at h
  have:=h _ (b.put f (gv false v))
  rw[bF rfl]at this
  simpa using this
section
variable {j:Nat}{d:Nat}{op:Op}{ty:TypeId}{pos:String}{after:Array Edge}{rest:List Oper}{dj:Nat}{T:Act→Prop}(v:Value)
theorem Sq.gt {g:Bool}(a:(ops[j]?).bind (·.dst)=some dj)(b:look F dj=some (.bool g))(c:g=true→Ev P n F A op ty v)(hd:Nat.ble (d+1) n=true)
 (h:Sq n ((d,gv g v)::F) (wpQuiet P ops A T rest)):
 Sq n F (wpQuiet P ops A T ({dst:=some d,op:=op,type:=ty,pos:=pos,after:=after,guard:=some (j,true)}::rest)):=Sq.guarded g v a b (Ym g) c hd h
theorem Sq.gf {g:Bool}(a:(ops[j]?).bind (·.dst)=some dj)(b:look F dj=some (.bool g))(c:(!g)=true→Ev P n F A op ty v)(hd:Nat.ble (d+1) n=true)
 (h:Sq n ((d,gv (!g) v)::F) (wpQuiet P ops A T rest)):
 Sq n F (wpQuiet P ops A T ({dst:=some d,op:=op,type:=ty,pos:=pos,after:=after,guard:=some (j,false)}::rest)):=Sq.guarded (!g) v a b (Yl g) c hd h
end
def O7 (A:World→Prop):Prop:=∀w,A w→A {w with drawn:=w.drawn+1}
theorem St.rq {id:Nat}{l:List Oper}(hm:P.follows .mixedOrders=true)(b:Region.lexB .any l.toArray=true)(c:O7 A)
 (h:Sq n F (wpQuiet P l.toArray A (λd=>∀w',A w'→Q .normal d w') l)):St n F A ((Code.region id l.toArray true).wp P Q):=
 λa w e hw=>wp_region_quiet hm b (c w hw) (by simpa using h a e)
end
abbrev Ro:=Nat→Option Obj
def Ro.le (ρ mY:Ro):Prop:=∀k o,ρ k=some o→mY k=some o
theorem Ro.le_refl (ρ:Ro):ρ.le ρ:=λ_ _ h=>h
theorem Ro.le_trans {a b c:Ro}(h:a.le b)(k:b.le c):a.le c:=λ_ _ x=>k _ _ (h _ _ x)
structure dQ where
 f:Ro→Prop
 mono:∀ρ mY,Ro.le ρ mY→f ρ→f mY
structure ai where
 key:Option Nat
 ok:Ro→World→Prop
 loc:∀{ρ mY w w'},Ro.le ρ mY→(∀b,key=some b→w'.heap[b]?=w.heap[b]?)→ok ρ w→ok mY w'
 lt:∀{ρ w b},ok ρ w→key=some b→b<w.heap.size
@[irreducible] def aD (d:dQ):ai:=⟨none,λρ _=>d.f ρ,λh _ k=>d.mono _ _ h k,λ_ h=>by simp at h⟩
@[irreducible] def aU (b:Nat)(o:Obj):ai:=⟨some b,λ_ w=>w.heap[b]?=some o,λ_ h k=>by rw[h b rfl];exact k,λh a=>by
 simp only[Option.some.injEq]at a
 subst a
 exact(wI.1 h).1⟩
theorem GQ {w w':World}{e:TypeId}{size n:Nat}{v:Value}{cs:List Value}(h:∀b,v.ownBlock=some b→w'.heap[b]?=w.heap[b]?)(k:w.ownsRow 0 e size v n cs):w'.ownsRow 0 e size v n cs:=by
 obtain⟨h1,a⟩:=k;refine⟨h1,?_⟩
 rcases a with a|⟨g,cap,cur,rfl,c,d,f⟩
 ·exact .inl a
 ·exact .inr ⟨g,cap,cur,rfl,c,by rw[h g rfl];exact d,f⟩
@[irreducible] def row (v:Value)(e:TypeId)(size n:Nat)(cs:List Value):ai:=⟨v.ownBlock,λ_ w=>w.ownsRow 0 e size v n cs,λ_ h k=>GQ h k,λh a=>(h.lt _ a).2⟩
theorem jS (d:dQ):(aD d).key=none:=by unfold aD;rfl
theorem dK {d:dQ}{ρ:Ro}{w:World}:(aD d).ok ρ w↔d.f ρ:=by unfold aD;exact Iff.rfl
theorem hP (b:Nat)(o:Obj):(aU b o).key=some b:=by unfold aU;rfl
theorem fz {b:Nat}{o:Obj}{ρ:Ro}{w:World}:(aU b o).ok ρ w↔w.heap[b]?=some o:=by unfold aU;exact Iff.rfl
theorem dF (v:Value)(e:TypeId)(size n:Nat)(cs:List Value):(row v e size n cs).key=v.ownBlock:=by unfold row;rfl
theorem dP {v:Value}{e:TypeId}{size n:Nat}{cs:List Value}{ρ:Ro}{w:World}:(row v e size n cs).ok ρ w↔w.ownsRow 0 e size v n cs:=by unfold row;exact Iff.rfl
def KF (E a:ai):Prop:=∀b,E.key=some b→a.key≠some b
theorem KF.symm {E a:ai}(h:KF E a):KF a E:=λb h1 c=>h b c h1
def j0 (H:List ai)(b:Nat):Prop:=∃E∈H,E.key=some b
structure Ctx where
 w:World
 ρ:Ro
 M:Nat→Prop
 dr:Prop
structure fN (c:Ctx)(H:List ai)(ρ:Ro)(w:World):Prop where
 os:w.os=c.w.os
 tape:w.tape=c.w.tape∧(c.dr→c.w.drawn≤w.drawn)
 output:w.output=c.w.output
 size:c.w.heap.size≤w.heap.size
 AO:∀k,k<c.w.heap.size→¬c.M k→w.heap[k]?=c.w.heap[k]?
 fits:∀k o,ρ k=some o→w.heap[k]?=some o
 le:Ro.le c.ρ ρ
 new:∀k,k<c.w.heap.size→¬c.M k→ρ k=c.ρ k
 dC:∀E∈H,E.ok ρ w
 own:∀E∈H,∀b,E.key=some b→ρ b=none∧(c.w.heap.size≤b∨c.M b)
 Hb:H.Pairwise KF
@[irreducible] def Mm (c:Ctx)(H:List ai)(w:World):Prop:=∃ρ,fN c H ρ w
theorem Mm.out {c:Ctx}{H:List ai}{w:World}(h:Mm c H w):∃ρ,fN c H ρ w:=by unfold Mm at h;exact h
theorem Mm.mk {c:Ctx}{H:List ai}{w:World}{ρ:Ro}(h:fN c H ρ w):Mm c H w:=by unfold Mm;exact⟨ρ,h⟩
theorem fN.lt {c:Ctx}{H:List ai}{ρ:Ro}{w:World}(h:fN c H ρ w){E:ai}(a:E∈H){b:Nat}(d:E.key=some b):b<w.heap.size:=E.lt (h.dC E a) d
theorem fN.AP {c:Ctx}{H:List ai}{ρ:Ro}{w:World}(h:fN c H ρ w){b:Nat}{o:Obj}(a:ρ b=some o):b<w.heap.size:=(wI.1 (h.fits b o a)).1
theorem fN.step {c:Ctx}{H1 H2 R:List ai}{ρ mY:Ro}{w w':World}(h:fN c (H1++R) ρ w)(k:fN ⟨w,ρ,j0 H1,c.dr⟩ H2 mY w'):fN c (H2++R) mY w':=by
 have hd:=qx.1 h.Hb
 have pF:∀E∈R,∀b,E.key=some b→w'.heap[b]?=w.heap[b]?:=by
  intro E a b e;refine k.AO b (h.lt (iY _ a) e) ?_;rintro ⟨j,g,l⟩;exact hd.2.2 j g E a b l e
 refine⟨k.os.trans h.os,⟨k.tape.1.trans h.tape.1,λd=>cz (h.tape.2 d) (k.tape.2 d)⟩,k.output.trans h.output,cz h.size k.size,?_,k.fits,Ro.le_trans h.le k.le,?_,?_,?_,?_⟩
 ·intro i m hm
  rw[←h.AO i m hm];refine k.AO i (fI m h.size) ?_;rintro ⟨E,a,e⟩
  rcases(h.own E (kA _ a) i e).2 with f|f
  ·omega
  ·exact hm f
 ·intro i m hm
  rw[←h.new i m hm];refine k.new i (fI m h.size) ?_;rintro ⟨E,a,e⟩
  rcases(h.own E (kA _ a) i e).2 with f|f
  ·omega
  ·exact hm f
 ·intro E a
  rcases cI.1 a with a|a
  ·exact k.dC E a
  ·exact E.loc k.le (pF E a) (h.dC E (iY _ a))
 ·intro E a b e
  rcases cI.1 a with a|a
  ·refine⟨(k.own E a b e).1,?_⟩
   rcases(k.own E a b e).2 with f|⟨j,g,f⟩
   ·exact .inl (cz h.size f)
   ·exact(h.own j (kA _ g) b f).2
  ·have h1:=h.own E (iY _ a) b e
   refine⟨?_,h1.2⟩;rw[k.new b (h.lt (iY _ a) e)]
   ·exact h1.1
   ·rintro ⟨j,g,l⟩
    exact hd.2.2 j g E a b l e
 ·refine qx.2 ⟨k.Hb,hd.2.1,?_⟩
  intro E a j g b e l
  rcases(k.own E a b e).2 with f|⟨n,o,f⟩
  ·have:=h.lt (iY _ g) l
   exact absurd this (by simpa using f)
  ·exact hd.2.2 n o j g b f l
theorem fN.perm {c:Ctx}{H H':List ai}{ρ:Ro}{w:World}(h:fN c H ρ w)(hp:H.Perm H'):fN c H' ρ w:=
 ⟨h.os,h.tape,h.output,h.size,h.AO,h.fits,h.le,h.new,λE a=>h.dC E (hp.mem_iff.2 a),λE a=>h.own E (hp.mem_iff.2 a),
  (hp.pairwise_iff λh=>h.symm).1 h.Hb⟩
theorem fN.drop {c:Ctx}{E:ai}{H:List ai}{ρ:Ro}{w:World}(h:fN c (E::H) ρ w):fN c H ρ w:=
 ⟨h.os,h.tape,h.output,h.size,h.AO,h.fits,h.le,h.new,λE a=>h.dC E (bV _ a),λE a=>h.own E (bV _ a),(fw.1 h.Hb).2⟩
theorem fN.fact {c:Ctx}{H:List ai}{ρ:Ro}{w:World}(h:fN c H ρ w)(d:dQ)(hd:d.f ρ):fN c (aD d::H) ρ w:=
 ⟨h.os,h.tape,h.output,h.size,h.AO,h.fits,h.le,h.new,λE a=>by
  rcases bT.1 a with rfl|a
  ·exact dK.2 hd
  ·exact h.dC E a,
  λE a b e=>by
   rcases bT.1 a with rfl|a
   ·rw[jS]at e;cases e
   ·exact h.own E a b e,
  fw.2 ⟨λE _ b e=>(by rw[jS]at e;cases e),h.Hb⟩⟩
theorem fN.drawn {c:Ctx}{H:List ai}{ρ:Ro}{w:World}(h:fN c H ρ w):fN c H ρ {w with drawn:=w.drawn+1}:=
 ⟨h.os,⟨h.tape.1,λd=>Nat.le_succ_of_le (h.tape.2 d)⟩,h.output,h.size,h.AO,h.fits,h.le,h.new,λE a=>E.loc (w:=w) (Ro.le_refl _) (λ_ _=>rfl) (h.dC E a),h.own,h.Hb⟩
theorem Mm.drawn (c:Ctx)(H:List ai):O7 (Mm c H):=λ_ h=>let⟨_,k⟩:=h.out;Mm.mk k.drawn
def Start (H:List ai)(ρ:Ro)(w:World):Prop:=fN ⟨w,ρ,j0 H,True⟩ H ρ w
theorem fN.start {c:Ctx}{H R:List ai}{ρ:Ro}{w:World}(h:fN c (H++R) ρ w):Start H ρ w:=
 ⟨rfl,⟨rfl,λ_=>aQ _⟩,rfl,aQ _,λ_ _ _=>rfl,h.fits,Ro.le_refl _,λ_ _ _=>rfl,λE a=>h.dC E (kA _ a),
  λE a b d=>⟨(h.own E (kA _ a) b d).1,.inr ⟨E,a,d⟩⟩,(qx.1 h.Hb).1⟩
def dR (P:Program)(f:FuncId)(args:Array Value)(pre:List ai)(post:Value→List ai→Prop):Prop:=
 ∀w ρ,Start pre ρ w→Calls P f args w λe w'=>∃v H',e= .returned v∧post v H'∧Mm ⟨w,ρ,j0 pre,True⟩ H' w'
def EP (dr:Prop)(P:Program)(f:FuncId)(args:Array Value)(pre:List ai)(post:Value→List ai→Prop):Prop:=
 ∀w ρ,Start pre ρ w→Calls P f args w λe w'=>∃v H',e= .returned v∧post v H'∧Mm ⟨w,ρ,j0 pre,dr⟩ H' w'
theorem fN.dr {a:World}{b:Ro}{M:Nat→Prop}{d c:Prop}{H:List ai}{ρ:Ro}{w:World}(h:fN ⟨a,b,M,d⟩ H ρ w)(hd:c→d):fN ⟨a,b,M,c⟩ H ρ w:=
 ⟨h.os,⟨h.tape.1,λq=>h.tape.2 (hd q)⟩,h.output,h.size,h.AO,h.fits,h.le,h.new,h.dC,h.own,h.Hb⟩
theorem Mm.dr {a:World}{b:Ro}{M:Nat→Prop}{d c:Prop}{H:List ai}{w:World}(h:Mm ⟨a,b,M,d⟩ H w)(hd:c→d):Mm ⟨a,b,M,c⟩ H w:=let⟨_,k⟩:=h.out;Mm.mk (k.dr hd)
theorem dR.gen {P:Program}{f:FuncId}{args:Array Value}{pre:List ai}{post:Value→List ai→Prop}(h:dR P f args pre post):EP True P f args pre post:=h
theorem EP.dr {d a:Prop}{P:Program}{f:FuncId}{args:Array Value}{pre:List ai}{post:Value→List ai→Prop}(h:EP d P f args pre post)(hd:a→d):EP a P f args pre post:=
 λw ρ b=>(h w ρ b).mono λ_ _ ⟨v,H',h1,c,e⟩=>⟨v,H',h1,c,e.dr hd⟩
theorem EP.mono {d:Prop}{P:Program}{f:FuncId}{args:Array Value}{pre:List ai}{post a:Value→List ai→Prop}(h:EP d P f args pre post)(hp:∀v H,post v H→a v H):EP d P f args pre a:=
 λw ρ b=>(h w ρ b).mono λ_ _ ⟨v,H',h1,c,e⟩=>⟨v,H',h1,hp v H' c,e⟩
abbrev AK:=EP False
def kC (P:Program)(f:FuncId)(args:Array Value)(ds:List dQ)(v:Value):Prop:=AK P f args (ds.map aD) λu _=>u=v
def cX (P:Program)(f:FuncId)(args:Array Value)(ds:List dQ)(v:Value):Prop:=dR P f args (ds.map aD) λu _=>u=v
theorem dR.mono {P:Program}{f:FuncId}{args:Array Value}{pre:List ai}{post a:Value→List ai→Prop}(h:dR P f args pre post)(hp:∀v H,post v H→a v H):dR P f args pre a:=
 λw ρ b=>(h w ρ b).mono λ_ _ ⟨v,H',h1,c,d⟩=>⟨v,H',h1,hp v H' c,d⟩
theorem fN.FF {c:Ctx}{H:List ai}{ρ:Ro}{w:World}(h:fN c H ρ w):∀ds:List dQ,(∀d∈ds,d.f ρ)→fN c (ds.map aD++H) ρ w
 | [],_=>h
 |d::ds,hd=>(h.FF ds λa b=>hd a (bV _ b)).fact d (hd d (aV ..))
section classes
class tH (d:dQ)(H:List ai):Prop where
 mem:aD d∈H
instance (priority:=high) tH.here (d:dQ)(H:List ai):tH d (aD d::H):=⟨aV ..⟩
instance tH.there (d:dQ)(E:ai)(H:List ai)[h:tH d H]:tH d (E::H):=⟨bV _ h.mem⟩
class kh (ds:List dQ)(H:List ai):Prop where
 mem:∀d∈ds,aD d∈H
instance kh.nil (H:List ai):kh [] H:=⟨λ_ h=>by simp at h⟩
instance kh.cons (d:dQ)(ds:List dQ)(H:List ai)[h:tH d H][k:kh ds H]:kh (d::ds) H:=
 ⟨λb a=>by rcases bT.1 a with rfl|a;exact h.mem;exact k.mem b a⟩
class BE (b:Nat)(H:List ai)(o:outParam Obj):Prop where
 mem:aU b o∈H
instance (priority:=high) BE.here (b:Nat)(o:Obj)(H:List ai):BE b (aU b o::H) o:=⟨aV ..⟩
instance BE.there (b:Nat)(o:Obj)(E:ai)(H:List ai)[h:BE b H o]:BE b (E::H) o:=⟨bV _ h.mem⟩
class mn (b:Nat)(H:List ai)(o:outParam Obj)(R:outParam (List ai)):Prop where
 perm:H.Perm (aU b o::R)
instance (priority:=high) mn.here (b:Nat)(o:Obj)(H:List ai):mn b (aU b o::H) o H:=⟨.refl _⟩
instance mn.there (b:Nat)(o:Obj)(E:ai)(H R:List ai)[h:mn b H o R]:mn b (E::H) o (E::R):=⟨(h.perm.cons E).trans (.swap ..)⟩
class jH (v:Value)(H:List ai)(e:outParam TypeId)(size n:outParam Nat)(cs:outParam (List Value))(R:outParam (List ai)):Prop where
 perm:H.Perm (row v e size n cs::R)
instance (priority:=high) jH.here (v:Value)(e:TypeId)(size n:Nat)(cs:List Value)(H:List ai):jH v (row v e size n cs::H) e size n cs H:=⟨.refl _⟩
instance jH.there (v:Value)(e:TypeId)(size n:Nat)(cs:List Value)(E:ai)(H R:List ai)[h:jH v H e size n cs R]:jH v (E::H) e size n cs (E::R):=⟨(h.perm.cons E).trans (.swap ..)⟩
class BJ (E:ai)(H:List ai)(R:outParam (List ai)):Prop where
 perm:H.Perm (E::R)
instance (priority:=high) BJ.here (E:ai)(H:List ai):BJ E (E::H) H:=⟨.refl _⟩
instance BJ.there (E a:ai)(H R:List ai)[h:BJ E H R]:BJ E (a::H) (a::R):=⟨(h.perm.cons a).trans (.swap ..)⟩
class eS (L H:List ai)(R:outParam (List ai)):Prop where
 perm:H.Perm (L++R)
instance eS.nil (H:List ai):eS [] H H:=⟨.refl _⟩
instance eS.cons (E:ai)(L H R a:List ai)[h:BJ E H R][k:eS L R a]:eS (E::L) H a:=⟨h.perm.trans (k.perm.cons E)⟩
end classes
theorem Mm.take {c:Ctx}{L H R:List ai}{w:World}[t:eS L H R](h:Mm c H w):Mm c (L++R) w:=let⟨_,k⟩:=h.out;Mm.mk (k.perm t.perm)
theorem fN.left {c:Ctx}{L R:List ai}{ρ:Ro}{w:World}(h:fN c (L++R) ρ w):fN c L ρ w:=by
 induction R generalizing L with
 |nil=>simpa using h
 |cons E R a=>exact a (h.perm sN).drop
theorem Mm.sub {c:Ctx}{L H R:List ai}{w:World}[t:eS L H R](h:Mm c H w):Mm c L w:=let⟨_,k⟩:=h.out;Mm.mk (k.perm t.perm).left
theorem Mm.fact {c:Ctx}{H:List ai}{w:World}(h:Mm c H w)(d:dQ)(hd:∀ρ,fN c H ρ w→d.f ρ):Mm c (aD d::H) w:=let⟨_,k⟩:=h.out;Mm.mk (k.fact d (hd _ k))
section
variable {P:Program}{n:Nat}{F:Fr}{c:Ctx}{H R:List ai}{Q:Exit→Act→World→Prop}{ops:Array Oper}{T:Act→World→Prop}
theorem St.fact (d:dQ)(hd:∀ρ w,fN c H ρ w→d.f ρ)(h:St n F (Mm c (aD d::H)) T):St n F (Mm c H) T:=
 h.ny λ_ hw=>hw.fact d λρ k=>hd ρ _ k
theorem St.sub (L:List ai)[t:eS L H R](h:St n F (Mm c L) T):St n F (Mm c H) T:=h.ny λ_ hw=>hw.sub
theorem St.take (L:List ai)[t:eS L H R](h:St n F (Mm c (L++R)) T):St n F (Mm c H) T:=h.ny λ_ hw=>hw.take
theorem St.YC (h:St n F (Mm c R) T):St n F (Mm c ([]++R)) T:=h
theorem St.eZ {a:ai}(h:St n F (Mm c (a::R)) T):St n F (Mm c ([a]++R)) T:=h
theorem St.mZ {a b:ai}(h:St n F (Mm c (a::b::R)) T):St n F (Mm c ([a,b]++R)) T:=h
theorem St.Tf {a b d:ai}(h:St n F (Mm c (a::b::d::R)) T):St n F (Mm c ([a,b,d]++R)) T:=h
theorem St.abB {a b d e:ai}(h:St n F (Mm c (a::b::d::e::R)) T):St n F (Mm c ([a,b,d,e]++R)) T:=h
def Do (P:Program)(n:Nat)(F:Fr)(c:Ctx)(H:List ai)(op:Op)(ty:TypeId)(K:Value→List ai→Prop):Prop:=
 ∀a w ρ,Has n a F→fN c H ρ w→∃v w' mY H',(execOp a.eval (bare op ty)).run P w= .ok v w'∧(∃u,(v= .value u∨(v= .skip∧u=undef))∧K u H')∧fN c H' mY w'
theorem Do.wp {op:Op}{ty:TypeId}{K:Value→List ai→Prop}(h:Do P n F c H op ty K){d:Option Tmp}{pos:String}{after:Array Edge}{g:Option (Nat×Bool)}{a:Act}{w:World}
 (i:Has n a F) (hw:Mm c H w) {J:Act→World→Prop} (hk:∀u H' w',K u H'→Mm c H' w'→J (a.put d u) w'):
 ({dst:=d,op:=op,type:=ty,pos:=pos,after:=after,guard:=g}:Oper).wp P a w J Q:=by
 obtain⟨ρ,hm⟩:=hw.out;obtain⟨v,w',mY,H',b,⟨u,j,e⟩,f⟩:=h a w ρ i hm;unfold Oper.wp Oper.upon;rw[iR]
 simp only at b⊢
 rw[b]
 rcases j with rfl|⟨rfl,rfl⟩
 ·exact hk _ _ _ e (Mm.mk f)
 ·exact hk _ _ _ e (Mm.mk f)
theorem St.PS {d:Nat}{op:Op}{ty:TypeId}{pos:String}{after:Array Edge}{rest:List Oper}{K:Value→List ai→Prop}(b:Do P n F c H op ty K)(hd:Nat.ble (d+1) n=true)
 (h:∀v H',K v H'→St n ((d,v)::F) (Mm c H') (wpList P ops Q rest)):
 St n F (Mm c H) (wpList P ops Q ({dst:=some d,op:=op,type:=ty,pos:=pos,after:=after,guard:=none}::rest)):=
 λ_ _ a hw=>gT rfl (b.wp a hw λu H' w' e f=>h u H' e _ w' (a.put (eI hd) u) f)
theorem St.p9 {op:Op}{ty:TypeId}{pos:String}{after:Array Edge}{rest:List Oper}{K:Value→List ai→Prop}(b:Do P n F c H op ty K)
 (h:∀v H',K v H'→St n F (Mm c H') (wpList P ops Q rest)):
 St n F (Mm c H) (wpList P ops Q ({dst:=none,op:=op,type:=ty,pos:=pos,after:=after,guard:=none}::rest)):=
 λ_ _ a hw=>gT rfl (b.wp a hw λu H' w' d e=>h u H' d _ w' (a.R8 u) e)
end
def rM:Nat→List Value→Fr
 |_,[]=>[]
 |k,v::vs=>(k,v)::rM (k+1) vs
theorem vB {t:Nat}{v:Value}:∀(l:List Value) (i:Nat),look (rM i l) t=some v→i≤t∧l[t-i]?=some v
 | [],i,h=>by simp[rM,look]at h
 |x::l,i,h=>by
  simp only[rM,look]at h
  cases a:Nat.beq t i with
  |true=>
   have e:t=i:=xC a
   subst e
   simp only[a,cond_true,Option.some.injEq]at h
   subst h
   simp
  |false=>
   have e:t≠i:=Nat.ne_of_beq_eq_false a
   simp only[a,cond_false]at h
   obtain⟨h1,b⟩:=vB l (i+1) h;refine⟨by omega,?_⟩
   have:t-i=(t-(i+1))+1:=by omega
   rw[this,CZ];exact b
theorem dR.body {P:Program}{f:FuncId}{fn:Func}{cd:Code}{args:List Value}{pre:List ai}{post:Value→List ai→Prop}(n:Nat)
 (b:P.funcs[f]?=some fn) (d:fn.body=some cd) (g:fn.ntmps=n) (i:Nat.ble args.length n=true)
 (h:∀c:Ctx,St n (rM 0 args) (Mm c pre) (cd.wp P (bodyPost P fn λe w'=>∃v H',e= .returned v∧post v H'∧Mm c H' w'))):
 dR P f args.toArray pre post:=by
 intro w ρ j;refine calls_of_wp b d (h ⟨w,ρ,j0 pre,True⟩ _ w ⟨?_,rfl,?_⟩ (Mm.mk j))
 ·have:=eI i
  simp[g]
  omega
 ·intro t v ht
  obtain⟨_,a⟩:=vB args 0 ht
  simp only[Nat.sub_zero]at a
  have k:t<args.length:=(eh.1 a).1
  simp only[List.size_toArray,Array.getElem?_append,k,if_true]
  simpa using a
theorem AK.body {P:Program}{f:FuncId}{fn:Func}{cd:Code}{args:List Value}{pre:List ai}{post:Value→List ai→Prop}(n:Nat)
 (b:P.funcs[f]?=some fn) (d:fn.body=some cd) (g:fn.ntmps=n) (i:Nat.ble args.length n=true)
 (h:∀c:Ctx,¬c.dr→St n (rM 0 args) (Mm c pre) (cd.wp P (bodyPost P fn λe w'=>∃v H',e= .returned v∧post v H'∧Mm c H' w'))):
 AK P f args.toArray pre post:=by
 intro w ρ j;refine calls_of_wp b d (h ⟨w,ρ,j0 pre,False⟩ (λh=>h) _ w ⟨?_,rfl,?_⟩ (Mm.mk (j.dr λh=>h.elim)))
 ·have:=eI i
  simp[g]
  omega
 ·intro t v ht
  obtain⟨_,a⟩:=vB args 0 ht
  simp only[Nat.sub_zero]at a
  have k:t<args.length:=(eh.1 a).1
  simp only[List.size_toArray,Array.getElem?_append,k,if_true]
  simpa using a
theorem kC.body {P:Program}{f:FuncId}{fn:Func}{cd:Code}{args:List Value}{u:Value}{ds:List dQ}(n:Nat)
 (a:P.funcs[f]?=some fn) (b:fn.body=some cd) (d:fn.ntmps=n) (g:Nat.ble args.length n=true)
 (h:∀c:Ctx,¬c.dr→St n (rM 0 args) (Mm c (ds.map aD)) (cd.wp P (bodyPost P fn λe w'=>∃v H',e= .returned v∧v=u∧Mm c H' w'))):kC P f args.toArray ds u:=AK.body n a b d g h
theorem cX.l5 {P:Program}{f:FuncId}{fn:Func}{cd:Code}{args:List Value}{u:Value}(n:Nat)
 (a:P.funcs[f]?=some fn) (b:fn.body=some cd) (d:fn.ntmps=n) (g:Nat.ble args.length n=true)
 (h:∀c:Ctx,St n (rM 0 args) (Mm c []) (cd.wp P (bodyPost P fn λe w'=>∃v H',e= .returned v∧v=u∧Mm c H' w'))):cX P f args.toArray [] u:=dR.body n a b d g h
theorem cX.l6 {P:Program}{f:FuncId}{fn:Func}{cd:Code}{args:List Value}{u:Value}{d1:dQ}(n:Nat)
 (a:P.funcs[f]?=some fn) (b:fn.body=some cd) (d:fn.ntmps=n) (g:Nat.ble args.length n=true)
 (h:∀c:Ctx,St n (rM 0 args) (Mm c [aD d1]) (cd.wp P (bodyPost P fn λe w'=>∃v H',e= .returned v∧v=u∧Mm c H' w'))):cX P f args.toArray [d1] u:=dR.body n a b d g h
theorem cX.lj {P:Program}{f:FuncId}{fn:Func}{cd:Code}{args:List Value}{u:Value}{d1 d2:dQ}(n:Nat)
 (a:P.funcs[f]?=some fn) (b:fn.body=some cd) (d:fn.ntmps=n) (g:Nat.ble args.length n=true)
 (h:∀c:Ctx,St n (rM 0 args) (Mm c [aD d1,aD d2]) (cd.wp P (bodyPost P fn λe w'=>∃v H',e= .returned v∧v=u∧Mm c H' w'))):cX P f args.toArray [d1,d2] u:=dR.body n a b d g h
theorem cX.abH {P:Program}{f:FuncId}{fn:Func}{cd:Code}{args:List Value}{u:Value}{d1 d2 d3:dQ}(n:Nat)
 (a:P.funcs[f]?=some fn) (b:fn.body=some cd) (d:fn.ntmps=n) (g:Nat.ble args.length n=true)
 (h:∀c:Ctx,St n (rM 0 args) (Mm c [aD d1,aD d2,aD d3]) (cd.wp P (bodyPost P fn λe w'=>∃v H',e= .returned v∧v=u∧Mm c H' w'))):cX P f args.toArray [d1,d2,d3] u:=dR.body n a b d g h
theorem cX.BN {P:Program}{f:FuncId}{fn:Func}{cd:Code}{args:List Value}{u:Value}{d1 d2 d3 d4:dQ}(n:Nat)
 (a:P.funcs[f]?=some fn) (b:fn.body=some cd) (d:fn.ntmps=n) (g:Nat.ble args.length n=true)
 (h:∀c:Ctx,St n (rM 0 args) (Mm c [aD d1,aD d2,aD d3,aD d4]) (cd.wp P (bodyPost P fn λe w'=>∃v H',e= .returned v∧v=u∧Mm c H' w'))):cX P f args.toArray [d1,d2,d3,d4] u:=dR.body n a b d g h
theorem cX.Ol {P:Program}{f:FuncId}{fn:Func}{cd:Code}{args:List Value}{u:Value}{d1:dQ}{ds:List dQ}(n:Nat)
 (a:P.funcs[f]?=some fn) (b:fn.body=some cd) (d:fn.ntmps=n) (g:Nat.ble args.length n=true)
 (h:∀c:Ctx,St n (rM 0 args) (Mm c (aD d1::ds.map aD)) (cd.wp P (bodyPost P fn λe w'=>∃v H',e= .returned v∧v=u∧Mm c H' w'))):cX P f args.toArray (d1::ds) u:=dR.body n a b d g h
theorem dR.Om {P:Program}{f:FuncId}{fn:Func}{cd:Code}{args:List Value}{post:Value→List ai→Prop}{d1:dQ}(n:Nat)
 (a:P.funcs[f]?=some fn) (b:fn.body=some cd) (d:fn.ntmps=n) (g:Nat.ble args.length n=true)
 (h:∀c:Ctx,St n (rM 0 args) (Mm c [aD d1]) (cd.wp P (bodyPost P fn λe w'=>∃v H',e= .returned v∧post v H'∧Mm c H' w'))):dR P f args.toArray ([d1].map aD) post:=dR.body n a b d g h
theorem Sub.nil {F:Fr}:Sub [] F:=trivial
theorem Sub.cons {F a:Fr}{k:Nat}{v:Value}(h:J.look F k=some v)(b:Sub a F):Sub ((k,v)::a) F:=⟨h,b⟩
def RV (P:Program)(F:Fr)(H:List ai):ResultVar→Value→Prop
 | .tmp t,v=>look F t=some v
 | .cell t ty,v=>∃b C e fr,look F t=some (.pointer (some ⟨b,0,none⟩))∧aU b (.cells C e fr)∈H∧
  ((∃a,P.underlying ty=some (.struct a))∧(P.info? ty).map (·.size)=some C.size∧v= .agg C∨
   (match P.underlying ty with|some (.struct _)|some (.array _ _)|none=>False|some _=>True)∧C[0]?=some v)
theorem cG {w:World}{b off:Nat}{C:Array Value}{e:TypeId}{fr:Nat×Nat}(h:w.heap[b]?=some (.cells C e fr)):w.cell? ⟨b,off,none⟩=C[off]?:=by
 simp[World.cell?,h]
theorem eB {P:Program}{w:World}{ty:TypeId}{b off:Nat}{L:List Value}{d:TypeDesc}(hd:P.underlying ty=some d)(hk:(match d with| .struct _| .array _ _=>True|_=>False))
 (a:(P.info? ty).map (·.size)=some L.length) (c:∀j v,L[j]?=some v→w.cell? ⟨b,off+j,none⟩=some v):(loadVar ty ⟨b,off,none⟩).run P w= .ok (.agg L.toArray) w:=by
 obtain⟨i,e,f⟩:=dX.1 a
 have h1:=run_loadCells_list (P:=P) w ⟨b,off,none⟩ L (λj v h=>by rw[Addr.add_lit];exact c j v h)
 have g:(isAgg ty).run P w= .ok true w:=by
  cases d<;>simp at hk<;>simp[isAgg,run_underlying hd]
 simp[loadVar,g,sizeOf,typeInfo,e,f,h1]
theorem eo {P:Program}{w:World}{ty:TypeId}{a:Addr}{v:Value}{d:TypeDesc}(hd:P.underlying ty=some d)(hk:(match d with| .struct _| .array _ _=>False|_=>True))
 (b:w.cell? a=some v):(loadVar ty a).run P w= .ok v w:=by
 have c:(isAgg ty).run P w= .ok false w:=by
  cases d<;>simp at hk<;>simp[isAgg,run_underlying hd]
 simp[loadVar,c,b]
def Gf (a:Act):ResultVar→Sem Value
 | .tmp t=>pure (a.tmps.getD t undef)
 | .cell t ty=>do loadVar ty (←asAddr (a.tmps.getD t undef))
theorem RV.run {P:Program}{n:Nat}{F:Fr}{H:List ai}{r:ResultVar}{v:Value}(h:RV P F H r v){a:Act}(i:Has n a F){c:Ctx}{w:World}(hw:Mm c H w):
 (Gf a r).run P w= .ok v w:=by
 obtain⟨ρ,hm⟩:=hw.out
 cases r with
 |tmp t=>simp[RV]at h;simp[Gf,Array.getD_eq_getD_getElem?,i.slot _ _ h]
 |cell t ty=>
  obtain⟨b,C,e,fr,h1,l,m⟩:=h
  have o:=fz.1 (hm.dC _ l)
  have k:∀off,w.cell? ⟨b,off,none⟩=C[off]?:=λoff=>cG o
  have ht:=i.slot _ _ h1
  simp only[Gf,Array.getD_eq_getD_getElem?,ht,Option.getD_some,asAddr,Sem.run_bind,Sem.run_pure,Result.andThen_ok]
  rcases m with⟨⟨q,f⟩,g,rfl⟩|⟨f,g⟩
  ·have:=eB (P:=P) (w:=w) (ty:=ty) (b:=b) (off:=0) (L:=C.toList) f trivial (by simpa using g) (λj v p=>by rw[k,Nat.zero_add];simpa using p)
   simpa using this
  ·cases hd:P.underlying ty with
   |none=>rw[hd]at f;exact f.elim
   |some d=>rw[hd]at f;exact eo hd (by cases d<;>simp_all) (by rw[k];exact g)
def TZ (P:Program)(F:Fr)(H:List ai):List ResultVar→List Value→Prop
 | [],[]=>True
 |r::rs,v::vs=>RV P F H r v∧TZ P F H rs vs
 |_,_=>False
theorem TZ.run {P:Program}{n:Nat}{F:Fr}{H:List ai}{a:Act}(b:Has n a F){c:Ctx}{w:World}(hw:Mm c H w):∀{rs:List ResultVar} {vs:List Value},TZ P F H rs vs→
 (rs.mapM (Gf a)).run P w= .ok vs w
 | [],[],_=>by simp
 |r::rs,v::vs,h=>by
  have h1:=RV.run h.1 b hw
  have d:=TZ.run b hw h.2
  simp only[List.mapM_cons,Sem.run_bind,h1,Result.andThen_ok,d,Sem.run_pure]
def GZ:List Value→Value
 | [v]=>v
 |vs=> .tuple vs.toArray
theorem JW (fn:Func)(a:Act):results fn a.tmps=(fn.results.mapM (Gf a)>>=λvs=>pure (if h:vs.size=1 then vs[0]else .tuple vs)):=by
 unfold results
 congr 2
theorem St.JX {P:Program}{n:Nat}{F:Fr}{c:Ctx}{H:List ai}{fn:Func}{post:Value→List ai→Prop}{b:List ResultVar}(vs:List Value)(H':List ai)
 (f:fn.results=b.toArray) (g:TZ P F H b vs) (hp:post (GZ vs) H') (hH:∀w,Mm c H w→Mm c H' w):
 St n F (Mm c H) (bodyPost P fn (λe w'=>∃v H',e= .returned v∧post v H'∧Mm c H' w') .ret):=by
 intro a w d hw;refine⟨d.defers,_,?_,_,H',rfl,hp,hH w hw⟩
 have h:=TZ.run d hw g
 rw[JW,f]
 simp only[List.mapM_toArray,Sem.run_bind,Sem.run_map,h,Result.andThen_ok,Sem.run_pure]
 congr 1
 cases vs with
 |nil=>rfl
 |cons v vs=>cases vs<;>rfl
theorem St.fL {P:Program}{n:Nat}{F:Fr}{c:Ctx}{H:List ai}{fn:Func}{R:Ending→World→Prop}
 (h:St n F (Mm c H) (bodyPost P fn R .ret)):St n F (Mm c H) (bodyPost P fn R .normal):=h
abbrev ab:=List UInt8
abbrev sv (l:ab):Value:= .string ⟨l.toArray⟩
abbrev iv (n:Int):Value:= .int .i64 n
structure Rp (α:Type) where
 size:Nat
 pos:0<size
 cells:α→List Value
 wf:α→Prop
 len:∀x,(cells x).length=size
 one:∀x,∀u∈cells x,u.oneCell'=true
def bR (n:Int):Prop:= -9223372036854775808≤n∧n≤9223372036854775807
def aI:Rp Int:=⟨1,by decide,λx=>[.int .i64 x],bR,λ_=>rfl,λ_ u h=>by simp at h;subst h;rfl⟩
def bZ:Rp ab:=⟨1,by decide,λx=>[sv x],λx=>x.length≤140737488351232,λ_=>rfl,λ_ u h=>by simp at h;subst h;rfl⟩
def e7:Rp Bool:=⟨1,by decide,λx=>[.bool x],λ_=>True,λ_=>rfl,λ_ u h=>by simp at h;subst h;rfl⟩
def bU:Rp {v:Value//v.oneCell'=true}:=⟨1,by decide,λx=>[x.1],λ_=>True,λ_=>rfl,λx u h=>by simp at h;subst h;exact x.2⟩
def rows {α:Type}(R:Rp α)(xs:List α):List Value:=xs.flatMap R.cells
theorem fM {α:Type}(R:Rp α)(xs:List α):(rows R xs).length=xs.length*R.size:=by
 induction xs with
 |nil=>simp[rows]
 |cons x xs a=>simp only[rows,List.flatMap_cons,List.length_append,R.len,List.length_cons,Nat.add_mul]at a⊢;omega
theorem eP {α:Type}(R:Rp α):∀(xs:List α) (k j:Nat) (x:α),xs[k]?=some x→j<R.size→(rows R xs)[k*R.size+j]?=(R.cells x)[j]?
 | [],_,_,_,h,_=>by simp at h
 |y::xs,0,j,x,h,a=>by
  simp only[List.getElem?_cons_zero,Option.some.injEq]at h
  subst h
  simp only[rows,List.flatMap_cons,Nat.zero_mul,Nat.zero_add]
  rw[oh (by rw[R.len];exact a)]
 |y::xs,k+1,j,x,h,a=>by
  simp only[List.getElem?_cons_succ]at h
  have b:=eP R xs k j x h a
  simp only[rows,List.flatMap_cons]at b⊢
  rw[jM (by rw[R.len,ji];omega),R.len]
  have e:(k+1)*R.size+j-R.size=k*R.size+j:=by rw[ji];omega
  rw[e];exact b
def sl {α:Type}(R:Rp α)(v:Value)(xs:List α):dQ where
 f ρ:=∃a cap,v= .slice a xs.length cap∧xs.length≤cap∧cap≤maxLen∧(∀x∈xs,R.wf x)∧
  (xs=[]∨∃b off C e fr,a=some ⟨b,off,none⟩∧ρ b=some (.cells C e fr)∧∀j u,(rows R xs)[j]?=some u→C[off+j]?=some u)
 mono ρ mY h:=by
  rintro ⟨a,cap,h1,d,g,i,c⟩;refine⟨a,cap,h1,d,g,i,?_⟩
  rcases c with c|⟨b,off,C,e,fr,k,l,m⟩
  ·exact .inl c
  ·exact .inr ⟨b,off,C,e,fr,k,h _ _ l,m⟩
class sP (v:Value)(H:List ai)(α:outParam Type)(R:outParam (Rp α))(xs:outParam (List α)):Prop where
 mem:aD (sl R v xs)∈H
instance (priority:=high) sP.here {α:Type}(v:Value)(R:Rp α)(xs:List α)(H:List ai):sP v (aD (sl R v xs)::H) α R xs:=⟨aV ..⟩
instance sP.there {α:Type}(v:Value)(R:Rp α)(xs:List α)(E:ai)(H:List ai)[h:sP v H α R xs]:sP v (E::H) α R xs:=⟨bV _ h.mem⟩
class gX {α:Type}(R:Rp α)(x:α)(L:outParam (List Value)):Prop where
 eq:R.cells x=L
@[irreducible] def gx (v:Value)(size k off:Nat):Value:=
 match v with
 | .slice (some a) _ _=> .pointer (some (a.add (k*size+off)))
 |_=>undef
theorem dY (b o n c size k off:Nat):gx (.slice (some ⟨b,o,none⟩) n c) size k off= .pointer (some ⟨b,o+(k*size+off),none⟩):=by
 unfold gx;simp only[Addr.add_lit]
section
variable {P:Program}{n:Nat}{F:Fr}{A:World→Prop}{c:Ctx}{H:List ai}{ty:TypeId}{x y z:Operand}{v:Value}
theorem Ev.of_run {op:Op}(h:∀a w,Has n a F→A w→(execOp a.eval (bare op ty)).run P w= .ok (.value v) w):Ev P n F A op ty v:=
 λa w b hw=>by rw[h a w b hw];exact⟨rfl,rfl⟩
theorem Ev.move (hx:aX F x v):Ev P n F A (.move x) ty v:= .of_run λa w b _=>by simp[execOp,hx.eval b]
theorem Ev.assign (hx:aX F x v):Ev P n F A (.assign x) ty v:= .of_run λa w b _=>by simp[execOp,hx.eval b]
theorem Ev.and {p q:Bool}(hx:aX F x (.bool p))(hy:p=true→aX F y (.bool q)):Ev P n F A (.pick x y (.const (.bool false))) ty (.bool (p&&q)):= .of_run λa w b _=>by
 cases p with
 |true=>simp only[execOp,hx.eval b,(hy rfl).eval b];simp[asBool]
 |false=>simp only[execOp,hx.eval b];simp[asBool,Act.eval]
theorem Ev.or {p q:Bool}(hx:aX F x (.bool p))(hy:(!p)=true→aX F y (.bool q)):Ev P n F A (.pick x (.const (.bool true)) y) ty (.bool (p||q)):= .of_run λa w b _=>by
 cases p with
 |true=>simp only[execOp,hx.eval b];simp[asBool,Act.eval]
 |false=>simp only[execOp,hx.eval b,(hy rfl).eval b];simp[asBool]
theorem Ev.not {p:Bool}(hx:aX F x (.bool p)){t:TypeId}:Ev P n F A (.unOp .not t x) ty (.bool (!p)):= .of_run λa w b _=>by
 simp[execOp,hx.eval b,Op.unary]
section ints
variable {k:IntKind}{i j:Int}{t u:TypeId}
theorem Ev.lss (hx:aX F x (.int k i))(hy:aX F y (.int k j)):Ev P n F A (.binOp .lss t x y u) ty (.bool (decide (i<j))):= .of_run λa w ha _=>by simp only[execOp,hx.eval ha,hy.eval ha];simp[go_sem]
theorem Ev.leq (hx:aX F x (.int k i))(hy:aX F y (.int k j)):Ev P n F A (.binOp .leq t x y u) ty (.bool (decide (i≤j))):= .of_run λa w ha _=>by simp only[execOp,hx.eval ha,hy.eval ha];simp[go_sem]
theorem Ev.gtr (hx:aX F x (.int k i))(hy:aX F y (.int k j)):Ev P n F A (.binOp .gtr t x y u) ty (.bool (decide (j<i))):= .of_run λa w ha _=>by simp only[execOp,hx.eval ha,hy.eval ha];simp[go_sem]
theorem Ev.geq (hx:aX F x (.int k i))(hy:aX F y (.int k j)):Ev P n F A (.binOp .geq t x y u) ty (.bool (decide (j≤i))):= .of_run λa w ha _=>by simp only[execOp,hx.eval ha,hy.eval ha];simp[go_sem]
theorem Ev.eql (hx:aX F x (.int k i))(hy:aX F y (.int k j)):Ev P n F A (.binOp .eql t x y u) ty (.bool (decide (i=j))):= .of_run λa w ha _=>by
 simp only[execOp,hx.eval ha,hy.eval ha];simp[go_sem]
 rfl
theorem Ev.neq (hx:aX F x (.int k i))(hy:aX F y (.int k j)):Ev P n F A (.binOp .neq t x y u) ty (.bool (!decide (i=j))):= .of_run λa w ha _=>by
 simp only[execOp,hx.eval ha,hy.eval ha];simp[go_sem]
 rfl
theorem Ev.aa7 (hx:aX F x (.int k i))(hy:aX F y (.int k j)):Ev P n F A (.binOp .add t x y u) ty (.int k (k.wrap (i+j))):= .of_run λa w ha _=>by simp only[execOp,hx.eval ha,hy.eval ha];simp[go_sem,Op.intArith]
theorem Ev.ajL (hx:aX F x (.int k i))(hy:aX F y (.int k j)):Ev P n F A (.binOp .sub t x y u) ty (.int k (k.wrap (i-j))):= .of_run λa w ha _=>by simp only[execOp,hx.eval ha,hy.eval ha];simp[go_sem,Op.intArith]
theorem Ev.ai9 (hx:aX F x (.int k i))(hy:aX F y (.int k j)):Ev P n F A (.binOp .mul t x y u) ty (.int k (k.wrap (i*j))):= .of_run λa w ha _=>by simp only[execOp,hx.eval ha,hy.eval ha];simp[go_sem,Op.intArith]
theorem uj {i:Int}(h: -9223372036854775808≤i∧i≤9223372036854775807):IntKind.i64.wrap i=i:=by
 simp only[IntKind.wrap,IntKind.bits,IntKind.signed]
 simp
 omega
theorem Ev.add (hx:aX F x (iv i))(hy:aX F y (iv j))(h: -9223372036854775808≤i+j∧i+j≤9223372036854775807):Ev P n F A (.binOp .add t x y u) ty (iv (i+j)):=by
 have:=Ev.aa7 (P:=P) (n:=n) (A:=A) (ty:=ty) (t:=t) (u:=u) hx hy;rwa[uj h]at this
theorem Ev.sub (hx:aX F x (iv i))(hy:aX F y (iv j))(h: -9223372036854775808≤i-j∧i-j≤9223372036854775807):Ev P n F A (.binOp .sub t x y u) ty (iv (i-j)):=by
 have:=Ev.ajL (P:=P) (n:=n) (A:=A) (ty:=ty) (t:=t) (u:=u) hx hy;rwa[uj h]at this
theorem Ev.mul (hx:aX F x (iv i))(hy:aX F y (iv j))(h: -9223372036854775808≤i*j∧i*j≤9223372036854775807):Ev P n F A (.binOp .mul t x y u) ty (iv (i*j)):=by
 have:=Ev.ai9 (P:=P) (n:=n) (A:=A) (ty:=ty) (t:=t) (u:=u) hx hy;rwa[uj h]at this
theorem Ev.ajI (hx:aX F x (.int k i))(hy:aX F y (.int k j))(h:j≠0):Ev P n F A (.binOp .quo t x y u) ty (.int k (k.wrap (i.tdiv j))):= .of_run λa w ha _=>by simp only[execOp,hx.eval ha,hy.eval ha];simp[go_sem,Op.intDiv,h]
theorem Ev.ajK {k':IntKind}(hx:aX F x (.int k i))(hy:aX F y (.int k' j))(h:0≤j):Ev P n F A (.binOp .shl t x y u) ty (.int k (k.wrap (i*2^(min j.toNat k.bits)))):= .of_run λa w ha _=>by
 simp only[execOp,hx.eval ha,hy.eval ha];simp[go_sem,Op.shift,Int.not_lt.2 h]
theorem Ev.shr {k':IntKind}(hx:aX F x (.int k i))(hy:aX F y (.int k' j))(h:0≤j):Ev P n F A (.binOp .shr t x y u) ty (.int k (i.fdiv (2^(min j.toNat k.bits)))):= .of_run λa w ha _=>by
 simp only[execOp,hx.eval ha,hy.eval ha];simp[go_sem,Op.shift,Int.not_lt.2 h]
theorem Ev.tZ {b:IntKind}{s d:TypeId}(hx:aX F x (.int k i))(c:(P.underlying s).isSome=true)(hd:P.underlying d=some (.int b)):Ev P n F A (.convert s d x) ty (.int b (b.wrap i)):= .of_run λa w e _=>by
 obtain⟨d0,f⟩:=Option.isSome_iff_exists.mp c
 simp[execOp,hx.eval e,convert,run_underlying f,run_underlying hd,Conv.intToInt]
end ints
section strings
variable {s r:ab}{t u:TypeId}
theorem Ev.Gy (hx:aX F x (sv s))(hy:aX F y (sv r)):Ev P n F A (.binOp .eql t x y u) ty (.bool (s==r)):= .of_run λa w ha _=>by simp only[execOp,hx.eval ha,hy.eval ha];simp[go_sem]
theorem Ev.Xc (hx:aX F x (sv s))(hy:aX F y (sv r)):Ev P n F A (.binOp .neq t x y u) ty (.bool (!(s==r))):= .of_run λa w ha _=>by simp only[execOp,hx.eval ha,hy.eval ha];simp[go_sem]
theorem Ev.Zu (hx:aX F x (sv s))(hy:aX F y (sv r)):Ev P n F A (.binOp .lss t x y u) ty (.bool (Op.bytesLess s r)):= .of_run λa w ha _=>by simp only[execOp,hx.eval ha,hy.eval ha];simp[go_sem]
theorem Ev.QI {o:TypeId}(hx:aX F x (sv s))(ht:P.underlying o=some .string):Ev P n F A (.call {callee:= .builtin .len,args:= #[x],argTypes:= #[o]}) ty (iv s.length):= .of_run λa w b _=>by
 have h1:=run_len_string (P:=P) w o ty ⟨s.toArray⟩ ht
 simp[execOp,resolve,invoke,builtin,hx.eval b,h1,goInt,ByteArray.size]
theorem Ev.Z6 {k:Nat}{i:Int}{b:UInt8}(hx:aX F x (sv s))(hy:aX F y (iv i))(ht:P.underlying t=some .string)(e:i=k)(c:s[k]?=some b):
 Ev P n F A (.index t x y) ty (.int .u8 b.toNat):= .of_run λa w d _=>by
 subst e
 have f:k<(⟨s.toArray⟩:ByteArray).size:=by simpa[ByteArray.size]using (eh.1 c).1
 have h1:(⟨s.toArray⟩:ByteArray)[k]?=some b:=by
  rw[ByteArray.getElem?_lt' _ _ f]
  have:=(eh.1 c).2
  simpa[ByteArray.getElem_eq_getElem_data]using this
 simp[execOp,hx.eval d,hy.eval d,Instr.index,asIntOf,run_underlying ht,h1]
theorem Ev.Dh {k:Nat}{i:Int}(hx:aX F x (sv s))(hy:aX F y (iv i))(ht:P.underlying t=some .string)(a:i=k)(b:k<s.length):
 Ev P n F A (.index t x y) ty (.int .u8 (s.getD k 0).toNat):=Ev.Z6 hx hy ht a (by simp[List.getD_eq_getElem?_getD,List.getElem?_eq_getElem b])
theorem Ev.extract {vs:List Value}{i:Nat}(hx:aX F x (.tuple vs.toArray))(b:vs[i]?=some v):Ev P n F A (.extract x i) ty v:= .of_run λa w c _=>by
 simp[execOp,hx.eval c,Instr.extract,b]
end strings
section slices
variable {α:Type}{R:Rp α}{xs:List α}{t:TypeId}
theorem fN.aD {H:List ai}{ρ:Ro}{w:World}{d:dQ}(h:fN c H ρ w)(hd:tH d H):d.f ρ:=dK.1 (h.dC _ hd.mem)
theorem fN.sl {H:List ai}{ρ:Ro}{w:World}(h:fN c H ρ w)(hd:sP v H α R xs):(J.sl R v xs).f ρ:=dK.1 (h.dC _ hd.mem)
theorem Ev.eu {e:TypeId}[hd:sP v H α R xs](hx:aX F x v)(ht:P.underlying t=some (.slice e)):
 Ev P n F (Mm c H) (.call {callee:= .builtin .len,args:= #[x],argTypes:= #[t]}) ty (iv xs.length):= .of_run λa w b hw=>by
 obtain⟨ρ,hm⟩:=hw.out;obtain⟨ad,cap,rfl,_⟩:=hm.sl hd
 simp[execOp,resolve,invoke,builtin,hx.eval b,Builtin.len_,run_underlying ht,goInt]
theorem Ev.cM {e:TypeId}{k:Nat}{i:Int}{kd:IntKind}[hd:sP v H α R xs](hx:aX F x v)(hy:aX F y (.int kd i))(ht:P.underlying t=some (.slice e))(f:(P.info? e).map (·.size)=some R.size)
 (g:i=k) (hk:k<xs.length):Ev P n F (Mm c H) (.indexAddr t x y) ty (gx v R.size k 0):= .of_run λa w d hw=>by
 obtain⟨ρ,hm⟩:=hw.out;obtain⟨ad,cap,rfl,_,_,_,h⟩:=hm.sl hd
 rcases h with rfl|⟨b,off,C,m,fr,rfl,o,p⟩
 ·simp at hk
 ·obtain⟨inf,j,l⟩:=dX.1 f
  subst g
  simp[execOp,hx.eval d,hy.eval d,Instr.indexAt,asIntOf,run_underlying ht,sizeOf,typeInfo,j,l,hk,dY,Addr.add_lit]
theorem E7 {H:List ai}{ρ:Ro}{w:World}(hm:fN c H ρ w)(hd:sP v H α R xs){k off:Nat}{x:α}(hk:xs[k]?=some x):
 ∃b o,gx v R.size k off= .pointer (some ⟨b,o,none⟩)∧∀j,off+j<R.size→w.cell? ⟨b,o+j,none⟩=(R.cells x)[off+j]?:=by
 obtain⟨ad,cap,rfl,_,_,_,e⟩:=hm.sl hd
 rcases e with rfl|⟨b,o,C,i,fr,rfl,f,g⟩
 ·simp at hk
 ·refine⟨b,_,dY ..,λj a=> ?_⟩
  have d:=eP R xs k (off+j) x hk a
  rw[cG (hm.fits _ _ f)]
  have h:off+j<(R.cells x).length:=by rw[R.len];exact a
  rw[aj h]at d⊢;rw[show o+(k*R.size+off)+j=o+(k*R.size+(off+j)) by omega];exact g _ _ d
theorem dm {β:Type}(d:β){l:List β}{k:Nat}(h:k<l.length):l[k]?=some (l.getD k d):=by rw[aZ,aj h];rfl
theorem Ev.ld1 {k off:Nat}{e:α}{d:TypeDesc}{u:Value}[hd:sP v H α R xs](hx:aX F x (gx v R.size k off))(hk:xs[k]?=some e)(ht:P.underlying t=some d)(g:(match d with| .struct _| .array _ _=>False|_=>True))
 (hu:(R.cells e)[off]?=some u):Ev P n F (Mm c H) (.load t x) ty u:= .of_run λa w h hw=>by
 obtain⟨ρ,hm⟩:=hw.out
 have i:off<R.size:=by have:=(eh.1 hu).1;rwa[R.len]at this
 obtain⟨b,o,h1,j⟩:=E7 hm hd hk
 have f:=j 0 (by simpa using i)
 simp only[Nat.add_zero]at f
 rw[h1]at hx
 simp[execOp,hx.eval h,Instr.loadAt,Instr.sureAddr,eo ht g (f.trans hu)]
theorem Ev.j2 {k:Nat}{e:α}{d:TypeDesc}{L:List Value}[hd:sP v H α R xs](hx:aX F x (gx v R.size k 0))(hk:xs[k]?=some e)(ht:P.underlying t=some d)(g:(match d with| .struct _| .array _ _=>True|_=>False))
 (h:(P.info? t).map (·.size)=some R.size) (i:R.cells e=L):Ev P n F (Mm c H) (.load t x) ty (.agg L.toArray):= .of_run λa w l hw=>by
 obtain⟨ρ,hm⟩:=hw.out;obtain⟨b,o,h1,m⟩:=E7 hm hd hk (off:=0);subst i;rw[h1]at hx
 have p:=eB (P:=P) (w:=w) (b:=b) (off:=o) (L:=R.cells e) ht g (by rw[h,R.len]) (λj u f=>by
  have q:=(eh.1 f).1
  rw[R.len]at q
  have:=m j (by omega)
  rw[iW]at this
  rw[this];exact f)
 simp[execOp,hx.eval l,Instr.loadAt,Instr.sureAddr,p]
def bE (P:Program)(s i:Nat):Option Nat:=
 match P.underlying s with
 |some (.struct a)=>match a[i]? with
  |some f=>match P.info? f.type with
   |some inf=>if inf.size=0 then none else some f.offset
   |none=>none
  |none=>none
 |_=>none
theorem nF {w:World}{s i o:Nat}{ad:Addr}(h:bE P s i=some o):(Instr.fieldAt s (.pointer (some ad)) i).run P w= .ok (.pointer (some (ad.add o))) w:=by
 unfold bE at h
 split at h
 ·rename_i c hu
  split at h
  ·rename_i f a
   split at h
   ·rename_i inf b
    split at h
    ·simp at h
    ·rename_i hz
     simp only[Option.some.injEq]at h
     subst h
     simp[Instr.fieldAt,run_underlying hu,a,Instr.sureAddr,fieldPlace,sizeOf,typeInfo,b,hz]
   ·simp at h
  ·simp at h
 ·simp at h
theorem Ev.FV {k off o i:Nat}{s:TypeId}[hd:sP v H α R xs](hx:aX F x (gx v R.size k off))(hk:k<xs.length)(d:bE P s i=some o):Ev P n F (Mm c H) (.fieldAddr s x i) ty (gx v R.size k (off+o)):= .of_run λa w e hw=>by
 obtain⟨ρ,hm⟩:=hw.out;obtain⟨ad,cap,rfl,_,_,_,f⟩:=hm.sl hd
 rcases f with rfl|⟨b,of,C,g,fr,rfl,h,j⟩
 ·simp at hk
 ·rw[dY]at hx
  simp[execOp,hx.eval e,nF d,dY,Addr.add_lit,Nat.add_assoc]
end slices
section blocks
variable {t:TypeId}{b off:Nat}{C:Array Value}{e:TypeId}{fr:Nat×Nat}
theorem Ev.Yg {o i:Nat}{s:TypeId}(hx:aX F x (.pointer (some ⟨b,off,none⟩)))(c:bE P s i=some o):Ev P n F A (.fieldAddr s x i) ty (.pointer (some ⟨b,off+o,none⟩)):= .of_run λa w d hw=>by
 simp[execOp,hx.eval d,nF c,Addr.add_lit]
theorem Ev.cB {o i:Nat}{s:TypeId}(hx:aX F x (.pointer (some ⟨b,0,none⟩)))(a:bE P s i=some o):Ev P n F A (.fieldAddr s x i) ty (.pointer (some ⟨b,o,none⟩)):=by
 have:=Ev.Yg (P:=P) (n:=n) (A:=A) (ty:=ty) hx a
 rwa[iW]at this
theorem Ev.gh {d:TypeDesc}{u:Value}{L:List Value}[f:BE b H (.cells L.toArray e fr)](hx:aX F x (.pointer (some ⟨b,off,none⟩)))(ht:P.underlying t=some d)(g:(match d with| .struct _| .array _ _=>False|_=>True))
 (hu:L[off]?=some u):Ev P n F (Mm c H) (.load t x) ty u:= .of_run λa w h hw=>by
 obtain⟨ρ,hm⟩:=hw.out
 have h1:=fz.1 (hm.dC _ f.mem)
 have i:w.cell? ⟨b,off,none⟩=some u:=by rw[cG h1];simpa using hu
 simp[execOp,hx.eval h,Instr.loadAt,Instr.sureAddr,eo ht g i]
theorem Ev.ZD {d:TypeDesc}{L:List Value}[f:BE b H (.cells L.toArray e fr)](hx:aX F x (.pointer (some ⟨b,0,none⟩)))(ht:P.underlying t=some d)(g:(match d with| .struct _| .array _ _=>True|_=>False))
 (h:(P.info? t).map (·.size)=some L.length):Ev P n F (Mm c H) (.load t x) ty (.agg L.toArray):= .of_run λa w i hw=>by
 obtain⟨ρ,hm⟩:=hw.out
 have h1:=fz.1 (hm.dC _ f.mem)
 have k:=eB (P:=P) (w:=w) (b:=b) (off:=0) (L:=L) ht g h (λj u l=>by rw[cG h1];simpa using l)
 simp[execOp,hx.eval i,Instr.loadAt,Instr.sureAddr,k]
end blocks
def bC (F:Fr):List Operand→List Value→Prop
 | [],[]=>True
 |x::xs,v::vs=>aX F x v∧bC F xs vs
 |_,_=>False
theorem bC.nil:bC F [] []:=trivial
theorem bC.cons {xs:List Operand}{vs:List Value}(h:aX F x v)(k:bC F xs vs):bC F (x::xs) (v::vs):=⟨h,k⟩
theorem bC.eval {a:Act}(b:Has n a F):∀{xs:List Operand} {vs:List Value},bC F xs vs→xs.map a.eval=vs
 | [],[],_=>rfl
 |x::xs,v::vs,h=>by rw[eV,h.1.eval b,bC.eval b h.2]
theorem Ev.build {t:TypeId}{ps:List (Nat×Operand)}{vs:List Value}(hp:bC F (ps.map (·.2)) vs)(b:∀w,(Instr.build t ((ps.map (·.1)).zip vs).toArray).run P w= .ok v w):Ev P n F A (.build t ps.toArray) ty v:= .of_run λa w c _=>by
 have h1:ps.map (λp=>(p.1,a.eval p.2))=(ps.map (·.1)).zip vs:=by
  rw[←bC.eval c hp]
  clear hp b
  induction ps with
  |nil=>rfl
  |cons p ps d=>simp[d]
 have e:(ps.toArray.map λ(i,x)=>(i,a.eval x))=((ps.map (·.1)).zip vs).toArray:=by
  rw[←h1];simp
 simp only[execOp,e,Sem.run_bind,b,Result.andThen_ok,Sem.run_pure]
theorem D7 {f : FuncId} {args : Array Value} {w : World} {fn : Func} (b : P.funcs[f]? = some fn) (c : fn.body.isSome = true) (d : (fn.name == "runtime.NumGoroutine") = false) : (callFunc f args).run P w = .ok (.enter f args) w := by
 unfold callFunc
 simp[b]
 cases a:fn.body with
 |none=>simp[a]at c
 |some cd=>simpa using d
end
theorem fN.GG {c:Ctx}{H:List ai}{ρ:Ro}{w w':World}{E:ai}(h:fN c H ρ w)(e:w'.os=w.os)(ht:w'.tape=w.tape∧w.drawn≤w'.drawn)(i:w'.output=w.output)(j:w.heap.size≤w'.heap.size)
 (hk:∀k,k<w.heap.size→w'.heap[k]?=w.heap[k]?) (l:E.ok ρ w') (f:∀b,E.key=some b→w.heap.size≤b):fN c (E::H) ρ w':=by
 have m:fN c ([]++H) ρ w:=h
 refine fN.step (H2:=[E]) m ⟨e,⟨ht.1,λ_=>ht.2⟩,i,j,λk n _=>hk k n,λk o d=> ?_,Ro.le_refl _,λ_ _ _=>rfl,?_,?_,?_⟩
 ·rw[hk k (h.AP d)];exact h.fits k o d
 ·intro p a;simp at a;subst a;exact l
 ·intro p a b g
  simp at a;subst a
  refine⟨?_,.inl (f b g)⟩
  cases d:ρ b with
  |none=>rfl
  |some o=>have h1:=h.AP d;have q:=f b g;omega
 ·exact Cc ..
theorem fN.alter {c:Ctx}{H:List ai}{ρ:Ro}{w w':World}{E f:ai}(h:fN c (E::H) ρ w)(g:w'.os=w.os)(ht:w'.tape=w.tape∧w.drawn≤w'.drawn)(j:w'.output=w.output)(l:w.heap.size≤w'.heap.size)
 (hk:∀k,k<w.heap.size→E.key≠some k→w'.heap[k]?=w.heap[k]?) (m:f.ok ρ w') (n:∀b,f.key=some b→E.key=some b∨w.heap.size≤b):fN c (f::H) ρ w':=by
 have p:fN c ([E]++H) ρ w:=h
 refine fN.step (H2:=[f]) p ⟨g,⟨ht.1,λ_=>ht.2⟩,j,l,λk q r=>hk k q (λe=>r ⟨E,by simp,e⟩),λk o a=> ?_,Ro.le_refl _,λ_ _ _=>rfl,?_,?_,?_⟩
 ·rw[hk k (h.AP a)]
  ·exact h.fits k o a
  ·intro e
   have:=(h.own E (by simp) k e).1
   rw[a]at this;cases this
 ·intro i d;simp at d;subst d;exact m
 ·intro i d b s
  simp at d;subst d
  rcases n b s with h1|h1
  ·exact⟨(h.own E (by simp) b h1).1,.inr ⟨E,by simp,h1⟩⟩
  ·refine⟨?_,.inl h1⟩
   cases a:ρ b with
   |none=>rfl
   |some o=>have:=h.AP a;omega
 ·exact Cc ..
theorem fN.alloc {c:Ctx}{H:List ai}{ρ:Ro}{w:World}(h:fN c H ρ w)(o:Obj):fN c (aU w.heap.size o::H) ρ (w.alloc o):=
 h.GG rfl ⟨rfl,aQ _⟩ rfl (by simp) (λk hk=>RowKit.Below.heap_alloc w _ k hk) (fz.2 (heap_alloc_new w o)) (λb a=>by rw[hP]at a;simp at a;omega)
class Ed (L:List Value)(off:Nat)(v:Value)(L':outParam (List Value)):Prop where
 eq:L.set off v=L'
instance Ed.here (x:Value)(L:List Value)(v:Value):Ed (x::L) 0 v (v::L):=⟨rfl⟩
instance Ed.there (x:Value)(L:List Value)(v:Value)(k:Nat)(L':List Value)[h:Ed L k v L']:Ed (x::L) (k+1) v (x::L'):=⟨by rw[HV,h.eq]⟩
class tJ (v:Value)(H:List ai)(e:outParam TypeId)(size n:outParam Nat)(cs:outParam (List Value)):Prop where
 mem:row v e size n cs∈H
instance (priority:=high) tJ.here (v:Value)(e:TypeId)(size n:Nat)(cs:List Value)(H:List ai):tJ v (row v e size n cs::H) e size n cs:=⟨aV ..⟩
instance tJ.there (v:Value)(e:TypeId)(size n:Nat)(cs:List Value)(E:ai)(H:List ai)[h:tJ v H e size n cs]:tJ v (E::H) e size n cs:=⟨bV _ h.mem⟩
theorem bS (C:Array Value):(Value.agg C).cells=C:=rfl
theorem cells_one {v:Value}(h:v.oneCell'=true):v.cells= #[v]:=by
 cases v<;>first|rfl|simp[Value.oneCell']at h
section
variable {P:Program}{n:Nat}{F:Fr}{A:World→Prop}{c:Ctx}{H R:List ai}{ty:TypeId}{x y z:Operand}{v:Value}{Q:Exit→Act→World→Prop}{ops:Array Oper}{rest:List Oper}
 {d:Nat} {pos:String} {after:Array Edge} {t e:TypeId}
theorem St.alloc {Z:Array Value}(hz:(P.info? t).bind (λi=>i.zero.map Value.cells)=some Z)(hd:Nat.ble (d+1) n=true)
 (h:∀b,St n ((d,.pointer (some ⟨b,0,none⟩))::F) (Mm c (aU b (.cells Z t (0,0))::H)) (wpList P ops Q rest)):
 St n F (Mm c H) (wpList P ops Q ({dst:=some d,op:= .alloc t,type:=ty,pos:=pos,after:=after,guard:=none}::rest)):=by
 refine St.PS (K:=λu H'=>∃b,u= .pointer (some ⟨b,0,none⟩)∧H'=aU b (.cells Z t (0,0))::H) ?_ hd ?_
 ·intro a w ρ k hm
  obtain⟨i,f,e⟩:=o6.1 hz;obtain⟨g,j,rfl⟩:=dX.1 e;refine⟨.value (.pointer (some ⟨w.heap.size,0,none⟩)),w.alloc (.cells g.cells t),ρ,_,?_,⟨_,.inl rfl,_,rfl,rfl⟩,hm.alloc _⟩
  simp[execOp,Instr.alloc,zeroValue,typeInfo,f,j,newVar,newRow]
 ·rintro _ _ ⟨b,rfl,rfl⟩
  exact h b
theorem St.Ej (hx:aX F x v)(h1:v.oneCell'=true)(hd:Nat.ble (d+1) n=true)
 (h:∀b,St n ((d,.pointer (some ⟨b,0,none⟩))::F) (Mm c (aU b (.cells #[v] t (0,0))::H)) (wpList P ops Q rest)):
 St n F (Mm c H) (wpList P ops Q ({dst:=some d,op:= .box t x,type:=ty,pos:=pos,after:=after,guard:=none}::rest)):=by
 refine St.PS (K:=λu H'=>∃b,u= .pointer (some ⟨b,0,none⟩)∧H'=aU b (.cells #[v] t (0,0))::H) ?_ hd ?_
 ·intro a w ρ e hm
  refine⟨.value (.pointer (some ⟨w.heap.size,0,none⟩)),w.alloc (.cells #[v] t),ρ,_,?_,⟨_,.inl rfl,_,rfl,rfl⟩,hm.alloc _⟩
  simp[execOp,Instr.box,hx.eval e,newVar,newRow,cells_one h1]
 ·rintro _ _ ⟨b,rfl,rfl⟩
  exact h b
theorem St.cW {L:List Value}(hx:aX F x (.agg L.toArray))(hd:Nat.ble (d+1) n=true)
 (h:∀b,St n ((d,.pointer (some ⟨b,0,none⟩))::F) (Mm c (aU b (.cells L.toArray t (0,0))::H)) (wpList P ops Q rest)):
 St n F (Mm c H) (wpList P ops Q ({dst:=some d,op:= .box t x,type:=ty,pos:=pos,after:=after,guard:=none}::rest)):=by
 refine St.PS (K:=λu H'=>∃b,u= .pointer (some ⟨b,0,none⟩)∧H'=aU b (.cells L.toArray t (0,0))::H) ?_ hd ?_
 ·intro a w ρ e hm
  refine⟨.value (.pointer (some ⟨w.heap.size,0,none⟩)),w.alloc (.cells L.toArray t),ρ,_,?_,⟨_,.inl rfl,_,rfl,rfl⟩,hm.alloc _⟩
  simp[execOp,Instr.box,hx.eval e,newVar,newRow,Value.cells]
 ·rintro _ _ ⟨b,rfl,rfl⟩
  exact h b
theorem qi {w:World}{b off:Nat}{C:Array Value}{v:Value}(h:w.heap[b]?=some (.cells C e (0,0))):(w.setCell ⟨b,off,none⟩ v).heap[b]?=some (.cells (C.setIfInBounds off v) e (0,0)):=by
 simp[World.setCell,Array.getElem?_modify,h]
theorem St.bL {b off:Nat}{L L':List Value}[m:mn b H (.cells L.toArray e (0,0)) R](hx:aX F x (.pointer (some ⟨b,off,none⟩)))(hy:aX F y v)[sl:Ed L off v L'](o:(P.info? t).map (·.size)=some 1)(h1:v.oneCell'=true)
 (p:Nat.ble (off+1) L.length=true) (h:St n F (Mm c (aU b (.cells L'.toArray e (0,0))::R)) (wpList P ops Q rest)):
 St n F (Mm c H) (wpList P ops Q ({dst:=none,op:= .store t x y,type:=ty,pos:=pos,after:=after,guard:=none}::rest)):=by
 refine St.p9 (K:=λu H'=>H'=aU b (.cells L'.toArray e (0,0))::R) ?_ ?_
 ·intro a w ρ f hm
  have g:=hm.perm m.perm
  have d:=fz.1 (g.dC _ (aV ..))
  have A:=eI p
  have q:w.cell? ⟨b,off,none⟩=some L[off]:=by rw[cG d];simp
  have r:w.frozen? ⟨b,off,none⟩=false:=by simp[World.frozen?,d]
  obtain⟨i,s,z⟩:=dX.1 o;refine⟨.skip,w.setCell ⟨b,off,none⟩ v,ρ,_,?_,⟨_,.inr ⟨rfl,rfl⟩,rfl⟩,?_⟩
  ·simp[execOp,hx.eval f,hy.eval f,Instr.storeAt,Instr.sureAddr,storeVar,sizeOf,typeInfo,s,z,cells_one h1,storeCells,run_store P w _ v _ h1,q,r,Addr.add_zero']
  ·refine g.alter rfl ⟨rfl,aQ _⟩ rfl (by simp) (λk hk j=> ?_) (fz.2 ?_) (λB l=>by rw[hP]at l⊢;exact .inl l)
   ·rw[hP]at j
    simp only[World.setCell,Array.getElem?_modify]
    rw[aA (λe=>j (by rw[e]))]
   ·rw[qi d,←sl.eq]
    simp
 ·rintro _ _ rfl
  exact h
theorem St.Rm {b:Nat}{L L':List Value}[l:mn b H (.cells L.toArray t (0,0)) R](hx:aX F x (.pointer (some ⟨b,0,none⟩)))(hy:aX F y (.agg L'.toArray))(m:(P.info? e).map (·.size)=some L'.length)(o:L.length=L'.length)
 (h1:L'.all (·.oneCell')=true) (h:St n F (Mm c (aU b (.cells L'.toArray t (0,0))::R)) (wpList P ops Q rest)):
 St n F (Mm c H) (wpList P ops Q ({dst:=none,op:= .store e x y,type:=ty,pos:=pos,after:=after,guard:=none}::rest)):=by
 refine St.p9 (K:=λu H'=>H'=aU b (.cells L'.toArray t (0,0))::R) ?_ ?_
 ·intro a w ρ d hm
  have f:=hm.perm l.perm
  have g:=fz.1 (f.dC _ (aV ..))
  have p:=run_storeVar_row (P:=P) w b t e L.toArray L'.toArray g (by simpa using m) (by simpa using o) (by simpa using h1)
  refine⟨.skip,w.setRow b L'.toArray,ρ,_,?_,⟨_,.inr ⟨rfl,rfl⟩,rfl⟩,?_⟩
  ·simp[execOp,hx.eval d,hy.eval d,Instr.storeAt,Instr.sureAddr,p]
  ·refine f.alter rfl ⟨rfl,aQ _⟩ rfl (by simp) (λk hk i=> ?_) (fz.2 ?_) (λq j=>by rw[hP]at j⊢;exact .inl j)
   ·rw[hP]at i
    exact setRow_other w b k _ (λe=>i (by rw[e]))
   ·exact setRow_heap w b L.toArray L'.toArray t _ g
 ·rintro _ _ rfl
  exact h
theorem Ev.func {f:FuncId}{cs:List Operand}{vs:List Value}(b:bC F cs vs):Ev P n F A (.makeFunc (.func f) #[] cs.toArray) ty (.func (.func f) #[] vs.toArray):= .of_run λa w c _=>by
 have:=bC.eval c b
 simp[execOp,Instr.makeFunc,this]
theorem FQ (size:Nat):∀(vs:List Value) (k:Nat) (pre post:List Value),pre.length=k*size→(∀u∈vs,u.cells.size=size)→post.length=vs.length*size→
 Instr.fill (λi=>some (i*size,size)) (pre++post).toArray ((vs.zipIdx k).map λp=>(p.2,p.1))=some (pre++vs.flatMap λu=>u.cells.toList).toArray
 | [],k,pre,post,_,_,hp=>by
  have:post=[]:=gg (by simpa using hp)
  subst this
  simp[Instr.fill]
 |u::vs,k,pre,post,b,hu,d=>by
  have a:=hu u (by simp)
  have hlen:post.length=size+vs.length*size:=by rw[d,eU,ji];omega
  have e:∀(l:List Value) (m:Nat) (Z:List Value),m+l.length≤Z.length→((l.zipIdx m).foldl (λcs p=>cs.setIfInBounds (k*size+p.2) p.1) (pre++Z).toArray)=(pre++(Z.take m++l++Z.drop (m+l.length))).toArray:=by
   intro l
   induction l with
   |nil=>intro m Z _;simp
   |cons y l f=>
    intro m Z g
    simp only[List.length_cons]at g
    simp only[List.zipIdx_cons,List.foldl_cons]
    have h:(pre++Z).toArray.setIfInBounds (k*size+m) y=(pre++Z.set m y).toArray:=by
     simp only[List.setIfInBounds_toArray]
     rw[mV _ _ (by omega)]
     congr 2
     rw[show k*size+m-pre.length=m by omega]
    rw[h,f (m+1) (Z.set m y) (by simp;omega)]
    congr 2
    simp only[List.length_cons]
    rw[List.drop_set_of_lt (by omega),show m+1+l.length=m+(l.length+1) by omega];rw[List.take_set]
    have:(Z.take (m+1)).set m y=Z.take m++ [y]:=by
     rw[HW (by omega),mV _ _ (by simp[Nat.min_le_left])]
     simp[show min m Z.length=m by omega]
    rw[this]
    simp
  simp only[List.zipIdx_cons,List.map_cons,Instr.fill]
  have q:¬(u.cells.size≠size∨(pre++post).toArray.size<k*size+u.cells.size):=by simp;omega
  have n:((decide (u.cells.size≠size))||decide (k*size+u.cells.size>(pre++post).toArray.size))=false:=by
   simp;omega
  simp only[n,Bool.false_eq_true,if_false]
  have o:=e u.cells.toList 0 post (by simp;omega)
  have hz:u.cells.zipIdx.foldl (λcs (c,j)=>cs.setIfInBounds (k*size+j) c) (pre++post).toArray=(pre++(u.cells.toList++post.drop size)).toArray:=by
   rw[←Array.foldl_toList]
   simp only[Array.toList_zipIdx]
   rw[o]
   simp[a]
  rw[hz,←cr]
  have f:=FQ size vs (k+1) (pre++u.cells.toList) (post.drop size) (by simp[a,b,Nat.add_mul]) (λx hx=>hu x (by simp[hx])) (by simp;omega)
  rw[f]
  simp
theorem St.Tu {size:Nat}{xs:List Operand}{vs:List Value}{ps:List (Nat×Operand)}{g:Value}(hp:ps=xs.zipIdx.map λp=>(p.2,p.1))(hx:bC F xs vs)(ht:P.underlying t=some (.slice e))(E:(P.info? e).map (·.size)=some size)
 (hz:(P.info? e).bind (·.zero)=some g) (y:Nat.ble 1 size=true) (hlen:Nat.ble (vs.length*size) 16777216=true) (j:∀u∈vs,u.cells.size=size) (hd:Nat.ble (d+1) n=true)
 {m:Nat} (hm:m=vs.length)
 (h:∀b,St n ((d,.slice (some ⟨b,0,none⟩) m m)::F) (Mm c (row (.slice (some ⟨b,0,none⟩) m m) e size m (vs.flatMap λu=>u.cells.toList)::H)) (wpList P ops Q rest)):
 St n F (Mm c H) (wpList P ops Q ({dst:=some d,op:= .buildSlice t m ps.toArray,type:=ty,pos:=pos,after:=after,guard:=none}::rest)):=by
 subst hm;refine St.PS (K:=λu H'=>∃b,u= .slice (some ⟨b,0,none⟩) vs.length vs.length∧H'=row (.slice (some ⟨b,0,none⟩) vs.length vs.length) e size vs.length (vs.flatMap λu=>u.cells.toList)::H) ?_ hd ?_
 ·intro a w ρ G I
  have hle:=eI hlen
  have l:=bC.eval G hx
  have J:xs.length=vs.length:=by rw[←l,aR]
  obtain⟨i,o,A⟩:=dX.1 E
  have q:i.zero=some g:=by rw[o]at hz;simpa using hz
  have r:(vs.flatMap λu=>u.cells.toList).length=vs.length*size:=by
   clear hx l J hle hlen h
   induction vs with
   |nil=>simp
   |cons u vs L=>
    simp only[List.flatMap_cons,List.length_append,List.length_cons,Nat.add_mul]
    rw[L (λx hx=>j x (by simp[hx]))]
    have:=j u (by simp)
    simp[this];omega
  have s:(ps.toArray.map λ(i,x)=>(i,a.eval x)).toList=(vs.zipIdx).map λp=>(p.2,p.1):=by
   subst hp;rw[←l]
   simp[List.zipIdx_map,Function.comp_def]
  refine⟨.value (.slice (some ⟨w.heap.size,0,none⟩) vs.length vs.length),w.alloc (.cells (vs.flatMap λu=>u.cells.toList).toArray e),ρ,_,?_,⟨_,.inl rfl,_,rfl,rfl⟩,?_⟩
  ·by_cases B:vs.length*size=0
   ·have v:vs=[]:=by
     rcases Nat.mul_eq_zero.1 B with h1|h1
     ·exact gg h1
     ·have:=eI y;omega
    rw[v]at s⊢
    simp only[execOp,Instr.buildSlice,Sem.run_bind,run_underlying ht,Result.andThen_ok,sizeOf,typeInfo,Sem.run_pure,s,run_program,o,A]
    simp[Instr.fill,newRow,Array.range_zero']
   ·obtain⟨z,f⟩:∃z:List Value,((Array.range (vs.length*size)).map (g.cells[· %g.cells.size]!))=z.toArray:=⟨_,(Array.toArray_toList).symm⟩
    have M:z.length=vs.length*size:=by have:=congrArg Array.size f;simpa using this.symm
    have C:=FQ size vs 0 [] z (by simp) j M
    simp only[List.nil_append]at C
    have q8:¬vs.length*size>2^24:=by simp;omega
    simp only[execOp,Instr.buildSlice,Sem.run_bind,run_underlying ht,Result.andThen_ok,sizeOf,typeInfo,Sem.run_pure,s,run_program,o,A,zeroValue,q,q8,B,if_false,f,Sem.run_ite]
    simp[C,newRow]
  ·refine I.GG rfl ⟨rfl,aQ _⟩ rfl (by simp) (λk hk=>RowKit.Below.heap_alloc w _ k hk) (dP.2 ⟨r,.inr ⟨w.heap.size,vs.length,_,rfl,aP _,heap_alloc_new w _,aQ _,?_,?_,?_⟩⟩) ?_
   ·have:vs.length≤vs.length*size:=Nat.le_mul_of_pos_right _ (eI y)
    unfold maxLen;omega
   ·rw[List.size_toArray,r]
   ·rw[←r,fW]
   ·intro b D;rw[dF]at D;simp[Value.ownBlock]at D;omega
 ·rintro _ _ ⟨b,rfl,rfl⟩
  exact h b
def aG (P : Program) (f : FuncId) : Prop := ∃ fn, P.funcs[f]? = some fn ∧ fn.body.isSome = true ∧ (fn.name == "runtime.NumGoroutine") = false
theorem aG.run {f:FuncId}(h:aG P f){args:Array Value}{w:World}:(callFunc f args).run P w= .ok (.enter f args) w:=
 let⟨_,h1,a,b⟩:=h;D7 h1 a b
theorem Mm.wR {dr:Prop}{f:FuncId}{args:Array Value}{pre R:List ai}{post:Value→List ai→Prop}(b:EP dr P f args pre post)(d:c.dr→dr){w:World}(hm:Mm c (pre++R) w):
 Calls P f args w λe w'=>∃v H',e= .returned v∧post v H'∧Mm c (H'++R) w':=by
 obtain⟨ρ,hm⟩:=hm.out;refine(b w ρ hm.start).mono ?_;rintro e w' ⟨v,H',he,hp,a⟩;obtain⟨mY,a⟩:=a.out;exact⟨v,H',he,hp,Mm.mk (hm.step (a.dr d))⟩
theorem Mm.call {f:FuncId}{args:Array Value}{pre R:List ai}{post:Value→List ai→Prop}(a:dR P f args pre post){w:World}(hm:Mm c (pre++R) w):
 Calls P f args w λe w'=>∃v H',e= .returned v∧post v H'∧Mm c (H'++R) w':=Mm.wR a.gen (λ_=>trivial) hm
theorem Mm.mS {ds:List dQ}[hd:kh ds H]{w:World}(hm:Mm c H w):Mm c (ds.map aD++H) w:=
 let⟨_,k⟩:=hm.out;Mm.mk (k.FF ds λd h=>dK.1 (k.dC _ (hd.mem d h)))
theorem lP {f:FuncId}{xs:List Operand}{c:Array TypeId}{vs caps:List Value}(d:aG P f)(hx:bC F (x::xs) (.func (.func f) #[] caps.toArray::vs)){a:Act}(b:Has n a F)(w:World):
 (execOp a.eval (bare (.call {callee:= .value x,args:=xs.toArray,argTypes:=c}) ty)).run P w= .ok (.enter f (vs++caps).toArray) w:=by
 have h1:=hx.1.eval b
 have g:=bC.eval b hx.2
 simp only[execOp,resolve,h1,Deferred.ofValue,Sem.run_bind,Sem.run_pure,Result.andThen_ok,invoke]
 have e:(#[]++xs.toArray.map a.eval++caps.toArray)=(vs++caps).toArray:=by simp[g]
 rw[e];exact d.run
theorem Ev.call {f:FuncId}{xs:List Operand}{b:Array TypeId}{vs:List Value}{ds:List dQ}(d:cX P f vs.toArray ds v)(g:aG P f)(hx:bC F xs vs)[hd:kh ds H]:
 Ev P n F (Mm c H) (.call {callee:= .value (.func f),args:=xs.toArray,argTypes:=b}) ty v:=by
 intro a w h hw;rw[lP (caps:=[]) g (bC.cons (aX.mk rfl) hx) h w]
 simp only[List.append_nil,Oper.quietUpon,true_and]
 refine(Mm.call d hw.mS).mono ?_;rintro e w' ⟨u,H',rfl,rfl,hm⟩;refine⟨rfl,?_⟩;obtain⟨ρ,hm⟩:=hm.out;exact Mm.mk ((hm.perm kB).left)
theorem Ev.lp {f:FuncId}{xs:List Operand}{b:Array TypeId}{vs:List Value}{ds:List dQ}(d:¬c.dr)(g:kC P f vs.toArray ds v)(i:aG P f)(hx:bC F xs vs)[hd:kh ds H]:
 Ev P n F (Mm c H) (.call {callee:= .value (.func f),args:=xs.toArray,argTypes:=b}) ty v:=by
 intro a w j hw;rw[lP (caps:=[]) i (bC.cons (aX.mk rfl) hx) j w]
 simp only[List.append_nil,Oper.quietUpon,true_and]
 refine(Mm.wR g (λh=>absurd h d) hw.mS).mono ?_;rintro e w' ⟨u,H',rfl,rfl,hm⟩;refine⟨rfl,?_⟩;obtain⟨ρ,hm⟩:=hm.out;exact Mm.mk ((hm.perm kB).left)
theorem Ev.fg {f:FuncId}{xs:List Operand}{b:Array TypeId}{vs caps:List Value}{ds:List dQ}(d:cX P f (vs++caps).toArray ds v)(g:aG P f)(h:aX F x (.func (.func f) #[] caps.toArray))(hx:bC F xs vs)[hd:kh ds H]:
 Ev P n F (Mm c H) (.call {callee:= .value x,args:=xs.toArray,argTypes:=b}) ty v:=by
 intro a w i hw;rw[lP g (bC.cons h hx) i w]
 simp only[Oper.quietUpon,true_and]
 refine(Mm.call d hw.mS).mono ?_;rintro e w' ⟨u,H',rfl,rfl,hm⟩;refine⟨rfl,?_⟩;obtain⟨ρ,hm⟩:=hm.out;exact Mm.mk ((hm.perm kB).left)
theorem fh {f:FuncId}{xs:List Operand}{b:Array TypeId}{vs caps:List Value}(c:aG P f)(hx:bC F (x::xs) (.func (.func f) #[] caps.toArray::vs)){a:Act}(d:Has n a F)(w:World){K:Act→World→Prop}
 {dd:Option Tmp} {g:Option (Nat×Bool)}
 (hk:Calls P f (vs++caps).toArray w λe w'=>∃v,e= .returned v∧K (a.put dd v) w'):
 ({dst:=dd,op:= .call {callee:= .value x,args:=xs.toArray,argTypes:=b},type:=ty,pos:=pos,after:=after,guard:=g}:Oper).wp P a w K Q:=by
 unfold Oper.wp Oper.upon;rw[iR,lP c hx d w]
 exact hk.mono λe w' ⟨v,he,h⟩=>by subst he;exact h
theorem St.call {f:FuncId}{xs:List Operand}{g:Array TypeId}{vs:List Value}{pre R:List ai}{post:Value→List ai→Prop}(i:dR P f vs.toArray pre post)(j:aG P f)(hx:bC F xs vs)(hd:Nat.ble (d+1) n=true)[k:eS pre H R]
 (h:∀v H',post v H'→St n ((d,v)::F) (Mm c (H'++R)) (wpList P ops Q rest)):
 St n F (Mm c H) (wpList P ops Q ({dst:=some d,op:= .call {callee:= .value (.func f),args:=xs.toArray,argTypes:=g},type:=ty,pos:=pos,after:=after,guard:=none}::rest)):=by
 intro a w b hw;refine gT rfl (fh (caps:=[]) j (bC.cons (aX.mk rfl) hx) b w ?_)
 simp only[List.append_nil]
 refine(Mm.call i (hw.take (L:=pre))).mono ?_;rintro e w' ⟨u,H',rfl,hp,hm⟩;exact⟨u,rfl,h u H' hp _ w' (b.put (eI hd) u) hm⟩
theorem St.dt {f:FuncId}{xs:List Operand}{g:Array TypeId}{vs:List Value}{ds:List dQ}{post:Value→List ai→Prop}(i:dR P f vs.toArray (ds.map aD) post)(j:aG P f)(hx:bC F xs vs)(hd:Nat.ble (d+1) n=true)[k:kh ds H]
 (h:∀v H',post v H'→St n ((d,v)::F) (Mm c (H'++H)) (wpList P ops Q rest)):
 St n F (Mm c H) (wpList P ops Q ({dst:=some d,op:= .call {callee:= .value (.func f),args:=xs.toArray,argTypes:=g},type:=ty,pos:=pos,after:=after,guard:=none}::rest)):=by
 intro a w b hw;refine gT rfl (fh (caps:=[]) j (bC.cons (aX.mk rfl) hx) b w ?_)
 simp only[List.append_nil]
 refine(Mm.call i (hw.mS (ds:=ds))).mono ?_;rintro e w' ⟨u,H',rfl,hp,hm⟩;exact⟨u,rfl,h u H' hp _ w' (b.put (eI hd) u) hm⟩
theorem St.p7 {f:FuncId}{xs:List Operand}{g:Array TypeId}{vs:List Value}{ds:List dQ}{post:Value→List ai→Prop}(i:¬c.dr)(j:AK P f vs.toArray (ds.map aD) post)(k:aG P f)(hx:bC F xs vs)(hd:Nat.ble (d+1) n=true)[l:kh ds H]
 (h:∀v H',post v H'→St n ((d,v)::F) (Mm c (H'++H)) (wpList P ops Q rest)):
 St n F (Mm c H) (wpList P ops Q ({dst:=some d,op:= .call {callee:= .value (.func f),args:=xs.toArray,argTypes:=g},type:=ty,pos:=pos,after:=after,guard:=none}::rest)):=by
 intro a w b hw;refine gT rfl (fh (caps:=[]) k (bC.cons (aX.mk rfl) hx) b w ?_)
 simp only[List.append_nil]
 refine(Mm.wR j (λh=>absurd h i) (hw.mS (ds:=ds))).mono ?_;rintro e w' ⟨u,H',rfl,hp,hm⟩;exact⟨u,rfl,h u H' hp _ w' (b.put (eI hd) u) hm⟩
theorem St.fg {f:FuncId}{xs:List Operand}{g:Array TypeId}{vs caps:List Value}{pre R:List ai}{post:Value→List ai→Prop}(i:dR P f (vs++caps).toArray pre post)(j:aG P f)(k:aX F x (.func (.func f) #[] caps.toArray))(hx:bC F xs vs)(hd:Nat.ble (d+1) n=true)[l:eS pre H R]
 (h:∀v H',post v H'→St n ((d,v)::F) (Mm c (H'++R)) (wpList P ops Q rest)):
 St n F (Mm c H) (wpList P ops Q ({dst:=some d,op:= .call {callee:= .value x,args:=xs.toArray,argTypes:=g},type:=ty,pos:=pos,after:=after,guard:=none}::rest)):=by
 intro a w b hw;refine gT rfl (fh j (bC.cons k hx) b w ?_);refine(Mm.call i (hw.take (L:=pre))).mono ?_;rintro e w' ⟨u,H',rfl,hp,hm⟩;exact⟨u,rfl,h u H' hp _ w' (b.put (eI hd) u) hm⟩
def cg (P:Program)(t:TypeId)(w:World):Result (Array (Nat×Nat)):=
 match P.underlying t with
 |some (.struct a)=>(a.mapM λf=>(do pure (f.offset,←sizeOf f.type):Sem (Nat×Nat))).run P w
 | _ => .halt (.stuck "") w
theorem bM {Z C:Array Value}{pl:Array (Nat×Nat)}{parts:List (Nat×Value)}{w:World}(hz:(P.info? t).bind (λi=>i.zero.map Value.cells)=some Z)(hp:cg P t w= .ok pl w)(b:Instr.fill (pl[·]?) Z parts=some C):
 (Instr.build t parts.toArray).run P w= .ok (.agg C) w:=by
 obtain⟨i,c,a⟩:=o6.1 hz;obtain⟨e,d,rfl⟩:=dX.1 a;unfold cg at hp
 split at hp
 ·rename_i f hu
  simp only[Instr.build,zeroValue,typeInfo,Sem.run_bind,run_program,Result.andThen_ok,c,d,Sem.run_pure,run_underlying hu,hp,b]
 ·cases hp
end
def aC:Fr→Fr→Prop
 |F,F0=>Sub F0 F
theorem aC.nil {F:Fr}:aC F []:=trivial
theorem aC.cons {F F0:Fr}(k:Nat){v:Value}(h:look F k=some v)(a:aC F F0):aC F ((k,v)::F0):=⟨h,a⟩
theorem zE {p:Prop}(h:p:=by omega):p:=h
abbrev tW (b:Nat):Value:=.pointer (some ⟨b,0,none⟩)
abbrev tO (b n m:Nat):Value:=.slice (some ⟨b,0,none⟩) n m
abbrev tI (b:Nat)(L:List Value)(t:TypeId):ai:=aU b (.cells L.toArray t (0,0))
theorem aC.k1 {F:Fr}(a0:Nat){u0:Value}(h0:look F a0=some u0:=by rfl):aC F [(a0,u0)]:=⟨h0,trivial⟩
theorem aC.k2 {F:Fr}(a0 a1:Nat){u0 u1:Value}(h0:look F a0=some u0:=by rfl)(h1:look F a1=some u1:=by rfl):aC F [(a0,u0),(a1,u1)]:=⟨h0,⟨h1,trivial⟩⟩
theorem aC.k3 {F:Fr}(a0 a1 a2:Nat){u0 u1 u2:Value}(h0:look F a0=some u0:=by rfl)(h1:look F a1=some u1:=by rfl)(h2:look F a2=some u2:=by rfl):aC F [(a0,u0),(a1,u1),(a2,u2)]:=⟨h0,⟨h1,⟨h2,trivial⟩⟩⟩
theorem aC.k4 {F:Fr}(a0 a1 a2 a3:Nat){u0 u1 u2 u3:Value}(h0:look F a0=some u0:=by rfl)(h1:look F a1=some u1:=by rfl)(h2:look F a2=some u2:=by rfl)(h3:look F a3=some u3:=by rfl):aC F [(a0,u0),(a1,u1),(a2,u2),(a3,u3)]:=⟨h0,⟨h1,⟨h2,⟨h3,trivial⟩⟩⟩⟩
theorem aC.k5 {F:Fr}(a0 a1 a2 a3 a4:Nat){u0 u1 u2 u3 u4:Value}(h0:look F a0=some u0:=by rfl)(h1:look F a1=some u1:=by rfl)(h2:look F a2=some u2:=by rfl)(h3:look F a3=some u3:=by rfl)(h4:look F a4=some u4:=by rfl):aC F [(a0,u0),(a1,u1),(a2,u2),(a3,u3),(a4,u4)]:=⟨h0,⟨h1,⟨h2,⟨h3,⟨h4,trivial⟩⟩⟩⟩⟩
theorem aC.k6 {F:Fr}(a0 a1 a2 a3 a4 a5:Nat){u0 u1 u2 u3 u4 u5:Value}(h0:look F a0=some u0:=by rfl)(h1:look F a1=some u1:=by rfl)(h2:look F a2=some u2:=by rfl)(h3:look F a3=some u3:=by rfl)(h4:look F a4=some u4:=by rfl)(h5:look F a5=some u5:=by rfl):aC F [(a0,u0),(a1,u1),(a2,u2),(a3,u3),(a4,u4),(a5,u5)]:=⟨h0,⟨h1,⟨h2,⟨h3,⟨h4,⟨h5,trivial⟩⟩⟩⟩⟩⟩
theorem aC.k7 {F:Fr}(a0 a1 a2 a3 a4 a5 a6:Nat){u0 u1 u2 u3 u4 u5 u6:Value}(h0:look F a0=some u0:=by rfl)(h1:look F a1=some u1:=by rfl)(h2:look F a2=some u2:=by rfl)(h3:look F a3=some u3:=by rfl)(h4:look F a4=some u4:=by rfl)(h5:look F a5=some u5:=by rfl)(h6:look F a6=some u6:=by rfl):aC F [(a0,u0),(a1,u1),(a2,u2),(a3,u3),(a4,u4),(a5,u5),(a6,u6)]:=⟨h0,⟨h1,⟨h2,⟨h3,⟨h4,⟨h5,⟨h6,trivial⟩⟩⟩⟩⟩⟩⟩
theorem aC.k8 {F:Fr}(a0 a1 a2 a3 a4 a5 a6 a7:Nat){u0 u1 u2 u3 u4 u5 u6 u7:Value}(h0:look F a0=some u0:=by rfl)(h1:look F a1=some u1:=by rfl)(h2:look F a2=some u2:=by rfl)(h3:look F a3=some u3:=by rfl)(h4:look F a4=some u4:=by rfl)(h5:look F a5=some u5:=by rfl)(h6:look F a6=some u6:=by rfl)(h7:look F a7=some u7:=by rfl):aC F [(a0,u0),(a1,u1),(a2,u2),(a3,u3),(a4,u4),(a5,u5),(a6,u6),(a7,u7)]:=⟨h0,⟨h1,⟨h2,⟨h3,⟨h4,⟨h5,⟨h6,⟨h7,trivial⟩⟩⟩⟩⟩⟩⟩⟩
theorem aC.k9 {F:Fr}(a0 a1 a2 a3 a4 a5 a6 a7 a8:Nat){u0 u1 u2 u3 u4 u5 u6 u7 u8:Value}(h0:look F a0=some u0:=by rfl)(h1:look F a1=some u1:=by rfl)(h2:look F a2=some u2:=by rfl)(h3:look F a3=some u3:=by rfl)(h4:look F a4=some u4:=by rfl)(h5:look F a5=some u5:=by rfl)(h6:look F a6=some u6:=by rfl)(h7:look F a7=some u7:=by rfl)(h8:look F a8=some u8:=by rfl):aC F [(a0,u0),(a1,u1),(a2,u2),(a3,u3),(a4,u4),(a5,u5),(a6,u6),(a7,u7),(a8,u8)]:=⟨h0,⟨h1,⟨h2,⟨h3,⟨h4,⟨h5,⟨h6,⟨h7,⟨h8,trivial⟩⟩⟩⟩⟩⟩⟩⟩⟩
theorem aC.k10 {F:Fr}(a0 a1 a2 a3 a4 a5 a6 a7 a8 a9:Nat){u0 u1 u2 u3 u4 u5 u6 u7 u8 u9:Value}(h0:look F a0=some u0:=by rfl)(h1:look F a1=some u1:=by rfl)(h2:look F a2=some u2:=by rfl)(h3:look F a3=some u3:=by rfl)(h4:look F a4=some u4:=by rfl)(h5:look F a5=some u5:=by rfl)(h6:look F a6=some u6:=by rfl)(h7:look F a7=some u7:=by rfl)(h8:look F a8=some u8:=by rfl)(h9:look F a9=some u9:=by rfl):aC F [(a0,u0),(a1,u1),(a2,u2),(a3,u3),(a4,u4),(a5,u5),(a6,u6),(a7,u7),(a8,u8),(a9,u9)]:=⟨h0,⟨h1,⟨h2,⟨h3,⟨h4,⟨h5,⟨h6,⟨h7,⟨h8,⟨h9,trivial⟩⟩⟩⟩⟩⟩⟩⟩⟩⟩
theorem aC.k11 {F:Fr}(a0 a1 a2 a3 a4 a5 a6 a7 a8 a9 a10:Nat){u0 u1 u2 u3 u4 u5 u6 u7 u8 u9 u10:Value}(h0:look F a0=some u0:=by rfl)(h1:look F a1=some u1:=by rfl)(h2:look F a2=some u2:=by rfl)(h3:look F a3=some u3:=by rfl)(h4:look F a4=some u4:=by rfl)(h5:look F a5=some u5:=by rfl)(h6:look F a6=some u6:=by rfl)(h7:look F a7=some u7:=by rfl)(h8:look F a8=some u8:=by rfl)(h9:look F a9=some u9:=by rfl)(h10:look F a10=some u10:=by rfl):aC F [(a0,u0),(a1,u1),(a2,u2),(a3,u3),(a4,u4),(a5,u5),(a6,u6),(a7,u7),(a8,u8),(a9,u9),(a10,u10)]:=⟨h0,⟨h1,⟨h2,⟨h3,⟨h4,⟨h5,⟨h6,⟨h7,⟨h8,⟨h9,⟨h10,trivial⟩⟩⟩⟩⟩⟩⟩⟩⟩⟩⟩
theorem aC.k12 {F:Fr}(a0 a1 a2 a3 a4 a5 a6 a7 a8 a9 a10 a11:Nat){u0 u1 u2 u3 u4 u5 u6 u7 u8 u9 u10 u11:Value}(h0:look F a0=some u0:=by rfl)(h1:look F a1=some u1:=by rfl)(h2:look F a2=some u2:=by rfl)(h3:look F a3=some u3:=by rfl)(h4:look F a4=some u4:=by rfl)(h5:look F a5=some u5:=by rfl)(h6:look F a6=some u6:=by rfl)(h7:look F a7=some u7:=by rfl)(h8:look F a8=some u8:=by rfl)(h9:look F a9=some u9:=by rfl)(h10:look F a10=some u10:=by rfl)(h11:look F a11=some u11:=by rfl):aC F [(a0,u0),(a1,u1),(a2,u2),(a3,u3),(a4,u4),(a5,u5),(a6,u6),(a7,u7),(a8,u8),(a9,u9),(a10,u10),(a11,u11)]:=⟨h0,⟨h1,⟨h2,⟨h3,⟨h4,⟨h5,⟨h6,⟨h7,⟨h8,⟨h9,⟨h10,⟨h11,trivial⟩⟩⟩⟩⟩⟩⟩⟩⟩⟩⟩⟩
theorem aC.k13 {F:Fr}(a0 a1 a2 a3 a4 a5 a6 a7 a8 a9 a10 a11 a12:Nat){u0 u1 u2 u3 u4 u5 u6 u7 u8 u9 u10 u11 u12:Value}(h0:look F a0=some u0:=by rfl)(h1:look F a1=some u1:=by rfl)(h2:look F a2=some u2:=by rfl)(h3:look F a3=some u3:=by rfl)(h4:look F a4=some u4:=by rfl)(h5:look F a5=some u5:=by rfl)(h6:look F a6=some u6:=by rfl)(h7:look F a7=some u7:=by rfl)(h8:look F a8=some u8:=by rfl)(h9:look F a9=some u9:=by rfl)(h10:look F a10=some u10:=by rfl)(h11:look F a11=some u11:=by rfl)(h12:look F a12=some u12:=by rfl):aC F [(a0,u0),(a1,u1),(a2,u2),(a3,u3),(a4,u4),(a5,u5),(a6,u6),(a7,u7),(a8,u8),(a9,u9),(a10,u10),(a11,u11),(a12,u12)]:=⟨h0,⟨h1,⟨h2,⟨h3,⟨h4,⟨h5,⟨h6,⟨h7,⟨h8,⟨h9,⟨h10,⟨h11,⟨h12,trivial⟩⟩⟩⟩⟩⟩⟩⟩⟩⟩⟩⟩⟩
theorem aC.k16 {F:Fr}(a0 a1 a2 a3 a4 a5 a6 a7 a8 a9 a10 a11 a12 a13 a14 a15:Nat){u0 u1 u2 u3 u4 u5 u6 u7 u8 u9 u10 u11 u12 u13 u14 u15:Value}(h0:look F a0=some u0:=by rfl)(h1:look F a1=some u1:=by rfl)(h2:look F a2=some u2:=by rfl)(h3:look F a3=some u3:=by rfl)(h4:look F a4=some u4:=by rfl)(h5:look F a5=some u5:=by rfl)(h6:look F a6=some u6:=by rfl)(h7:look F a7=some u7:=by rfl)(h8:look F a8=some u8:=by rfl)(h9:look F a9=some u9:=by rfl)(h10:look F a10=some u10:=by rfl)(h11:look F a11=some u11:=by rfl)(h12:look F a12=some u12:=by rfl)(h13:look F a13=some u13:=by rfl)(h14:look F a14=some u14:=by rfl)(h15:look F a15=some u15:=by rfl):aC F [(a0,u0),(a1,u1),(a2,u2),(a3,u3),(a4,u4),(a5,u5),(a6,u6),(a7,u7),(a8,u8),(a9,u9),(a10,u10),(a11,u11),(a12,u12),(a13,u13),(a14,u14),(a15,u15)]:=⟨h0,⟨h1,⟨h2,⟨h3,⟨h4,⟨h5,⟨h6,⟨h7,⟨h8,⟨h9,⟨h10,⟨h11,⟨h12,⟨h13,⟨h14,⟨h15,trivial⟩⟩⟩⟩⟩⟩⟩⟩⟩⟩⟩⟩⟩⟩⟩⟩
theorem aC.k17 {F:Fr}(a0 a1 a2 a3 a4 a5 a6 a7 a8 a9 a10 a11 a12 a13 a14 a15 a16:Nat){u0 u1 u2 u3 u4 u5 u6 u7 u8 u9 u10 u11 u12 u13 u14 u15 u16:Value}(h0:look F a0=some u0:=by rfl)(h1:look F a1=some u1:=by rfl)(h2:look F a2=some u2:=by rfl)(h3:look F a3=some u3:=by rfl)(h4:look F a4=some u4:=by rfl)(h5:look F a5=some u5:=by rfl)(h6:look F a6=some u6:=by rfl)(h7:look F a7=some u7:=by rfl)(h8:look F a8=some u8:=by rfl)(h9:look F a9=some u9:=by rfl)(h10:look F a10=some u10:=by rfl)(h11:look F a11=some u11:=by rfl)(h12:look F a12=some u12:=by rfl)(h13:look F a13=some u13:=by rfl)(h14:look F a14=some u14:=by rfl)(h15:look F a15=some u15:=by rfl)(h16:look F a16=some u16:=by rfl):aC F [(a0,u0),(a1,u1),(a2,u2),(a3,u3),(a4,u4),(a5,u5),(a6,u6),(a7,u7),(a8,u8),(a9,u9),(a10,u10),(a11,u11),(a12,u12),(a13,u13),(a14,u14),(a15,u15),(a16,u16)]:=⟨h0,⟨h1,⟨h2,⟨h3,⟨h4,⟨h5,⟨h6,⟨h7,⟨h8,⟨h9,⟨h10,⟨h11,⟨h12,⟨h13,⟨h14,⟨h15,⟨h16,trivial⟩⟩⟩⟩⟩⟩⟩⟩⟩⟩⟩⟩⟩⟩⟩⟩⟩
section
variable {P:Program}{n:Nat}{F F0:Fr}{A:World→Prop}{c:Ctx}{H R:List ai}{ty:TypeId}{x y z:Operand}{v:Value}{Q:Exit→Act→World→Prop}{ops:Array Oper}{rest:List Oper}
 {d:Nat} {pos:String} {after:Array Edge} {t e:TypeId}
def wJ {ι:Type}(n:Nat)(G:ι→Fr→Fr)(F0:Fr)(φ:ι→Prop)(μ:ι→Nat)(c:Ctx)(b:ι→List ai)(k:Nat)(a:Act)(w:World):Prop:=
 ∃y,μ y<k∧Has n a (G y F0)∧φ y∧Mm c (b y) w
def Met {ι:Type}(n:Nat)(G:ι→Fr→Fr)(F0:Fr)(φ:ι→Prop)(c:Ctx)(b:ι→List ai)(a:Act)(w:World):Prop:=
 ∃y,Has n a (G y F0)∧φ y∧Mm c (b y) w
theorem St.Fy {ι:Type}{body:Code}(G:ι→Fr→Fr)(a:ι→List ai)(φ:ι→Prop)(μ:ι→Nat)(b:ι)(d:aC F F0)(e:φ b)(f:Sub (G b F0) F)(hH:∀w,Mm c H w→Mm c (a b) w)
 (round:∀x,φ x→St n (G x F0) (Mm c (a x)) (body.wp P (Exit.then (wJ n G F0 φ μ c a (μ x)) Q))):
 St n F (Mm c H) ((Code.loop body).wp P Q):=by
 refine St.loop (λx=>G x F0) (λx w=>φ x∧Mm c (a x) w) μ b f (λw hw=>⟨e,hH w hw⟩) λx=> ?_
 exact St.and λhx=>round x hx
theorem St.p5 {ι:Type}{G:ι→Fr→Fr}{a:ι→List ai}{φ:ι→Prop}{μ:ι→Nat}{k:Nat}(y:ι)(b:φ y)(hm:μ y<k)(d:Sub (G y F0) F)(e:∀w,Mm c H w→Mm c (a y) w):
 St n F (Mm c H) (wJ n G F0 φ μ c a k):=
 λ_ w f hw=>⟨y,hm,f.sub d,b,e w hw⟩
theorem St.aeZ {ι:Type}{body:Code}(G:ι→Fr→Fr)(φ:ι→Prop)(μ:ι→Nat)(a:ι)(hk:aC F F0)(b:φ a)(d:Sub (G a F0) F)
 (round:∀x,φ x→St n (G x F0) (Mm c H) (body.wp P (Exit.then (wJ n G F0 φ μ c (λ_=>H) (μ x)) Q))):
 St n F (Mm c H) ((Code.loop body).wp P Q):=St.Fy G (λ_=>H) φ μ a hk b d (λ_ hw=>hw) round
theorem St.OP {ι:Type}{G:ι→Fr→Fr}{φ:ι→Prop}{μ:ι→Nat}{k:Nat}{H':List ai}(y:ι)(a:φ y)(hm:μ y<k)(b:Sub (G y F0) F)(d:∀w,Mm c H w→Mm c H' w):
 St n F (Mm c H) (wJ n G F0 φ μ c (λ_=>H') k):=St.p5 y a hm b d
def Cf {ι κ:Type}(n:Nat)(G:ι→κ→Fr→Fr)(F0:Fr)(φ:ι→κ→Prop)(μ:ι→κ→Nat)(c:Ctx)(b:ι→κ→List ai)(k:Nat)(a:Act)(w:World):Prop:=
 ∃y z,μ y z<k∧Has n a (G y z F0)∧φ y z∧Mm c (b y z) w
theorem St.ZM {ι κ:Type}{body:Code}(G:ι→κ→Fr→Fr)(d:ι→κ→List ai)(φ:ι→κ→Prop)(μ:ι→κ→Nat)(e:ι)(f:κ)(g:aC F F0)(h:φ e f)(i:Sub (G e f F0) F)(hH:∀w,Mm c H w→Mm c (d e f) w)
 (round:∀x z,φ x z→St n (G x z F0) (Mm c (d x z)) (body.wp P (Exit.then (Cf n G F0 φ μ c d (μ x z)) Q))):
 St n F (Mm c H) ((Code.loop body).wp P Q):=by
 refine St.loop (ι:=ι×κ) (λx=>G x.1 x.2 F0) (λx w=>φ x.1 x.2∧Mm c (d x.1 x.2) w) (λx=>μ x.1 x.2) (e,f) i (λw hw=>⟨h,hH w hw⟩) λx=> ?_
 refine St.and λhx=>λa w j hw=>wp_mono (round x.1 x.2 hx a w j hw) ?_
 intro ex p w' b
 cases ex with
 |normal=>obtain⟨y,z,h1,k,m,o⟩:=b;exact⟨(y,z),h1,k,m,o⟩
 |exit id=>exact b
 |goto l=>exact b
 |ret=>exact b
 |panic ch=>exact b
 |outgrown=>exact b
theorem St.lC {ι κ:Type}{G:ι→κ→Fr→Fr}{a:ι→κ→List ai}{φ:ι→κ→Prop}{μ:ι→κ→Nat}{k:Nat}(y:ι)(z:κ)(b:φ y z)(hm:μ y z<k)(d:Sub (G y z F0) F)(e:∀w,Mm c H w→Mm c (a y z) w):
 St n F (Mm c H) (Cf n G F0 φ μ c a k):=
 λ_ w f hw=>⟨y,z,hm,f.sub d,b,e w hw⟩
theorem St.join {ι:Type}{p q:Code}(G:ι→Fr→Fr)(d:ι→List ai)(φ:ι→Prop)(e:aC F F0)
 (h1:St n F (Mm c H) (p.wp P (Exit.then (Met n G F0 φ c d) Q))) (f:∀y,φ y→St n (G y F0) (Mm c (d y)) (q.wp P Q)):
 St n F (Mm c H) ((Code.seq p q).wp P Q):=by
 intro a w g hw;refine wp_seq (wp_mono (h1 a w g hw) ?_);intro ex h w' b
 cases ex with
 |normal=>obtain⟨y,i,j,k⟩:=b;exact f y j h w' i k
 |exit id=>exact b
 |goto l=>exact b
 |ret=>exact b
 |panic ch=>exact b
 |outgrown=>exact b
theorem St.met {ι:Type}{G:ι→Fr→Fr}{a:ι→List ai}{φ:ι→Prop}(y:ι)(b:φ y)(d:Sub (G y F0) F)(e:∀w,Mm c H w→Mm c (a y) w):
 St n F (Mm c H) (Met n G F0 φ c a):=
 λ_ w f hw=>⟨y,f.sub d,b,e w hw⟩
theorem St.wf {α:Type}{Rr:Rp α}{xs:List α}{T:Act→World→Prop}(v:Value)[hd:sP v H α Rr xs](h:(∀x∈xs,Rr.wf x)→xs.length≤9223372036854775807→St n F (Mm c H) T):St n F (Mm c H) T:=by
 intro a w b hw;obtain⟨ρ,hm⟩:=hw.out;obtain⟨ad,cap,_,f,d,e,_⟩:=hm.sl hd;exact h e (by simp only[maxLen]at d;omega) a w b hw
theorem St.shape {α:Type}{Rr:Rp α}{xs:List α}{T:Act→World→Prop}(v:Value)[hd:sP v H α Rr xs](h:∀ad cap,v= .slice ad xs.length cap→(ad=none→xs=[])→St n F (Mm c H) T):St n F (Mm c H) T:=by
 intro a w g hw;obtain⟨ρ,hm⟩:=hw.out;obtain⟨ad,cap,h1,_,_,_,d⟩:=hm.sl hd;refine h ad cap h1 (λi=> ?_) a w g hw
 rcases d with d|⟨b,off,C,e,fr,f,_⟩
 ·exact d
 ·rw[i]at f;cases f
theorem St.dH {T:Act→World→Prop}(e:TypeId)(size:Nat)(h:St n F (Mm c (row (.slice none 0 0) e size 0 []::H)) T):St n F (Mm c H) T:=by
 refine h.ny λw hw=> ?_
 obtain⟨ρ,hm⟩:=hw.out;exact Mm.mk (hm.GG rfl ⟨rfl,aQ _⟩ rfl (aQ _) (λ_ _=>rfl) (dP.2 (World.ownsRow_nil _ _ _ _)) (λb a=>by rw[dF]at a;simp[Value.ownBlock]at a))
theorem run_equalIn_bool (k:Nat){p q:Bool}{w:World}(ht:P.underlying t=some .bool):(Op.equalIn (k+1) t (.bool p) (.bool q)).run P w= .ok (p==q) w:=by
 simp only[Op.equalIn,Sem.run_bind,run_underlying ht,Result.andThen_ok,Sem.run_pure]
theorem run_equal_bool {p q:Bool}{w:World}(ht:P.underlying t=some .bool):(Op.equal t (.bool p) (.bool q)).run P w= .ok (p==q) w:=by
 have:=run_equalIn_bool (P:=P) (w:=w) 9999 (p:=p) (q:=q) ht
 unfold Op.equal Op.maxDepth;exact this
theorem Ev.Tt {p q:Bool}{u:TypeId}(hx:aX F x (.bool p))(hy:aX F y (.bool q))(ht:P.underlying t=some .bool):Ev P n F A (.binOp .eql t x y u) ty (.bool (p==q)):= .of_run λa w b _=>by
 simp only[execOp,hx.eval b,hy.eval b,eqGuard_at_bool,binOp,Sem.run_bind,Sem.run_pure,Result.andThen_ok,run_equal_bool ht]
theorem Ev.D1 {p q:Bool}{u:TypeId}(hx:aX F x (.bool p))(hy:aX F y (.bool q))(ht:P.underlying t=some .bool):Ev P n F A (.binOp .neq t x y u) ty (.bool (!(p==q))):= .of_run λa w b _=>by
 simp only[execOp,hx.eval b,hy.eval b,eqGuard_at_bool,binOp,Sem.run_bind,Sem.run_pure,Result.andThen_ok,run_equal_bool ht]
section rows
variable {size m k:Nat}{cs:List Value}
theorem fN.row {H:List ai}{ρ:Ro}{w:World}(h:fN c H ρ w)(a:tJ v H e size m cs):w.ownsRow 0 e size v m cs:=dP.1 (h.dC _ a.mem)
theorem Ev.ZI {d:TypeId}[f:tJ v H e size m cs](hx:aX F x v)(ht:P.underlying t=some (.slice d)):
 Ev P n F (Mm c H) (.call {callee:= .builtin .len,args:= #[x],argTypes:= #[t]}) ty (iv m):= .of_run λa w b hw=>by
 obtain⟨ρ,hm⟩:=hw.out
 rcases(hm.row f).2 with⟨rfl,rfl⟩|⟨g,cap,cur,rfl,_⟩
 ·simp[execOp,resolve,invoke,builtin,hx.eval b,Builtin.len_,run_underlying ht,goInt]
 ·simp[execOp,resolve,invoke,builtin,hx.eval b,Builtin.len_,run_underlying ht,goInt]
theorem Ev.cw {i:Int}{kd:IntKind}[d:tJ v H e size m cs](hx:aX F x v)(hy:aX F y (.int kd i))(ht:P.underlying t=some (.slice e))(f:(P.info? e).map (·.size)=some size)
 (h:i=k) (hk:k<m):Ev P n F (Mm c H) (.indexAddr t x y) ty (gx v size k 0):= .of_run λa w b hw=>by
 obtain⟨ρ,hm⟩:=hw.out
 rcases(hm.row d).2 with⟨rfl,rfl⟩|⟨g,cap,cur,rfl,_⟩
 ·omega
 ·obtain⟨inf,j,l⟩:=dX.1 f
  subst h
  simp[execOp,hx.eval b,hy.eval b,Instr.indexAt,asIntOf,run_underlying ht,sizeOf,typeInfo,j,l,hk,dY,Addr.add_lit]
theorem jY {w:World}(h:w.ownsRow 0 e size v m cs){k off:Nat}{u:Value}(hk:k<m)(hu:cs[k*size+off]?=some u):
 ∃b,gx v size k off= .pointer (some ⟨b,k*size+off,none⟩)∧w.cell? ⟨b,k*size+off,none⟩=some u∧v.ownBlock=some b∧w.frozen? ⟨b,k*size+off,none⟩=false:=by
 obtain⟨f,c⟩:=h
 rcases c with⟨rfl,rfl⟩|⟨g,cap,cur,rfl,_,a,i,j,l,d⟩
 ·omega
 ·refine⟨g,by rw[dY];simp,?_,rfl,by simp[World.frozen?,a]⟩
  rw[cG a];rw[←d]at hu
  have n:=(eh.1 hu).1
  rw[om]at hu
  split at hu
  ·simpa using hu
  ·simp at hu
theorem Ev.cx {off:Nat}{dd:TypeDesc}{u:Value}[d:tJ v H e size m cs](hx:aX F x (gx v size k off))(ht:P.underlying t=some dd)(f:(match dd with| .struct _| .array _ _=>False|_=>True))
 (hk:k<m) (hu:cs[k*size+off]?=some u):Ev P n F (Mm c H) (.load t x) ty u:= .of_run λa w g hw=>by
 obtain⟨ρ,hm⟩:=hw.out;obtain⟨b,h1,h,_⟩:=jY (hm.row d) hk hu;rw[h1]at hx
 simp[execOp,hx.eval g,Instr.loadAt,Instr.sureAddr,eo ht f h]
theorem Ev.Yh {off o i:Nat}{s:TypeId}[b:tJ v H e size m cs](hx:aX F x (gx v size k off))(hk:k<m)(d:bE P s i=some o):Ev P n F (Mm c H) (.fieldAddr s x i) ty (gx v size k (off+o)):= .of_run λa w f hw=>by
 obtain⟨ρ,hm⟩:=hw.out
 rcases(hm.row b).2 with⟨rfl,rfl⟩|⟨g,cap,cur,rfl,_⟩
 ·omega
 ·rw[dY]at hx
  simp[execOp,hx.eval f,nF d,dY,Addr.add_lit,Nat.add_assoc]
theorem St.bz {off:Nat}{u:Value}[r:jH v H e size m cs R](hx:aX F x (gx v size k off))(hy:aX F y u)(s:(P.info? t).map (·.size)=some 1)(h1:u.oneCell'=true)
 (hk:k<m) (T:off<size) (h:St n F (Mm c (row v e size m (cs.set (k*size+off) u)::R)) (wpList P ops Q rest)):
 St n F (Mm c H) (wpList P ops Q ({dst:=none,op:= .store t x y,type:=ty,pos:=pos,after:=after,guard:=none}::rest)):=by
 refine St.p9 (K:=λU H'=>H'=row v e size m (cs.set (k*size+off) u)::R) ?_ ?_
 ·intro a w ρ l hm
  have o:=hm.perm r.perm
  have d:=dP.1 (o.dC _ (aV ..))
  have z:k*size+off<cs.length:=by
   rw[d.1]
   have:(k+1)*size≤m*size:=fJ _ hk
   rw[ji]at this;omega
  obtain⟨b,A,B,f,C⟩:=jY d hk (aj z);rw[A]at hx;obtain⟨i,D,E⟩:=dX.1 s;refine⟨.skip,w.setCell ⟨b,k*size+off,none⟩ u,ρ,_,?_,⟨_,.inr ⟨rfl,rfl⟩,rfl⟩,?_⟩
  ·simp[execOp,hx.eval l,hy.eval l,Instr.storeAt,Instr.sureAddr,storeVar,sizeOf,typeInfo,D,E,cells_one h1,storeCells,run_store P w _ u _ h1,B,C,Addr.add_zero']
  ·refine o.alter rfl ⟨rfl,aQ _⟩ rfl (by simp) (λj V p=> ?_) (dP.2 ?_) (λW q=>by rw[dF]at q⊢;exact .inl q)
   ·rw[dF,f]at p
    simp only[World.setCell,Array.getElem?_modify]
    rw[aA (λe=>p (by rw[e]))]
   ·obtain⟨G,I⟩:=d
    refine⟨by rw[eC];exact G,?_⟩
    rcases I with⟨rfl,rfl⟩|⟨g,cap,cur,rfl,J,L,M,N,O,S⟩
    ·omega
    ·simp only[Value.ownBlock,Option.some.injEq]at f
     subst f;refine .inr ⟨_,cap,_,rfl,J,qi L,M,N,by simp[O],?_⟩;rw[←S,Array.toList_setIfInBounds,List.take_set]
 ·rintro _ _ rfl
  exact h
theorem og {i:TypeInfo}{a:Value}{wQ:Nat}(b:(P.info? e).map (·.size)=some size)(hz:(P.info? e).bind (·.zero)=some a)(c:(P.info? e).map (·.bytes)=some wQ)(d:P.info? e=some i):i.size=size∧i.zero=some a∧i.bytes=wQ:=by
 rw[d]at b hz c;exact⟨by simpa using b,by simpa using hz,by simpa using c⟩
theorem ni {w:World}{i:TypeInfo}{o:Value}{wQ:Nat}(t ty e:TypeId)(ht:P.underlying t=some (.slice e))(p:P.info? e=some i)(hz:i.zero=some o)(y:i.size=size)(z:i.bytes=wQ)(E:o.cells.size=size)(F:0<size)
 (v:Value) (m:Nat) (cs:List Value) (q:w.ownsRow 0 e size v m cs) (a:Addr) (k f:Nat) (news:List Value) (h:news.length=k*size) (s:∀j u,news[j]?=some u→w.cell? (a.add j)=some u) (h1:∀u∈news,u.oneCell'=true)
 (d:m+k≤maxLen) (A:(m+k)*wQ≤140737488355328):
 ∃v' w',(Builtin.append_ #[t,t] ty #[v,.slice (some a) k f]).run P w= .ok v' w'∧w'.ownsRow 0 e size v' (m+k) (cs++news)∧w.grownBy w' v.ownBlock∧
  (v'= .slice none 0 0↔v= .slice none 0 0∧k=0)∧(∀b,v'.ownBlock=some b→v.ownBlock=some b∨w.heap.size≤b)∧w.drawn≤w'.drawn:=by
 subst y;subst z;obtain⟨v',w',r,H,I,J⟩:=run_append_own (P:=P) w 0 t ty e i o i.size i.bytes ht p hz rfl rfl E F v m cs q a k f news h s h1 d A (aP _);refine⟨v',w',r,H,I,J,?_⟩
 rcases q.2 with⟨rfl,rfl⟩|⟨g,cap,cur,rfl,x,K,R,S,L,M⟩
 ·obtain⟨N,O,c,B,_⟩:=run_append_own (P:=P) w w.heap.size t ty e i o i.size i.bytes ht p hz rfl rfl E F (.slice none 0 0) 0 cs ⟨q.1,.inl ⟨rfl,rfl⟩⟩ a k f news h s h1 d A (aQ _)
  rw[r]at c
  simp only[Result.ok.injEq]at c
  obtain⟨rfl,rfl⟩:=c;refine⟨?_,?_⟩
  ·intro b l
   rcases B.2 with⟨rfl,_⟩|⟨g,cap,cur,rfl,x,_⟩
   ·simp[Value.ownBlock]at l
   ·simp only[Value.ownBlock,Option.some.injEq]at l
    subst l;exact .inr x
  ·have Q:cs=[]:=by
    have:=q.1
    simpa using this
   rcases Nat.eq_zero_or_pos k with rfl|hk
   ·have C:news=[]:=by simpa using h
    subst C
    have n:(Builtin.append_ #[t,t] ty #[.slice none 0 0,.slice (some a) 0 f]).run P w= .ok (.slice none 0 0) w:=by
     simp[Builtin.append_,run_underlying ht,sizeOf,typeInfo,p,Builtin.lenOf,Builtin.firstCells,loadCells,loadCellsFrom]
    rw[r]at n
    simp only[Result.ok.injEq]at n
    rw[n.2];exact aQ _
   ·have n:=run_append_nil (P:=P) w t ty e i o ht p hz a k f news h s hk (by simp only[maxLen]at d;omega) (by have:(0+k)*i.bytes=k*i.bytes:=by rw[iW]
                                                                                                              omega)
    rw[r]at n
    simp only[Result.ok.injEq]at n
    rw[n.2];exact Nat.le_succ _
 ·by_cases G:m+k≤cap
  ·have D:m*i.size+news.length≤cur.size:=by rw[h,L,←ji];exact fJ _ G
   have c:=run_append_room (P:=P) w t ty e i ht p g m cap cur K a k f news h s h1 G D
   rw[r]at c
   simp only[Result.ok.injEq]at c
   obtain⟨rfl,rfl⟩:=c;exact⟨λb l=> .inl l,aQ _⟩
  ·have holds:∀j u,cs[j]?=some u→w.cell? ((⟨g,0,none⟩:Addr).add j)=some u:=q.cells (g:=g) rfl
   have c:=run_append_grow (P:=P) w t ty e i o ht p hz ⟨g,0,none⟩ m cap cs q.1 holds a k f news h s zE (by simp only[maxLen]at d;omega) (growslice_fits zE A)
   rw[r]at c
   simp only[Result.ok.injEq]at c
   obtain⟨rfl,rfl⟩:=c;refine⟨λb l=> ?_,Nat.le_succ _⟩
   simp only[Value.ownBlock,Option.some.injEq]at l
   exact .inr zE
theorem St.aq {v2:Value}{m2:Nat}{news:List Value}{p:List ai}{q:Value}{wQ:Nat}[t2:jH v2 H e size m2 news p][t1:jH v p e size m cs R]
 (hx:aX F x v) (hy:aX F y v2) (ht:P.underlying t=some (.slice e)) (r:(P.info? e).map (·.size)=some size) (hz:(P.info? e).bind (·.zero)=some q) (E:(P.info? e).map (·.bytes)=some wQ)
 (G:∀u∈news,u.oneCell'=true) (hlen:m+m2≤9223372036854775807) (I:(m+m2)*wQ≤140737488355328) (J:q.cells.size=size) (L:Nat.ble 1 size=true) (g:Nat.ble 1 m2=true) (hd:Nat.ble (d+1) n=true)
 (h:∀v',(v'= .slice none 0 0↔v= .slice none 0 0∧m2=0)→St n ((d,v')::F) (Mm c (row v' e size (m+m2) (cs++news)::R)) (wpList P ops Q rest)):
 St n F (Mm c H) (wpList P ops Q ({dst:=some d,op:= .call {callee:= .builtin .append,args:= #[x,y],argTypes:= #[t,t]},type:=ty,pos:=pos,after:=after,guard:=none}::rest)):=by
 refine St.PS (K:=λv' H'=>(v'= .slice none 0 0↔v= .slice none 0 0∧m2=0)∧H'=row v' e size (m+m2) (cs++news)::R) ?_ hd ?_
 ·intro a w ρ s hm
  have z:=hm.perm t2.perm
  have A:=dP.1 (z.dC _ (aV ..))
  have B:=z.drop.perm t1.perm
  have M:=dP.1 (B.dC _ (aV ..))
  have N:=eI g
  obtain⟨i,C,hsz⟩:=dX.1 r;obtain⟨O,S,T⟩:=og r hz E C
  rcases A.2 with⟨_,rfl⟩|⟨g2,U,V,rfl,_,k,X8,hc2,W,X⟩
  ·omega
  ·obtain⟨v',w',Y,l,f,Z,o,TC⟩:=ni (P:=P) (w:=w) t ty e ht C S O T J (eI L) v m cs M ⟨g2,0,none⟩ m2 U news A.1
    (λj u b=>by
     rw[Addr.add_lit,iW,cG k];rw[←X,om]at b
     split at b
     ·simpa using b
     ·simp at b) G (by unfold maxLen;omega) I
   refine⟨.value v',w',ρ,_,?_,⟨_,.inl rfl,Z,rfl⟩,?_⟩
   ·simp[execOp,resolve,invoke,builtin,hx.eval s,hy.eval s,Y]
   ·refine B.alter f.os ⟨f.tape,TC⟩ f.output f.size (λj b g=> ?_) (dP.2 l) (λb' D=> ?_)
    ·rw[dF]at g;exact f.block j b (λe=>g e.symm)
    ·rw[dF]at D⊢;exact o b' D
 ·rintro _ _ ⟨h1,rfl⟩
  exact h _ h1
theorem St.oA {α:Type}{Rr:Rp α}{xs:List α}{v2:Value}{B:Value}{wQ:Nat}[t2:sP v2 H α Rr xs][t1:jH v H e Rr.size m cs R]
 (hx:aX F x v) (hy:aX F y v2) (ht:P.underlying t=some (.slice e)) (D:(P.info? e).map (·.size)=some Rr.size) (hz:(P.info? e).bind (·.zero)=some B) (J:(P.info? e).map (·.bytes)=some wQ)
 (L:∀u∈rows Rr xs,u.oneCell'=true) (hlen:m+xs.length≤9223372036854775807) (M:(m+xs.length)*wQ≤140737488355328) (N:B.cells.size=Rr.size) (O:Nat.ble 1 Rr.size=true) (S:True) (hd:Nat.ble (d+1) n=true)
 (h:∀v',(v'= .slice none 0 0↔v= .slice none 0 0∧xs.length=0)∨xs=[]→St n ((d,v')::F) (Mm c (row v' e Rr.size (m+xs.length) (cs++rows Rr xs)::R)) (wpList P ops Q rest)):
 St n F (Mm c H) (wpList P ops Q ({dst:=some d,op:= .call {callee:= .builtin .append,args:= #[x,y],argTypes:= #[t,t]},type:=ty,pos:=pos,after:=after,guard:=none}::rest)):=by
 refine St.PS (K:=λv' H'=>((v'= .slice none 0 0↔v= .slice none 0 0∧xs.length=0)∨xs=[])∧H'=row v' e Rr.size (m+xs.length) (cs++rows Rr xs)::R) ?_ hd ?_
 ·intro a w ρ k hm
  obtain⟨ad,cap,rfl,_,_,_,p⟩:=hm.sl t2
  have q:=hm.perm t1.perm
  have E:=dP.1 (q.dC _ (aV ..))
  obtain⟨i,l,hsz⟩:=dX.1 D;obtain⟨T,U,V⟩:=og D hz J l
  cases o:xs with
  |nil=>
   subst o
   have r:(Builtin.append_ #[t,t] ty #[v,.slice ad ([]:List α).length cap]).run P w= .ok v w:=by
    rcases E.2 with⟨rfl,rfl⟩|⟨g,akK,cur,rfl,_,hg,W,_⟩
    ·cases ad<;>simp[Builtin.append_,run_underlying ht,sizeOf,typeInfo,l,Builtin.lenOf,Builtin.firstCells,loadCells,loadCellsFrom]
    ·cases ad<;>simp[Builtin.append_,run_underlying ht,sizeOf,typeInfo,l,Builtin.lenOf,Builtin.firstCells,loadCells,loadCellsFrom,W,storeCells]
   refine⟨.value v,w,ρ,_,?_,⟨_,.inl rfl,.inr rfl,rfl⟩,?_⟩
   ·simp only[execOp,resolve,invoke,builtin,hx.eval k,hy.eval k,List.map_toArray,List.map_cons,List.map_nil,Sem.run_bind,Sem.run_pure,Result.andThen_ok]
    rw[r];rfl
   ·simpa[rows]using q
  |cons x0 X=>
   rcases p with p|⟨b,off,C,e',fr,rfl,Y,Z⟩
   ·rw[p]at o;cases o
   ·rw[←o]
    obtain⟨v',w',r,s,f,aiU,z,TC⟩:=ni (P:=P) (w:=w) t ty e ht l U T V N (eI O) v m cs E ⟨b,off,none⟩ xs.length cap (rows Rr xs) (fM Rr xs)
     (λj u A=>by
      rw[Addr.add_lit,cG (hm.fits _ _ Y)]
      exact Z j u A) L (by unfold maxLen;omega) M
    refine⟨.value v',w',ρ,_,?_,⟨_,.inl rfl,.inl aiU,rfl⟩,?_⟩
    ·simp[execOp,resolve,invoke,builtin,hx.eval k,hy.eval k,r]
    ·refine q.alter f.os ⟨f.tape,TC⟩ f.output f.size (λj A G=> ?_) (dP.2 s) (λb' I=> ?_)
     ·rw[dF]at G;exact f.block j A (λe=>G e.symm)
     ·rw[dF]at I⊢;exact z b' I
 ·rintro _ _ ⟨h1,rfl⟩
  exact h _ h1
theorem mJ {α:Type}(Rr:Rp α)(xs:List α):∀u∈rows Rr xs,u.oneCell'=true:=by
 intro u hu
 simp only[rows,List.mem_flatMap]at hu
 obtain⟨x,_,hx⟩:=hu;exact Rr.one x u hx
theorem St.kr {f:Value}{wQ:Nat}{i j:Int}{kl l:IntKind}{m:Nat}(hx:aX F x (.int kl i))(hy:aX F y (.int l j))(ht:P.underlying t=some (.slice e))(o:(P.info? e).map (·.size)=some 1)(hz:(P.info? e).bind (·.zero)=some f)(g:(P.info? e).map (·.bytes)=some wQ)
 (hm:i=m) (s:j=m) (v:wQ*m≤281474976710656∧m≤9223372036854775807) (h1:f.cells= #[f]) (hd:Nat.ble (d+1) n=true)
 (h:∀b,St n ((d,tO b m m)::F) (Mm c (row (tO b m m) e 1 m (List.replicate m f)::H)) (wpList P ops Q rest)):
 St n F (Mm c H) (wpList P ops Q ({dst:=some d,op:= .makeSlice t x y,type:=ty,pos:=pos,after:=after,guard:=none}::rest)):=by
 subst hm s;refine St.PS (K:=λu H'=>∃b,u= tO b m m∧H'=row (tO b m m) e 1 m (List.replicate m f)::H) ?_ hd ?_
 ·intro a w ρ p z
  obtain⟨i,q,E⟩:=dX.1 o;obtain⟨A,B,C⟩:=og o hz g q
  have r:=run_make (P:=P) w t e i f ht q B kl l m m zE zE (by rw[C,←Int.natCast_mul];exact Int.ofNat_le.2 v.1) zE
  have D:madeCells f.cells (m*i.size)=(List.replicate m f).toArray:=by
   rw[A,h1]
   apply Array.ext
   ·simp[madeCells]
   ·intro k G I
    simp[madeCells,Nat.mod_one]
  simp only[Int.toNat_natCast,D]at r
  refine⟨.value (.slice (some ⟨w.heap.size,0,none⟩) m m),w.alloc (.cells (List.replicate m f).toArray e),ρ,_,?_,⟨_,.inl rfl,_,rfl,rfl⟩,?_⟩
  ·simp[execOp,hx.eval p,hy.eval p,r]
  ·refine z.GG rfl ⟨rfl,aQ _⟩ rfl (by simp) (λk hk=>RowKit.Below.heap_alloc w _ k hk) (dP.2 ⟨by simp,.inr ⟨w.heap.size,m,_,rfl,aP _,heap_alloc_new w _,aQ _,by unfold maxLen;omega,by simp,by simp⟩⟩) ?_
   intro b g;rw[dF]at g;simp[Value.ownBlock]at g;omega
 ·rintro _ _ ⟨b,rfl,rfl⟩
  exact h b
theorem fN.bI {α:Type}(Rr:Rp α)(xs:List α){H:List ai}{ρ:Ro}{w:World}(h:fN c (J.row v e Rr.size m cs::H) ρ w)(i:cs=rows Rr xs)(hm:m=xs.length)(y:∀x∈xs,Rr.wf x):Mm c (J.aD (J.sl Rr v xs)::H) w:=by
 subst i hm
 have z:=dP.1 (h.dC _ (aV ..))
 rcases z.2 with⟨rfl,A⟩|⟨g,cap,cur,rfl,_,l,B,C,i,D⟩
 ·have hx:xs=[]:=gg A
  subst hx;exact Mm.mk (h.drop.fact _ ⟨none,0,rfl,aQ _,by unfold maxLen;omega,λx hx=>by simp at hx,.inl rfl⟩)
 ·have n:(J.row (tO g xs.length cap) e Rr.size xs.length (rows Rr xs)).key=some g:=by rw[dF];rfl
  have p:=h.own _ (aV ..) g n
  have F:g<w.heap.size:=(wI.1 l).1
  have q:=fw.1 h.Hb
  refine Mm.mk (ρ:=λk=>if k=g then some (.cells cur e (0,0))else ρ k) ?_
  have hle:Ro.le ρ (λk=>if k=g then some (.cells cur e (0,0))else ρ k):=by
   intro k o hk
   by_cases a:k=g
   ·subst a;rw[p.1]at hk;cases hk
   ·simp only[a,if_false];exact hk
  refine fN.fact ⟨h.os,h.tape,h.output,h.size,h.AO,?_,Ro.le_trans h.le hle,?_,?_,?_,q.2⟩ _ ?_
  ·intro k o hk
   by_cases a:k=g
   ·subst a;simp only[if_true,Option.some.injEq]at hk;subst hk;exact l
   ·simp only[a,if_false]at hk;exact h.fits k o hk
  ·intro k hk r
   by_cases a:k=g
   ·subst a
    rcases p.2 with s|s
    ·omega
    ·exact absurd s r
   ·simp only[a,if_false];exact h.new k hk r
  ·intro E d
   exact E.loc hle (λ_ _=>rfl) (h.dC E (bV _ d))
  ·intro E d b t
   have h1:=h.own E (bV _ d) b t
   refine⟨?_,h1.2⟩
   by_cases a:b=g
   ·subst a;exact absurd t (q.1 E d _ n)
   ·simp only[a,if_false];exact h1.1
  ·refine⟨some ⟨g,0,none⟩,cap,rfl,B,C,y,?_⟩
   refine .inr ⟨g,0,cur,e,(0,0),rfl,by simp,λj u f=> ?_⟩;rw[←D,om]at f
   split at f
   ·simpa using f
   ·simp at f
theorem St.bI {α:Type}{T:Act→World→Prop}(v:Value)(Rr:Rp α)(xs:List α)[a:jH v H e Rr.size m cs R](b:cs=rows Rr xs)(hm:m=xs.length)(d:∀x∈xs,Rr.wf x)
 (h:St n F (Mm c (aD (sl Rr v xs)::R)) T):St n F (Mm c H) T:=
 h.ny λ_ hw=>let⟨_,k⟩:=hw.out;(k.perm a.perm).bI Rr xs b hm d
end rows
end
section
variable {P:Program}{ops:Array Oper}{C:World→Prop}{Q:Exit→Act→World→Prop}
def K5 (k:Nat)(listed:Array Bool)(N:Nat):Prop:=listed.size=N∧∀j,j<N→listed[j]?=some (decide (j<k))
theorem K5.getD {k N:Nat}{listed:Array Bool}(h:K5 k listed N)(j:Nat)(d:Bool)(a:j<N):listed.getD j d=decide (j<k):=by
 rw[Array.getD_eq_getD_getElem?,h.2 j a];rfl
theorem K5.out {k N:Nat}{listed:Array Bool}(h:K5 k listed N)(j:Nat)(d:Bool)(a:N≤j):listed.getD j d=d:=by
 rw[Array.getD_eq_getD_getElem?,Sy (by rw[h.1];exact a)];rfl
theorem K5.set {k N:Nat}{listed:Array Bool}(h:K5 k listed N):K5 (k+1) (listed.setIfInBounds k true) N:=by
 refine⟨by simp[h.1],λj a=> ?_⟩;rw[Array.getElem?_setIfInBounds]
 by_cases e:k=j
 ·subst e;simp[h.1,a]
 ·rw[aA e,h.2 j a];congr 1
  rw[rh];simp only[decide_eq_true_eq];omega
theorem St.any {n:Nat}{F:Fr}{A:World→Prop}{id:Nat}{l:List Oper}(hm:P.follows .mixedOrders=true)(b:O7 A)
 (h:St n F A (wpAny P .any l.toArray Q l.length (Array.replicate l.length false))):St n F A ((Code.region id l.toArray true).wp P Q):=
 λa w c hw=>wp_region_any hm (by simpa using h a _ c (b w hw))
theorem St.one {n:Nat}{F:Fr}{A:World→Prop}{i:Nat}{o:Oper}{K:Act→World→Prop}(c:ops[i]?=some o)(h:St n F A (wpList P ops (Exit.then K Q) [o])):St n F A (wpOp P ops Q i K):=by
 intro a w d hw
 have h1:=h a w d hw
 unfold wpOp;rw[c]
 simp only[wpList]at h1
 simp only
 split
 ·rename_i b
  simp only[b,if_true]at h1
  rcases h1 with h1|⟨h1,a0,f,g⟩
  ·refine .inl ?_
   unfold Oper.wp at h1⊢
   generalize (execOp a.eval o).run P w=r at h1⊢
   cases r with
   |ok j w'=>
    cases j<;>simp only[Oper.upon]at h1⊢ <;>
     first
      |exact h1
      |exact Calls.mono h1 (λe k he=>by cases e<;>exact he)
      |exact Rows.mono h1 (λ_ _ he=>he)
   |halt x w'=>cases x<;>simp only[Oper.upon]at h1⊢ <;>exact h1
  ·exact .inr ⟨h1,a0,f,g⟩
 ·rename_i b
  simp only[b]at h1
  exact h1
theorem Sq.tail {n:Nat}{F:Fr}{A:World→Prop}{b:Array Oper}{c:List Oper}(h:St n F A (wpList P ops Q c)):Sq n F (wpQuiet P b A (λd=>∀w',A w'→wpList P ops Q c d w') []):=λa e w hw=>h a w e hw
end
def fx (b:Nat)(v:Value):dQ where
 f ρ:=∃C e fr,ρ b=some (.cells C e fr)∧C[0]?=some v
 mono ρ mY h:=by
  rintro ⟨C,e,fr,h1,a⟩;exact⟨C,e,fr,h _ _ h1,a⟩
class rp (b:Nat)(H:List ai)(v:outParam Value):Prop where
 mem:aD (fx b v)∈H
instance (priority:=high) rp.here (b:Nat)(v:Value)(H:List ai):rp b (aD (fx b v)::H) v:=⟨aV ..⟩
instance rp.there (b:Nat)(v:Value)(E:ai)(H:List ai)[h:rp b H v]:rp b (E::H) v:=⟨bV _ h.mem⟩
instance kh.map (ds:List dQ):kh ds (ds.map aD):=⟨λ_ h=>di h⟩
instance (priority:=low) kh.lift (ds:List dQ)(E:ai)(H:List ai)[h:kh ds H]:kh ds (E::H):=⟨λd hd=>bV _ (h.mem d hd)⟩
def all (w:World):Ro:=λk=>w.heap[k]?
theorem fN.ZF {c:Ctx}{H:List ai}{ρ:Ro}{w:World}(h:fN c H ρ w):Ro.le ρ (J.all w):=λk o hk=>h.fits k o hk
def cm (c:Ctx)(H:List ai)(ds:List dQ):Prop:=∀ρ w,fN c H ρ w→∀d∈ds,d.f (J.all w)
section
variable {c:Ctx}{H R:List ai}{ds:List dQ}{v:Value}
theorem cm.nil:cm c H []:=λ_ _ _ _ h=>by simp at h
theorem cm.aD {d:dQ}(h:cm c H ds)[hd:tH d H]:cm c H (d::ds):=λρ w hm b a=>by
 rcases bT.1 a with rfl|a
 ·exact b.mono _ _ hm.ZF (hm.aD hd)
 ·exact h ρ w hm b a
theorem C6 {α:Type}{Rr:Rp α}{xs:List α}{e:TypeId}{m:Nat}{cs:List Value}{w:World}(h:w.ownsRow 0 e Rr.size v m cs)(b:cs=rows Rr xs)(hm:m=xs.length)(c:∀x∈xs,Rr.wf x):(sl Rr v xs).f (J.all w):=by
 subst b hm
 rcases h.2 with⟨rfl,d⟩|⟨g,cap,cur,rfl,_,i,k,l,b,n⟩
 ·have hx:xs=[]:=gg d
  subst hx;exact⟨none,0,rfl,aQ _,by unfold maxLen;omega,λx hx=>by simp at hx,.inl rfl⟩
 ·refine⟨some ⟨g,0,none⟩,cap,rfl,k,l,c,.inr ⟨g,0,cur,e,(0,0),rfl,i,λj u a=> ?_⟩⟩
  rw[←n,om]at a
  split at a
  ·simpa using a
  ·simp at a
theorem cm.row {α:Type}{Rr:Rp α}{xs:List α}{e:TypeId}{size m:Nat}{cs:List Value}(h:cm c H ds)[d:tJ v H e size m cs](f:size=Rr.size)(g:cs=rows Rr xs)(hm:m=xs.length)(i:∀x∈xs,Rr.wf x):cm c H (sl Rr v xs::ds):=λρ w b j a=>by
 subst f
 rcases bT.1 a with rfl|a
 ·exact C6 (b.row d) g hm i
 ·exact h ρ w b j a
theorem cm.aU {b:Nat}{u:Value}{e:TypeId}{fr:Nat×Nat}{L:List Value}(h:cm c H ds)[f:BE b H (.cells (u::L).toArray e fr)]:cm c H (fx b u::ds):=λρ w d g a=>by
 rcases bT.1 a with rfl|a
 ·exact⟨_,e,fr,fz.1 (d.dC _ f.mem),by simp⟩
 ·exact h ρ w d g a
def dz (H:List ai):Prop:=∀E∈H,∀ρ mY w,E.ok ρ w→E.ok mY w
theorem dz.nil:dz []:=λ_ h=>by simp at h
theorem dz.row {H:List ai}{e:TypeId}{size m:Nat}{cs:List Value}(h:dz H):dz (J.row v e size m cs::H):=λE a ρ mY w k=>by
 rcases bT.1 a with rfl|a
 ·exact dP.2 (dP.1 k)
 ·exact h E a ρ mY w k
theorem dz.aU {H:List ai}{b:Nat}{o:Obj}(h:dz H):dz (J.aU b o::H):=λE a ρ mY w k=>by
 rcases bT.1 a with rfl|a
 ·exact fz.2 (fz.1 k)
 ·exact h E a ρ mY w k
theorem ia (ds:List dQ)(b:Nat):¬j0 (ds.map aD) b:=by
 rintro ⟨E,c,a⟩;obtain⟨d,_,rfl⟩:=cA.1 c
 rw[jS]at a;cases a
theorem Mm.aeV {dr:Prop}{P:Program}{f:FuncId}{args:Array Value}{post:Value→List ai→Prop}(l:EP dr P f args (ds.map J.aD) post)(m:c.dr→dr)(n:cm c H ds)(p:∀v H',post v H'→dz H'){w:World}(hm:Mm c H w):
 Calls P f args w λe w'=>∃v H',e= .returned v∧post v H'∧Mm c (H'++H) w':=by
 obtain⟨ρ,hm⟩:=hm.out
 have st:Start (ds.map J.aD) (J.all w) w:=
  ⟨rfl,⟨rfl,λ_=>aQ _⟩,rfl,aQ _,λ_ _ _=>rfl,λ_ _ h=>h,Ro.le_refl _,λ_ _ _=>rfl,λE a=>by
   obtain⟨d,hd,rfl⟩:=cA.1 a;exact dK.2 (n ρ w hm d hd),
   (λE a b i=>by
    obtain⟨d,hd,rfl⟩:=cA.1 a
    rw[jS]at i;cases i),
   by
    refine oq.2 (uo (R:=λ_ _=>True) ?_ (List.pairwise_of_forall λ_ _=>trivial));intro d t _ _ _ b i
    rw[jS]at i;cases i⟩
 refine(l w (J.all w) st).mono ?_;rintro e w' ⟨v,H',he,hp,g⟩;obtain⟨mY,g⟩:=g.out;refine⟨v,H',he,hp,?_⟩
 have hold:∀k,k<w.heap.size→w'.heap[k]?=w.heap[k]?:=λk hk=>g.AO k hk (ia ds k)
 have j:∀E∈H',∀b,E.key=some b→w.heap.size≤b:=λE a b i=>by
  rcases(g.own E a b i).2 with h1|h1
  ·exact h1
  ·exact absurd h1 (ia ds b)
 refine Mm.mk (ρ:=ρ) ?_
 have r:fN c ([]++H) ρ w:=hm
 refine fN.step r ⟨g.os,⟨g.tape.1,λq=>g.tape.2 (m q)⟩,g.output,g.size,λk hk _=>hold k hk,λk o hk=> ?_,Ro.le_refl _,λ_ _ _=>rfl,λE a=>p v H' hp E a mY ρ w' (g.dC E a),?_,g.Hb⟩
 ·rw[hold k (hm.AP hk)];exact hm.fits k o hk
 ·intro E a b i
  refine⟨?_,.inl (j E a b i)⟩
  cases s:ρ b with
  |none=>rfl
  |some o=>have h1:=hm.AP s;have u:=j E a b i;omega
theorem Mm.aeU {P:Program}{f:FuncId}{args:Array Value}{post:Value→List ai→Prop}(a:dR P f args (ds.map J.aD) post)(b:cm c H ds)(d:∀v H',post v H'→dz H'){w:World}(hm:Mm c H w):
 Calls P f args w λe w'=>∃v H',e= .returned v∧post v H'∧Mm c (H'++H) w':=Mm.aeV a.gen (λ_=>trivial) b d hm
end
section
variable {P:Program}{n:Nat}{F:Fr}{A:World→Prop}{c:Ctx}{H R:List ai}{ty:TypeId}{x y z:Operand}{v:Value}{Q:Exit→Act→World→Prop}{ops:Array Oper}{rest:List Oper}
 {d:Nat} {pos:String} {after:Array Edge} {t e:TypeId}
theorem Ev.aeO {b:Nat}{u:Value}{dd:TypeDesc}[d:rp b H u](hx:aX F x (tW b))(ht:P.underlying t=some dd)(f:(match dd with| .struct _| .array _ _=>False|_=>True)):
 Ev P n F (Mm c H) (.load t x) ty u:= .of_run λa w g hw=>by
 obtain⟨ρ,hm⟩:=hw.out;obtain⟨C,e,fr,h1,h⟩:=dK.1 (hm.dC _ d.mem)
 simp[execOp,hx.eval g,Instr.loadAt,Instr.sureAddr,eo ht f ((cG (hm.fits _ _ h1)).trans h)]
theorem Ev.qQ {f:FuncId}{xs:List Operand}{d:Array TypeId}{vs:List Value}{ds:List dQ}(g:cX P f vs.toArray ds v)(i:aG P f)(hx:bC F xs vs)(j:cm c H ds):
 Ev P n F (Mm c H) (.call {callee:= .value (.func f),args:=xs.toArray,argTypes:=d}) ty v:=by
 intro a w k hw;rw[lP (caps:=[]) i (bC.cons (aX.mk rfl) hx) k w]
 simp only[List.append_nil,Oper.quietUpon,true_and]
 refine(Mm.aeU (post:=λu H'=>u=v∧H'=[]) (λw ρ l=>(g w ρ l).mono λe w' ⟨u,H',h1,m,b⟩=>⟨u,[],h1,⟨m,rfl⟩,?_⟩) j (λ_ _ h=>by rw[h.2];exact dz.nil) hw).mono ?_
 ·obtain⟨mY,b⟩:=b.out
  exact Mm.mk (fN.left (L:=[]) b)
 ·rintro e w' ⟨u,H',rfl,⟨rfl,rfl⟩,hm⟩
  exact⟨rfl,hm⟩
theorem Ev.nY {f:FuncId}{xs:List Operand}{d:Array TypeId}{vs caps:List Value}{ds:List dQ}(g:cX P f (vs++caps).toArray ds v)(i:aG P f)(j:aX F x (.func (.func f) #[] caps.toArray))(hx:bC F xs vs)(k:cm c H ds):
 Ev P n F (Mm c H) (.call {callee:= .value x,args:=xs.toArray,argTypes:=d}) ty v:=by
 intro a w l hw;rw[lP i (bC.cons j hx) l w]
 simp only[Oper.quietUpon,true_and]
 refine(Mm.aeU (post:=λu H'=>u=v∧H'=[]) (λw ρ m=>(g w ρ m).mono λe w' ⟨u,H',h1,o,b⟩=>⟨u,[],h1,⟨o,rfl⟩,?_⟩) k (λ_ _ h=>by rw[h.2];exact dz.nil) hw).mono ?_
 ·obtain⟨mY,b⟩:=b.out
  exact Mm.mk (fN.left (L:=[]) b)
 ·rintro e w' ⟨u,H',rfl,⟨rfl,rfl⟩,hm⟩
  exact⟨rfl,hm⟩
@[irreducible] def mX (v:Value)(size l h:Nat):Value:=
 match v with
 | .slice a _ cap=> .slice (if cap=l then a else a.map (·.add (l*size))) (h-l) (cap-l)
 |_=>undef
theorem eQ (a:Option Addr)(m cap size l h:Nat):mX (.slice a m cap) size l h= .slice (if cap=l then a else a.map (·.add (l*size))) (h-l) (cap-l):=by unfold mX;rfl
theorem Vo {α:Type}{Rr:Rp α}{xs:List α}{l h:Nat}{ρ:Ro}(o:(sl Rr v xs).f ρ)(A:l≤h)(p:h≤xs.length):(sl Rr (mX v Rr.size l h) ((xs.drop l).take (h-l))).f ρ:=by
 obtain⟨a,cap,rfl,B,D,q,r⟩:=o
 have hlen:((xs.drop l).take (h-l)).length=h-l:=by simp;omega
 refine⟨if cap=l then a else a.map (·.add (l*Rr.size)),cap-l,by rw[eQ,hlen],by omega,by omega,λx hx=>q x (HU (xA hx)),?_⟩
 by_cases k:(xs.drop l).take (h-l)=[]
 ·exact .inl k
 ·right
  have E:l<h:=by
   rcases cJ l h with g|g
   ·exact g
   ·exact absurd (by rw[show h-l=0 by omega];rfl) k
  have s:cap≠l:=by omega
  rcases r with rfl|⟨b,off,C,e,fr,rfl,g,t⟩
  ·simp at p;omega
  ·refine⟨b,off+l*Rr.size,C,e,fr,by rw[aA s];simp[Addr.add_lit],g,λj u m=> ?_⟩
   rw[pt]
   apply t
   -- c cells of c part w c cells of c whole,from there on
   have key:∀(d:List α) (l:Nat),l≤d.length→rows Rr d=rows Rr (d.take l)++rows Rr (d.drop l):=λd l _=>by
    unfold rows;rw[←pk,jN]
   have y:=key xs l zE
   have z:=key (xs.drop l) (h-l) (by simp;omega)
   have n:(xs.take l).length=l:=by simp;omega
   rw[y,jM (by rw[fM,n];omega),fM,z];rw[n,show l*Rr.size+j-l*Rr.size=j by omega]
   have i:=(eh.1 m).1
   rw[oh i];exact m
theorem St.part {α:Type}{Rr:Rp α}{xs:List α}{T:Act→World→Prop}(v:Value)(l h:Nat)[hd:sP v H α Rr xs](a:l≤h)(b:h≤xs.length)
 (k:St n F (Mm c (aD (sl Rr (mX v Rr.size l h) ((xs.drop l).take (h-l)))::H)) T):St n F (Mm c H) T:=
 St.fact _ (λ_ _ hm=>Vo (hm.sl hd) a b) k
theorem Ev.La {α:Type}{Rr:Rp α}{xs:List α}{i j:Int}{l h:Nat}{m kj:IntKind}{g k:Operand}[hd:sP v H α Rr xs](hx:aX F x v)(b:aX F g (.int m i))(d:aX F k (.int kj j))(ht:P.underlying t=some (.slice e))(o:(P.info? e).map (·.size)=some Rr.size)
 (p:i=l) (q:j=h) (z:l≤h) (A:h≤xs.length):Ev P n F (Mm c H) (.slice t x (some g) (some k) none) ty (mX v Rr.size l h):= .of_run λa w f hw=>by
 obtain⟨ρ,hm⟩:=hw.out;obtain⟨ad,cap,rfl,B,_⟩:=hm.sl hd;obtain⟨inf,r,s⟩:=dX.1 o;subst p q
 have u:(0:Int)≤(h:Int)∧(h:Int)≤(cap:Int):=by omega
 have y:(0:Int)≤(l:Int)∧(l:Int)≤(h:Int):=by omega
 simp only[execOp,hx.eval f,b.eval f,d.eval f,Option.map_some,Option.map_none,Instr.sliceAt,Instr.slice,Instr.sliceBounds,Instr.sliceBound,asIntOf,Sem.run_bind,run_underlying ht,Result.andThen_ok,Sem.run_pure,u,y,and_self,if_true,Int.toNat_natCast,sizeOf,typeInfo,run_program,r,s,eQ]
theorem Ev.rE {α:Type}{Rr:Rp α}{xs:List α}{i:Int}{l:Nat}{g:IntKind}{d:Operand}[hd:sP v H α Rr xs](hx:aX F x v)(b:aX F d (.int g i))(ht:P.underlying t=some (.slice e))(h:(P.info? e).map (·.size)=some Rr.size)
 (j:i=l) (p:l≤xs.length):Ev P n F (Mm c H) (.slice t x (some d) none none) ty (mX v Rr.size l xs.length):= .of_run λa w f hw=>by
 obtain⟨ρ,hm⟩:=hw.out;obtain⟨ad,cap,rfl,q,_⟩:=hm.sl hd;obtain⟨inf,k,m⟩:=dX.1 h;subst j
 have o:(0:Int)≤(l:Int)∧(l:Int)≤(xs.length:Int):=by omega
 simp only[execOp,hx.eval f,b.eval f,Option.map_some,Option.map_none,Instr.sliceAt,Instr.slice,Instr.sliceBounds,Instr.sliceBound,asIntOf,Sem.run_bind,run_underlying ht,Result.andThen_ok,Sem.run_pure,o,and_self,if_true,Int.toNat_natCast,sizeOf,typeInfo,run_program,k,m,eQ]
def isNil:Value→Bool
 | .slice none _ _=>true
 |_=>false
theorem uU (k:Nat){ad:Option Addr}{m cap:Nat}{w:World}(ht:P.underlying t=some (.slice e)):(Op.equalIn (k+1) t (.slice ad m cap) (.slice none 0 0)).run P w= .ok (isNil (.slice ad m cap)) w:=by
 cases ad<;>simp[Op.equalIn,run_underlying ht,isNil]
theorem Ev.slnil {ad:Option Addr}{m cap:Nat}{u:TypeId}(hx:aX F x (.slice ad m cap))(ht:P.underlying t=some (.slice e)):Ev P n F A (.binOp .eql t x (.const (.slice none 0 0)) u) ty (.bool (isNil (.slice ad m cap))):= .of_run λa w b _=>by
 have h1:=uU (P:=P) (w:=w) 9999 (ad:=ad) (m:=m) (cap:=cap) ht
 have c:a.eval (.const (.slice none 0 0))= .slice none 0 0:=rfl
 simp only[execOp,hx.eval b,c,eqGuard_at_slice,binOp,Sem.run_bind,Sem.run_pure,Result.andThen_ok]
 unfold Op.equal Op.maxDepth;rw[h1];rfl
theorem St.uQ {size m:Nat}{cs fA:List Value}{T:Act→World→Prop}(v:Value)[a:jH v H e size m cs R](h:cs=fA)(k:St n F (Mm c (row v e size m fA::R)) T):St n F (Mm c H) T:=by
 subst h
 exact k.ny λ_ hw=>let⟨_,q⟩:=hw.out;Mm.mk (q.perm a.perm)
theorem St.aN {size m a:Nat}{cs fA:List Value}{T:Act→World→Prop}(v:Value)[b:jH v H e size m cs R](hm:m=a)(h:cs=fA)(k:St n F (Mm c (row v e size a fA::R)) T):St n F (Mm c H) T:=by
 subst h hm
 exact k.ny λ_ hw=>let⟨_,q⟩:=hw.out;Mm.mk (q.perm b.perm)
theorem ve {α:Type}{Rr:Rp α}(h1:Rr.size=1){u:Value}{x:α}(hx:Rr.cells x=[u]):∀(xs:List α) (k:Nat),(rows Rr xs).set k u=rows Rr (xs.set k x)
 | [],_=>by simp[rows]
 |y::xs,0=>by
  have:=Rr.len y
  rw[h1]at this
  obtain⟨v,a⟩:∃v,Rr.cells y=[v]:=by
   match c:Rr.cells y,this with
   | [v],_=>exact⟨v,rfl⟩
  simp[rows,a,hx]
 |y::xs,k+1=>by
  have:=Rr.len y
  rw[h1]at this
  obtain⟨v,a⟩:∃v,Rr.cells y=[v]:=by
   match c:Rr.cells y,this with
   | [v],_=>exact⟨v,rfl⟩
  have b:=ve h1 hx xs k
  simp only[rows,List.flatMap_cons,a,List.singleton_append,List.set_cons_succ]at b⊢
  rw[b]
theorem bB {α:Type}(Rr:Rp α)(xs:List α)(x:α):rows Rr (xs++ [x])=rows Rr xs++Rr.cells x:=by simp[rows]
theorem mK {α:Type}{Rr:Rp α}{u:Value}{x:α}(hx:Rr.cells x=[u])(m:Nat):rows Rr (List.replicate m x)=List.replicate m u:=by
 induction m with
 |zero=>rfl
 |succ m a=>simp only[List.replicate_succ,rows,List.flatMap_cons,hx,List.singleton_append]at a⊢;rw[a]
end
instance (priority:=high) eS.self (L:List ai):eS L L []:=⟨by simp⟩
instance (priority:=low) eS.skip (L:List ai)(E:ai)(H R:List ai)[h:eS L H R]:eS L (E::H) (E::R):=⟨(h.perm.cons E).trans sN.symm⟩
open Classical in
noncomputable def p6 (L:List ai) (w:World):Ro:=λk=>if j0 L k then none else w.heap[k]?
def eF (c:Ctx)(L R:List ai)(ds:List dQ):Prop:=∀ρ w,fN c (L++R) ρ w→∀d∈ds,d.f (p6 L w)
section
variable {c:Ctx}{L R:List ai}{ds:List dQ}{v:Value}
theorem fN.QG {ρ:Ro}{w:World}(h:fN c (L++R) ρ w):Ro.le ρ (p6 L w):=λk o hk=>by
 unfold p6;rw[aA]
 ·exact h.fits k o hk
 ·rintro ⟨E,a,b⟩
  have:=(h.own E (kA _ a) k b).1
  rw[hk]at this;cases this
theorem BK {ρ:Ro}{w:World}(h:fN c (L++R) ρ w){E:ai}(a:E∈R){b:Nat}(d:E.key=some b):p6 L w b=w.heap[b]?:=by
 unfold p6;rw[aA];rintro ⟨e,f,g⟩;exact(qx.1 h.Hb).2.2 e f E a b g d
theorem eF.nil:eF c L R []:=λ_ _ _ _ h=>by simp at h
theorem eF.aD {d:dQ}(h:eF c L R ds)[hd:tH d R]:eF c L R (d::ds):=λρ w hm b a=>by
 rcases bT.1 a with rfl|a
 ·exact b.mono _ _ hm.QG (dK.1 (hm.dC _ (iY _ hd.mem)))
 ·exact h ρ w hm b a
theorem eF.agP [hd:kh ds R]:eF c L R ds:=λρ w hm d a=>d.mono _ _ hm.QG (dK.1 (hm.dC _ (iY _ (hd.mem d a))))
theorem eF.row {α:Type}{Rr:Rp α}{xs:List α}{e:TypeId}{size m:Nat}{cs:List Value}(h:eF c L R ds)[i:tJ v R e size m cs](j:size=Rr.size)(k:cs=rows Rr xs)(hm:m=xs.length)(l:∀x∈xs,Rr.wf x):eF c L R (sl Rr v xs::ds):=λρ w d n f=>by
 subst j
 rcases bT.1 f with rfl|f
 ·have o:=dP.1 (d.dC _ (iY _ i.mem))
  obtain⟨a,cap,h1,p,q,r,g⟩:=C6 (w:=w) o k hm l;refine⟨a,cap,h1,p,q,r,?_⟩
  rcases g with g|⟨b,off,C,s,fr,rfl,t,u⟩
  ·exact .inl g
  ·refine .inr ⟨b,off,C,s,fr,rfl,?_,u⟩
   rw[BK d i.mem (b:=b) (by rw[dF,h1];rfl)];exact t
 ·exact h ρ w d n f
theorem eF.aU {b:Nat}{u:Value}{e:TypeId}{fr:Nat×Nat}{l:List Value}(h:eF c L R ds)[f:BE b R (.cells (u::l).toArray e fr)]:eF c L R (fx b u::ds):=λρ w a g d=>by
 rcases bT.1 d with rfl|d
 ·refine⟨(u::l).toArray,e,fr,?_,rfl⟩
  rw[BK a f.mem (b:=b) (hP _ _)];exact fz.1 (a.dC _ (iY _ f.mem))
 ·exact h ρ w a g d
theorem Mm.ZH {dr:Prop}{P:Program}{f:FuncId}{args:Array Value}{post:Value→List ai→Prop}(r:EP dr P f args (ds.map J.aD++L) post)(s:c.dr→dr)(t:eF c L R ds)(m:dz L)(u:∀v H',post v H'→dz H'){w:World}(hm:Mm c (L++R) w):
 Calls P f args w λe w'=>∃v H',e= .returned v∧post v H'∧Mm c (H'++R) w':=by
 obtain⟨ρ,hm⟩:=hm.out
 have l:∀b,j0 (ds.map J.aD++L) b↔j0 L b:=λb=>by
  constructor
  ·rintro ⟨E,a,g⟩
   rcases cI.1 a with a|a
   ·exact absurd ⟨E,a,g⟩ (ia ds b)
   ·exact⟨E,a,g⟩
  ·rintro ⟨E,a,g⟩;exact⟨E,iY _ a,g⟩
 have st:Start (ds.map J.aD++L) (p6 L w) w:=by
  refine⟨rfl,⟨rfl,λ_=>aQ _⟩,rfl,aQ _,λ_ _ _=>rfl,λk o hk=> ?_,Ro.le_refl _,λ_ _ _=>rfl,λE a=> ?_,λE a b g=> ?_,?_⟩
  ·unfold p6 at hk
   split at hk
   ·cases hk
   ·exact hk
  ·rcases cI.1 a with a|a
   ·obtain⟨d,hd,rfl⟩:=cA.1 a
    exact dK.2 (t ρ w hm d hd)
   ·exact m E a ρ _ w (hm.dC E (kA _ a))
  ·have j:j0 L b:=(l b).1 ⟨E,a,g⟩
   exact⟨by unfold p6;rw[aB j],.inr ((l b).2 j)⟩
  ·refine qx.2 ⟨?_,(qx.1 hm.Hb).1,?_⟩
   ·refine oq.2 (uo (R:=λ_ _=>True) ?_ (List.pairwise_of_forall λ_ _=>trivial))
    intro d A _ _ _ b g
    rw[jS]at g;cases g
   ·intro E a n _ b g
    obtain⟨d,_,rfl⟩:=cA.1 a
    rw[jS]at g;cases g
 refine(r w (p6 L w) st).mono ?_;rintro e w' ⟨v,H',he,hp,i⟩;obtain⟨mY,i⟩:=i.out;refine⟨v,H',he,hp,?_⟩
 have hold:∀k,k<w.heap.size→¬j0 L k→w'.heap[k]?=w.heap[k]?:=λk hk h=>i.AO k hk (λx=>h ((l k).1 x))
 refine Mm.mk (ρ:=ρ) ?_;refine fN.step hm ⟨i.os,⟨i.tape.1,λq=>i.tape.2 (s q)⟩,i.output,i.size,λk hk h=>hold k hk h,λk o hk=> ?_,Ro.le_refl _,λ_ _ _=>rfl,λE a=>u v H' hp E a mY ρ w' (i.dC E a),?_,i.Hb⟩
 ·rw[hold k (hm.AP hk)]
  ·exact hm.fits k o hk
  ·rintro ⟨E,a,g⟩
   have:=(hm.own E (kA _ a) k g).1
   rw[hk]at this;cases this
 ·intro E a b g
  rcases(i.own E a b g).2 with h1|h1
  ·refine⟨?_,.inl h1⟩
   cases y:ρ b with
   |none=>rfl
   |some o=>have B:=hm.AP y;simp only at h1;omega
  ·have z:=(l b).1 h1
   obtain⟨n,p,j⟩:=z;exact⟨(hm.own n (kA _ p) b j).1,.inr ⟨n,p,j⟩⟩
theorem Mm.aeW {P:Program}{f:FuncId}{args:Array Value}{post:Value→List ai→Prop}(b:dR P f args (ds.map J.aD++L) post)(d:eF c L R ds)(a:dz L)(g:∀v H',post v H'→dz H'){w:World}(hm:Mm c (L++R) w):
 Calls P f args w λe w'=>∃v H',e= .returned v∧post v H'∧Mm c (H'++R) w':=Mm.ZH b.gen (λ_=>trivial) d a g hm
end
section
variable {P:Program}{n:Nat}{F:Fr}{A:World→Prop}{c:Ctx}{H R:List ai}{ty:TypeId}{x y z:Operand}{v:Value}{Q:Exit→Act→World→Prop}{ops:Array Oper}{rest:List Oper}
 {d:Nat} {pos:String} {after:Array Edge} {t e:TypeId}
theorem St.Eo {f:FuncId}{xs:List Operand}{i:Array TypeId}{vs:List Value}{ds:List dQ}{L R:List ai}{post:Value→List ai→Prop}(j:dR P f vs.toArray (ds.map aD++L) post)(k:aG P f)(hx:bC F xs vs)[o:eS L H R]
 (l:eF c L R ds) (b:dz L) (m:∀v H',post v H'→dz H') (hd:Nat.ble (d+1) n=true)
 (h:∀v H',post v H'→St n ((d,v)::F) (Mm c (H'++R)) (wpList P ops Q rest)):
 St n F (Mm c H) (wpList P ops Q ({dst:=some d,op:= .call {callee:= .value (.func f),args:=xs.toArray,argTypes:=i},type:=ty,pos:=pos,after:=after,guard:=none}::rest)):=by
 intro a w g hw;refine gT rfl (fh (caps:=[]) k (bC.cons (aX.mk rfl) hx) g w ?_)
 simp only[List.append_nil]
 refine(Mm.aeW j l b m (hw.take (L:=L))).mono ?_;rintro e w' ⟨u,H',rfl,hp,hm⟩;exact⟨u,rfl,h u H' hp _ w' (g.put (eI hd) u) hm⟩
theorem St.split {T:Act→World→Prop}(k:Nat)(b:Bool)(hk:look F k=some (.bool b))(ht:b=true→St n ((k,.bool true)::F) A T)(g:b=false→St n ((k,.bool false)::F) A T):St n F A T:=by
 intro a w f hw
 have key:∀u,u=Value.bool b→Has n a ((k,u)::F):=λu hu=>⟨f.size,f.defers,λt v d=>by
  simp only[look]at d
  cases c:Nat.beq t k with
  |true=>
   have e:t=k:=xC c
   subst e
   simp only[c,cond_true,Option.some.injEq]at d
   subst d
   rw[hu];exact f.slot _ _ hk
  |false=>simp only[c,cond_false]at d;exact f.slot _ _ d⟩
 cases c:b with
 |true=>exact ht c a w (key _ (by rw[c])) hw
 |false=>exact g c a w (key _ (by rw[c])) hw
theorem St.cS {j dj:Nat}{want:Bool}{op:Op}(e:(ops[j]?).bind (·.dst)=some dj)(f:look F dj=some (.bool (!want)))(hd:Nat.ble (d+1) n=true)
 (h:St n ((d,undef)::F) A (wpList P ops Q rest)):St n F A (wpList P ops Q ({dst:=some d,op:=op,type:=ty,pos:=pos,after:=after,guard:=some (j,want)}::rest)):=by
 intro a w b hw
 have g:=lX (l:=ops) (c:=false) (o:={dst:=some d,op:=op,type:=ty,pos:=pos,after:=after,guard:=some (j,want)}) rfl e (b.slot _ _ f) ⟨(λh=>by cases h),λ_=> .inl rfl⟩
 simp only[wpList,g]
 exact h _ w (b.put (eI hd) undef) hw
theorem St.qj {j dj:Nat}{want:Bool}{op:Op}(e:(ops[j]?).bind (·.dst)=some dj)(f:look F dj=some undef)(hd:Nat.ble (d+1) n=true)
 (h:St n ((d,undef)::F) A (wpList P ops Q rest)):St n F A (wpList P ops Q ({dst:=some d,op:=op,type:=ty,pos:=pos,after:=after,guard:=some (j,want)}::rest)):=by
 intro a w b hw
 have g:=lX (l:=ops) (c:=false) (o:={dst:=some d,op:=op,type:=ty,pos:=pos,after:=after,guard:=some (j,want)}) rfl e (b.slot _ _ f) ⟨(λh=>by cases h),λ_=> .inr rfl⟩
 simp only[wpList,g]
 exact h _ w (b.put (eI hd) undef) hw
theorem St.cZ {j dj:Nat}{want:Bool}{op:Op}{dd:Option Tmp}(d:(ops[j]?).bind (·.dst)=some dj)(e:look F dj=some (.bool want))
 (h:St n F A (wpList P ops Q ({dst:=dd,op:=op,type:=ty,pos:=pos,after:=after,guard:=none}::rest))):
 St n F A (wpList P ops Q ({dst:=dd,op:=op,type:=ty,pos:=pos,after:=after,guard:=some (j,want)}::rest)):=by
 intro a w b hw
 have f:=lX (l:=ops) (c:=true) (o:={dst:=dd,op:=op,type:=ty,pos:=pos,after:=after,guard:=some (j,want)}) rfl d (b.slot _ _ e) ⟨λ_=>rfl,(λh=>by cases h)⟩
 have h1:=h a w b hw
 simp only[wpList,f,if_true]
 simp only[wpList,Region.wanted,if_true]at h1
 rcases h1 with h1|⟨h1,g⟩
 ·left
  unfold Oper.wp Oper.upon at h1⊢;rw[iR]at h1⊢;exact h1
 ·right
  refine⟨?_,g⟩;unfold Oper.asks at h1⊢;rw[iR]at h1⊢;exact h1
section rows
variable {size m:Nat}{cs:List Value}
theorem St.bQ {T:Act→World→Prop}(v:Value)[b:tJ v H e size m cs](h:v.oneCell'=true→cs.length=m*size→St n F (Mm c H) T):St n F (Mm c H) T:=by
 intro a w d hw;obtain⟨ρ,hm⟩:=hw.out
 have h1:=hm.row b
 refine h ?_ h1.1 a w d hw
 rcases h1.2 with⟨rfl,_⟩|⟨g,cap,cur,rfl,_⟩<;>rfl
theorem Ev.mN {j:Int}{h:Nat}{kj:IntKind}{i:Operand}[o:tJ v H e size m cs](hx:aX F x v)(b:aX F i (.int kj j))(ht:P.underlying t=some (.slice e))(p:(P.info? e).map (·.size)=some size)
 (q:j=h) (r:h≤m):Ev P n F (Mm c H) (.slice t x none (some i) none) ty (mX v size 0 h):= .of_run λa w d hw=>by
 obtain⟨ρ,hm⟩:=hw.out;obtain⟨inf,k,l⟩:=dX.1 p;subst q
 rcases(hm.row o).2 with⟨rfl,rfl⟩|⟨g,cap,cur,rfl,_,_,s,_⟩
 ·have f:(0:Int)≤(h:Int)∧(h:Int)≤((0:Nat):Int):=by omega
  simp only[execOp,hx.eval d,b.eval d,Option.map_some,Option.map_none,Instr.sliceAt,Instr.slice,Instr.sliceBounds,Instr.sliceBound,asIntOf,Sem.run_bind,run_underlying ht,Result.andThen_ok,Sem.run_pure,f,and_self,if_true,Int.toNat_natCast,sizeOf,typeInfo,run_program,k,l,eQ]
 ·have f:(0:Int)≤(h:Int)∧(h:Int)≤(cap:Int):=by omega
  simp only[execOp,hx.eval d,b.eval d,Option.map_some,Option.map_none,Instr.sliceAt,Instr.slice,Instr.sliceBounds,Instr.sliceBound,asIntOf,Sem.run_bind,run_underlying ht,Result.andThen_ok,Sem.run_pure,f,and_self,if_true,Int.toNat_natCast,sizeOf,typeInfo,run_program,k,l,eQ]
theorem St.zd {T:Act→World→Prop}(v:Value)(h:Nat)[i:jH v H e size m cs R](d:h≤m)(k:St n F (Mm c (row (mX v size 0 h) e size h (cs.take (h*size))::R)) T):St n F (Mm c H) T:=by
 refine k.ny λw hw=> ?_
 obtain⟨ρ,hm⟩:=hw.out
 have hm:=hm.perm i.perm
 have f:=dP.1 (hm.dC _ (aV ..))
 have hlen:(cs.take (h*size)).length=h*size:=by
  rw[cy,f.1];exact gB (fJ _ d)
 rcases f.2 with⟨rfl,rfl⟩|⟨g,cap,cur,rfl,j,l,s,o,p,q⟩
 ·have:h=0:=by omega
  subst this;refine Mm.mk (hm.alter rfl ⟨rfl,aQ _⟩ rfl (aQ _) (λ_ _ _=>rfl) (dP.2 ⟨hlen,.inl ⟨?_,rfl⟩⟩) (λb a=> ?_))
  ·rw[eQ];simp
  ·rw[dF,eQ]at a;simp[Value.ownBlock]at a
 ·have r:mX (tO g m cap) size 0 h= tO g h cap:=by
   rw[eQ]
   simp[Addr.add_zero']
  rw[r];refine Mm.mk (hm.alter rfl ⟨rfl,aQ _⟩ rfl (aQ _) (λ_ _ _=>rfl) (dP.2 ⟨hlen,.inr ⟨g,cap,cur,rfl,j,l,by omega,o,p,?_⟩⟩) (λb a=> ?_))
  ·rw[←q,List.take_take,gB (fJ _ d)]
  ·rw[dF]at a⊢;exact .inl a
end rows
theorem St.GU {T:Act→World→Prop}(b:Nat){u:Value}{L:List Value}[q:mn b H (.cells (u::L).toArray e (0,0)) R](h:St n F (Mm c (aD (fx b u)::R)) T):St n F (Mm c H) T:=by
 refine h.ny λw hw=> ?_
 obtain⟨ρ,hm⟩:=hw.out
 have hm:=hm.perm q.perm
 have f:=fz.1 (hm.dC _ (aV ..))
 have g:=hm.own _ (aV ..) b (hP _ _)
 have r:b<w.heap.size:=(wI.1 f).1
 have i:=fw.1 hm.Hb
 refine Mm.mk (ρ:=λk=>if k=b then some (.cells (u::L).toArray e (0,0))else ρ k) ?_
 have hle:Ro.le ρ (λk=>if k=b then some (.cells (u::L).toArray e (0,0))else ρ k):=by
  intro k o hk
  by_cases a:k=b
  ·subst a;rw[g.1]at hk;cases hk
  ·simp only[a,if_false];exact hk
 refine fN.fact ⟨hm.os,hm.tape,hm.output,hm.size,hm.AO,?_,Ro.le_trans hm.le hle,?_,?_,?_,i.2⟩ _ ?_
 ·intro k o hk
  by_cases a:k=b
  ·subst a;simp only[if_true,Option.some.injEq]at hk;subst hk;exact f
  ·simp only[a,if_false]at hk;exact hm.fits k o hk
 ·intro k hk j
  by_cases a:k=b
  ·subst a
   rcases g.2 with l|l
   ·omega
   ·exact absurd l j
  ·simp only[a,if_false];exact hm.new k hk j
 ·intro E d
  exact E.loc hle (λ_ _=>rfl) (hm.dC E (bV _ d))
 ·intro E d m p
  have h1:=hm.own E (bV _ d) m p
  refine⟨?_,h1.2⟩
  by_cases a:m=b
  ·subst a;exact absurd p (i.1 E d _ (hP _ _))
  ·simp only[a,if_false];exact h1.1
 ·exact⟨(u::L).toArray,e,(0,0),by simp,by simp⟩
end
theorem R0 {P:Program}{t:TypeId}{xs:Array Value}{k:Nat}{v:Value}{w:World}(h:(match P.underlying t with|some (.struct _)|some (.array _ _)|none=>false|_=>true)=true)(a:xs[k]?=some v):(part t xs k).run P w= .ok v w:=by
 unfold part
 cases hu:P.underlying t with
 |none=>rw[hu]at h;cases h
 |some d=>
  rw[hu]at h
  cases d<;>simp_all [isAgg,run_underlying hu]
class App (A B:List ai)(C:outParam (List ai)):Prop where
 eq:A++B=C
instance App.nil (B:List ai):App [] B B:=⟨rfl⟩
instance App.cons (E:ai)(A B C:List ai)[h:App A B C]:App (E::A) B (E::C):=⟨by rw[jg,h.eq]⟩
instance App.ai7 (B:List ai):App (List.map aD []) B B:=⟨rfl⟩
instance App.agL (d:dQ)(ds:List dQ)(B C:List ai)[h:App (List.map aD ds) B C]:App (List.map aD (d::ds)) B (aD d::C):=⟨by rw[eV,jg,h.eq]⟩
section
variable {P:Program}{n:Nat}{F:Fr}{A:World→Prop}{c:Ctx}{H R C:List ai}{ty:TypeId}{x y z:Operand}{u v:Value}{T:Act→World→Prop}
theorem St.Tg [h:App R H C](k:St n F (Mm c C) T):St n F (Mm c (H++R)) T:=k.ny λw hw=>by
 obtain⟨ρ,hm⟩:=hw.out;rw[←h.eq];exact Mm.mk (hm.perm kB)
theorem St.YE [h:App H R C](k:St n F (Mm c C) T):St n F (Mm c (H++R)) T:=by rw[h.eq];exact k
theorem St.known (k:Nat)(b u:Bool)(hk:look F k=some (.bool b))(a:b=u)(h:St n ((k,.bool u)::F) A T):St n F A T:=by
 subst a
 cases b with
 |true=>exact St.split k true hk (λ_=>h) (λh=>by cases h)
 |false=>exact St.split k false hk (λh=>by cases h) (λ_=>h)
theorem Ev.jt {p:Bool}(hx:aX F x (.bool p))(hp:p=true)(hy:aX F y v):Ev P n F A (.pick x y z) ty v:= .of_run λa w b _=>by
 subst hp;simp only[execOp,hx.eval b,hy.eval b];simp[asBool]
theorem Ev.mI {p:Bool}(hx:aX F x (.bool p))(hp:p=false)(hz:aX F z v):Ev P n F A (.pick x y z) ty v:= .of_run λa w b _=>by
 subst hp;simp only[execOp,hx.eval b,hz.eval b];simp[asBool]
end
abbrev aY:={v:Value//v.oneCell'=true}
def pf {α:Type}(Rr:Rp α)(vs:List aY)(xX:List (List α)):dQ where
 f ρ:=∀(i:Nat) (u:aY) (l:List α),vs[i]?=some u→xX[i]?=some l→(sl Rr u.1 l).f ρ
 mono ρ mY h k i u l h1 a:=(sl Rr u.1 l).mono _ _ h (k i u l h1 a)
class WN (vs:List aY)(H:List ai)(α:outParam Type)(Rr:outParam (Rp α))(xX:outParam (List (List α))):Prop where
 mem:aD (pf Rr vs xX)∈H
instance (priority:=high) WN.here {α:Type}(vs:List aY)(Rr:Rp α)(xX:List (List α))(H:List ai):WN vs (aD (pf Rr vs xX)::H) α Rr xX:=⟨aV ..⟩
instance WN.there {α:Type}(vs:List aY)(Rr:Rp α)(xX:List (List α))(E:ai)(H:List ai)[h:WN vs H α Rr xX]:WN vs (E::H) α Rr xX:=⟨bV _ h.mem⟩
section
variable {n:Nat}{F:Fr}{c:Ctx}{H R:List ai}{T:Act→World→Prop}{e:TypeId}
theorem St.pf {α:Type}{Rr:Rp α}{vs:List aY}{xX:List (List α)}(k:Nat){u:aY}{l:List α}[hd:WN vs H α Rr xX](hu:vs[k]?=some u)(a:xX[k]?=some l)(h:St n F (Mm c (aD (sl Rr u.1 l)::H)) T):St n F (Mm c H) T:=
 St.fact _ (λ_ _ hm=>dK.1 (hm.dC _ hd.mem) k u l hu a) h
theorem j1 {α:Type}(Rr:Rp α)(ρ:Ro):(sl Rr (.slice none 0 0) []).f ρ:=⟨none,0,rfl,aQ _,by unfold maxLen;omega,(λx hx=>by cases hx),.inl rfl⟩
theorem vf (vs:List aY):rows bU vs=vs.map Subtype.val:=by
 induction vs with
 |nil=>rfl
 |cons v vs a=>simp only[rows,List.flatMap_cons,List.map_cons]at a⊢;rw[a];rfl
end
end Go.J
namespace Go.J
open Go Go.ChangeShapes Go.WideShapes Go.ChangeAt Go.RowKit Go.Deep
theorem EP.below {dr:Prop}{P:Program}{f:FuncId}{args:Array Value}{ds:List dQ}{v:Value}{W:World}(h:EP dr P f args (ds.map J.aD) λu _=>u=v)(hd:∀d∈ds,d.f (J.all W)):Calls P f args W λe g=>e= .returned v∧Below W.heap.size W g:=by
 have st:Start (ds.map J.aD) (J.all W) W:=
  ⟨rfl,⟨rfl,λ_=>aQ _⟩,rfl,aQ _,λ_ _ _=>rfl,λ_ _ h=>h,Ro.le_refl _,λ_ _ _=>rfl,λE c=>by
   obtain⟨d,i,rfl⟩:=cA.1 c;exact dK.2 (hd d i),
   (λE c b a=>by
    obtain⟨d,hd,rfl⟩:=cA.1 c
    rw[jS]at a;cases a),
   by
    refine oq.2 (uo (R:=λ_ _=>True) ?_ (List.pairwise_of_forall λ_ _=>trivial));intro d j _ _ _ b a
    rw[jS]at a;cases a⟩
 refine(h W (J.all W) st).mono ?_;rintro e w' ⟨u,H',rfl,rfl,hm⟩;obtain⟨mY,hm⟩:=hm.out;exact⟨rfl,hm.os,hm.tape.1,hm.output,hm.size,λk hk=>hm.AO k hk (ia ds k)⟩
theorem cX.below {P:Program}{f:FuncId}{args:Array Value}{ds:List dQ}{v:Value}{W:World}(h:cX P f args ds v)(hd:∀d∈ds,d.f (J.all W)):Calls P f args W λe a=>e= .returned v∧Below W.heap.size W a:=EP.below (dr:=True) h hd
theorem kC.below {P:Program}{f:FuncId}{args:Array Value}{ds:List dQ}{v:Value}{W:World}(h:kC P f args ds v)(hd:∀d∈ds,d.f (J.all W)):Calls P f args W λe a=>e= .returned v∧Below W.heap.size W a:=EP.below (dr:=False) h hd
section
variable {H:Type}{enc:TypeId×Value→H}{P:Program}{W:World}{α:Type}
theorem jI {a:Addr}{v:Value}(h:W.cell? a=some v):a.spot=none∧∃C e fr,W.heap[a.block]?=some (.cells C e fr)∧C[a.off]?=some v:=by
 refine⟨World.cell?_spot h,?_⟩;unfold World.cell? at h
 split at h
 ·rename_i C e fr b
  split at h
  ·cases h
  ·exact⟨C,e,fr,b,h⟩
 ·cases h
theorem E4 {R:Rp α}:∀(xs:List α) (j:Nat) (u:Value),(rows R xs)[j]?=some u→∃i k x,xs[i]?=some x∧k<R.size∧j=i*R.size+k∧(R.cells x)[k]?=some u
 | [],j,u,h=>by simp[rows]at h
 |x::xs,j,u,h=>by
  simp only[rows,List.flatMap_cons]at h
  by_cases a:j<R.size
  ·rw[oh (by rw[R.len];exact a)]at h
   exact⟨0,j,x,rfl,a,by omega,h⟩
  ·rw[jM (by rw[R.len];omega),R.len]at h
   obtain⟨i,k,y,h1,b,d,c⟩:=E4 xs (j-R.size) u h;exact⟨i+1,k,y,by simpa using h1,b,by rw[Nat.add_mul,Nat.one_mul];omega,c⟩
abbrev ml (l:List Nat):Bool:=l.all (· ≤reachBytes)
theorem EN {e:TypeId}:∀{ds:List (DataW H)} {x:DataW H},ml (DataW.weightsAll P e ds)=true→x∈ds→ml (x.weights P e)=true
 | [],_,_,h=>by cases h
 |d::ds,x,h,hx=>by
  simp only[ml,DataW.weightsAll,List.all_append,Bool.and_eq_true]at h
  rcases bT.1 hx with rfl|hx
  ·exact h.1
  ·exact EN h.2 hx
theorem qs:∀{a:List TypeId} {ds:List (DataW H)} {j:Nat} {t:TypeId} {d:DataW H},ml (DataW.weightsEach P a ds)=true→a[j]?=some t→ds[j]?=some d→ml (d.weights P t)=true
 | [],_,_,_,_,_,h,_=>by simp at h
 |_::_,[],_,_,_,_,_,h=>by simp at h
 |t::a,d::ds,0,_,_,h,h1,b=>by
  simp only[List.getElem?_cons_zero,Option.some.injEq]at h1 b
  subst h1 b
  simp only[ml,DataW.weightsEach,List.all_append,Bool.and_eq_true]at h
  exact h.1
 |t::a,d::ds,j+1,_,_,h,h1,b=>by
  simp only[ml,DataW.weightsEach,List.all_append,Bool.and_eq_true]at h
  exact qs (j:=j) h.2 (by simpa using h1) (by simpa using b)
theorem CX {t e:TypeId}{es sp:List (DataW H)}(ht:P.underlying t=some (.slice e))(h:ml ((DataW.slice es sp).weights P t)=true){x:DataW H}(hx:x∈es∨x∈sp):ml (x.weights P e)=true:=by
 simp only[ml,DataW.weights,ht,List.all_cons,List.all_append,Bool.and_eq_true]at h
 rcases hx with hx|hx
 ·exact EN h.2.1 hx
 ·exact EN h.2.2 hx
theorem Gp (R:Rp α){t e:TypeId}{N:List Value}{d:DataW H}{p:List MemPlace}{fuel:Nat}(ht:P.underlying t=some (.slice e))(V:P.cellsOf e=R.size)
 (Y:∀(n:Nat) (cs:List Value) (y:DataW H×List MemPlace),cs.length=R.size→DataW.trod enc P W 0 (λ_=>true) true n e cs=some y→ml (y.1.weights P e)=true→∃x:α,cs=R.cells x∧R.wf x)
 (O:ml (d.weights P t)=true) (Z:DataW.trod enc P W 0 (λ_=>true) true fuel t N=some (d,p)):∃(v:Value) (xs:List α),N=[v]∧v.oneCell'=true∧(sl R v xs).f (J.all W)∧((d= .nil∧xs=[])∨∃es sp,d= .slice es sp∧es.length=xs.length):=by
 rcases open_slice ht Z with⟨A,o⟩|⟨a,len,cap,m,n,D,Pl,A,_,hl,hm,Q,o,hx⟩
 ·exact⟨.slice none 0 0,[],A,rfl,j1 _ _,.inl ⟨by simpa using (Prod.mk.inj o).1,rfl⟩⟩
 ·refine⟨.slice (some a) len cap,?_⟩
  rw[A]
  suffices B:∃xs:List α,(sl R (.slice (some a) len cap) xs).f (J.all W)∧((d= .nil∧xs=[])∨∃es sp,d= .slice es sp∧es.length=xs.length) by
   obtain⟨xs,h1,r⟩:=B;exact⟨xs,rfl,rfl,h1,r⟩
  simp only[if_true]at Q
  subst Q
  rcases Nat.eq_zero_or_pos len with rfl|ad5
  ·exact⟨[],⟨_,m,rfl,aP _,hm,(λx hx=>by cases hx),.inl rfl⟩,.inr ⟨_,_,(Prod.mk.inj o).1,by simp⟩⟩
  have each:∀i,i<m→∃x:α,R.wf x∧∀k u,k<R.size→(R.cells x)[k]?=some u→W.cell? ((a.add (i*R.size)).add k)=some u:=λi E=>by
   obtain⟨cs,h1,r⟩:=hx i E;rw[V]at h1;obtain⟨_,F,h5⟩:=World.cells?_some h1
   obtain⟨x,rfl,hw⟩:=Y n cs _ F r (CX ht (by rw[(Prod.mk.inj o).1]at O;exact O) (by
    rcases cJ i len with q|q
    ·exact .inl (by simp only[List.mem_map,List.mem_range];exact⟨i,q,rfl⟩)
    ·exact .inr (by simp;exact⟨i-len,by omega,by congr 1;omega⟩)))
   exact⟨x,hw,λk u hk hu=>by rw[h5 k hk,hu]⟩
  obtain⟨x0,V1⟩:=each 0 zE
  haveI:Inhabited α:=⟨x0⟩
  obtain⟨X,G⟩:=choose_lt (α:=α) each
  have I:((List.range len).map X).length=len:=by simp
  obtain⟨b,off,spot⟩:=a
  have c:∃u,(R.cells (X 0))[0]?=some u:=by
   have:=R.len (X 0)
   have:=R.pos
   exact⟨_,aj zE⟩
  obtain⟨u0,c⟩:=c
  have S:=(G 0 zE).2 0 u0 R.pos c
  rw[Nat.zero_mul,Deep.add_add]at S;obtain⟨B,C,T,fr,w,_⟩:=jI S
  have aeE:spot=none:=by simpa[Addr.add]using B
  subst aeE
  have w:W.heap[b]?=some (.cells C T fr):=by simpa[Addr.add]using w
  refine⟨(List.range len).map X,⟨some ⟨b,off,none⟩,m,by rw[I],by rw[I];exact hl,hm,?_,.inr ⟨b,off,C,T,fr,rfl,w,?_⟩⟩,.inr ⟨_,_,(Prod.mk.inj o).1,by simp⟩⟩
  ·intro x K
   obtain⟨i,E,rfl⟩:=cA.1 K;exact(G i (by have:=cU.1 E;omega)).1
  ·intro j u hj
   obtain⟨i,k,x,h1,r,h3,F⟩:=E4 _ _ _ hj
   have U:=G2 h1
   rw[I]at U
   have Z5:x=X i:=by simpa[U]using h1.symm
   subst Z5
   have:=(G i zE).2 k u r F
   rw[Deep.add_add,←h3]at this;obtain⟨_,C',L,M,g,z⟩:=jI this
   have g:W.heap[b]?=some (.cells C' L M):=by
    by_cases s:j=0
    ·subst s;simpa[Addr.add]using g
    ·simpa[Addr.add,s]using g
   have z:C'[off+j]?=some u:=by
    by_cases s:j=0
    ·subst s;simpa[Addr.add]using z
    ·simpa[Addr.add,s]using z
   rw[w]at g
   simp only[Option.some.injEq,Obj.cells.injEq]at g
   rw[g.1];exact z
where G2 {β:Type} {l:List β} {i:Nat} {x:β} (h:l[i]?=some x):i<l.length:=(eh.1 h).1
theorem Vn (R:Rp α){t e:TypeId}{v:Value}{d:DataW H}{p:List MemPlace}{c:Nat}(ht:P.underlying t=some (.slice e))(g:P.cellsOf e=R.size)
 (i:∀(n:Nat) (cs:List Value) (y:DataW H×List MemPlace),cs.length=R.size→DataW.trod enc P W 0 (λ_=>true) true n e cs=some y→ml (y.1.weights P e)=true→∃x:α,cs=R.cells x∧R.wf x)
 (j:Value.okWide P W .any c t v) (k:ml (d.weights P t)=true) (h:DataW.Trod enc P W 0 (λ_=>true) true t v d p):∃xs:List α,(sl R v xs).f (J.all W)∧((d= .nil∧xs=[])∨∃es sp,d= .slice es sp∧es.length=xs.length):=by
 obtain⟨a0,a,b,rfl⟩:=okWide_slice ht j;obtain⟨fuel,l⟩:=h;obtain⟨v,xs,h1,_,m,o⟩:=Gp R ht g i k l
 obtain rfl:Value.slice a0 a b=v:=by simpa[Value.cells]using h1
 exact⟨xs,m,o⟩
theorem Rg {a:List TypeId}{ds:List (DataW H)}(h:(DataW.weightsEach P a ds).all (· ≤reachBytes)=true)(j:Nat){t e:TypeId}{d:DataW H}{xs:List α}(ht:a[j]?=some t)(hd:ds[j]?=some d)(hu:P.underlying t=some (.slice e))
 (b:(d= .nil∧xs=[])∨∃es sp,d= .slice es sp∧es.length=xs.length) (n:Nat) (c:P.bytesOf e=n):xs.length*n≤140737488351232:=by
 subst c
 rcases b with⟨_,rfl⟩|⟨es,sp,rfl,f⟩
 ·simp
 ·have h1:=sized_slice h ht hd hu
  rw[←f]
  have g:es.length*P.bytesOf e≤(es.length+sp.length)*P.bytesOf e:=fJ _ zE
  unfold reachBytes at h1;omega
theorem wf_i64 {n:Int}(h:(Lit.int .i64 n).wf=true):bR n:=by
 have a:IntKind.i64.min= -9223372036854775808:=rfl
 have e2:IntKind.i64.max=9223372036854775807:=rfl
 simpa[Lit.wf,a,e2,bR]using h
theorem Rx (s:ByteArray):Value.string s=sv s.data.toList:=by
 cases s;rfl
theorem Yd {e:TypeId}(he:P.underlying e=some .string)(n:Nat)(cs:List Value)(y:DataW H×List MemPlace)(_:cs.length=1)(h:DataW.trod enc P W 0 (λ_=>true) true n e cs=some y)(a:ml (y.1.weights P e)=true):∃x:ab,cs=bZ.cells x∧bZ.wf x:=by
 obtain⟨s,rfl,hy,hw⟩:=DataW.trod_string he h;refine⟨s.data.toList,by rw[Rx];rfl,?_⟩;subst hy
 have b:s.data.toList.length≤140737488351232:=by
  simp only[ml,DataW.weights,reachBytes,List.all_cons,List.all_nil,Bool.and_true]at a
  exact gU a
 exact b
end
end Go.J
namespace Go.J
open Go
def Es (P:Program)(n:Nat)(F:Fr)(op:Op)(ty:TypeId)(v:Value):Prop:=∀a w,Has n a F→(execOp a.eval (bare op ty)).run P w= .ok (.value v) w
def NP (Q:Exit→Act→World→Prop):Prop:=∀c a w,¬Q (.panic c) a w
theorem NP.then {K:Act→World→Prop}{Q:Exit→Act→World→Prop}(h:NP Q):NP (Exit.then K Q):=λc a w k=>h c a w k
theorem NP.inBlock {id:Nat}{Q:Exit→Act→World→Prop}(h:NP Q):NP (Exit.inBlock id Q):=λc a w k=>h c a w k
section
variable {P:Program}{ops:Array Oper}{Q:Exit→Act→World→Prop}
theorem wpOp_put {j:Nat}{g i:Oper}{v:Value}(s:ops[j]?=some i)(m:g.apart ops i=true)
 (n:∀cs b,g.op≠ .select cs b) (l:∀cs b,i.op≠ .select cs b) (p:NP Q) {K:Act→World→Prop} {a:Act} {w:World}
 (hy:∀w,(execOp a.eval g).run P w= .ok (.value v) w) (h:wpOp P ops Q j K (a.put g.dst v) w):
 wpOp P ops Q j (λq w'=>(∀w,(execOp q.eval g).run P w= .ok (.value v) w)∧K (q.put g.dst v) w') a w:=by
 obtain⟨h1,k,t⟩:=Oper.apart_spec m
 have pF:∀u,∀w,(execOp (a.put i.dst u).eval g).run P w= .ok (.value v) w:=λu w=>by
  rw[execOp_put (ops:=ops) g n a i.dst u t];exact hy w
 have put_defers:∀(d:Deferred) (u:Value),({a with defers:=d::a.defers}:Act).put i.dst u={(a.put i.dst u)with defers:=d::a.defers}:=λd u=>by
  cases i.dst<;>rfl
 unfold wpOp at*
 simp only[s]at*
 rw[wanted_put i a g.dst v h1]at h
 split
 ·rename_i hw
  simp only[hw,if_true]at h
  rcases h with h|⟨h,y⟩
  ·left
   unfold Oper.wp at*;rw[execOp_put i l a g.dst v h1]at h
   generalize (execOp a.eval i).run P w=r at*
   cases r with
   |ok z w'=>
    cases z<;>simp only[Oper.upon]at h⊢
    case value u=>exact⟨pF u,by rw[←Act.put_comm a v u k];exact h⟩
    case skip=>exact⟨pF _,by rw[←Act.put_comm a v undef k];exact h⟩
    case defer d=>
     refine⟨λw=> ?_,?_⟩
     ·rw[put_defers];exact pF undef w
     ·have e:({(a.put g.dst v)with defers:=d::(a.put g.dst v).defers}:Act).put i.dst undef=(({a with defers:=d::a.defers}:Act).put i.dst undef).put g.dst v:=by
       have:=Act.put_comm ({a with defers:=d::a.defers}:Act) v undef k
       rw[←this]
       cases g.dst<;>rfl
      rw[←e];exact h
    case enter f args=>
     refine Calls.mono h λe o he=> ?_
     cases e with
     |returned u=>exact⟨pF u,by rw[←Act.put_comm a v u k];exact he⟩
     |panicked c=>exact(p _ _ _ he).elim
     |outgrown=>exact he
    case row A args=>exact Rows.mono h λu o he=>⟨pF u,by rw[←Act.put_comm a v u k];exact he⟩
    all_goals exact h
   |halt x w'=>
    cases x<;>simp only[Oper.upon]at h⊢
    all_goals first|exact(p _ _ _ h).elim|exact h
  ·right
   refine⟨?_,y⟩;unfold Oper.asks at*;rw[execOp_put i l a g.dst v h1]at h;exact h
 ·rename_i hw
  simp only[hw]at h
  exact⟨pF _,by rw[←Act.put_comm a v undef k];exact h⟩
theorem wpOp_mono {j:Nat}{K d:Act→World→Prop}{a:Act}{w:World}(h:∀a w,K a w→d a w)(b:wpOp P ops Q j K a w):wpOp P ops Q j d a w:=by
 unfold wpOp at*
 split
 ·rename_i c;simp only[c]at b;exact h _ _ b
 ·rename_i o c
  simp only[c]at b
  split
  ·rename_i hw;simp only[hw,if_true]at b;exact b.imp (Oper.wp_mono h) id
  ·rename_i hw;simp only[hw]at b;exact h _ _ b
theorem wpAny_first {md:Region.Mode}{i:Nat}{c:Oper}{v:Value}(r:ops[i]?=some c)(B:c.guard=none)(C:NP Q)(s:∀(j:Nat) (o:Oper) cs b,ops[j]?=some o→o.op≠ .select cs b):
 ∀(fuel:Nat) (listed:Array Bool) (a:Act) (w:World),
  (∀j f,ops[j]?=some f→j≠i→listed.getD j true=false→(∀e∈f.after,Region.binds md e=true→e.on≠i)→c.apart ops f=true)→
  i∈Region.ready md ops listed→(∀w,(execOp a.eval c).run P w= .ok (.value v) w)→
  wpAny P md ops Q fuel (listed.setIfInBounds i true) (a.put c.dst v) w→wpAny P md ops Q (fuel+1) listed a w:=by
 have self:∀{K:Act→World→Prop} {a:Act} {w:World},(∀w,(execOp a.eval c).run P w= .ok (.value v) w)→K (a.put c.dst v) w→wpOp P ops Q i K a w:=by
  intro K a w hy D;unfold wpOp
  simp only[r,Region.wanted,B,if_true]
  left
  unfold Oper.wp;rw[hy w];exact D
 intro fuel
 induction fuel with
 |zero=>
  intro listed a w _ g hy H;refine⟨λh=>(by rw[h]at g;cases g),λj m=> ?_⟩
  by_cases d:j=i
  ·subst d;exact self hy H
  ·have:=ready_mono m d
   rw[H.1]at this
   cases this
 |succ fuel E=>
  intro listed a w t g hy H;refine⟨λh=>(by rw[h]at g;cases g),λj m=> ?_⟩
  by_cases d:j=i
  ·subst d;exact self hy H
  ·have h1:=H.2 j (ready_mono m d)
   obtain⟨u,f,l,F⟩:=mem_ready.1 m
   have n:∀e∈f.after,Region.binds md e=true→e.on≠i:=λe he G heq=>by
    have h1:=F e he G
    have x:=(mem_ready.1 g).1
    rw[heq]at h1
    rcases cJ i listed.size with p|p
    ·simp[p]at x h1;rw[x]at h1;cases h1
    ·simp[Array.getElem?_eq_none p]at h1
   have I:=wpOp_put l (t j f l d u n) (λcs b=>s i c cs b r) (λcs b=>s j f cs b l) C hy h1
   have J:∀k ok,ops[k]?=some ok→k≠i→(listed.setIfInBounds j true).getD k true=false→
    (∀e∈ok.after,Region.binds md e=true→e.on≠i)→c.apart ops ok=true:=λk ok hk q y L=>by
    refine t k ok hk q ?_ L
    by_cases z:j=k
    ·subst z;exact u
    ·rw[getD_set_ne true z]at y;exact y
   refine wpOp_mono (λM w' A=>E (listed.setIfInBounds j true) M w' J (ready_mono g (Ne.symm d)) A.1 ?_) I;rw[Array.setIfInBounds_comm _ _ d];exact A.2
theorem St.defer {n:Nat}{F:Fr}{A:World→Prop}{f d:Nat}{listed:Array Bool}{op:Op}{ty:TypeId}{pos:String}{after:Array Edge}{v:Value}(i:Nat)
 (g:NP Q) (j:Region.noSelect ops=true) (c:ops[i]?=some {dst:=some d,op:=op,type:=ty,pos:=pos,after:=after,guard:=none}) (k:Es P n F op ty v)
 (b:((Region.ready .any ops listed).contains i&&Region.free .any ops listed i)=true) (hd:Nat.ble (d+1) n=true)
 (h:St n ((d,v)::F) A (wpAny P .any ops Q f (listed.setIfInBounds i true))):St n F A (wpAny P .any ops Q (f+1) listed):=by
 intro a w e hw
 simp only[Bool.and_eq_true]at b
 refine wpAny_first c rfl g (Region.noSelect_spec j) f listed a w (Region.free_spec c b.2) (by simpa using b.1) (λw'=> ?_) (h _ w (e.put (eI hd) v) hw);rw[iR];exact k a w' e
end
section
variable {P:Program}{n:Nat}{F:Fr}{c:Ctx}{H:List ai}{ty:TypeId}{x y:Operand}{v:Value}{t e:TypeId}
theorem NP.body {fn:Func}{R:Value→List ai→World→Prop}:NP (bodyPost P fn λe w'=>∃v H',e= .returned v∧R v H' w'):=λc a w h=>by
 obtain⟨_,_,_,h1,_⟩:=h
 cases h1
theorem Es.move (hx:aX F x v):Es P n F (.move x) ty v:=λa w b=>by simp[execOp,hx.eval b]
theorem Es.assign (hx:aX F x v):Es P n F (.assign x) ty v:=λa w b=>by simp[execOp,hx.eval b]
theorem Es.extract {vs:List Value}{i:Nat}(hx:aX F x (.tuple vs.toArray))(b:vs[i]?=some v):Es P n F (.extract x i) ty v:=λa w c=>by
 simp[execOp,hx.eval c,Instr.extract,b]
theorem Es.idx {b o m cap size k:Nat}{i:Int}{kd:IntKind}(d:v= .slice (some ⟨b,o,none⟩) m cap)(hx:aX F x v)(hy:aX F y (.int kd i))(ht:P.underlying t=some (.slice e))(f:(P.info? e).map (·.size)=some size)
 (g:i=k) (hk:k<m):Es P n F (.indexAddr t x y) ty (gx v size k 0):=λa w c=>by
 subst d;obtain⟨inf,h,j⟩:=dX.1 f;subst g
 simp[execOp,hx.eval c,hy.eval c,Instr.indexAt,asIntOf,run_underlying ht,sizeOf,typeInfo,h,j,hk,dY,Addr.add_lit]
theorem St.j6 {T:Act→World→Prop}{size m:Nat}{cs:List Value}(v:Value)[d:tJ v H e size m cs](hm:0<m)(h:∀b cap,v= tO b m cap→St n F (Mm c H) T):St n F (Mm c H) T:=by
 intro a w f hw;obtain⟨ρ,i⟩:=hw.out
 rcases(i.row d).2 with⟨rfl,rfl⟩|⟨g,cap,cur,h1,_⟩
 ·omega
 ·exact h g cap h1 a w f hw
theorem St.LZ {α:Type}{Rr:Rp α}{xs:List α}{T:Act→World→Prop}(v:Value)[hd:sP v H α Rr xs](hm:0<xs.length)(h:∀b o cap,v= .slice (some ⟨b,o,none⟩) xs.length cap→St n F (Mm c H) T):St n F (Mm c H) T:=by
 intro a w f hw;obtain⟨ρ,g⟩:=hw.out;obtain⟨ad,cap,h1,_,_,_,d⟩:=g.sl hd
 rcases d with d|⟨b,off,C,e,fr,i,_⟩
 ·subst d;simp at hm
 ·subst i;exact h b off cap h1 a w f hw
end
theorem St.slot {n:Nat}{F:Fr}{A:World→Prop}{T:Act→World→Prop}{v:Value}(k:Nat)(v':Value)(hk:look F k=some v)(h:v=v')(d:St n ((k,v')::F) A T):St n F A T:=by
 subst h
 refine λa w b hw=>d a w ⟨b.size,b.defers,λt u hu=> ?_⟩ hw
 simp only[look]at hu
 cases c:Nat.beq t k with
 |true=>
  have e:=xC c
  subst e
  simp only[c,cond_true,Option.some.injEq]at hu
  subst hu;exact b.slot _ _ hk
 |false=>
  simp only[c,cond_false]at hu
  exact b.slot _ _ hu
section
variable {ι:Type}{P:Program}{C:ι→World→Prop}{ops:Array Oper}{Q:Exit→Act→World→Prop}
def WR (P:Program)(C:ι→World→Prop)(ops:Array Oper)(Q:Exit→Act→World→Prop):Nat→Array Bool→Act→ι→Prop
 |0,listed,a,r=>Region.ready .any ops listed=[]∧∀w,C r w→Q .normal a w
 |fuel+1,listed,a,r=>(Region.ready .any ops listed=[]→∀w,C r w→Q .normal a w)∧
  ∀i∈Region.ready .any ops listed,∀w,C r w→wpOp P ops Q i (λb w'=>∃r',C r' w'∧WR P C ops Q fuel (listed.setIfInBounds i true) b r') a w
theorem WR.any:∀(fuel:Nat) (listed:Array Bool) (a:Act) (r:ι) (w:World),C r w→WR P C ops Q fuel listed a r→wpAny P .any ops Q fuel listed a w
 |0,_,_,_,_,hw,h=>⟨h.1,h.2 _ hw⟩
 |fuel+1,_,_,_,_,hw,h=>⟨λb=>h.1 b _ hw,λi c=>wpOp_mono (λd w' ⟨r',e,hk⟩=>WR.any fuel _ d r' w' e hk) (h.2 i c _ hw)⟩
def YS (P:Program)(C:ι→World→Prop)(ops:Array Oper)(o:Oper)(v:Value)(a:Act):Prop:=
 (Region.wanted o (yielded ops a.tmps)=true∧∀r w,C r w→o.quietAt P a (C r) w v)∨(Region.wanted o (yielded ops a.tmps)=false∧v=undef)
theorem YS.of_same {o:Oper}{v:Value}{a b:Act}(hy:YS P C ops o v a)(he:execOp b.eval o=execOp a.eval o)
 (hw:Region.wanted o (yielded ops b.tmps)=Region.wanted o (yielded ops a.tmps)):YS P C ops o v b:=by
 unfold YS Oper.quietAt at*;rw[he,hw];exact hy
theorem YS.self {i:Nat}{o:Oper}{v:Value}{a:Act}(c:ops[i]?=some o)(hy:YS P C ops o v a){K:Act→World→Prop}{r:ι}{w:World}(hw:C r w)(h:∀w',C r w'→K (a.put o.dst v) w'):wpOp P ops Q i K a w:=by
 have h1:YieldsIn P ops (C r) o v a:=hy.imp (λ⟨h1,d⟩=>⟨h1,d r⟩) id
 exact wpOp_of_qOp hw (K:=λb=>b=a.put o.dst v) (λb w' f e=>by rw[e];exact h w' f) (h1.qOp c rfl)
theorem Nt {j:Nat}{g i:Oper}{v:Value}(t:ops[j]?=some i)(m:g.apart ops i=true)
 (n:∀cs b,g.op≠ .select cs b) (l:∀cs b,i.op≠ .select cs b) (p:NP Q) {K:Act→World→Prop} {a:Act} {w:World}
 (hy:YS P C ops g v a) (h:wpOp P ops Q j K (a.put g.dst v) w):
 wpOp P ops Q j (λq w'=>YS P C ops g v q∧K (q.put g.dst v) w') a w:=by
 obtain⟨h1,k,s⟩:=Oper.apart_spec m
 have pF:∀u,YS P C ops g v (a.put i.dst u):=λu=>hy.of_same (execOp_put (ops:=ops) g n a i.dst u s) (wanted_put g a i.dst u s)
 have put_defers:∀(d:Deferred) (u:Value),({a with defers:=d::a.defers}:Act).put i.dst u={(a.put i.dst u)with defers:=d::a.defers}:=λd u=>by
  cases i.dst<;>rfl
 unfold wpOp at*
 simp only[t]at*
 rw[wanted_put i a g.dst v h1]at h
 split
 ·rename_i hw
  simp only[hw,if_true]at h
  rcases h with h|⟨h,y⟩
  ·left
   unfold Oper.wp at*;rw[execOp_put i l a g.dst v h1]at h
   generalize (execOp a.eval i).run P w=r at*
   cases r with
   |ok z w'=>
    cases z<;>simp only[Oper.upon]at h⊢
    case value u=>exact⟨pF u,by rw[←Act.put_comm a v u k];exact h⟩
    case skip=>exact⟨pF _,by rw[←Act.put_comm a v undef k];exact h⟩
    case defer d=>
     refine⟨?_,?_⟩
     ·rw[put_defers];exact(pF undef).of_same rfl rfl
     ·have e:({(a.put g.dst v)with defers:=d::(a.put g.dst v).defers}:Act).put i.dst undef=(({a with defers:=d::a.defers}:Act).put i.dst undef).put g.dst v:=by
       have:=Act.put_comm ({a with defers:=d::a.defers}:Act) v undef k
       rw[←this]
       cases g.dst<;>rfl
      rw[←e];exact h
    case enter f args=>
     refine Calls.mono h λe o he=> ?_
     cases e with
     |returned u=>exact⟨pF u,by rw[←Act.put_comm a v u k];exact he⟩
     |panicked c=>exact(p _ _ _ he).elim
     |outgrown=>exact he
    case row A args=>exact Rows.mono h λu o he=>⟨pF u,by rw[←Act.put_comm a v u k];exact he⟩
    all_goals exact h
   |halt x w'=>
    cases x<;>simp only[Oper.upon]at h⊢
    all_goals first|exact(p _ _ _ h).elim|exact h
  ·right
   refine⟨?_,y⟩;unfold Oper.asks at*;rw[execOp_put i l a g.dst v h1]at h;exact h
 ·rename_i hw
  simp only[hw]at h
  exact⟨pF _,by rw[←Act.put_comm a v undef k];exact h⟩
theorem WR.first {i:Nat}{l:Oper}{v:Value}(n:ops[i]?=some l)(E:NP Q)(x:∀(j:Nat) (o:Oper) cs b,ops[j]?=some o→o.op≠ .select cs b):
 ∀(fuel:Nat) (listed:Array Bool) (a:Act) (r:ι),
  (∀j d,ops[j]?=some d→j≠i→listed.getD j true=false→(∀e∈d.after,Region.binds .any e=true→e.on≠i)→l.apart ops d=true)→
  i∈Region.ready .any ops listed→YS P C ops l v a→
  WR P C ops Q fuel (listed.setIfInBounds i true) (a.put l.dst v) r→WR P C ops Q (fuel+1) listed a r:=by
 intro fuel
 induction fuel with
 |zero=>
  intro listed a r _ f hy H;refine⟨λh=>(by rw[h]at f;cases f),λj m w hw=> ?_⟩
  by_cases c:j=i
  ·subst c;exact hy.self n hw λw' p=>⟨r,p,H⟩
  ·have:=ready_mono m c
   rw[H.1]at this
   cases this
 |succ fuel F=>
  intro listed a r y f hy H;refine⟨λh=>(by rw[h]at f;cases f),λj m w hw=> ?_⟩
  by_cases c:j=i
  ·subst c;exact hy.self n hw λw' p=>⟨r,p,H⟩
  ·have h1:=H.2 j (ready_mono m c) w hw
   obtain⟨z,d,g,G⟩:=mem_ready.1 m
   have q:∀e∈d.after,Region.binds .any e=true→e.on≠i:=λe he I heq=>by
    have h1:=G e he I
    have A:=(mem_ready.1 f).1
    rw[heq]at h1
    rcases cJ i listed.size with s|s
    ·simp[s]at A h1;rw[A]at h1;cases h1
    ·simp[Array.getElem?_eq_none s]at h1
   have J:=Nt g (y j d g c z q) (λcs b=>x i l cs b n) (λcs b=>x j d cs b g) E hy h1
   have K:∀k ok,ops[k]?=some ok→k≠i→(listed.setIfInBounds j true).getD k true=false→
    (∀e∈ok.after,Region.binds .any e=true→e.on≠i)→l.apart ops ok=true:=λk ok hk t B L=>by
    refine y k ok hk t ?_ L
    by_cases D:j=k
    ·subst D;exact z
    ·rw[getD_set_ne true D]at B;exact B
   refine wpOp_mono (λM w' u=> ?_) J;obtain⟨u,r',N,O⟩:=u;refine⟨r',N,F (listed.setIfInBounds j true) M r' K (ready_mono f (Ne.symm c)) u ?_⟩;rw[Array.setIfInBounds_comm _ _ c];exact O
end
class yI (bs:List Nat)(H:List ai)(r R:outParam (List ai)):Prop where
 perm:H.Perm (R++r)
instance yI.nil (H:List ai):yI [] H [] H:=⟨by simp⟩
instance yI.cons (b:Nat)(bs:List Nat)(H H1 r R:List ai)(o:Obj)[h:mn b H o H1][k:yI bs H1 r R]:yI (b::bs) H (aU b o::r) R:=
 ⟨(h.perm.trans (k.perm.cons _)).trans sN.symm⟩
section app
instance (priority:=low) tH.app (d:dQ)(L R:List ai)[h:tH d L]:tH d (L++R):=⟨kA _ h.mem⟩
instance (priority:=low) BE.app (b:Nat)(o:Obj)(L R:List ai)[h:BE b L o]:BE b (L++R) o:=⟨kA _ h.mem⟩
instance (priority:=low) sP.app {α:Type}(v:Value)(Rr:Rp α)(xs:List α)(L R:List ai)[h:sP v L α Rr xs]:sP v (L++R) α Rr xs:=⟨kA _ h.mem⟩
instance (priority:=low) rp.app (b:Nat)(v:Value)(L R:List ai)[h:rp b L v]:rp b (L++R) v:=⟨kA _ h.mem⟩
instance (priority:=low) tJ.app (v:Value)(e:TypeId)(size n:Nat)(cs:List Value)(L R:List ai)[h:tJ v L e size n cs]:tJ v (L++R) e size n cs:=⟨kA _ h.mem⟩
end app
def SW (P:Program)(ops:Array Oper)(Q:Exit→Act→World→Prop)(n:Nat)(F:Fr)(c:Ctx)(Fp r:List ai)(f:Nat)(listed:Array Bool):Prop:=
 ∀a,Has n a F→WR P (λR=>Mm c (Fp++R)) ops Q f listed a r
def KW (P:Program)(ops:Array Oper)(Q:Exit→Act→World→Prop)(n:Nat)(c:Ctx)(Fp:List ai)(f:Nat)(listed:Array Bool)(a:Act)(w:World):Prop:=
 ∃F r,Has n a F∧Mm c (Fp++r) w∧SW P ops Q n F c Fp r f listed
section
variable {P:Program}{ops:Array Oper}{Q:Exit→Act→World→Prop}{n:Nat}{F:Fr}{c:Ctx}{H Fp r r' C':List ai}{f:Nat}{listed:Array Bool}
theorem St.par {id:Nat}{l:List Oper}(bs:List Nat)[b:yI bs H r Fp](hm:P.follows .mixedOrders=true)
 (h:SW P l.toArray Q n F c Fp r l.length (Array.replicate l.length false)):St n F (Mm c H) ((Code.region id l.toArray true).wp P Q):=by
 intro a w d hw;refine wp_region_any hm ?_
 have h1:=h a d
 have e:Mm c (Fp++r) {w with drawn:=w.drawn+1}:=by
  obtain⟨ρ,k⟩:=((Mm.drawn c H) w hw).out;exact Mm.mk (k.perm b.perm)
 simpa using WR.any (C:=λR=>Mm c (Fp++R)) l.length _ a r _ e h1
theorem SW.done (b:Region.ready .any ops listed=[])[ap:App Fp r C'](h:St n F (Mm c C') (Q .normal)):SW P ops Q n F c Fp r f listed:=by
 intro a e
 have h1:∀w,Mm c (Fp++r) w→Q .normal a w:=λw hw=>h a w e (by rw[←ap.eq];exact hw)
 cases f with
 |zero=>exact⟨b,h1⟩
 |succ f=>exact⟨λ_=>h1,λi d=>by rw[b]at d;cases d⟩
theorem SW.perm {b:Fr}(d:Sub F b)(hp:∀w,Mm c (Fp++r') w→Mm c (Fp++r) w)(h:SW P ops Q n F c Fp r (f+1) listed):SW P ops Q n b c Fp r' (f+1) listed:=by
 intro a e
 have h1:=h a (e.sub d)
 exact⟨λg w hw=>h1.1 g w (hp w hw),λi j w hw=>h1.2 i j w (hp w hw)⟩
theorem SW.go [b:eS Fp H r'](h:SW P ops Q n F c Fp r' f listed):St n F (Mm c H) (KW P ops Q n c Fp f listed):=
 λ_ _ a hw=>⟨F,r',a,hw.take,h⟩
theorem SW.each [ap:App Fp r C'](b:Region.ready .any ops listed≠ [])(h:∀i∈Region.ready .any ops listed,St n F (Mm c C') (wpOp P ops Q i (KW P ops Q n c Fp f (listed.setIfInBounds i true)))):SW P ops Q n F c Fp r (f+1) listed:=by
 intro a d;refine⟨λe=>absurd e b,λi g w hw=> ?_⟩;refine wpOp_mono ?_ (h i g a w d (by rw[←ap.eq];exact hw));rintro j w' ⟨m,r',h1,k,l⟩;exact⟨r',k,l j h1⟩
theorem SW.agB {i:Nat}{o:Oper}[ap:App Fp r C'](a:Region.ready .any ops listed=[i])(b:ops[i]?=some o)
 (h:St n F (Mm c C') (wpList P ops (Exit.then (KW P ops Q n c Fp f (listed.setIfInBounds i true)) Q) [o])):SW P ops Q n F c Fp r (f+1) listed:=
 SW.each (by rw[a];simp) (by rw[a];intro k hk;rw[bN.1 hk];exact St.one b h)
theorem SW.agC {i j:Nat}{o o':Oper}[ap:App Fp r C'](b:Region.ready .any ops listed=[i,j])(d:ops[i]?=some o)(a:ops[j]?=some o')
 (h:St n F (Mm c C') (wpList P ops (Exit.then (KW P ops Q n c Fp f (listed.setIfInBounds i true)) Q) [o]))
 (e:St n F (Mm c C') (wpList P ops (Exit.then (KW P ops Q n c Fp f (listed.setIfInBounds j true)) Q) [o'])):SW P ops Q n F c Fp r (f+1) listed:=
 SW.each (by rw[b];simp) (by
  rw[b];intro k hk
  simp only[List.mem_cons,List.not_mem_nil,or_false]at hk
  rcases hk with rfl|rfl
  ·exact St.one d h
  ·exact St.one a e)
theorem SW.agD {i j k:Nat}{o o' a:Oper}[ap:App Fp r C'](g:Region.ready .any ops listed=[i,j,k])(l:ops[i]?=some o)(b:ops[j]?=some o')(d:ops[k]?=some a)
 (h:St n F (Mm c C') (wpList P ops (Exit.then (KW P ops Q n c Fp f (listed.setIfInBounds i true)) Q) [o]))
 (p:St n F (Mm c C') (wpList P ops (Exit.then (KW P ops Q n c Fp f (listed.setIfInBounds j true)) Q) [o']))
 (e:St n F (Mm c C') (wpList P ops (Exit.then (KW P ops Q n c Fp f (listed.setIfInBounds k true)) Q) [a])):SW P ops Q n F c Fp r (f+1) listed:=
 SW.each (by rw[g];simp) (by
  rw[g];intro m hm
  simp only[List.mem_cons,List.not_mem_nil,or_false]at hm
  rcases hm with rfl|rfl|rfl
  ·exact St.one l h
  ·exact St.one b p
  ·exact St.one d e)
section
variable {d:Nat}{op:Op}{ty:TypeId}{pos:String}{after:Array Edge}{v:Value}
theorem SW.defer (i:Nat)(j:NP Q)(k:Region.noSelect ops=true)(e:ops[i]?=some {dst:=some d,op:=op,type:=ty,pos:=pos,after:=after,guard:=none})(l:∀R,Ev P n F (Mm c (Fp++R)) op ty v)
 (b:((Region.ready .any ops listed).contains i&&Region.free .any ops listed i)=true) (hd:Nat.ble (d+1) n=true)
 (h:SW P ops Q n ((d,v)::F) c Fp r f (listed.setIfInBounds i true)):SW P ops Q n F c Fp r (f+1) listed:=by
 intro a g
 simp only[Bool.and_eq_true]at b
 refine WR.first (v:=v) e j (Region.noSelect_spec k) f listed a r (Region.free_spec e b.2) (by simpa using b.1) ?_ (h _ (g.put (eI hd) v));exact .inl ⟨rfl,λR w hw=>(l R).quietAt g hw⟩
theorem SW.PR (i:Nat){j dj:Nat}{want:Bool}{u:Value}(cd:Bool)(p:NP Q)(q:Region.noSelect ops=true)(m:ops[i]?=some {dst:=some d,op:=op,type:=ty,pos:=pos,after:=after,guard:=some (j,want)})
 (s:(ops[j]?).bind (·.dst)=some dj) (t:look F dj=some u) (hu:(cd=true→u= .bool want)∧(cd=false→u= .bool (!want)∨u=undef))
 (x:∀R,cd=true→Ev P n F (Mm c (Fp++R)) op ty v)
 (e:((Region.ready .any ops listed).contains i&&Region.free .any ops listed i)=true) (hd:Nat.ble (d+1) n=true)
 (h:SW P ops Q n ((d,gv cd v)::F) c Fp r f (listed.setIfInBounds i true)):SW P ops Q n F c Fp r (f+1) listed:=by
 intro a g
 simp only[Bool.and_eq_true]at e
 have b:=lX (l:=ops) (o:={dst:=some d,op:=op,type:=ty,pos:=pos,after:=after,guard:=some (j,want)}) rfl s (g.slot _ _ t) hu
 refine WR.first (v:=gv cd v) m p (Region.noSelect_spec q) f listed a r (Region.free_spec m e.2) (by simpa using e.1) ?_ (h _ (g.put (eI hd) _))
 cases k:cd with
 |true=>
  rw[k]at b;rw[dD rfl];exact .inl ⟨b,λR w hw=>(x R k).quietAt g hw⟩
 |false=>
  rw[k]at b;rw[bF rfl];exact .inr ⟨b,rfl⟩
end
section
variable {d:Nat}{op:Op}{ty:TypeId}{pos:String}{after:Array Edge}{dj:Nat}{j:Nat}(i:Nat)(v:Value)
theorem SW.gt {g:Bool}(a:NP Q)(b:Region.noSelect ops=true)(e:ops[i]?=some {dst:=some d,op:=op,type:=ty,pos:=pos,after:=after,guard:=some (j,true)})(k:(ops[j]?).bind (·.dst)=some dj)(l:look F dj=some (.bool g))
 (m:∀R,g=true→Ev P n F (Mm c (Fp++R)) op ty v) (o:((Region.ready .any ops listed).contains i&&Region.free .any ops listed i)=true) (hd:Nat.ble (d+1) n=true)
 (h:SW P ops Q n ((d,J.gv g v)::F) c Fp r f (listed.setIfInBounds i true)):SW P ops Q n F c Fp r (f+1) listed:=SW.PR i g a b e k l (Ym g) m o hd h
theorem SW.gf {g:Bool}(a:NP Q)(b:Region.noSelect ops=true)(e:ops[i]?=some {dst:=some d,op:=op,type:=ty,pos:=pos,after:=after,guard:=some (j,false)})(k:(ops[j]?).bind (·.dst)=some dj)(l:look F dj=some (.bool g))
 (m:∀R,(!g)=true→Ev P n F (Mm c (Fp++R)) op ty v) (o:((Region.ready .any ops listed).contains i&&Region.free .any ops listed i)=true) (hd:Nat.ble (d+1) n=true)
 (h:SW P ops Q n ((d,J.gv (!g) v)::F) c Fp r f (listed.setIfInBounds i true)):SW P ops Q n F c Fp r (f+1) listed:=SW.PR i (!g) a b e k l (Yl g) m o hd h
end
theorem SW.slot (k:Nat){v:Value}(v':Value)(hk:look F k=some v)(h:v=v')(g:SW P ops Q n ((k,v')::F) c Fp r f listed):SW P ops Q n F c Fp r f listed:=by
 subst h
 refine λa b=>g a ⟨b.size,b.defers,λt u hu=> ?_⟩
 simp only[look]at hu
 cases d:Nat.beq t k with
 |true=>
  have e:=xC d
  subst e
  simp only[d,cond_true,Option.some.injEq]at hu
  subst hu;exact b.slot _ _ hk
 |false=>
  simp only[d,cond_false]at hu
  exact b.slot _ _ hu
theorem Has.swap {a:Act}{b c:Nat}{v1 v2:Value}(f:Nat.beq b c=false)(h:Has n a ((b,v1)::(c,v2)::F)):Has n a ((c,v2)::(b,v1)::F):=by
 refine⟨h.size,h.defers,λt u hu=>h.slot t u ?_⟩
 simp only[look]at hu⊢
 cases d:Nat.beq t b with
 |true=>
  have e:=xC d
  subst e
  simp only[f,cond_false,d,cond_true]at hu⊢
  exact hu
 |false=>
  simp only[d,cond_false]at hu⊢
  exact hu
end
theorem Ev.DJ {P:Program}{n:Nat}{F:Fr}{A:World→Prop}{ty t:TypeId}{x:Operand}{xs:Array Value}{b:Array Field}{fd:Field}{i:Nat}{v:Value}(hx:aX F x (.agg xs))(ht:P.underlying t=some (.struct b))(c:b[i]?=some fd)
 (hk:(match P.underlying fd.type with|some (.struct _)|some (.array _ _)|none=>false|_=>true)=true) (d:xs[fd.offset]?=some v):Ev P n F A (.field t x i) ty v:= .of_run λa w e _=>by
 simp[execOp,hx.eval e,Instr.field,run_underlying ht,c,asAgg,R0 hk d]
theorem cX.WU {P:Program}{f:FuncId}{fn:Func}{cd:Code}{args:List Value}{u:Value}{d1 d2 d3 d4 d5:dQ}(n:Nat)
 (a:P.funcs[f]?=some fn) (b:fn.body=some cd) (d:fn.ntmps=n) (g:Nat.ble args.length n=true)
 (h:∀c:Ctx,St n (rM 0 args) (Mm c [aD d1,aD d2,aD d3,aD d4,aD d5]) (cd.wp P (bodyPost P fn λe w'=>∃v H',e= .returned v∧v=u∧Mm c H' w'))):cX P f args.toArray [d1,d2,d3,d4,d5] u:=dR.body n a b d g h
theorem bj:(∀b:Bool,(b&&true)=b)∧(∀b:Bool,(true&&b)=b)∧(∀(p:Prop) [Decidable p],(decide p=true)=p)∧(∀(p:Prop) [Decidable p],(decide p=false)↔¬p)∧(∀a b:Bool,((a&&b)=true)=(a=true∧b=true))∧(∀a b:Bool,((a||b)=true)=(a=true∨b=true))∧
 (∀a b:Bool,(a&&b)=false↔a=false∨b=false)∧(∀a b:Bool,(a||b)=false↔a=false∧b=false)∧(∀b:Bool,((!b)=true)=(b=false))∧(∀b:Bool,((!b)=false)=(b=true))∧(∀{α:Type} [BEq α] [LawfulBEq α] (a b:α),(a==b)=true↔a=b)∧(∀{α:Type} [BEq α] [LawfulBEq α] (a b:α),(a==b)=false↔a≠b)∧
 (∀a b:Int,¬a<b↔b≤a)∧(∀a b:Int,¬a≤b↔b<a):=
 ⟨λ_=>Bool.and_true _,λ_=>Bool.true_and _,λ_ _=>eJ,λ_ _=>wH,pV,Bool.or_eq_true,λ_ _=>Bool.and_eq_false_iff,λ_ _=>Bool.or_eq_false_iff,λ_=>Bool.not_eq_true' _,λ_=>Bool.not_eq_false' _,λ_ _=>qu,λ_ _=>tC,λ_ _=>Int.not_lt,λ_ _=>Int.not_le⟩
section
variable {P:Program}{n:Nat}{F:Fr}{A:World→Prop}{Q:Exit→Act→World→Prop}{ops:Array Oper}{d:Nat}{ty:TypeId}{pos:String}{after:Array Edge}{rest:List Oper}{x:Operand}{v:Value}{c:Ctx}{H:List ai}{t e:TypeId}
theorem St.mv (h:St n ((d,v)::F) A (wpList P ops Q rest))(hx:aX F x v:=by exact .mk rfl)(hd:Nat.ble (d+1) n=true:=by rfl):St n F A (wpList P ops Q ({dst:=some d,op:= .move x,type:=ty,pos:=pos,after:=after,guard:=none}::rest)):=St.ev _ (Ev.move hx) hd h
theorem St.asg (h:St n ((d,v)::F) A (wpList P ops Q rest))(hx:aX F x v:=by exact .mk rfl)(hd:Nat.ble (d+1) n=true:=by rfl):St n F A (wpList P ops Q ({dst:=some d,op:= .assign x,type:=ty,pos:=pos,after:=after,guard:=none}::rest)):=St.ev _ (Ev.assign hx) hd h
theorem uk {α:Type}:∀(ps:List (Nat×α)) (k:Nat),ps.map (·.1)=List.range' k ps.length→ps=((ps.map (·.2)).zipIdx k).map λp=>(p.2,p.1)
 | [],_,_=>rfl
 |(i,a)::ps,k,h=>by
  simp only[List.map_cons,List.length_cons,List.range'_succ,List.cons.injEq]at h
  simp only[List.map_cons,List.zipIdx_cons]
  rw[←uk ps (k+1) h.2,h.1]
theorem St.hS {size:Nat}{vs:List Value}{ps:List (Nat×Operand)}{a:Value}(hp:ps.map (·.1)=List.range' 0 ps.length)(hx:bC F (ps.map (·.2)) vs)(ht:P.underlying t=some (.slice e))(f:(P.info? e).map (·.size)=some size)
 (hz:(P.info? e).bind (·.zero)=some a) (g:Nat.ble 1 size=true) (hlen:Nat.ble (vs.length*size) 16777216=true) (i:∀u∈vs,u.cells.size=size) (hd:Nat.ble (d+1) n=true)
 {m:Nat} (hm:m=vs.length)
 (h:∀b,St n ((d,tO b m m)::F) (Mm c (row (tO b m m) e size m (vs.flatMap λu=>u.cells.toList)::H)) (wpList P ops Q rest)):
 St n F (Mm c H) (wpList P ops Q ({dst:=some d,op:= .buildSlice t m ps.toArray,type:=ty,pos:=pos,after:=after,guard:=none}::rest)):=St.Tu (uk ps 0 hp) hx ht f hz g hlen i hd hm h
theorem St.cq {o:Operand}{x y:Code}{b:Bool}{p q:Prop}(ht:p→St n F A (x.wp P Q))(a:q→St n F A (y.wp P Q))(c:vl F o=some (.bool b):=by exact rfl)
 (hp:b=true→p:=by intro h;first|(simp only[bj]at h;exact h)|exact h) (d:b=false→q:=by intro h;first|(simp only[bj]at h;exact h)|exact h):St n F A ((Code.cond o x y).wp P Q):=St.cond b c (λh=>ht (hp h)) (λh=>a (d h))
theorem SW.tg {a:Exit→Act→World→Prop}{Fp:List ai}{f:Nat}{o:Oper}{listed:Array Bool}(i:Nat)(h:St n F A (wpList P ops (Exit.then (KW P ops Q n c Fp f (listed.setIfInBounds i true)) a) [o])):
 St n F A (wpList P ops (Exit.then (KW P ops Q n c Fp f (listed.setIfInBounds i true)) a) [o]):=h
end
structure MK (κ:Type) where
 enc:κ→Value
 kd:TypeDesc
 same:∀a b:κ,∀ [DecidableEq κ],Instr.sameNow kd (enc a) (enc b)=some (decide (a=b))
 key:∀a,MapKept.IsKey kd (enc a)
 bits:∀a,Instr.sameBits 10000 (enc a) (enc a)=true
def mkInt:MK Int:=⟨λi=>iv i,.int .i64,λa b _=>by simp only[Instr.sameNow,if_true,Option.some.injEq];rw[rh];simp,λa=>by simp[MapKept.IsKey],λa=>by simp[Instr.sameBits]⟩
def mkStr:MK ab:=⟨λs=>sv s,.string,λa b _=>by
    simp only[Instr.sameNow,Option.some.injEq];rw[rh,MapKept.bytes_beq];simp,λa=>by simp[MapKept.IsKey],λa=>by simp only[Instr.sameBits];exact(MapKept.bytes_beq _ _).2 rfl⟩
section assoc
variable {κ:Type}[DecidableEq κ]
def nc:List (κ×Value)→κ→Option Value
 | [],_=>none
 |p::l,k=>if k=p.1 then some p.2 else nc l k
def jP:List (κ×Value)→κ→Value→List (κ×Value)
 | [],k,v=>[(k,v)]
 |p::l,k,v=>if k=p.1 then(k,v)::l else p::jP l k v
theorem zN (l:List (κ×Value))(k:κ)(v:Value)(b:κ):nc (jP l k v) b=if b=k then some v else nc l b:=by
 induction l with
 |nil=>simp[jP,nc]
 |cons p l c=>
  unfold jP
  by_cases h:k=p.1
  ·rw[aB h]
   simp only[nc]
   by_cases a:b=k
   ·rw[aB a,aB a]
   ·rw[aA a,aA a,aA (by rw[←h];exact a)]
  ·rw[aA h]
   simp only[nc,c]
   by_cases a:b=p.1
   ·rw[aB a,aB a,aA (λe=>h (by rw[←e,a]))]
   ·rw[aA a,aA a]
end assoc
section
variable {κ:Type}[DecidableEq κ]
def js (K:MK κ):List (κ×Value)→Nat→List MapEntry
 | [],_=>[]
 |p::l,i=>⟨K.enc p.1,p.2,i⟩::js K l (i+1)
def df (K:MK κ)(l:List (κ×Value)):Obj:= .map (js K l 0).toArray l.length
omit [DecidableEq κ]in
def Qc:List (κ×Value)→κ→Nat→Option (Nat×Value)
 | [],_,_=>none
 |p::l,k,i=>if k=p.1 then some (i,p.2)else Qc l k (i+1)
theorem VM (l:List (κ×Value))(k:κ)(i:Nat):(Qc l k i).map (·.2)=nc l k:=by
 induction l generalizing i with
 |nil=>rfl
 |cons p l a=>simp only[Qc,nc];split
              ·rfl
              ·exact a _
theorem na (K:MK κ)(k:κ):∀(l:List (κ×Value)) (i c:Nat),Instr.findNow K.kd (K.enc k) (js K l i) c=some (Qc l k c)
 | [],i,c=>rfl
 |p::l,i,c=>by
  simp only[js,Instr.findNow,K.same k p.1,Qc]
  by_cases h:k=p.1
  ·simp[h]
  ·simp only[h,decide_false,if_false]
   exact na K k l _ _
omit [DecidableEq κ]in
theorem zM (K:MK κ)(k:κ)(v:Value):∀(l:List (κ×Value)) (i:Nat),js K (l++ [(k,v)]) i=js K l i++ [⟨K.enc k,v,i+l.length⟩]
 | [],i=>by simp[js]
 |p::l,i=>by simp only[List.cons_append,js,zM K k v l (i+1),List.length_cons];congr 4;omega
theorem NC {l:List (κ×Value)}{k:κ}{v:Value}{c:Nat}(h:Qc l k c=none):jP l k v=l++ [(k,v)]:=by
 induction l generalizing c with
 |nil=>rfl
 |cons p l a=>
  simp only[Qc]at h
  split at h
  ·cases h
  ·rename_i h1;unfold jP;rw[aA h1,a h];rfl
theorem Bj {K:MK κ}{k:κ}{v u:Value}:∀{l:List (κ×Value)} {c j:Nat} (i:Nat),Qc l k c=some (j,u)→c≤j∧j-c<l.length∧((js K l i)[j-c]?).map (·.key)=some (K.enc k)∧
 js K (jP l k v) i=(js K l i).modify (j-c) (λe=>{e with key:=K.enc k,val:=v})∧(jP l k v).length=l.length
 | [],c,j,i,h=>by cases h
 |p::l,c,j,i,h=>by
  simp only[Qc]at h
  split at h
  ·rename_i h1
   simp only[Option.some.injEq,Prod.mk.injEq]at h
   obtain⟨rfl,rfl⟩:=h;unfold jP;rw[aB h1];subst h1
   simp[js]
  ·rename_i h1
   obtain⟨f,g,a,b,d⟩:=Bj (K:=K) (v:=v) (i+1) h
   have e:j-c=(j-(c+1))+1:=by omega
   unfold jP;rw[aA h1];refine⟨by omega,by simp only[List.length_cons];omega,?_,?_,by simp[d]⟩
   ·rw[e];simpa[js]using a
   ·rw[e];simp only[js,List.modify_succ_cons,b]
variable {P:Program}{n:Nat}{F:Fr}{A:World→Prop}{c:Ctx}{H R:List ai}{ty t kt et:TypeId}{x y z:Operand}{v:Value}{Q:Exit→Act→World→Prop}{ops:Array Oper}{rest:List Oper}{d:Nat}{pos:String}{after:Array Edge}
class Xr (b:Nat)(H:List ai)(κ:outParam Type)(K:outParam (MK κ))(l:outParam (List (κ×Value))):Prop where
 mem:aU b (df K l)∈H
instance (priority:=high) Xr.here {κ:Type}(b:Nat)(K:MK κ)(l:List (κ×Value))(H:List ai):Xr b (aU b (df K l)::H) κ K l:=⟨aV ..⟩
instance Xr.there {κ:Type}(b:Nat)(K:MK κ)(l:List (κ×Value))(E:ai)(H:List ai)[h:Xr b H κ K l]:Xr b (E::H) κ K l:=⟨bV _ h.mem⟩
class yH (b:Nat)(H:List ai)(κ:outParam Type)(K:outParam (MK κ))(l:outParam (List (κ×Value)))(R:outParam (List ai)):Prop where
 perm:H.Perm (aU b (df K l)::R)
instance (priority:=high) yH.here {κ:Type}(b:Nat)(K:MK κ)(l:List (κ×Value))(H:List ai):yH b (aU b (df K l)::H) κ K l H:=⟨.refl _⟩
instance yH.there {κ:Type}(b:Nat)(K:MK κ)(l:List (κ×Value))(E:ai)(H R:List ai)[h:yH b H κ K l R]:yH b (E::H) κ K l (E::R):=⟨(h.perm.cons E).trans (.swap ..)⟩
def ZT {κ:Type}(K:MK κ)(b:Nat)(l:List (κ×Value)):dQ:=⟨λρ=>ρ b=some (df K l),λ_ _ h k=>h _ _ k⟩
class MF (b:Nat)(H:List ai)(κ:outParam Type)(K:outParam (MK κ))(l:outParam (List (κ×Value))):Prop where
 mem:aD (ZT K b l)∈H
instance (priority:=high) MF.here {κ:Type}(b:Nat)(K:MK κ)(l:List (κ×Value))(H:List ai):MF b (aD (ZT K b l)::H) κ K l:=⟨aV ..⟩
instance MF.there {κ:Type}(b:Nat)(K:MK κ)(l:List (κ×Value))(E:ai)(H:List ai)[h:MF b H κ K l]:MF b (E::H) κ K l:=⟨bV _ h.mem⟩
omit [DecidableEq κ]in
theorem St.makeMap (K:MK κ)(hd:Nat.ble (d+1) n=true)(h:∀b,St n ((d,.map (some b))::F) (Mm c (aU b (df K [])::H)) (wpList P ops Q rest)):
 St n F (Mm c H) (wpList P ops Q ({dst:=some d,op:= .makeMap t none,type:=ty,pos:=pos,after:=after,guard:=none}::rest)):=by
 refine St.PS (K:=λu H'=>∃b,u= .map (some b)∧H'=aU b (df K [])::H) ?_ hd ?_
 ·intro a w ρ e hm
  refine⟨.value (.map (some w.heap.size)),w.alloc (.map #[] 0),ρ,_,?_,⟨_,.inl rfl,_,rfl,rfl⟩,hm.alloc _⟩
  simp[execOp,RowKit.run_makeMap]
 ·rintro _ _ ⟨b,rfl,rfl⟩
  exact h b
theorem RZ {b:Value}{w:World}(hz:(P.info? et).bind (·.zero)=some b):(zeroValue et).run P w= .ok b w:=by
 obtain⟨i,c,a⟩:=o6.1 hz
 simp[zeroValue,typeInfo,c,a]
theorem sg (K:MK κ){l:List (κ×Value)}{b:Nat}{k:κ}{a:Value}{w:World}(ok:Bool)(ht:P.underlying t=some (.map kt et))(hk:P.underlying kt=some K.kd)(hz:(P.info? et).bind (·.zero)=some a)(c:w.heap[b]?=some (df K l)):
 (Instr.lookup t (.map (some b)) (K.enc k) ok).run P w= .ok (if ok then .tuple #[(nc l k).getD a,.bool (nc l k).isSome]else(nc l k).getD a) w:=by
 have h1:=MapKept.run_findKey (w:=w) hk (na K k l 0 0)
 have d:=RZ (P:=P) (w:=w) hz
 have e:=MapKept.run_getObj_map (P:=P) c
 have f:=MapKept.run_checkKey (w:=w) hk (K.key k) (js K l 0).toArray.isEmpty 9999
 simp only[Instr.lookup,Sem.run_bind,run_underlying ht,Result.andThen_ok,e,Sem.run_pure,f,h1,←VM l k 0]
 cases hm:Qc l k 0 with
 |none=>simp[d]
 |some p=>simp
theorem Ev.lookup (K:MK κ){l:List (κ×Value)}{b:Nat}{k:κ}{d:Value}[f:Xr b H κ K l](hx:aX F x (.map (some b)))(hy:aX F y (K.enc k))(ht:P.underlying t=some (.map kt et))(hk:P.underlying kt=some K.kd)(hz:(P.info? et).bind (·.zero)=some d):
 Ev P n F (Mm c H) (.lookup t x y false) ty ((nc l k).getD d):= .of_run λa w e hw=>by
 obtain⟨ρ,hm⟩:=hw.out
 have:=sg (P:=P) K (k:=k) false ht hk hz (fz.1 (hm.dC _ f.mem))
 simp[execOp,hx.eval e,hy.eval e,this]
theorem Ev.r8 (K:MK κ){l:List (κ×Value)}{b:Nat}{k:κ}{d:Value}[f:Xr b H κ K l](hx:aX F x (.map (some b)))(hy:aX F y (K.enc k))(ht:P.underlying t=some (.map kt et))(hk:P.underlying kt=some K.kd)(hz:(P.info? et).bind (·.zero)=some d):
 Ev P n F (Mm c H) (.lookup t x y true) ty (.tuple #[(nc l k).getD d,.bool (nc l k).isSome]):= .of_run λa w e hw=>by
 obtain⟨ρ,hm⟩:=hw.out
 have:=sg (P:=P) K (k:=k) true ht hk hz (fz.1 (hm.dC _ f.mem))
 simp[execOp,hx.eval e,hy.eval e,this]
theorem Ev.VG (K:MK κ){l:List (κ×Value)}{b:Nat}{k:κ}{d:Value}[f:MF b H κ K l](hx:aX F x (.map (some b)))(hy:aX F y (K.enc k))(ht:P.underlying t=some (.map kt et))(hk:P.underlying kt=some K.kd)(hz:(P.info? et).bind (·.zero)=some d):
 Ev P n F (Mm c H) (.lookup t x y false) ty ((nc l k).getD d):= .of_run λa w e hw=>by
 obtain⟨ρ,hm⟩:=hw.out
 have:=sg (P:=P) K (k:=k) false ht hk hz (hm.fits _ _ (dK.1 (hm.dC _ f.mem)))
 simp[execOp,hx.eval e,hy.eval e,this]
omit [DecidableEq κ]in
theorem Q6 (K:MK κ)(k:κ)(w:World):(Instr.keyThatStays (K.enc k) (K.enc k)).run P w= .ok (K.enc k) w:=by
 simp[Instr.keyThatStays,K.bits k]
theorem Av (K:MK κ){l:List (κ×Value)}{b:Nat}{k:κ}{w:World}(ht:P.underlying t=some (.map kt et))(hk:P.underlying kt=some K.kd)(a:w.heap[b]?=some (df K l)):
 (Instr.mapUpdate t (.map (some b)) (K.enc k) v).run P w= .ok () {w with heap:=w.heap.setIfInBounds b (df K (jP l k v))}:=by
 have h1:=MapKept.run_findKey (w:=w) hk (na K k l 0 0)
 have f:=MapKept.run_getObj_map (P:=P) a
 have g:=MapKept.run_checkKey (w:=w) hk (K.key k) false 9999
 simp only[Instr.mapUpdate,Sem.run_bind,run_underlying ht,Result.andThen_ok,f,g,h1]
 cases hm:Qc l k 0 with
 |none=>
  have e:df K (jP l k v)= .map ((js K l 0).toArray.push {key:=K.enc k,val:=v,born:=l.length}) (l.length+1):=by
   rw[NC hm]
   simp[df,zM]
  rw[e];exact MapKept.run_setObj_map (P:=P) _ a
 |some p=>
  obtain⟨j,u⟩:=p;obtain⟨_,m,d,h,i⟩:=Bj (K:=K) (v:=v) 0 hm
  have e:df K (jP l k v)= .map ((js K l 0).toArray.modify j λe=>{e with key:=K.enc k,val:=v}) l.length:=by
   unfold df;rw[h,i]
   simp
  rw[e]
  have c:(((js K l 0).toArray[j]?).map (·.key)).getD (K.enc k)=K.enc k:=by
   simp only[Nat.sub_zero]at d
   simp[d]
  simp only[c,Sem.run_bind,Q6,Result.andThen_ok]
  exact MapKept.run_setObj_map (P:=P) _ a
theorem St.mapUpdate (K:MK κ){l:List (κ×Value)}{b:Nat}{k:κ}[p:yH b H κ K l R](hx:aX F x (.map (some b)))(hy:aX F y (K.enc k))(hz:aX F z v)(ht:P.underlying t=some (.map kt et))(hk:P.underlying kt=some K.kd)
 (h:St n F (Mm c (aU b (df K (jP l k v))::R)) (wpList P ops Q rest)):
 St n F (Mm c H) (wpList P ops Q ({dst:=none,op:= .mapUpdate t x y z,type:=ty,pos:=pos,after:=after,guard:=none}::rest)):=by
 refine St.p9 (K:=λu H'=>H'=aU b (df K (jP l k v))::R) ?_ ?_
 ·intro a w ρ d hm
  have f:=hm.perm p.perm
  have g:=fz.1 (f.dC _ (aV ..))
  have q:=Av (P:=P) K (k:=k) (v:=v) ht hk g
  refine⟨.skip,{w with heap:=w.heap.setIfInBounds b (df K (jP l k v))},ρ,_,?_,⟨_,.inr ⟨rfl,rfl⟩,rfl⟩,?_⟩
  ·simp[execOp,hx.eval d,hy.eval d,hz.eval d,q]
  ·have i:=MapKept.heap_set (o':=df K (jP l k v)) g
   refine f.alter rfl ⟨rfl,aQ _⟩ rfl (by simp) (λj r m=> ?_) (fz.2 i.1) (λs o=>by rw[hP]at o⊢;exact .inl o);rw[hP]at m;exact i.2 j (λe=>m (by rw[e]))
 ·rintro _ _ rfl
  exact h
omit [DecidableEq κ]in
theorem St.R6 {T:Act→World→Prop}(b:Nat){K:MK κ}{l:List (κ×Value)}[p:yH b H κ K l R](h:St n F (Mm c (aD (ZT K b l)::R)) T):St n F (Mm c H) T:=h.ny λw hw=>by
 obtain⟨ρ,q⟩:=hw.out
 have hm:=q.perm p.perm
 have r:=fz.1 (hm.dC _ (aV ..))
 have e:=hm.own _ (aV ..) b (hP _ _)
 have f:=fw.1 hm.Hb
 have hle:Ro.le ρ (λk=>if k=b then some (df K l)else ρ k):=by
  intro k o hk
  by_cases a:k=b
  ·subst a;rw[e.1]at hk;cases hk
  ·simp only[a,if_false];exact hk
 refine Mm.mk (ρ:=λk=>if k=b then some (df K l)else ρ k) ?_;refine fN.fact ⟨hm.os,hm.tape,hm.output,hm.size,hm.AO,?_,Ro.le_trans hm.le hle,?_,?_,?_,f.2⟩ _ ?_
 ·intro k o hk
  by_cases a:k=b
  ·subst a;simp only[if_true,Option.some.injEq]at hk;subst hk;exact r
  ·simp only[a,if_false]at hk;exact hm.fits k o hk
 ·intro k hk g
  by_cases a:k=b
  ·subst a
   rcases e.2 with i|i
   ·omega
   ·exact absurd i g
  ·simp only[a,if_false];exact hm.new k hk g
 ·intro E d
  exact E.loc hle (λ_ _=>rfl) (hm.dC E (bV _ d))
 ·intro E d j m
  have h1:=hm.own E (bV _ d) j m
  refine⟨?_,h1.2⟩
  by_cases a:j=b
  ·subst a;exact absurd m (f.1 E d _ (hP _ _))
  ·simp only[a,if_false];exact h1.1
 ·show(if b=b then some (df K l)else ρ b)=some (df K l)
  rw[aB rfl]
end
section
variable {n:Nat}{F:Fr}{c:Ctx}{H R:List ai}{T:Act→World→Prop}
theorem St.gG {ι:Sort _}(d:dQ)[hd:tH d H](L:ι→List dQ)(h:∀ρ,d.f ρ→∃x,∀e∈L x,e.f ρ)(k:∀x,St n F (Mm c ((L x).map aD++H)) T):St n F (Mm c H) T:=by
 intro a w b hw;obtain⟨ρ,hm⟩:=hw.out;obtain⟨x,hx⟩:=h ρ (dK.1 (hm.dC _ hd.mem));exact k x a w b (Mm.mk (hm.FF (L x) hx))
theorem St.gW (d:dQ)(L:List dQ)[hd:kh L H](h:∀ρ,(∀e∈L,e.f ρ)→d.f ρ)(k:St n F (Mm c (aD d::H)) T):St n F (Mm c H) T:=
 St.fact d (λρ w hm=>h ρ λe he=>dK.1 (hm.dC _ (hd.mem e he))) k
def Aq {α:Type}(Rr:Rp α)(v:Value)(l:List (List α)):dQ:=⟨λρ=>∃vs:List aY,vs.length=l.length∧(sl bU v vs).f ρ∧(pf Rr vs l).f ρ,
 λρ mY h ⟨vs,h1,a,b⟩=>⟨vs,h1,(sl bU v vs).mono _ _ h a,(pf Rr vs l).mono _ _ h b⟩⟩
class MG (v:Value)(H:List ai)(α:outParam Type)(R:outParam (Rp α))(xs:outParam (List (List α))):Prop where
 mem:aD (Aq R v xs)∈H
instance (priority:=high) MG.here {α:Type}(v:Value)(R:Rp α)(xs:List (List α))(H:List ai):MG v (aD (Aq R v xs)::H) α R xs:=⟨aV ..⟩
instance MG.there {α:Type}(v:Value)(R:Rp α)(xs:List (List α))(E:ai)(H:List ai)[h:MG v H α R xs]:MG v (E::H) α R xs:=⟨bV _ h.mem⟩
theorem St.Ds {α:Type}{Rr:Rp α}{l:List (List α)}(v:Value)[hd:MG v H α Rr l](k:∀vs:List aY,vs.length=l.length→St n F (Mm c (aD (sl bU v vs)::aD (J.pf Rr vs l)::H)) T):St n F (Mm c H) T:=by
 intro a w b hw;obtain⟨ρ,hm⟩:=hw.out;obtain⟨vs,h1,d,e⟩:=dK.1 (hm.dC _ hd.mem);exact k vs h1 a w b (Mm.mk ((hm.fact _ e).fact _ d))
theorem St.JF {α:Type}{Rr:Rp α}{l:List (List α)}(v:Value){vs:List aY}[h1:tH (sl bU v vs) H][a:tH (J.pf Rr vs l) H](b:vs.length=l.length)(k:St n F (Mm c (aD (Aq Rr v l)::H)) T):St n F (Mm c H) T:=
 St.fact (Aq Rr v l) (λρ w hm=>⟨vs,b,dK.1 (hm.dC _ h1.mem),dK.1 (hm.dC _ a.mem)⟩) k
theorem R5 {α:Type}{Rr:Rp α}{vs:List aY}{xX:List (List α)}{u:aY}{x:List α}{ρ:Ro}(h:(J.pf Rr vs xX).f ρ)(hu:(sl Rr u.1 x).f ρ)(g:vs.length=xX.length):(J.pf Rr (vs++ [u]) (xX++ [x])).f ρ:=by
 intro i d e h1 a
 rcases cJ i vs.length with b|b
 ·rw[oh b]at h1
  rw[oh zE]at a;exact h i d e h1 a
 ·rw[jM b]at h1
  rw[jM zE]at a
  have c:i-vs.length=0:=by
   have:=(eh.1 h1).1
   simp at this;omega
  rw[c]at h1;rw[show i-xX.length=0 by omega]at a
  simp only[List.getElem?_cons_zero,Option.some.injEq]at h1 a
  subst h1 a;exact hu
theorem St.Dz {α:Type}{Rr:Rp α}(vs:List aY)(u:aY){x:List α}{xX:List (List α)}[h1:WN vs H α Rr xX][a:sP u.1 H α Rr x](b:vs.length=xX.length)(k:St n F (Mm c (aD (J.pf Rr (vs++ [u]) (xX++ [x]))::H)) T):St n F (Mm c H) T:=
 St.fact _ (λρ w hm=>R5 (dK.1 (hm.dC _ h1.mem)) (dK.1 (hm.dC _ a.mem)) b) k
theorem St.Zj {size a m b:Nat}{cs fA:List Value}{e:TypeId}(v:Value)[f:jH v H e size m cs R](d:size=a)(hm:m=b)(h:cs=fA)(k:St n F (Mm c (row v e a b fA::R)) T):St n F (Mm c H) T:=by
 subst d;exact St.aN v hm h k
theorem cH {α:Type}{xs:List α}{x:α}:xs.length+1=(xs++ [x]).length:=by rw[bJ];rfl
theorem St.afQ {α:Type}{Rr:Rp α}(vs:List aY){xX:List (List α)}[h1:WN vs H α Rr xX](h:vs.length=xX.length)(k:(∀xs∈xX,∀x∈xs,Rr.wf x)→St n F (Mm c H) T):St n F (Mm c H) T:=by
 intro a w d hw;obtain⟨ρ,hm⟩:=hw.out;refine k (λxs b x hx=> ?_) a w d hw;obtain⟨i,e,he⟩:=lB.1 b
 have f:i<vs.length:=by omega
 obtain⟨_,_,_,_,_,g,_⟩:=dK.1 (hm.dC _ h1.mem) i vs[i] xs (aj f) (by rw[aj e,he]);exact g x hx
theorem St.sd {α:Type}(Rr:Rp α)(k:St n F (Mm c (aD (J.pf Rr [] [])::H)) T):St n F (Mm c H) T:=
 St.fact _ (λ_ _ _=>show(J.pf Rr [] []).f _ from λi u l hu=>by simp at hu) k
theorem St.gb {α:Type}(Rr:Rp α)(k:St n F (Mm c (aD (sl Rr (.slice none 0 0) [])::H)) T):St n F (Mm c H) T:=St.fact _ (λ_ _ _=>j1 Rr _) k
end
section
variable {P:Program}{Q:Exit→Act→World→Prop}{n:Nat}{F:Fr}{c:Ctx}{H Fp:List ai}
theorem SW.split {ops:Array Oper}{r:List ai}{f:Nat}{listed:Array Bool}(k:Nat)(b:Bool)(hk:look F k=some (.bool b))(ht:b=true→SW P ops Q n ((k,.bool true)::F) c Fp r f listed)(a:b=false→SW P ops Q n ((k,.bool false)::F) c Fp r f listed):SW P ops Q n F c Fp r f listed:=by
 cases b with
 |true=>exact SW.slot k (.bool true) hk rfl (ht rfl)
 |false=>exact SW.slot k (.bool false) hk rfl (a rfl)
theorem St.ajD {id:Nat}{l:List Oper}(L:List ai)[b:eS L H Fp](hm:P.follows .mixedOrders=true)
 (h:SW P l.toArray Q n F c Fp L l.length (Array.replicate l.length false)):St n F (Mm c H) ((Code.region id l.toArray true).wp P Q):=by
 intro a w d hw;refine wp_region_any hm ?_
 have h1:=h a d
 have e:Mm c (Fp++L) {w with drawn:=w.drawn+1}:=by
  obtain⟨ρ,k⟩:=((Mm.drawn c H) w hw).out;exact Mm.mk (k.perm (b.perm.trans kB))
 simpa using WR.any (C:=λR=>Mm c (Fp++R)) l.length _ a L _ e h1
end
section
variable {P:Program}{Q:Exit→Act→World→Prop}{n:Nat}{F:Fr}{c:Ctx}{H Fp r:List ai}
theorem St.dZ {id:Nat}{l:List Oper}(L:List ai)[d:eS L H Fp](hm:P.follows .mixedOrders=true)
 (h:NP Q→Region.noSelect l.toArray=true→SW P l.toArray Q n F c Fp L l.length (Array.replicate l.length false)) (a:NP Q:=by repeat(first|refine NP.then ?_|refine NP.inBlock ?_|exact NP.body)) (b:Region.noSelect l.toArray=true:=by kernel_rfl):St n F (Mm c H) ((Code.region id l.toArray true).wp P Q):=
 St.ajD L hm (h a b)
theorem St.qe {id:Nat}{l:List Oper}(bs:List Nat)[d:yI bs H r Fp](hm:P.follows .mixedOrders=true)
 (h:NP Q→Region.noSelect l.toArray=true→SW P l.toArray Q n F c Fp r l.length (Array.replicate l.length false)) (a:NP Q:=by repeat(first|refine NP.then ?_|refine NP.inBlock ?_|exact NP.body)) (b:Region.noSelect l.toArray=true:=by kernel_rfl):St n F (Mm c H) ((Code.region id l.toArray true).wp P Q):=
 St.par bs hm (h a b)
end
end Go.J
namespace Go.J
open Go Go.ChangeShapes Go.WideShapes Go.ChangeAt Go.RowKit Go.Deep
section
variable {H:Type}{enc:TypeId×Value→H}{P:Program}{W:World}{α:Type}
def XO (Rr:Rp α)(W:World):Rp (aY×List α):=⟨1,by decide,λx=>[x.1.1],λx=>(sl Rr x.1.1 x.2).f (J.all W),λ_=>rfl,λx u h=>by simp at h;subst h;exact x.1.2⟩
theorem Qj (Rr:Rp α){t e ee:TypeId}{v:Value}{d:DataW H}{p:List MemPlace}{o:Nat}(ht:P.underlying t=some (.slice e))(r:P.cellsOf e=1)(he:P.underlying e=some (.slice ee))(g:P.cellsOf ee=Rr.size)
 (s:∀(n:Nat) (cs:List Value) (y:DataW H×List MemPlace),cs.length=Rr.size→DataW.trod enc P W 0 (λ_=>true) true n ee cs=some y→ml (y.1.weights P ee)=true→∃x:α,cs=Rr.cells x∧Rr.wf x)
 (w:Value.okWide P W .any o t v) (z:ml (d.weights P t)=true) (h:DataW.Trod enc P W 0 (λ_=>true) true t v d p):∃xs:List (List α),(Aq Rr v xs).f (J.all W)∧((d= .nil∧xs=[])∨∃es sp,d= .slice es sp∧es.length=xs.length):=by
 obtain⟨xs,h1,A⟩:=Vn (XO Rr W) ht r (λn cs y _ hy hw=>by
  obtain⟨v,xs,B,e2,D,_⟩:=Gp Rr he g s hw (d:=y.1) (p:=y.2) hy
  exact⟨(⟨v,e2⟩,xs),B,D⟩) w z h
 have k:∀l:List (aY×List α),rows (XO Rr W) l=rows bU (l.map Prod.fst):=by
  intro l
  induction l with
  |nil=>rfl
  |cons x l m=>simp only[rows,List.flatMap_cons,List.map_cons]at m⊢;rw[m];rfl
 refine⟨xs.map Prod.snd,⟨xs.map Prod.fst,by simp,?_,?_⟩,?_⟩
 ·obtain⟨a,cap,g1,g2,g3,g4,g5⟩:=h1
  refine⟨a,cap,by rw[aR];exact g1,by rw[aR];exact g2,g3,λ_ _=>trivial,?_⟩
  rcases g5 with rfl|⟨b,off,C,E,fr,F,G,I⟩
  ·exact .inl rfl
  ·exact .inr ⟨b,off,C,E,fr,F,G,λj u K=>I j u (by rw[k];exact K)⟩
 ·obtain⟨a,cap,_,_,_,g4,_⟩:=h1
  intro i u l hu c;rw[aw]at hu c
  cases hx:xs[i]? with
  |none=>rw[hx]at hu;cases hu
  |some x=>
   rw[hx]at hu c
   simp only[Option.map_some,Option.some.injEq]at hu c
   subst hu c;exact g4 x (aa hx)
 ·rcases A with⟨q,rfl⟩|⟨es,sp,q,c⟩
  ·exact .inl ⟨q,rfl⟩
  ·exact .inr ⟨es,sp,q,by rw[aR];exact c⟩
end
theorem HP {P : Program} {W : World} {g3 g4 k u m n : Nat} {o : Array Field} (n3 : P.globalNamed "unicode/utf8.first" = some g3) (n4 : P.globalNamed "unicode/utf8.acceptRanges" = some g4)
 (y3:(P.globals[g3]?).map (·.type)=some k) (y4:(P.globals[g4]?).map (·.type)=some u) (t3:P.underlying k=some (.array 256 m)) (t5:P.underlying m=some (.int .u8)) (t4:P.underlying u=some (.array 16 n)) (y:P.underlying n=some (.struct o))
 (z:∀(i:Nat) (f:Field),o[i]?=some f→P.underlying f.type=some (.int .u8)∧f.offset=i∧P.cellsOf f.type=1) (r:o.size=2) (c5:P.cellsOf m=1) (c3:P.cellsOf k=256) (cs:P.cellsOf n=2)
 {l : List (String × DataW Unit)} (h : laidMetH P l W) (hp : (laidMetH P l W) = laidMet P l W) (m3 : ("unicode/utf8.first", Lib.firstData) ∈ l) (m4 : ("unicode/utf8.acceptRanges", Lib.acceptData) ∈ l) : Lib.Utf8Tabs g3 g4 W := by
 rw[hp]at h
 have A:=Lib.laidMet.reads h m3
 have B:=Lib.laidMet.reads h m4
 refine⟨λc C=> ?_,λi v=> ?_⟩
 ·obtain⟨g,t,cs,fuel,p,a,s,e,hd⟩:=A
  obtain rfl:=Option.some.inj (n3.symm.trans a);obtain rfl:=Option.some.inj (y3.symm.trans s)
  have j:=Lib.cells_of_tab t3 t5 c5 c3 hd
  have:=World.var?_cell a e c
  rw[this,←KD,j]
  simp[Lib.firstTab,C]
 ·obtain⟨g,t,cells,fuel,p,a,s,e,hd⟩:=B
  obtain rfl:=Option.some.inj (n4.symm.trans a);obtain rfl:=Option.some.inj (y4.symm.trans s);obtain⟨D,d,q,b,he⟩:=Lib.array_elem t4 hd i v
  simp only[List.getElem?_map,List.getElem?_range v,Option.map_some,Option.some.injEq]at b
  subst b;rw[cs]at he
  have j:=Lib.ints_of_struct y z (by rw[cs,r]) he
  have w:=congrArg (·[0]?) j
  have x:=congrArg (·[1]?) j
  simp only[List.getElem?_take,List.getElem?_drop]at w x
  constructor
  ·rw[World.var?_cell a e (2*i),←KD]
   simpa[Nat.mul_comm]using w
  ·rw[World.var?_cell a e (2*i+1),←KD]
   simpa[Nat.mul_comm]using x
theorem yY {W w:World}(h:∀(k:Nat) (o:Obj),W.heap[k]?=some o→w.heap[k]?=some o){g o:Nat}{v:Value}(a:W.cell? ⟨g,o,none⟩=some v):w.cell? ⟨g,o,none⟩=some v:=by
 obtain⟨_,C,e,fr,b,c⟩:=jI a
 rw[cG (h _ _ b)];exact c
theorem EK {W w:World}{g3 g4:Nat}(h:Lib.Utf8Tabs g3 g4 W)(hw:∀(k:Nat) (o:Obj),W.heap[k]?=some o→w.heap[k]?=some o):Lib.Utf8Tabs g3 g4 w:=
 ⟨λc b=>yY hw (h.1 c b),λi a=>⟨yY hw (h.2 i a).1,yY hw (h.2 i a).2⟩⟩
end Go.J
