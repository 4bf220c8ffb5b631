/-
  The laws of single operations, as the walks use them: what an operation yields where its operands are known and its memory is at hand.
  Conditions: none; everything holds of any program.
-/
import Derived.Test.YteahhholjojfbaaDoorJ2
namespace Go.J
open Go

abbrev Str := List UInt8
/-- a string's value -/
abbrev sv (l : Str) : Value := .string ⟨l.toArray⟩
abbrev iv (n : Int) : Value := .int .i64 n

/-- how data of a type lie in cells -/
structure Rp (α : Type) where
  size : Nat
  pos : 0 < size
  cells : α → List Value
  wf : α → Prop
  len : ∀ x, (cells x).length = size
  one : ∀ x, ∀ u ∈ cells x, u.oneCell' = true

def i64ok (n : Int) : Prop := -9223372036854775808 ≤ n ∧ n ≤ 9223372036854775807

def intR : Rp Int := ⟨1, by decide, fun x => [.int .i64 x], i64ok, fun _ => rfl, fun _ u h => by simp at h; subst h; rfl⟩
def strR : Rp Str := ⟨1, by decide, fun x => [sv x], fun x => x.length ≤ maxLen, fun _ => rfl, fun _ u h => by simp at h; subst h; rfl⟩
def boolR : Rp Bool := ⟨1, by decide, fun x => [.bool x], fun _ => True, fun _ => rfl, fun _ u h => by simp at h; subst h; rfl⟩
/-- cells that hold one-cell values, whatever they are -/
def valR : Rp { v : Value // v.oneCell' = true } := ⟨1, by decide, fun x => [x.1], fun _ => True, fun _ => rfl, fun x u h => by simp at h; subst h; exact x.2⟩

def rows {α : Type} (R : Rp α) (xs : List α) : List Value := xs.flatMap R.cells

theorem rows_length {α : Type} (R : Rp α) (xs : List α) : (rows R xs).length = xs.length * R.size := by
  induction xs with
  | nil => simp [rows]
  | cons x xs ih => simp only [rows, List.flatMap_cons, List.length_append, R.len, List.length_cons, Nat.add_mul] at ih ⊢; omega

theorem rows_get {α : Type} (R : Rp α) : ∀ (xs : List α) (k j : Nat) (x : α), xs[k]? = some x → j < R.size → (rows R xs)[k * R.size + j]? = (R.cells x)[j]?
  | [], _, _, _, h, _ => by simp at h
  | y :: xs, 0, j, x, h, hj => by
    simp only [List.getElem?_cons_zero, Option.some.injEq] at h
    subst h
    simp only [rows, List.flatMap_cons, Nat.zero_mul, Nat.zero_add]
    rw [List.getElem?_append_left (by rw [R.len]; exact hj)]
  | y :: xs, k + 1, j, x, h, hj => by
    simp only [List.getElem?_cons_succ] at h
    have ih := rows_get R xs k j x h hj
    simp only [rows, List.flatMap_cons] at ih ⊢
    rw [List.getElem?_append_right (by rw [R.len, Nat.add_mul]; omega), R.len]
    have e : (k + 1) * R.size + j - R.size = k * R.size + j := by rw [Nat.add_mul]; omega
    rw [e]
    exact ih

/-- the slice v reads as xs, in what is read only -/
def sl {α : Type} (R : Rp α) (v : Value) (xs : List α) : Dat where
  f ρ := ∃ a cap, v = .slice a xs.length cap ∧ xs.length ≤ cap ∧ cap ≤ maxLen ∧ (∀ x ∈ xs, R.wf x) ∧
    (xs = [] ∨ ∃ b off C e fr, a = some ⟨b, off, none⟩ ∧ ρ b = some (.cells C e fr) ∧ ∀ j u, (rows R xs)[j]? = some u → C[off + j]? = some u)
  mono ρ ρ' h := by
    rintro ⟨a, cap, h1, h2, h3, h4, h5⟩
    refine ⟨a, cap, h1, h2, h3, h4, ?_⟩
    rcases h5 with h5 | ⟨b, off, C, e, fr, h6, h7, h8⟩
    · exact .inl h5
    · exact .inr ⟨b, off, C, e, fr, h6, h _ _ h7, h8⟩

/-- the data of v are at hand -/
class InS (v : Value) (H : List Ent) (α : outParam Type) (R : outParam (Rp α)) (xs : outParam (List α)) : Prop where
  mem : dat (sl R v xs) ∈ H
instance (priority := high) InS.here {α : Type} (v : Value) (R : Rp α) (xs : List α) (H : List Ent) : InS v (dat (sl R v xs) :: H) α R xs := ⟨List.mem_cons_self ..⟩
instance InS.there {α : Type} (v : Value) (R : Rp α) (xs : List α) (E : Ent) (H : List Ent) [h : InS v H α R xs] : InS v (E :: H) α R xs := ⟨List.mem_cons_of_mem _ h.mem⟩

/-- an element's cells, written out -/
class Cel {α : Type} (R : Rp α) (x : α) (L : outParam (List Value)) : Prop where
  eq : R.cells x = L

/-- the pointer to cell 'off' of element k of a slice of elements of that size -/
@[irreducible] def eptr (v : Value) (size k off : Nat) : Value :=
  match v with
  | .slice (some a) _ _ => .pointer (some (a.add (k * size + off)))
  | _ => undef

theorem eptr_slice (b o n c size k off : Nat) : eptr (.slice (some ⟨b, o, none⟩) n c) size k off = .pointer (some ⟨b, o + (k * size + off), none⟩) := by
  unfold eptr; simp only [Addr.add_lit]

section
variable {P : Program} {n : Nat} {F : Fr} {A : World → Prop} {c : Ctx} {H : List Ent} {ty : TypeId} {x y z : Operand} {v : Value}

theorem Ev.of_run {op : Op} (h : ∀ a w, Has n a F → A w → (execOp a.eval (bare op ty)).run P w = .ok (.value v) w) : Ev P n F A op ty v :=
  fun a w ha hw => by rw [h a w ha hw]; exact ⟨rfl, rfl⟩

theorem Ev.move (hx : Opd F x v) : Ev P n F A (.move x) ty v := .of_run fun a w ha _ => by simp [execOp, hx.eval ha]
theorem Ev.assign (hx : Opd F x v) : Ev P n F A (.assign x) ty v := .of_run fun a w ha _ => by simp [execOp, hx.eval ha]

/-- 'a && b' -/
theorem Ev.and {p q : Bool} (hx : Opd F x (.bool p)) (hy : p = true → Opd F y (.bool q)) : Ev P n F A (.pick x y (.const (.bool false))) ty (.bool (p && q)) := .of_run fun a w ha _ => by
  cases p with
  | true => simp only [execOp, hx.eval ha, (hy rfl).eval ha]; simp [asBool]
  | false => simp only [execOp, hx.eval ha]; simp [asBool, Act.eval]
/-- 'a || b' -/
theorem Ev.or {p q : Bool} (hx : Opd F x (.bool p)) (hy : (!p) = true → Opd F y (.bool q)) : Ev P n F A (.pick x (.const (.bool true)) y) ty (.bool (p || q)) := .of_run fun a w ha _ => by
  cases p with
  | true => simp only [execOp, hx.eval ha]; simp [asBool, Act.eval]
  | false => simp only [execOp, hx.eval ha, (hy rfl).eval ha]; simp [asBool]

theorem Ev.not {p : Bool} (hx : Opd F x (.bool p)) {t : TypeId} : Ev P n F A (.unOp .not t x) ty (.bool (!p)) := .of_run fun a w ha _ => by
  simp [execOp, hx.eval ha, Op.unary]

section ints
variable {k : IntKind} {i j : Int} {t u : TypeId}
theorem Ev.lss (hx : Opd F x (.int k i)) (hy : Opd F y (.int k j)) : Ev P n F A (.binOp .lss t x y u) ty (.bool (decide (i < j))) := .of_run fun a w ha _ => by simp only [execOp, hx.eval ha, hy.eval ha]; simp [go_sem]
theorem Ev.leq (hx : Opd F x (.int k i)) (hy : Opd F y (.int k j)) : Ev P n F A (.binOp .leq t x y u) ty (.bool (decide (i ≤ j))) := .of_run fun a w ha _ => by simp only [execOp, hx.eval ha, hy.eval ha]; simp [go_sem]
theorem Ev.gtr (hx : Opd F x (.int k i)) (hy : Opd F y (.int k j)) : Ev P n F A (.binOp .gtr t x y u) ty (.bool (decide (j < i))) := .of_run fun a w ha _ => by simp only [execOp, hx.eval ha, hy.eval ha]; simp [go_sem]
theorem Ev.geq (hx : Opd F x (.int k i)) (hy : Opd F y (.int k j)) : Ev P n F A (.binOp .geq t x y u) ty (.bool (decide (j ≤ i))) := .of_run fun a w ha _ => by simp only [execOp, hx.eval ha, hy.eval ha]; simp [go_sem]
theorem Ev.eql (hx : Opd F x (.int k i)) (hy : Opd F y (.int k j)) : Ev P n F A (.binOp .eql t x y u) ty (.bool (decide (i = j))) := .of_run fun a w ha _ => by
  simp only [execOp, hx.eval ha, hy.eval ha]; simp [go_sem]
  rfl
theorem Ev.neq (hx : Opd F x (.int k i)) (hy : Opd F y (.int k j)) : Ev P n F A (.binOp .neq t x y u) ty (.bool (!decide (i = j))) := .of_run fun a w ha _ => by
  simp only [execOp, hx.eval ha, hy.eval ha]; simp [go_sem]
  rfl
theorem Ev.addW (hx : Opd F x (.int k i)) (hy : Opd F y (.int k j)) : Ev P n F A (.binOp .add t x y u) ty (.int k (k.wrap (i + j))) := .of_run fun a w ha _ => by simp only [execOp, hx.eval ha, hy.eval ha]; simp [go_sem, Op.intArith]
theorem Ev.subW (hx : Opd F x (.int k i)) (hy : Opd F y (.int k j)) : Ev P n F A (.binOp .sub t x y u) ty (.int k (k.wrap (i - j))) := .of_run fun a w ha _ => by simp only [execOp, hx.eval ha, hy.eval ha]; simp [go_sem, Op.intArith]
theorem Ev.mulW (hx : Opd F x (.int k i)) (hy : Opd F y (.int k j)) : Ev P n F A (.binOp .mul t x y u) ty (.int k (k.wrap (i * j))) := .of_run fun a w ha _ => by simp only [execOp, hx.eval ha, hy.eval ha]; simp [go_sem, Op.intArith]
theorem Ev.negW (hx : Opd F x (.int k i)) : Ev P n F A (.unOp .neg t x) ty (.int k (k.wrap (0 - i))) := .of_run fun a w ha _ => by simp [execOp, hx.eval ha, Op.unary, Op.intArith]
theorem wrap_ok {i : Int} (h : -9223372036854775808 ≤ i ∧ i ≤ 9223372036854775807) : IntKind.i64.wrap i = i := by
  simp only [IntKind.wrap, IntKind.bits, IntKind.signed]
  simp
  omega
theorem Ev.add (hx : Opd F x (iv i)) (hy : Opd F y (iv j)) (h : -9223372036854775808 ≤ i + j ∧ i + j ≤ 9223372036854775807) : Ev P n F A (.binOp .add t x y u) ty (iv (i + j)) := by
  have := Ev.addW (P := P) (n := n) (A := A) (ty := ty) (t := t) (u := u) hx hy; rwa [wrap_ok h] at this
theorem Ev.sub (hx : Opd F x (iv i)) (hy : Opd F y (iv j)) (h : -9223372036854775808 ≤ i - j ∧ i - j ≤ 9223372036854775807) : Ev P n F A (.binOp .sub t x y u) ty (iv (i - j)) := by
  have := Ev.subW (P := P) (n := n) (A := A) (ty := ty) (t := t) (u := u) hx hy; rwa [wrap_ok h] at this
theorem Ev.mul (hx : Opd F x (iv i)) (hy : Opd F y (iv j)) (h : -9223372036854775808 ≤ i * j ∧ i * j ≤ 9223372036854775807) : Ev P n F A (.binOp .mul t x y u) ty (iv (i * j)) := by
  have := Ev.mulW (P := P) (n := n) (A := A) (ty := ty) (t := t) (u := u) hx hy; rwa [wrap_ok h] at this
theorem Ev.neg (hx : Opd F x (iv i)) (h : -9223372036854775807 ≤ i ∧ i ≤ 9223372036854775807) : Ev P n F A (.unOp .neg t x) ty (iv (-i)) := by
  have := Ev.negW (P := P) (n := n) (A := A) (ty := ty) (t := t) hx; rwa [wrap_ok (by omega), Int.zero_sub] at this
theorem Ev.quoW (hx : Opd F x (.int k i)) (hy : Opd F y (.int k j)) (h : j ≠ 0) : Ev P n F A (.binOp .quo t x y u) ty (.int k (k.wrap (i.tdiv j))) := .of_run fun a w ha _ => by simp only [execOp, hx.eval ha, hy.eval ha]; simp [go_sem, Op.intDiv, h]
theorem Ev.rem (hx : Opd F x (.int k i)) (hy : Opd F y (.int k j)) (h : j ≠ 0) : Ev P n F A (.binOp .rem t x y u) ty (.int k (i.tmod j)) := .of_run fun a w ha _ => by simp only [execOp, hx.eval ha, hy.eval ha]; simp [go_sem, Op.intDiv, h]
theorem Ev.shlW {k' : IntKind} (hx : Opd F x (.int k i)) (hy : Opd F y (.int k' j)) (h : 0 ≤ j) : Ev P n F A (.binOp .shl t x y u) ty (.int k (k.wrap (i * 2 ^ (min j.toNat k.bits)))) := .of_run fun a w ha _ => by
  simp only [execOp, hx.eval ha, hy.eval ha]; simp [go_sem, Op.shift, Int.not_lt.2 h]
theorem Ev.shr {k' : IntKind} (hx : Opd F x (.int k i)) (hy : Opd F y (.int k' j)) (h : 0 ≤ j) : Ev P n F A (.binOp .shr t x y u) ty (.int k (i.fdiv (2 ^ (min j.toNat k.bits)))) := .of_run fun a w ha _ => by
  simp only [execOp, hx.eval ha, hy.eval ha]; simp [go_sem, Op.shift, Int.not_lt.2 h]
theorem Ev.convI {k' : IntKind} {s d : TypeId} (hx : Opd F x (.int k i)) (hs : (P.underlying s).isSome = true) (hd : P.underlying d = some (.int k')) : Ev P n F A (.convert s d x) ty (.int k' (k'.wrap i)) := .of_run fun a w ha _ => by
  obtain ⟨d0, hd0⟩ := Option.isSome_iff_exists.mp hs
  simp [execOp, hx.eval ha, convert, run_underlying hd0, run_underlying hd, Conv.intToInt]
end ints

section strings
variable {s r : Str} {t u : TypeId}
theorem Ev.streq (hx : Opd F x (sv s)) (hy : Opd F y (sv r)) : Ev P n F A (.binOp .eql t x y u) ty (.bool (s == r)) := .of_run fun a w ha _ => by simp only [execOp, hx.eval ha, hy.eval ha]; simp [go_sem]
theorem Ev.strne (hx : Opd F x (sv s)) (hy : Opd F y (sv r)) : Ev P n F A (.binOp .neq t x y u) ty (.bool (!(s == r))) := .of_run fun a w ha _ => by simp only [execOp, hx.eval ha, hy.eval ha]; simp [go_sem]
theorem Ev.strlss (hx : Opd F x (sv s)) (hy : Opd F y (sv r)) : Ev P n F A (.binOp .lss t x y u) ty (.bool (Op.bytesLess s r)) := .of_run fun a w ha _ => by simp only [execOp, hx.eval ha, hy.eval ha]; simp [go_sem]
theorem Ev.strgtr (hx : Opd F x (sv s)) (hy : Opd F y (sv r)) : Ev P n F A (.binOp .gtr t x y u) ty (.bool (!(Op.bytesLess s r || s == r))) := .of_run fun a w ha _ => by
  simp only [execOp, hx.eval ha, hy.eval ha]; simp [go_sem, binOp, Op.stringOp]
theorem Ev.strleq (hx : Opd F x (sv s)) (hy : Opd F y (sv r)) : Ev P n F A (.binOp .leq t x y u) ty (.bool (Op.bytesLess s r || s == r)) := .of_run fun a w ha _ => by
  simp only [execOp, hx.eval ha, hy.eval ha]; simp [go_sem, binOp, Op.stringOp]
theorem Ev.strgeq (hx : Opd F x (sv s)) (hy : Opd F y (sv r)) : Ev P n F A (.binOp .geq t x y u) ty (.bool (!(Op.bytesLess s r))) := .of_run fun a w ha _ => by
  simp only [execOp, hx.eval ha, hy.eval ha]; simp [go_sem, binOp, Op.stringOp]
theorem Ev.strcat (hx : Opd F x (sv s)) (hy : Opd F y (sv r)) (h : s.length + r.length ≤ 9223372036854775807) : Ev P n F A (.binOp .add t x y u) ty (sv (s ++ r)) := .of_run fun a w ha _ => by
  have h1 := run_string_add_sum (P := P) w ⟨s.toArray⟩ ⟨r.toArray⟩ (by simpa [ByteArray.size] using h)
  simp only [execOp, hx.eval ha, hy.eval ha, eqGuard_at_string, binOp_string_add, Sem.run_bind, Sem.run_pure, Result.andThen_ok, h1, ByteArray.mk_append_mk]
theorem Ev.lenstr {o : TypeId} (hx : Opd F x (sv s)) (ht : P.underlying o = some .string) : Ev P n F A (.call { callee := .builtin .len, args := #[x], argTypes := #[o] }) ty (iv s.length) := .of_run fun a w ha _ => by
  have h1 := run_len_string (P := P) w o ty ⟨s.toArray⟩ ht
  simp [execOp, resolve, invoke, builtin, hx.eval ha, h1, goInt, ByteArray.size]
theorem Ev.idxstr {k : Nat} {i : Int} {b : UInt8} (hx : Opd F x (sv s)) (hy : Opd F y (iv i)) (ht : P.underlying t = some .string) (hi : i = k) (hb : s[k]? = some b) :
    Ev P n F A (.index t x y) ty (.int .u8 b.toNat) := .of_run fun a w ha _ => by
  subst hi
  have hlt : k < (⟨s.toArray⟩ : ByteArray).size := by simpa [ByteArray.size] using (List.getElem?_eq_some_iff.1 hb).1
  have h1 : (⟨s.toArray⟩ : ByteArray)[k]? = some b := by
    rw [ByteArray.getElem?_lt' _ _ hlt]
    have := (List.getElem?_eq_some_iff.1 hb).2
    simpa [ByteArray.getElem_eq_getElem_data] using this
  simp [execOp, hx.eval ha, hy.eval ha, Instr.index, asIntOf, run_underlying ht, h1]
theorem Ev.idxstr0 {k : Nat} {i : Int} (hx : Opd F x (sv s)) (hy : Opd F y (iv i)) (ht : P.underlying t = some .string) (hi : i = k) (hb : k < s.length) :
    Ev P n F A (.index t x y) ty (.int .u8 (s.getD k 0).toNat) := Ev.idxstr hx hy ht hi (by simp [List.getD_eq_getElem?_getD, List.getElem?_eq_getElem hb])
theorem Ev.extract {vs : List Value} {i : Nat} (hx : Opd F x (.tuple vs.toArray)) (hi : vs[i]? = some v) : Ev P n F A (.extract x i) ty v := .of_run fun a w ha _ => by
  simp [execOp, hx.eval ha, Instr.extract, hi]
end strings

section slices
variable {α : Type} {R : Rp α} {xs : List α} {t : TypeId}
theorem MmR.dat {H : List Ent} {ρ : Ro} {w : World} {d : Dat} (h : MmR c H ρ w) (hd : InD d H) : d.f ρ := dat_ok.1 (h.ents _ hd.mem)
theorem MmR.sl {H : List Ent} {ρ : Ro} {w : World} (h : MmR c H ρ w) (hd : InS v H α R xs) : (J.sl R v xs).f ρ := dat_ok.1 (h.ents _ hd.mem)

theorem Ev.lensl {e : TypeId} [hd : InS v H α R xs] (hx : Opd F x v) (ht : P.underlying t = some (.slice e)) :
    Ev P n F (Mm c H) (.call { callee := .builtin .len, args := #[x], argTypes := #[t] }) ty (iv xs.length) := .of_run fun a w ha hw => by
  obtain ⟨ρ, hm⟩ := hw.out
  obtain ⟨ad, cap, rfl, _⟩ := hm.sl hd
  simp [execOp, resolve, invoke, builtin, hx.eval ha, Builtin.len_, run_underlying ht, goInt]

theorem Ev.idxaddr {e : TypeId} {k : Nat} {i : Int} {kd : IntKind} [hd : InS v H α R xs] (hx : Opd F x v) (hy : Opd F y (.int kd i)) (ht : P.underlying t = some (.slice e)) (hs : (P.info? e).map (·.size) = some R.size)
    (hi : i = k) (hk : k < xs.length) : Ev P n F (Mm c H) (.indexAddr t x y) ty (eptr v R.size k 0) := .of_run fun a w ha hw => by
  obtain ⟨ρ, hm⟩ := hw.out
  obtain ⟨ad, cap, rfl, _, _, _, h5⟩ := hm.sl hd
  rcases h5 with rfl | ⟨b, off, C, e', fr, rfl, h6, h7⟩
  · simp at hk
  · obtain ⟨inf, hinf, hsz⟩ := Option.map_eq_some_iff.1 hs
    subst hi
    simp [execOp, hx.eval ha, hy.eval ha, Instr.indexAt, asIntOf, run_underlying ht, sizeOf, typeInfo, hinf, hsz, hk, eptr_slice, Addr.add_lit]

theorem sl_cell {H : List Ent} {ρ : Ro} {w : World} (hm : MmR c H ρ w) (hd : InS v H α R xs) {k off : Nat} {x : α} (hk : xs[k]? = some x) :
    ∃ b o, eptr v R.size k off = .pointer (some ⟨b, o, none⟩) ∧ ∀ j, off + j < R.size → w.cell? ⟨b, o + j, none⟩ = (R.cells x)[off + j]? := by
  obtain ⟨ad, cap, rfl, _, _, _, h5⟩ := hm.sl hd
  rcases h5 with rfl | ⟨b, o, C, e', fr, rfl, h6, h7⟩
  · simp at hk
  · refine ⟨b, _, eptr_slice .., fun j hj => ?_⟩
    have hg := rows_get R xs k (off + j) x hk hj
    rw [cell?_of_blk (hm.fits _ _ h6)]
    have hlt : off + j < (R.cells x).length := by rw [R.len]; exact hj
    rw [List.getElem?_eq_getElem hlt] at hg ⊢
    rw [show o + (k * R.size + off) + j = o + (k * R.size + (off + j)) by omega]
    exact h7 _ _ hg

theorem some_getD {β : Type} (d : β) {l : List β} {k : Nat} (h : k < l.length) : l[k]? = some (l.getD k d) := by rw [List.getD_eq_getElem?_getD, List.getElem?_eq_getElem h]; rfl

/-- one cell of an element -/
theorem Ev.ld1 {k off : Nat} {e : α} {d : TypeDesc} {u : Value} [hd : InS v H α R xs] (hx : Opd F x (eptr v R.size k off)) (hk : xs[k]? = some e) (ht : P.underlying t = some d) (hk1 : (match d with | .struct _ | .array _ _ => False | _ => True))
    (hu : (R.cells e)[off]? = some u) : Ev P n F (Mm c H) (.load t x) ty u := .of_run fun a w ha hw => by
  obtain ⟨ρ, hm⟩ := hw.out
  have ho : off < R.size := by have := (List.getElem?_eq_some_iff.1 hu).1; rwa [R.len] at this
  obtain ⟨b, o, h1, h2⟩ := sl_cell hm hd hk
  have h3 := h2 0 (by simpa using ho)
  simp only [Nat.add_zero] at h3
  rw [h1] at hx
  simp [execOp, hx.eval ha, Instr.loadAt, Instr.sureAddr, run_loadVar_one ht hk1 (h3.trans hu)]

/-- a whole element, of several cells -/
theorem Ev.ldA {k : Nat} {e : α} {d : TypeDesc} {L : List Value} [hd : InS v H α R xs] (hx : Opd F x (eptr v R.size k 0)) (hk : xs[k]? = some e) (ht : P.underlying t = some d) (hk1 : (match d with | .struct _ | .array _ _ => True | _ => False))
    (hs : (P.info? t).map (·.size) = some R.size) (hL : R.cells e = L) : Ev P n F (Mm c H) (.load t x) ty (.agg L.toArray) := .of_run fun a w ha hw => by
  obtain ⟨ρ, hm⟩ := hw.out
  obtain ⟨b, o, h1, h2⟩ := sl_cell hm hd hk (off := 0)
  subst hL
  rw [h1] at hx
  have h4 := run_loadVar_agg (P := P) (w := w) (b := b) (off := o) (L := R.cells e) ht hk1 (by rw [hs, R.len]) (fun j u hj => by
    have hlt := (List.getElem?_eq_some_iff.1 hj).1
    rw [R.len] at hlt
    have := h2 j (by omega)
    rw [Nat.zero_add] at this
    rw [this]; exact hj)
  simp [execOp, hx.eval ha, Instr.loadAt, Instr.sureAddr, h4]

/-- where a field lies -/
def fieldOff (P : Program) (s i : Nat) : Option Nat :=
  match P.underlying s with
  | some (.struct fs) => match fs[i]? with
    | some f => match P.info? f.type with
      | some inf => if inf.size = 0 then none else some f.offset
      | none => none
    | none => none
  | _ => none

theorem run_fieldAt {w : World} {s i o : Nat} {ad : Addr} (h : fieldOff P s i = some o) : (Instr.fieldAt s (.pointer (some ad)) i).run P w = .ok (.pointer (some (ad.add o))) w := by
  unfold fieldOff at h
  split at h
  · rename_i fs hu
    split at h
    · rename_i f hf
      split at h
      · rename_i inf hinf
        split at h
        · simp at h
        · rename_i hz
          simp only [Option.some.injEq] at h
          subst h
          simp [Instr.fieldAt, run_underlying hu, hf, Instr.sureAddr, fieldPlace, sizeOf, typeInfo, hinf, hz]
      · simp at h
    · simp at h
  · simp at h

theorem Ev.fldel {k off o i : Nat} {s : TypeId} [hd : InS v H α R xs] (hx : Opd F x (eptr v R.size k off)) (hk : k < xs.length) (ho : fieldOff P s i = some o) : Ev P n F (Mm c H) (.fieldAddr s x i) ty (eptr v R.size k (off + o)) := .of_run fun a w ha hw => by
  obtain ⟨ρ, hm⟩ := hw.out
  obtain ⟨ad, cap, rfl, _, _, _, h5⟩ := hm.sl hd
  rcases h5 with rfl | ⟨b, of, C, e', fr, rfl, h6, h7⟩
  · simp at hk
  · rw [eptr_slice] at hx
    simp [execOp, hx.eval ha, run_fieldAt ho, eptr_slice, Addr.add_lit, Nat.add_assoc]
end slices

section blocks
variable {t : TypeId} {b off : Nat} {C : Array Value} {e : TypeId} {fr : Nat × Nat}
theorem Ev.fldb {o i : Nat} {s : TypeId} (hx : Opd F x (.pointer (some ⟨b, off, none⟩))) (ho : fieldOff P s i = some o) : Ev P n F A (.fieldAddr s x i) ty (.pointer (some ⟨b, off + o, none⟩)) := .of_run fun a w ha hw => by
  simp [execOp, hx.eval ha, run_fieldAt ho, Addr.add_lit]

theorem Ev.fldb0 {o i : Nat} {s : TypeId} (hx : Opd F x (.pointer (some ⟨b, 0, none⟩))) (ho : fieldOff P s i = some o) : Ev P n F A (.fieldAddr s x i) ty (.pointer (some ⟨b, o, none⟩)) := by
  have := Ev.fldb (P := P) (n := n) (A := A) (ty := ty) hx ho
  rwa [Nat.zero_add] at this

theorem Ev.ldb {d : TypeDesc} {u : Value} {L : List Value} [hb : InB b H (.cells L.toArray e fr)] (hx : Opd F x (.pointer (some ⟨b, off, none⟩))) (ht : P.underlying t = some d) (hk1 : (match d with | .struct _ | .array _ _ => False | _ => True))
    (hu : L[off]? = some u) : Ev P n F (Mm c H) (.load t x) ty u := .of_run fun a w ha hw => by
  obtain ⟨ρ, hm⟩ := hw.out
  have h1 := blk_ok.1 (hm.ents _ hb.mem)
  have h2 : w.cell? ⟨b, off, none⟩ = some u := by rw [cell?_of_blk h1]; simpa using hu
  simp [execOp, hx.eval ha, Instr.loadAt, Instr.sureAddr, run_loadVar_one ht hk1 h2]

/-- the whole of a block that holds one variable of several cells -/
theorem Ev.ldbA {d : TypeDesc} {L : List Value} [hb : InB b H (.cells L.toArray e fr)] (hx : Opd F x (.pointer (some ⟨b, 0, none⟩))) (ht : P.underlying t = some d) (hk1 : (match d with | .struct _ | .array _ _ => True | _ => False))
    (hs : (P.info? t).map (·.size) = some L.length) : Ev P n F (Mm c H) (.load t x) ty (.agg L.toArray) := .of_run fun a w ha hw => by
  obtain ⟨ρ, hm⟩ := hw.out
  have h1 := blk_ok.1 (hm.ents _ hb.mem)
  have h4 := run_loadVar_agg (P := P) (w := w) (b := b) (off := 0) (L := L) ht hk1 hs (fun j u hj => by rw [cell?_of_blk h1]; simpa using hj)
  simp [execOp, hx.eval ha, Instr.loadAt, Instr.sureAddr, h4]
end blocks

/-- the values of operands -/
def vls (F : Fr) : List Operand → Option (List Value)
  | [] => some []
  | x :: xs => match vl F x, vls F xs with
    | some v, some vs => some (v :: vs)
    | _, _ => none

def Opds (F : Fr) : List Operand → List Value → Prop
  | [], [] => True
  | x :: xs, v :: vs => Opd F x v ∧ Opds F xs vs
  | _, _ => False
theorem Opds.nil : Opds F [] [] := trivial
theorem Opds.cons {xs : List Operand} {vs : List Value} (h : Opd F x v) (k : Opds F xs vs) : Opds F (x :: xs) (v :: vs) := ⟨h, k⟩
theorem Opds.eval {a : Act} (ha : Has n a F) : ∀ {xs : List Operand} {vs : List Value}, Opds F xs vs → xs.map a.eval = vs
  | [], [], _ => rfl
  | x :: xs, v :: vs, h => by rw [List.map_cons, h.1.eval ha, Opds.eval ha h.2]

/-- a struct or an array built of parts -/
theorem Ev.build {t : TypeId} {ps : List (Nat × Operand)} {vs : List Value} (hp : Opds F (ps.map (·.2)) vs) (hr : ∀ w, (Instr.build t ((ps.map (·.1)).zip vs).toArray).run P w = .ok v w) : Ev P n F A (.build t ps.toArray) ty v := .of_run fun a w ha _ => by
  have h1 : ps.map (fun p => (p.1, a.eval p.2)) = (ps.map (·.1)).zip vs := by
    rw [← Opds.eval ha hp]
    clear hp hr
    induction ps with
    | nil => rfl
    | cons p ps ih => simp [ih]
  have h2 : (ps.toArray.map fun (i, x) => (i, a.eval x)) = ((ps.map (·.1)).zip vs).toArray := by
    rw [← h1]; simp
  simp only [execOp, h2, Sem.run_bind, hr, Result.andThen_ok, Sem.run_pure]

theorem callFunc_run {f : FuncId} {args : Array Value} {w : World} {fn : Func} (hf : P.funcs[f]? = some fn) (hb : fn.body.isSome = true) (hn : (fn.name == "runtime.NumGoroutine") = false) : (callFunc f args).run P w = .ok (.enter f args) w := by
  unfold callFunc
  simp [hf]
  cases hbb : fn.body with
  | none => simp [hbb] at hb
  | some cd => simpa using hn

end
end Go.J
