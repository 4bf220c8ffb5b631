/-
  The walks' laws for numbers of 64 bits without a sign: what an operation yields, as a natural number.
  Conditions: none; everything holds of any program.
-/
import Derived.Test.YteahhholjojfbaaDoorFracP
import Derived.Test.YteahhholjojfbaaDoorJ11
import Derived.Lib.Mul64
import Derived.Shelf.Spec.BitsCarry
namespace Go.J
open Go

section
variable {P : Program} {n : Nat} {F : Fr} {A : World → Prop} {ty : TypeId} {x y : Operand} {t u : TypeId} {a b : Nat}
theorem wrapU {i : Int} : IntKind.u64.wrap i = i % 18446744073709551616 := by
  simp only [IntKind.wrap, IntKind.bits, IntKind.signed]; simp
theorem wrapU_nat (m : Nat) : IntKind.u64.wrap (m : Int) = ((m % 18446744073709551616 : Nat) : Int) := by rw [wrapU]; omega
theorem Ev.addU (hx : Opd F x (uv a)) (hy : Opd F y (uv b)) : Ev P n F A (.binOp .add t x y u) ty (uv ((a + b) % 18446744073709551616)) := by
  have := Ev.addW (P := P) (n := n) (A := A) (ty := ty) (t := t) (u := u) hx hy; rwa [← Int.natCast_add, wrapU_nat] at this
theorem Ev.addN (hx : Opd F x (uv a)) (hy : Opd F y (uv b)) (h : a + b < 18446744073709551616) : Ev P n F A (.binOp .add t x y u) ty (uv (a + b)) := by
  have := Ev.addU (P := P) (n := n) (A := A) (ty := ty) (t := t) (u := u) hx hy; rwa [Nat.mod_eq_of_lt h] at this
theorem Ev.subU (hx : Opd F x (uv a)) (hy : Opd F y (uv b)) (h : b ≤ a + 18446744073709551616) : Ev P n F A (.binOp .sub t x y u) ty (uv ((a + 18446744073709551616 - b) % 18446744073709551616)) := by
  have := Ev.subW (P := P) (n := n) (A := A) (ty := ty) (t := t) (u := u) hx hy
  rw [wrapU] at this
  rwa [show ((a : Int) - b) % 18446744073709551616 = (((a + 18446744073709551616 - b) % 18446744073709551616 : Nat) : Int) by omega] at this
theorem Ev.subN (hx : Opd F x (uv a)) (hy : Opd F y (uv b)) (h : b ≤ a ∧ a < 18446744073709551616) : Ev P n F A (.binOp .sub t x y u) ty (uv (a - b)) := by
  have := Ev.subU (P := P) (n := n) (A := A) (ty := ty) (t := t) (u := u) hx hy (by omega)
  rwa [show (a + 18446744073709551616 - b) % 18446744073709551616 = a - b by omega] at this
theorem Ev.mulU (hx : Opd F x (uv a)) (hy : Opd F y (uv b)) : Ev P n F A (.binOp .mul t x y u) ty (uv (a * b % 18446744073709551616)) := by
  have := Ev.mulW (P := P) (n := n) (A := A) (ty := ty) (t := t) (u := u) hx hy; rwa [← Int.natCast_mul, wrapU_nat] at this
theorem Ev.mulN (hx : Opd F x (uv a)) (hy : Opd F y (uv b)) (h : a * b < 18446744073709551616) : Ev P n F A (.binOp .mul t x y u) ty (uv (a * b)) := by
  have := Ev.mulU (P := P) (n := n) (A := A) (ty := ty) (t := t) (u := u) hx hy; rwa [Nat.mod_eq_of_lt h] at this
theorem Ev.mulUr (hx : Opd F x (uv a)) (hy : Opd F y (uv b)) : Ev P n F A (.binOp .mul t x y u) ty (uv (b * a % 18446744073709551616)) := by
  have := Ev.mulU (P := P) (n := n) (A := A) (ty := ty) (t := t) (u := u) hx hy; rwa [Nat.mul_comm] at this
theorem Ev.mulNr (hx : Opd F x (uv a)) (hy : Opd F y (uv b)) (h : b * a < 18446744073709551616) : Ev P n F A (.binOp .mul t x y u) ty (uv (b * a)) := by
  have := Ev.mulUr (P := P) (n := n) (A := A) (ty := ty) (t := t) (u := u) hx hy; rwa [Nat.mod_eq_of_lt h] at this
theorem Ev.quoU (hx : Opd F x (uv a)) (hy : Opd F y (uv b)) (h : b ≠ 0 ∧ a < 18446744073709551616) : Ev P n F A (.binOp .quo t x y u) ty (uv (a / b)) := by
  have := Ev.quoW (P := P) (n := n) (A := A) (ty := ty) (t := t) (u := u) hx hy (by omega)
  have e : (a : Int).tdiv b = ((a / b : Nat) : Int) := by rw [Int.tdiv_eq_ediv_of_nonneg (by omega)]; simp
  rw [e, wrapU_nat, Nat.mod_eq_of_lt (Nat.lt_of_le_of_lt (Nat.div_le_self a b) h.2)] at this
  exact this
theorem Ev.remU (hx : Opd F x (uv a)) (hy : Opd F y (uv b)) (h : b ≠ 0) : Ev P n F A (.binOp .rem t x y u) ty (uv (a % b)) := by
  have := Ev.rem (P := P) (n := n) (A := A) (ty := ty) (t := t) (u := u) hx hy (by omega)
  have e : (a : Int).tmod b = ((a % b : Nat) : Int) := by rw [Int.tmod_eq_emod_of_nonneg (by omega)]; simp
  rw [e] at this
  exact this
theorem Ev.shrU {k : IntKind} {j : Int} (c m : Nat) (hm : 2 ^ c = m) (hx : Opd F x (uv a)) (hy : Opd F y (.int k j)) (h : j = c ∧ c ≤ 64) : Ev P n F A (.binOp .shr t x y u) ty (uv (a / m)) := by
  subst hm
  obtain ⟨rfl, hc⟩ := h
  have := Ev.shr (P := P) (n := n) (A := A) (ty := ty) (t := t) (u := u) hx hy (by omega)
  have e : (a : Int).fdiv (2 ^ (min (c : Int).toNat IntKind.u64.bits)) = ((a / 2 ^ c : Nat) : Int) := by
    have e1 : min (c : Int).toNat IntKind.u64.bits = c := by
      have : IntKind.u64.bits = 64 := rfl
      rw [this, Int.toNat_natCast]; omega
    rw [e1, Int.fdiv_eq_ediv_of_nonneg _ (Int.le_of_lt (Int.pow_pos (by omega)))]
    simp
  rw [e] at this
  exact this
theorem Ev.shlU {k : IntKind} {j : Int} (c m : Nat) (hm : 2 ^ c = m) (hx : Opd F x (uv a)) (hy : Opd F y (.int k j)) (h : j = c ∧ c ≤ 64) : Ev P n F A (.binOp .shl t x y u) ty (uv (a * m % 18446744073709551616)) := by
  subst hm
  obtain ⟨rfl, hc⟩ := h
  have := Ev.shlW (P := P) (n := n) (A := A) (ty := ty) (t := t) (u := u) hx hy (by omega)
  have e : (a : Int) * 2 ^ (min (c : Int).toNat IntKind.u64.bits) = ((a * 2 ^ c : Nat) : Int) := by
    have e1 : min (c : Int).toNat IntKind.u64.bits = c := by
      have : IntKind.u64.bits = 64 := rfl
      rw [this, Int.toNat_natCast]; omega
    rw [e1]; simp
  rw [e, wrapU_nat] at this
  exact this
theorem bits_and (c : Nat) (h : a < 18446744073709551616) (hc : c ≤ 64) : bits .and .u64 (a : Int) ((2 ^ c - 1 : Nat) : Int) = ((a % 2 ^ c : Nat) : Int) := by
  have hb : 2 ^ c - 1 < 2 ^ 64 := by have := Nat.pow_le_pow_right (n := 2) (by omega) hc; have := Nat.pow_pos (n := c) (a := 2) (by omega); omega
  have e : (BitVec.ofInt IntKind.u64.bits (a : Int) &&& BitVec.ofInt IntKind.u64.bits ((2 ^ c - 1 : Nat) : Int)).toNat = a % 2 ^ c := by
    show (BitVec.ofInt 64 (a : Int) &&& BitVec.ofInt 64 ((2 ^ c - 1 : Nat) : Int)).toNat = _
    rw [BitVec.toNat_and, BitVec.ofInt_natCast, BitVec.ofInt_natCast, BitVec.toNat_ofNat, BitVec.toNat_ofNat, Nat.mod_eq_of_lt h, Nat.mod_eq_of_lt hb, Nat.and_two_pow_sub_one_eq_mod]
  simp only [bits, e]
  rw [wrapU_nat, Nat.mod_eq_of_lt (Nat.lt_of_le_of_lt (Nat.mod_le a _) h)]
theorem bits_or (c : Nat) (h : b < 2 ^ c) (h2 : a * 2 ^ c + b < 18446744073709551616) : bits .or .u64 ((a * 2 ^ c : Nat) : Int) (b : Int) = ((a * 2 ^ c + b : Nat) : Int) := by
  have e : (BitVec.ofInt IntKind.u64.bits ((a * 2 ^ c : Nat) : Int) ||| BitVec.ofInt IntKind.u64.bits (b : Int)).toNat = a * 2 ^ c + b := by
    show (BitVec.ofInt 64 ((a * 2 ^ c : Nat) : Int) ||| BitVec.ofInt 64 (b : Int)).toNat = _
    rw [BitVec.toNat_or, BitVec.ofInt_natCast, BitVec.ofInt_natCast, BitVec.toNat_ofNat, BitVec.toNat_ofNat, Nat.mod_eq_of_lt (by omega), Nat.mod_eq_of_lt (by omega), Nat.mul_comm a, Nat.two_pow_add_eq_or_of_lt h]
  simp only [bits, e]
  rw [wrapU_nat, Nat.mod_eq_of_lt h2]
theorem Ev.andU (c m : Nat) (hm : 2 ^ c = m) (hx : Opd F x (uv a)) (hy : Opd F y (uv b)) (h : a < 18446744073709551616 ∧ b = 2 ^ c - 1 ∧ c ≤ 64) : Ev P n F A (.binOp .and t x y u) ty (uv (a % m)) := .of_run fun a' w ha _ => by
  subst hm
  obtain ⟨h1, rfl, h3⟩ := h
  simp only [execOp, hx.eval ha, hy.eval ha]; simp only [go_sem, bits_and c h1 h3]; simp
theorem Ev.orU (c : Nat) (hx : Opd F x (uv (a * 2 ^ c))) (hy : Opd F y (uv b)) (h : b < 2 ^ c ∧ a * 2 ^ c + b < 18446744073709551616) : Ev P n F A (.binOp .or t x y u) ty (uv (a * 2 ^ c + b)) := .of_run fun a' w ha _ => by
  simp only [execOp, hx.eval ha, hy.eval ha]; simp only [go_sem, bits_or c h.1 h.2]; simp
theorem Ev.convIU {i : Int} {s d : TypeId} (hx : Opd F x (iv i)) (hs : (P.underlying s).isSome = true) (hd : P.underlying d = some (.int .u64)) : Ev P n F A (.convert s d x) ty (uv (i % 18446744073709551616).toNat) := by
  have := Ev.convI (P := P) (n := n) (A := A) (ty := ty) hx hs hd
  rw [wrapU] at this
  rwa [show (i % 18446744073709551616) = ((i % 18446744073709551616).toNat : Int) by omega] at this
theorem Ev.convIN (m : Nat) {i : Int} {s d : TypeId} (hx : Opd F x (iv i)) (hs : (P.underlying s).isSome = true) (hd : P.underlying d = some (.int .u64)) (h : i = m ∧ m < 18446744073709551616) : Ev P n F A (.convert s d x) ty (uv m) := by
  obtain ⟨rfl, h⟩ := h
  have := Ev.convI (P := P) (n := n) (A := A) (ty := ty) hx hs hd
  rwa [wrapU_nat, Nat.mod_eq_of_lt h] at this
theorem Ev.convUI {k : IntKind} {s d : TypeId} (hx : Opd F x (.int k (a : Int))) (hs : (P.underlying s).isSome = true) (hd : P.underlying d = some (.int .i64)) (h : a < 9223372036854775808) : Ev P n F A (.convert s d x) ty (iv a) := by
  have := Ev.convI (P := P) (n := n) (A := A) (ty := ty) hx hs hd
  rwa [wrap_ok (by omega)] at this
end

section
variable {P : Program} {n : Nat} {F : Fr} {A : World → Prop} {ty : TypeId} {x y : Operand} {t : TypeId}
/-- a call of an entry of the machine -/
theorem Ev.extern {P : Program} {n : Nat} {F : Fr} {A : World → Prop} {ty : TypeId} {f : FuncId} {xs : List Operand} {vs : List Value} {ats : Array TypeId} {v : Value} (hx : Opds F xs vs)
    (h : ∀ w, (callFunc f vs.toArray).run P w = .ok (.value v) w) : Ev P n F A (.call { callee := .value (.func f), args := xs.toArray, argTypes := ats }) ty v := .of_run fun a w ha _ => by
  have e : xs.map a.eval = vs := Opds.eval ha hx
  have h2 : a.eval (.func f) = .func (.func f) #[] #[] := rfl
  have h3 := h w
  rw [← e] at h3
  simp [execOp, h2, resolve, Deferred.ofValue, invoke, h3]
theorem Ev.idxstrK {k : Nat} {i : Int} {kd : IntKind} {s : Str} (hx : Opd F x (sv s)) (hy : Opd F y (.int kd i)) (ht : P.underlying t = some .string) (hi : i = k) (hb : k < s.length) :
    Ev P n F A (.index t x y) ty (.int .u8 (s.getD k 0).toNat) := .of_run fun a w ha _ => by
  subst hi
  have hlt : k < (⟨s.toArray⟩ : ByteArray).size := by simpa [ByteArray.size] using hb
  have h1 : (⟨s.toArray⟩ : ByteArray)[k]? = some (s.getD k 0) := by
    rw [ByteArray.getElem?_lt' _ _ hlt]
    simp [ByteArray.getElem_eq_getElem_data, List.getD_eq_getElem?_getD, List.getElem?_eq_getElem hb]
  simp [execOp, hx.eval ha, hy.eval ha, Instr.index, asIntOf, run_underlying ht, h1]
theorem Ev.convK {k k' : IntKind} {a m : Nat} {s d : TypeId} (hx : Opd F x (.int k (a : Int))) (hs : (P.underlying s).isSome = true) (hd : P.underlying d = some (.int k')) (h : k'.wrap (a : Int) = m) : Ev P n F A (.convert s d x) ty (.int k' (m : Int)) := by
  have := Ev.convI (P := P) (n := n) (A := A) (ty := ty) hx hs hd
  rwa [h] at this
theorem wrap8 {a : Nat} (h : a < 256) : IntKind.u8.wrap (a : Int) = a := by
  simp only [IntKind.wrap, IntKind.bits, IntKind.signed]; simp; omega
theorem wrap64u {a : Nat} (h : a < 18446744073709551616) : IntKind.u64.wrap (a : Int) = a := by rw [wrapU]; omega
theorem Ev.add64 {f : FuncId} {fn : Func} {xs : List Operand} {ats : Array TypeId} {a b c : Nat} (hf : P.funcs[f]? = some fn) (hn : (fn.name == "runtime.NumGoroutine") = false) (hb : fn.body.isNone = true) (hn2 : Extern.findNext fn = none) (he : Extern.find fn = some add64Entry)
    (hx : Opds F xs [uv a, uv b, uv c]) (h : a < 18446744073709551616 ∧ b < 18446744073709551616 ∧ c ≤ 1) :
    Ev P n F A (.call { callee := .value (.func f), args := xs.toArray, argTypes := ats }) ty (.tuple #[uv ((a + b + c) % 18446744073709551616), uv ((a + b + c) / 18446744073709551616)]) :=
  Ev.extern hx fun w => by
    rw [run_callFunc_extern hf hn hb hn2 he, run_add64 a b c (by omega) (by omega) (by omega) (by omega)]
    simp only [Result.andThen]
    congr 5 <;> omega
theorem Ev.sub64 {f : FuncId} {fn : Func} {xs : List Operand} {ats : Array TypeId} {a b c : Nat} (hf : P.funcs[f]? = some fn) (hn : (fn.name == "runtime.NumGoroutine") = false) (hb : fn.body.isNone = true) (hn2 : Extern.findNext fn = none) (he : Extern.find fn = some Go.Proofs.sub64Entry)
    (hx : Opds F xs [uv a, uv b, uv c]) (h : c ≤ 1) :
    Ev P n F A (.call { callee := .value (.func f), args := xs.toArray, argTypes := ats }) ty (.tuple #[uv ((a + 18446744073709551616 - b - c) % 18446744073709551616), uv (if a < b + c then 1 else 0)]) :=
  Ev.extern hx fun w => by
    rw [run_callFunc_extern hf hn hb hn2 he, Go.Proofs.run_sub64 a b c h]
    rfl
end
section
variable {P : Program} {n : Nat} {F : Fr} {A : World → Prop} {c : Ctx} {H R : List Ent} {T : Act → World → Prop} {v v' : Value}
/-- a slot's value in another form -/
theorem St.slot (k : Nat) (v' : Value) (hk : look F k = some v) (h : v = v') (hT : St n ((k, v') :: F) A T) : St n F A T := by
  subst h
  refine fun a w ha hw => hT a w ⟨ha.size, ha.defers, fun t u hu => ?_⟩ hw
  simp only [look] at hu
  cases hb : Nat.beq t k with
  | true =>
    have e := Nat.eq_of_beq_eq_true hb
    subst e
    simp only [hb, cond_true, Option.some.injEq] at hu
    subst hu
    exact ha.slot _ _ hk
  | false =>
    simp only [hb, cond_false] at hu
    exact ha.slot _ _ hu
/-- a block's content in another form -/
theorem St.blkEq (b : Nat) {e : TypeId} {L : List Value} (L' : List Value) [tk : TakeB b H (.cells L.toArray e (0, 0)) R] (h : L = L') (hT : St n F (Mm c (blk b (.cells L'.toArray e (0, 0)) :: R)) T) : St n F (Mm c H) T := by
  subst h
  refine hT.weak fun w hw => ?_
  obtain ⟨ρ, hm⟩ := hw.out
  exact Mm.mk (hm.perm tk.perm)
end
theorem ue {a b : Nat} (h : a = b) : ret1 [uv a] = uv b := by rw [h]; rfl
theorem we {a b : Nat} (h : a = b) : ret1 [wv a] = wv b := by rw [h]; rfl
/-- two results: a fraction and a fault -/
def frR (r : Pr × Pr) : Value := .tuple #[fv r.1, fv r.2]
theorem fre {a b c d : Int} {r : Pr × Pr} (h : r = ((a, b), (c, d))) : ret1 [.agg #[iv a, iv b], .agg #[iv c, iv d]] = frR r := by rw [h]; rfl
theorem wv_small {m : Nat} (h : m < 18446744073709551616) : Value.agg #[uv 0, uv m] = wv m := by
  unfold wv; rw [show m / 18446744073709551616 = 0 by omega, show m % 18446744073709551616 = m by omega]
theorem wl_eq {h l n : Nat} (h1 : h = n / 18446744073709551616) (h2 : l = n % 18446744073709551616) : [uv h, uv l] = [uv (n / 18446744073709551616), uv (n % 18446744073709551616)] := by rw [h1, h2]
theorem wl_small {m : Nat} (h : m < 18446744073709551616) : [uv 0, uv m] = [uv (m / 18446744073709551616), uv (m % 18446744073709551616)] := by
  rw [show m / 18446744073709551616 = 0 by omega, show m % 18446744073709551616 = m by omega]
end Go.J
