/-
  The smaller of two numbers, by the language's own word.
  Conditions: none; everything holds of any program.
-/
import Derived.Test.YtblmnncmkibhnaaJ15
import Derived.Laws.Small
namespace Go.J
open Go Go.Proofs
section
variable {P : Program} {n : Nat} {F : Fr} {A : World → Prop} {x y : Operand} {ty : TypeId}
theorem Ev.minI {a b : Int} {ats : Array TypeId} (hx : Opd F x (iv a)) (hy : Opd F y (iv b)) :
    Ev P n F A (.call { callee := .builtin .min, args := #[x, y], argTypes := ats }) ty (iv (if b < a then b else a)) := .of_run fun a w ha _ => by
  simp [execOp, resolve, invoke, builtin, hx.eval ha, hy.eval ha, run_min_int2, iv]
end
theorem FnV.body7 {P : Program} {f : FuncId} {fn : Func} {cd : Code} {args : List Value} {u : Value} {d1 d2 d3 d4 d5 d6 d7 : Dat} (n : Nat)
    (hf : P.funcs[f]? = some fn) (hb : fn.body = some cd) (hn : fn.ntmps = n) (hargs : Nat.ble args.length n = true)
    (h : ∀ c : Ctx, St n (argF 0 args) (Mm c [dat d1, dat d2, dat d3, dat d4, dat d5, dat d6, dat d7]) (cd.wp P (bodyPost P fn fun e w' => ∃ v H', e = .returned v ∧ v = u ∧ Mm c H' w'))) : FnV P f args.toArray [d1, d2, d3, d4, d5, d6, d7] u := FnH.body n hf hb hn hargs h
theorem ints_snoc (l : List Nat) (k : Nat) : ints (l ++ [k]) = ints l ++ [(k : Int)] := by
  show (l ++ [k]).map _ = l.map _ ++ _
  rw [List.map_append]; rfl
end Go.J
