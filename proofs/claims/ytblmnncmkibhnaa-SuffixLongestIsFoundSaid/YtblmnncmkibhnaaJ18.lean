/-
  The greater of two numbers, by the language's own word.
  Conditions: none; everything holds of any program.
-/
import Derived.Test.YtblmnncmkibhnaaJ16
namespace Go.J
open Go Go.Proofs
section
variable {P : Program} {n : Nat} {F : Fr} {A : World → Prop} {x y : Operand} {ty : TypeId}
theorem Ev.maxI {a b : Int} {ats : Array TypeId} (hx : Opd F x (iv a)) (hy : Opd F y (iv b)) :
    Ev P n F A (.call { callee := .builtin .max, args := #[x, y], argTypes := ats }) ty (iv (if a < b then b else a)) := .of_run fun a w ha _ => by
  simp [execOp, resolve, invoke, builtin, hx.eval ha, hy.eval ha, run_max_int2, iv]
end
end Go.J
