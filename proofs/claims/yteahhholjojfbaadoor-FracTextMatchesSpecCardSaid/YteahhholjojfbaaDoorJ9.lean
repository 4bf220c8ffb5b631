/-
  Picks whose test is known; lists of entries put together.
  Conditions: none; everything holds of any program.
-/
import Derived.Test.YteahhholjojfbaaDoorJ8
import Derived.Laws.StructEq
namespace Go.J
open Go

theorem part_one {P : Program} {t : TypeId} {xs : Array Value} {k : Nat} {v : Value} {w : World} (h : (match P.underlying t with | some (.struct _) | some (.array _ _) | none => false | _ => true) = true) (hv : xs[k]? = some v) : (part t xs k).run P w = .ok v w := by
  unfold part
  cases hu : P.underlying t with
  | none => rw [hu] at h; cases h
  | some d => 
    rw [hu] at h
    cases d <;> simp_all [isAgg, run_underlying hu]
theorem eqf_end (d : Nat) (xs ys : Array Value) (P : Program) (w : World) : (Op.eqFields d xs ys []).run P w = .ok true w := rfl
theorem eqf_step {d : Nat} {xs ys : Array Value} {P : Program} {f : Field} {fs : List Field} {r s : Bool} {a b : Value} (hn : (f.name != "_") = true) (ha : ∀ w, (part f.type xs f.offset).run P w = .ok a w) (hb : ∀ w, (part f.type ys f.offset).run P w = .ok b w) (hr : ∀ w, (Op.equalIn d f.type a b).run P w = .ok r w) (hs : ∀ w, (Op.eqFields d xs ys fs).run P w = .ok s w) (w : World) :
    (Op.eqFields d xs ys (f :: fs)).run P w = .ok (r && s) w := by
  have hn : f.name ≠ "_" := by simpa using hn
  simp only [Op.eqFields, if_pos hn, Sem.run_bind, ha, hb, hr, Result.andThen_ok]
  cases r with
  | true => simp only [Bool.not_true, Bool.false_eq_true, if_false, hs, Bool.true_and]
  | false => simp

class App (A B : List Ent) (C : outParam (List Ent)) : Prop where
  eq : A ++ B = C
instance App.nil (B : List Ent) : App [] B B := ⟨rfl⟩
instance App.cons (E : Ent) (A B C : List Ent) [h : App A B C] : App (E :: A) B (E :: C) := ⟨by rw [List.cons_append, h.eq]⟩
instance App.mapnil (B : List Ent) : App (List.map dat []) B B := ⟨rfl⟩
instance App.mapcons (d : Dat) (ds : List Dat) (B C : List Ent) [h : App (List.map dat ds) B C] : App (List.map dat (d :: ds)) B (dat d :: C) := ⟨by rw [List.map_cons, List.cons_append, h.eq]⟩

section
variable {P : Program} {n : Nat} {F : Fr} {A : World → Prop} {c : Ctx} {H R C : List Ent} {ty : TypeId} {x y z : Operand} {u v : Value} {T : Act → World → Prop}
theorem St.appr [h : App R H C] (k : St n F (Mm c C) T) : St n F (Mm c (H ++ R)) T := k.weak fun w hw => by
  obtain ⟨ρ, hm⟩ := hw.out
  rw [← h.eq]
  exact Mm.mk (hm.perm List.perm_append_comm)
theorem St.appl [h : App H R C] (k : St n F (Mm c C) T) : St n F (Mm c (H ++ R)) T := by rw [h.eq]; exact k
theorem St.known (k : Nat) (b u : Bool) (hk : look F k = some (.bool b)) (hb : b = u) (h : St n ((k, .bool u) :: F) A T) : St n F A T := by
  subst hb
  cases b with
  | true => exact St.split k true hk (fun _ => h) (fun h => by cases h)
  | false => exact St.split k false hk (fun h => by cases h) (fun _ => h)
theorem Ev.structeql {t u' : TypeId} {xs ys : Array Value} {r : Bool} (hx : Opd F x (.agg xs)) (hy : Opd F y (.agg ys)) (hg : P.eqGuardType P.depth t = false) (h : ∀ w, (Op.equalIn 10000 t (.agg xs) (.agg ys)).run P w = .ok r w) : Ev P n F A (.binOp .eql t x y u') ty (.bool r) := .of_run fun a w ha _ => by
  simp only [execOp, hx.eval ha, hy.eval ha, Sem.run_bind, run_eqGuard_agg w .eql t x y xs ys hg, run_eql_struct, h, Result.andThen_ok, Sem.run_pure]
theorem Ev.structneq {t u' : TypeId} {xs ys : Array Value} {r : Bool} (hx : Opd F x (.agg xs)) (hy : Opd F y (.agg ys)) (hg : P.eqGuardType P.depth t = false) (h : ∀ w, (Op.equalIn 10000 t (.agg xs) (.agg ys)).run P w = .ok r w) : Ev P n F A (.binOp .neq t x y u') ty (.bool (!r)) := .of_run fun a w ha _ => by
  simp only [execOp, hx.eval ha, hy.eval ha, Sem.run_bind, run_eqGuard_agg w .neq t x y xs ys hg, run_neq_struct, h, Result.andThen_ok, Sem.run_pure]
theorem Ev.pickt {p : Bool} (hx : Opd F x (.bool p)) (hp : p = true) (hy : Opd F y v) : Ev P n F A (.pick x y z) ty v := .of_run fun a w ha _ => by
  subst hp; simp only [execOp, hx.eval ha, hy.eval ha]; simp [asBool]
theorem Ev.pickf {p : Bool} (hx : Opd F x (.bool p)) (hp : p = false) (hz : Opd F z v) : Ev P n F A (.pick x y z) ty v := .of_run fun a w ha _ => by
  subst hp; simp only [execOp, hx.eval ha, hz.eval ha]; simp [asBool]
end
end Go.J
