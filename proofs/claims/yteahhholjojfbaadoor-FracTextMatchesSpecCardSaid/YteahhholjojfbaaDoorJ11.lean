/-
  Regions that draw their order: an operation that is ready, looks at no memory and is free of the others may be taken as done at once.
  Conditions: none; everything holds of any program. No panic leaves the region's surroundings.
-/
import Derived.Test.YteahhholjojfbaaDoorJ10
import Derived.Still
namespace Go.J
open Go

/-- an operation that yields v whatever the memory is, and leaves it alone -/
def Es (P : Program) (n : Nat) (F : Fr) (op : Op) (ty : TypeId) (v : Value) : Prop := ∀ a w, Has n a F → (execOp a.eval (bare op ty)).run P w = .ok (.value v) w

/-- no panic leaves -/
def NP (Q : Exit → Act → World → Prop) : Prop := ∀ c a w, ¬ Q (.panic c) a w
theorem NP.then {K : Act → World → Prop} {Q : Exit → Act → World → Prop} (h : NP Q) : NP (Exit.then K Q) := fun c a w k => h c a w k
theorem NP.inBlock {id : Nat} {Q : Exit → Act → World → Prop} (h : NP Q) : NP (Exit.inBlock id Q) := fun c a w k => h c a w k

section
variable {P : Program} {ops : Array Oper} {Q : Exit → Act → World → Prop}

theorem wpOp_put {j : Nat} {oi oj : Oper} {v : Value} (hj : ops[j]? = some oj) (hap : oi.apart ops oj = true)
    (hsi : ∀ cs b, oi.op ≠ .select cs b) (hsj : ∀ cs b, oj.op ≠ .select cs b) (hQ : NP Q) {K : Act → World → Prop} {a : Act} {w : World}
    (hy : ∀ w, (execOp a.eval oi).run P w = .ok (.value v) w) (h : wpOp P ops Q j K (a.put oi.dst v) w) :
    wpOp P ops Q j (fun a' w' => (∀ w, (execOp a'.eval oi).run P w = .ok (.value v) w) ∧ K (a'.put oi.dst v) w') a w := by
  obtain ⟨h1, h2, h3⟩ := Oper.apart_spec hap
  have keep : ∀ u, ∀ w, (execOp (a.put oj.dst u).eval oi).run P w = .ok (.value v) w := fun u w => by
    rw [execOp_put (ops := ops) oi hsi a oj.dst u h3]; exact hy w
  have put_defers : ∀ (d : Deferred) (u : Value), ({ a with defers := d :: a.defers } : Act).put oj.dst u = { (a.put oj.dst u) with defers := d :: a.defers } := fun d u => by
    cases oj.dst <;> rfl
  unfold wpOp at *
  simp only [hj] at *
  rw [wanted_put oj a oi.dst v h1] at h
  split
  · rename_i hw
    simp only [hw, if_true] at h
    rcases h with h | ⟨h, hl⟩
    · left
      unfold Oper.wp at *
      rw [execOp_put oj hsj a oi.dst v h1] at h
      generalize (execOp a.eval oj).run P w = r at *
      cases r with
      | ok nx w' =>
        cases nx <;> simp only [Oper.upon] at h ⊢
        case value u => exact ⟨keep u, by rw [← Act.put_comm a v u h2]; exact h⟩
        case skip => exact ⟨keep _, by rw [← Act.put_comm a v undef h2]; exact h⟩
        case defer d =>
          refine ⟨fun w => ?_, ?_⟩
          · rw [put_defers]; exact keep undef w
          · have e : ({ (a.put oi.dst v) with defers := d :: (a.put oi.dst v).defers } : Act).put oj.dst undef = (({ a with defers := d :: a.defers } : Act).put oj.dst undef).put oi.dst v := by
              have := Act.put_comm ({ a with defers := d :: a.defers } : Act) v undef h2
              rw [← this]
              cases oi.dst <;> rfl
            rw [← e]; exact h
        case enter f args =>
          refine Calls.mono h fun e w'' he => ?_
          cases e with
          | returned u => exact ⟨keep u, by rw [← Act.put_comm a v u h2]; exact he⟩
          | panicked c => exact (hQ _ _ _ he).elim
          | outgrown => exact he
        case row rw_ args => exact Rows.mono h fun u w'' he => ⟨keep u, by rw [← Act.put_comm a v u h2]; exact he⟩
        all_goals exact h
      | halt x w' =>
        cases x <;> simp only [Oper.upon] at h ⊢
        all_goals first | exact (hQ _ _ _ h).elim | exact h
    · right
      refine ⟨?_, hl⟩
      unfold Oper.asks at *
      rw [execOp_put oj hsj a oi.dst v h1] at h
      exact h
  · rename_i hw
    simp only [hw] at h
    exact ⟨keep _, by rw [← Act.put_comm a v undef h2]; exact h⟩

theorem wpOp_mono {j : Nat} {K K' : Act → World → Prop} {a : Act} {w : World} (h : ∀ a w, K a w → K' a w) (hh : wpOp P ops Q j K a w) : wpOp P ops Q j K' a w := by
  unfold wpOp at *
  split
  · rename_i ho; simp only [ho] at hh; exact h _ _ hh
  · rename_i o ho
    simp only [ho] at hh
    split
    · rename_i hw; simp only [hw, if_true] at hh; exact hh.imp (Oper.wp_mono h) id
    · rename_i hw; simp only [hw] at hh; exact h _ _ hh

theorem wpAny_first {md : Region.Mode} {i : Nat} {oi : Oper} {v : Value} (hi : ops[i]? = some oi) (hg : oi.guard = none) (hQ : NP Q) (hsel : ∀ (j : Nat) (o : Oper) cs b, ops[j]? = some o → o.op ≠ .select cs b) :
    ∀ (fuel : Nat) (listed : Array Bool) (a : Act) (w : World),
      (∀ j oj, ops[j]? = some oj → j ≠ i → listed.getD j true = false → (∀ e ∈ oj.after, Region.binds md e = true → e.on ≠ i) → oi.apart ops oj = true) →
      i ∈ Region.ready md ops listed → (∀ w, (execOp a.eval oi).run P w = .ok (.value v) w) →
      wpAny P md ops Q fuel (listed.setIfInBounds i true) (a.put oi.dst v) w → wpAny P md ops Q (fuel + 1) listed a w := by
  have self : ∀ {K : Act → World → Prop} {a : Act} {w : World}, (∀ w, (execOp a.eval oi).run P w = .ok (.value v) w) → K (a.put oi.dst v) w → wpOp P ops Q i K a w := by
    intro K a w hy hK
    unfold wpOp
    simp only [hi, Region.wanted, hg, if_true]
    left
    unfold Oper.wp
    rw [hy w]
    exact hK
  intro fuel
  induction fuel with
  | zero =>
    intro listed a w _ hr hy H
    refine ⟨fun h => (by rw [h] at hr; cases hr), fun j hj => ?_⟩
    by_cases hji : j = i
    · subst hji; exact self hy H
    · have := ready_mono hj hji
      rw [H.1] at this
      cases this
  | succ fuel ih =>
    intro listed a w hfree hr hy H
    refine ⟨fun h => (by rw [h] at hr; cases hr), fun j hj => ?_⟩
    by_cases hji : j = i
    · subst hji; exact self hy H
    · have h1 := H.2 j (ready_mono hj hji)
      obtain ⟨hjun, oj, hoj, hall⟩ := mem_ready.1 hj
      have hnot : ∀ e ∈ oj.after, Region.binds md e = true → e.on ≠ i := fun e he hb heq => by
        have h1 := hall e he hb
        have h0 := (mem_ready.1 hr).1
        rw [heq] at h1
        rcases Nat.lt_or_ge i listed.size with h' | h'
        · simp [h'] at h0 h1; rw [h0] at h1; cases h1
        · simp [Array.getElem?_eq_none h'] at h1
      have h2 := wpOp_put hoj (hfree j oj hoj hji hjun hnot) (fun cs b => hsel i oi cs b hi) (fun cs b => hsel j oj cs b hoj) hQ hy h1
      have hfree' : ∀ k ok, ops[k]? = some ok → k ≠ i → (listed.setIfInBounds j true).getD k true = false →
          (∀ e ∈ ok.after, Region.binds md e = true → e.on ≠ i) → oi.apart ops ok = true := fun k ok hk hki hun hno => by
        refine hfree k ok hk hki ?_ hno
        by_cases hjk : j = k
        · subst hjk; exact hjun
        · rw [getD_set_ne true hjk] at hun; exact hun
      refine wpOp_mono (fun a' w' h3 => ih (listed.setIfInBounds j true) a' w' hfree' (ready_mono hr (Ne.symm hji)) h3.1 ?_) h2
      rw [Array.setIfInBounds_comm _ _ hji]
      exact h3.2

/-- an operation that looks at no memory, done at once -/
theorem St.defer {n : Nat} {F : Fr} {A : World → Prop} {f d : Nat} {listed : Array Bool} {op : Op} {ty : TypeId} {pos : String} {after : Array Edge} {v : Value} (i : Nat)
    (hQ : NP Q) (hs : Region.noSelect ops = true) (hi : ops[i]? = some { dst := some d, op := op, type := ty, pos := pos, after := after, guard := none }) (hev : Es P n F op ty v)
    (hr : ((Region.ready .any ops listed).contains i && Region.free .any ops listed i) = true) (hd : Nat.ble (d + 1) n = true)
    (h : St n ((d, v) :: F) A (wpAny P .any ops Q f (listed.setIfInBounds i true))) : St n F A (wpAny P .any ops Q (f + 1) listed) := by
  intro a w ha hw
  simp only [Bool.and_eq_true] at hr
  refine wpAny_first hi rfl hQ (Region.noSelect_spec hs) f listed a w (Region.free_spec hi hr.2) (by simpa using hr.1) (fun w' => ?_) (h _ w (ha.put (Nat.le_of_ble_eq_true hd) v) hw)
  rw [execOp_bare]
  exact hev a w' ha
end

section
variable {P : Program} {n : Nat} {F : Fr} {c : Ctx} {H : List Ent} {ty : TypeId} {x y : Operand} {v : Value} {t e : TypeId}
theorem NP.body {fn : Func} {R : Value → List Ent → World → Prop} : NP (bodyPost P fn fun e w' => ∃ v H', e = .returned v ∧ R v H' w') := fun c a w h => by
  obtain ⟨_, _, _, h1, _⟩ := h
  cases h1
theorem Es.move (hx : Opd F x v) : Es P n F (.move x) ty v := fun a w ha => by simp [execOp, hx.eval ha]
theorem Es.assign (hx : Opd F x v) : Es P n F (.assign x) ty v := fun a w ha => by simp [execOp, hx.eval ha]
theorem Es.extract {vs : List Value} {i : Nat} (hx : Opd F x (.tuple vs.toArray)) (hi : vs[i]? = some v) : Es P n F (.extract x i) ty v := fun a w ha => by
  simp [execOp, hx.eval ha, Instr.extract, hi]
theorem Es.idx {b o m cap size k : Nat} {i : Int} {kd : IntKind} (hv : v = .slice (some ⟨b, o, none⟩) m cap) (hx : Opd F x v) (hy : Opd F y (.int kd i)) (ht : P.underlying t = some (.slice e)) (hs : (P.info? e).map (·.size) = some size)
    (hi : i = k) (hk : k < m) : Es P n F (.indexAddr t x y) ty (eptr v size k 0) := fun a w ha => by
  subst hv
  obtain ⟨inf, hinf, hsz⟩ := Option.map_eq_some_iff.1 hs
  subst hi
  simp [execOp, hx.eval ha, hy.eval ha, Instr.indexAt, asIntOf, run_underlying ht, sizeOf, typeInfo, hinf, hsz, hk, eptr_slice, Addr.add_lit]
theorem St.rowShape {T : Act → World → Prop} {size m : Nat} {cs : List Value} (v : Value) [hr : InR v H e size m cs] (hm : 0 < m) (h : ∀ b cap, v = .slice (some ⟨b, 0, none⟩) m cap → St n F (Mm c H) T) : St n F (Mm c H) T := by
  intro a w ha hw
  obtain ⟨ρ, hm'⟩ := hw.out
  rcases (hm'.row hr).2 with ⟨rfl, rfl⟩ | ⟨g, cap, cur, h1, _⟩
  · omega
  · exact h g cap h1 a w ha hw
theorem St.slShape {α : Type} {Rr : Rp α} {xs : List α} {T : Act → World → Prop} (v : Value) [hd : InS v H α Rr xs] (hm : 0 < xs.length) (h : ∀ b o cap, v = .slice (some ⟨b, o, none⟩) xs.length cap → St n F (Mm c H) T) : St n F (Mm c H) T := by
  intro a w ha hw
  obtain ⟨ρ, hm'⟩ := hw.out
  obtain ⟨ad, cap, h1, _, _, _, h5⟩ := hm'.sl hd
  rcases h5 with h5 | ⟨b, off, C, e, fr, h6, _⟩
  · subst h5; simp at hm
  · subst h6; exact h b off cap h1 a w ha hw
end
end Go.J
