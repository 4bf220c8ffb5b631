/-
  The walk over all orders, as a plain function.
  Conditions: none.
-/
import Derived.Test.YtblnbjlcpleaaaaOrdQ
namespace Go.J

section
variable (rules : List Prec) (ks : List Str) {σ : Type} (yb : σ → List Int → Bool) (yn : σ → List Int → σ)
/-- the elements that are left, one by one -/
def loopW (rec : List Int → σ → Bool × σ) (l : List Int) : List Nat → σ → Bool × σ
  | [], s => (true, s)
  | i :: is, s =>
    if (l.any fun y => decide ((i : Int) = y)) || deadB rules ks (l ++ [(i : Int)]) then loopW rec l is s
    else if (rec (l ++ [(i : Int)]) s).1 then loopW rec l is (rec (l ++ [(i : Int)]) s).2 else (false, (rec (l ++ [(i : Int)]) s).2)
/-- the walk with m elements left -/
def walkF : Nat → List Int → σ → Bool × σ
  | 0, l, s => if 0 ≤ brokenBy rules (rowOf ks l) then (true, s) else (yb s l, yn s l)
  | m + 1, l, s => loopW rules ks (walkF m) l (List.range ks.length) s

theorem loopW_skip {rec : List Int → σ → Bool × σ} {l : List Int} {k : Nat} {s : σ} (hk : k < ks.length) (h : (l.any fun y => decide ((k : Int) = y)) = true ∨ deadB rules ks (l ++ [(k : Int)]) = true) :
    loopW rules ks rec l ((List.range ks.length).drop k) s = loopW rules ks rec l ((List.range ks.length).drop (k + 1)) s := by
  rw [drop_of_some (x := k) (by rw [List.getElem?_range hk])]
  simp only [loopW]
  rw [if_pos (by rcases h with h | h <;> simp [h])]
theorem loopW_on {rec : List Int → σ → Bool × σ} {l : List Int} {k : Nat} {s : σ} (hk : k < ks.length) (h : (l.any fun y => decide ((k : Int) = y)) = false) (h2 : deadB rules ks (l ++ [(k : Int)]) = false) (h3 : (rec (l ++ [(k : Int)]) s).1 = true) :
    loopW rules ks rec l ((List.range ks.length).drop k) s = loopW rules ks rec l ((List.range ks.length).drop (k + 1)) (rec (l ++ [(k : Int)]) s).2 := by
  rw [drop_of_some (x := k) (by rw [List.getElem?_range hk])]
  simp only [loopW, h, h2, h3, Bool.or_self, Bool.false_eq_true, if_false, if_true]
theorem loopW_out {rec : List Int → σ → Bool × σ} {l : List Int} {k : Nat} {s : σ} (hk : k < ks.length) (h : (l.any fun y => decide ((k : Int) = y)) = false) (h2 : deadB rules ks (l ++ [(k : Int)]) = false) (h3 : (rec (l ++ [(k : Int)]) s).1 = false) :
    loopW rules ks rec l ((List.range ks.length).drop k) s = (false, (rec (l ++ [(k : Int)]) s).2) := by
  rw [drop_of_some (x := k) (by rw [List.getElem?_range hk])]
  simp only [loopW, h, h2, h3, Bool.or_self, Bool.false_eq_true, if_false]
theorem loopW_end {rec : List Int → σ → Bool × σ} {l : List Int} {k : Nat} {s : σ} (hk : ks.length ≤ k) : loopW rules ks rec l ((List.range ks.length).drop k) s = (true, s) := by
  rw [List.drop_of_length_le (by simpa using hk)]; rfl
variable (Iv : σ → Prop)
theorem loopW_iv {rec : List Int → σ → Bool × σ} {l : List Int} (hrec : ∀ l s, Iv s → (rec l s).1 = true → Iv (rec l s).2) : ∀ (is : List Nat) (s : σ), Iv s → (loopW rules ks rec l is s).1 = true → Iv (loopW rules ks rec l is s).2
  | [], s, h, _ => h
  | i :: is, s, h, h1 => by
    simp only [loopW] at h1 ⊢
    split at h1
    · rename_i h2; rw [if_pos h2]; exact loopW_iv hrec is s h h1
    · rename_i h2
      rw [if_neg h2]
      split at h1
      · rename_i h3; rw [if_pos h3]; exact loopW_iv hrec is _ (hrec _ _ h h3) h1
      · cases h1
theorem walkF_iv (hiv : ∀ s l, Iv s → yb s l = true → Iv (yn s l)) : ∀ (m : Nat) (l : List Int) (s : σ), Iv s → (walkF rules ks yb yn m l s).1 = true → Iv (walkF rules ks yb yn m l s).2
  | 0, l, s, h, h1 => by
    simp only [walkF] at h1 ⊢
    split
    · exact h
    · rename_i h2; rw [if_neg h2] at h1; exact hiv _ _ h h1
  | m + 1, l, s, h, h1 => loopW_iv rules ks Iv (fun l s => walkF_iv hiv m l s) _ s h h1
end
end Go.J
