/-
  The walk over all orders, as a plain function.
  Conditions: none.
-/
import Derived.Test.YtblnbjlcpleaaaaOrdQ
namespace Go.J

section
variable (rules : List Prec) (ks : List Str) {σ : Type} (yb : σ → List Int → Bool) (yn : σ → List Int → σ)
/-- the elements that are left, one by one -/
def loopW (rec : List Int → σ → Bool × σ) (l : List Int) : List Nat → σ → Bool × σ
  | [], s => (true, s)
  | i :: is, s =>
    if (l.any fun y => decide ((i : Int) = y)) || deadB rules ks (l ++ [(i : Int)]) then loopW rec l is s
    else if (rec (l ++ [(i : Int)]) s).1 then loopW rec l is (rec (l ++ [(i : Int)]) s).2 else (false, (rec (l ++ [(i : Int)]) s).2)
/-- the walk with m elements left -/
def walkF : Nat → List Int → σ → Bool × σ
  | 0, l, s => if 0 ≤ brokenBy rules (rowOf ks l) then (true, s) else (yb s l, yn s l)
  | m + 1, l, s => loopW rules ks (walkF m) l (List.range ks.length) s

theorem loopW_skip {rec : List Int → σ → Bool × σ} {l : List Int} {k : Nat} {s : σ} (hk : k < ks.length) (h : (l.any fun y => decide ((k : Int) = y)) = true ∨ deadB rules ks (l ++ [(k : Int)]) = true) :
    loopW rules ks rec l ((List.range ks.length).drop k) s = loopW rules ks rec l ((List.range ks.length).drop (k + 1)) s := by
  rw [drop_of_some (x := k) (by rw [List.getElem?_range hk])]
  simp only [loopW]
  rw [if_pos (by rcases h with h | h <;> simp [h])]
theorem loopW_on {rec : List Int → σ → Bool × σ} {l : List Int} {k : Nat} {s : σ} (hk : k < ks.length) (h : (l.any fun y => decide ((k : Int) = y)) = false) (h2 : deadB rules ks (l ++ [(k : Int)]) = false) (h3 : (rec (l ++ [(k : Int)]) s).1 = true) :
    loopW rules ks rec l ((List.range ks.length).drop k) s = loopW rules ks rec l ((List.range ks.length).drop (k + 1)) (rec (l ++ [(k : Int)]) s).2 := by
  rw [drop_of_some (x := k) (by rw [List.getElem?_range hk])]
  simp only [loopW, h, h2, h3, Bool.or_self, Bool.false_eq_true, if_false, if_true]
theorem loopW_out {rec : List Int → σ → Bool × σ} {l : List Int} {k : Nat} {s : σ} (hk : k < ks.length) (h : (l.any fun y => decide ((k : Int) = y)) = false) (h2 : deadB rules ks (l ++ [(k : Int)]) = false) (h3 : (rec (l ++ [(k : Int)]) s).1 = false) :
    loopW rules ks rec l ((List.range ks.length).drop k) s = (false, (rec (l ++ [(k : Int)]) s).2) := by
  rw [drop_of_some (x := k) (by rw [List.getElem?_range hk])]
  simp only [loopW, h, h2, h3, Bool.or_self, Bool.false_eq_true, if_false]
theorem loopW_end {rec : List Int → σ → Bool × σ} {l : List Int} {k : Nat} {s : σ} (hk : ks.length ≤ k) : loopW rules ks rec l ((List.range ks.length).drop k) s = (true, s) := by
  rw [List.drop_of_length_le (by simpa using hk)]; rfl
variable (Iv : Nat → σ → Prop)
/-- how many orders m elements have, out of n, at the most -/
def leafN (n : Nat) : Nat → Nat
  | 0 => 1
  | m + 1 => n * leafN n m
theorem loopW_iv {rec : List Int → σ → Bool × σ} {l : List Int} (B : Nat) (hmono : ∀ c c' s, c' ≤ c → Iv c s → Iv c' s) (hrec : ∀ c l s, Iv (c + B) s → (rec l s).1 = true → Iv c (rec l s).2) :
    ∀ (is : List Nat) (c : Nat) (s : σ), Iv (c + is.length * B) s → (loopW rules ks rec l is s).1 = true → Iv c (loopW rules ks rec l is s).2
  | [], c, s, h, _ => by simpa [loopW] using h
  | i :: is, c, s, h, h1 => by
    have e : c + (is.length + 1) * B = (c + is.length * B) + B := by rw [Nat.add_mul]; omega
    rw [List.length_cons, e] at h
    simp only [loopW] at h1 ⊢
    split at h1
    · rename_i h2; rw [if_pos h2]; exact loopW_iv B hmono hrec is c s (hmono _ _ _ (by omega) h) h1
    · rename_i h2
      rw [if_neg h2]
      split at h1
      · rename_i h3; rw [if_pos h3]; exact loopW_iv B hmono hrec is c _ (hrec _ _ _ h h3) h1
      · cases h1
theorem walkF_iv (hmono : ∀ c c' s, c' ≤ c → Iv c s → Iv c' s) (hiv : ∀ c s l, Iv (c + 1) s → yb s l = true → Iv c (yn s l)) : ∀ (m : Nat) (c : Nat) (l : List Int) (s : σ), Iv (c + leafN ks.length m) s → (walkF rules ks yb yn m l s).1 = true → Iv c (walkF rules ks yb yn m l s).2
  | 0, c, l, s, h, h1 => by
    simp only [walkF] at h1 ⊢
    split
    · exact hmono _ _ _ (Nat.le_add_right ..) h
    · rename_i h2; rw [if_neg h2] at h1; exact hiv _ _ _ h h1
  | m + 1, c, l, s, h, h1 => loopW_iv rules ks Iv (leafN ks.length m) hmono (fun c l s => walkF_iv hmono hiv m c l s) _ c s (by rw [List.length_range]; exact h) h1
end
end Go.J
