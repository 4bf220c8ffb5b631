/-
  Plain facts on sums over the ends of a list: no program stands here.
  Conditions: none.
-/
import Derived.Test.YtblmnncmkibhnaaSufK
namespace Go.J
open Go

def tri : Nat → Nat
  | 0 => 0
  | n + 1 => tri n + (n + 1)
theorem two_tri : ∀ n : Nat, (n : Int) * ((n : Int) + 1) = 2 * (tri n : Nat)
  | 0 => rfl
  | n + 1 => by
    have ih := two_tri n
    have e : (((n + 1 : Nat) : Int)) * (((n + 1 : Nat) : Int) + 1) = (n : Int) * ((n : Int) + 1) + 2 * ((n : Int) + 1) := by
      rw [Int.natCast_add, show ((1 : Nat) : Int) = 1 from rfl, ← Int.add_mul, Int.mul_comm, show (n : Int) + 1 + 1 = (n : Int) + 2 by omega]
    rw [e, ih, tri]
    omega
theorem tri_le : ∀ n : Nat, n ≤ 2000 → tri n ≤ 2001 * n
  | 0, _ => Nat.le_refl _
  | n + 1, h => by have := tri_le n (by omega); rw [tri]; omega
/-- the sum of what is left behind each number -/
def dS (n : Nat) : List Nat → Int
  | [] => 0
  | i :: l => ((n : Int) - i) + dS n l
theorem dS_append (n : Nat) : ∀ a b : List Nat, dS n (a ++ b) = dS n a + dS n b
  | [], b => by simp [dS]
  | x :: a, b => by rw [List.cons_append, dS, dS_append n a b, dS]; omega
theorem dS_perm {n : Nat} {a b : List Nat} (h : a.Perm b) : dS n a = dS n b := by
  induction h with
  | nil => rfl
  | cons x _ ih => rw [dS, dS, ih]
  | swap x y l => simp only [dS]; omega
  | trans _ _ h1 h2 => rw [h1, h2]
theorem dS_succ (n : Nat) : ∀ l : List Nat, dS (n + 1) (l.map Nat.succ) = dS n l
  | [] => rfl
  | x :: l => by rw [List.map_cons, dS, dS, dS_succ n l, Nat.succ_eq_add_one]; omega
theorem dS_range : ∀ n : Nat, dS n (List.range n) = (tri n : Nat)
  | 0 => rfl
  | n + 1 => by
    rw [List.range_succ_eq_map, dS, dS_succ, dS_range n, tri]
    omega
section
variable {p : List Int}
def nsTo (p : List Int) (l : List Nat) : Nat → Nat
  | 0 => 0
  | j + 1 => nsTo p l j + near p l j
def disTo (p : List Int) (l : List Nat) : Nat → Int
  | 0 => 0
  | j + 1 => disTo p l j + (((p.length : Int) - (l.getD j 0 : Nat)) - (near p l j : Nat))
theorem nsTo_le {l : List Nat} (hn : p.length ≤ 2000) : ∀ j : Nat, nsTo p l j ≤ 2000 * j
  | 0 => Nat.le_refl _
  | j + 1 => by have := nsTo_le (l := l) hn j; have := near_le (p := p) (l := l) (k := j); rw [nsTo]; omega
theorem disTo_bd {l : List Nat} (hp : l.Perm (List.range p.length)) (hn : p.length ≤ 2000) : ∀ j : Nat, j ≤ p.length → -2000 * (j : Int) ≤ disTo p l j ∧ disTo p l j ≤ 2000 * (j : Int)
  | 0, _ => by simp [disTo]
  | j + 1, h => by
    have := disTo_bd hp hn j (by omega)
    have := near_le (p := p) (l := l) (k := j)
    have := perm_lt hp (show j < p.length by omega)
    rw [disTo]
    omega
theorem disTo_eq {l : List Nat} (hl : l.length = p.length) : ∀ j : Nat, j ≤ p.length → disTo p l j = dS p.length (l.take j) - (nsTo p l j : Nat)
  | 0, _ => by simp [disTo, nsTo, dS]
  | j + 1, h => by
    have ih := disTo_eq hl j (by omega)
    have hx : l[j]? = some (l.getD j 0) := by rw [List.getD_eq_getElem?_getD, List.getElem?_eq_getElem (show j < l.length by omega)]; rfl
    rw [take_of_some hx, dS_append, disTo, nsTo, ih]
    simp only [dS]
    omega
theorem dis_all {l : List Nat} (hp : l.Perm (List.range p.length)) : disTo p l p.length = (tri p.length : Nat) - (nsTo p l p.length : Nat) := by
  have hl : l.length = p.length := by rw [hp.length_eq, List.length_range]
  rw [disTo_eq hl p.length (Nat.le_refl _), List.take_of_length_le (by omega), dS_perm hp, dS_range]
end
end Go.J
