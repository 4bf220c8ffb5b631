/-
  Slices of slices as data.
  Conditions: none; everything holds of any program.
-/
import Derived.Test.YteahhholjojfbaaDoorJ9
namespace Go.J
open Go

abbrev OneV := { v : Value // v.oneCell' = true }

/-- the slices one by one -/
def ptw {α : Type} (Rr : Rp α) (vs : List OneV) (xss : List (List α)) : Dat where
  f ρ := ∀ (i : Nat) (u : OneV) (l : List α), vs[i]? = some u → xss[i]? = some l → (sl Rr u.1 l).f ρ
  mono ρ ρ' h k i u l h1 h2 := (sl Rr u.1 l).mono _ _ h (k i u l h1 h2)

class InW (vs : List OneV) (H : List Ent) (α : outParam Type) (Rr : outParam (Rp α)) (xss : outParam (List (List α))) : Prop where
  mem : dat (ptw Rr vs xss) ∈ H
instance (priority := high) InW.here {α : Type} (vs : List OneV) (Rr : Rp α) (xss : List (List α)) (H : List Ent) : InW vs (dat (ptw Rr vs xss) :: H) α Rr xss := ⟨List.mem_cons_self ..⟩
instance InW.there {α : Type} (vs : List OneV) (Rr : Rp α) (xss : List (List α)) (E : Ent) (H : List Ent) [h : InW vs H α Rr xss] : InW vs (E :: H) α Rr xss := ⟨List.mem_cons_of_mem _ h.mem⟩

/-- the rows that are owned, one by one -/
def owned {α : Type} (e : TypeId) (Rr : Rp α) (ps : List (OneV × List α)) : List Ent := ps.map fun p => row p.1.1 e Rr.size p.2.length (rows Rr p.2)

theorem Solid.owned {α : Type} {e : TypeId} {Rr : Rp α} : ∀ (ps : List (OneV × List α)), Solid (owned e Rr ps)
  | [] => Solid.nil
  | _ :: ps => Solid.row (Solid.owned ps)

section
variable {n : Nat} {F : Fr} {c : Ctx} {H R : List Ent} {T : Act → World → Prop} {e : TypeId}
theorem St.ptw {α : Type} {Rr : Rp α} {vs : List OneV} {xss : List (List α)} (k : Nat) {u : OneV} {l : List α} [hd : InW vs H α Rr xss] (hu : vs[k]? = some u) (hl : xss[k]? = some l) (h : St n F (Mm c (dat (sl Rr u.1 l) :: H)) T) : St n F (Mm c H) T :=
  St.fact _ (fun _ _ hm => dat_ok.1 (hm.ents _ hd.mem) k u l hu hl) h
theorem sl_nil {α : Type} (Rr : Rp α) (ρ : Ro) : (sl Rr (.slice none 0 0) []).f ρ := ⟨none, 0, rfl, Nat.le_refl _, by unfold maxLen; omega, (fun x hx => by cases hx), .inl rfl⟩
theorem St.nilsls {α : Type} {Rr : Rp α} (h : St n F (Mm c (dat (sl valR (.slice none 0 0) []) :: dat (J.ptw Rr [] []) :: H)) T) : St n F (Mm c H) T :=
  St.fact _ (fun _ _ _ => show (J.ptw Rr [] []).f _ from fun i u l hu => by simp at hu) (St.fact _ (fun _ _ _ => sl_nil _ _) h)
theorem Mm.publishAll {α : Type} {Rr : Rp α} {w : World} : ∀ (ps : List (OneV × List α)) (R : List Ent), (∀ p ∈ ps, ∀ x ∈ p.2, Rr.wf x) → Mm c (owned e Rr ps ++ R) w → Mm c (dat (J.ptw Rr (ps.map Prod.fst) (ps.map Prod.snd)) :: R) w
  | [], R, _, h => h.fact _ fun _ _ i u l hu => by simp at hu
  | p :: ps, R, hwf, h => by
    obtain ⟨ρ, hm⟩ := h.out
    have hm : MmR c (row p.1.1 e Rr.size p.2.length (rows Rr p.2) :: (owned e Rr ps ++ R)) ρ w := hm
    have h1 := hm.publish Rr p.2 rfl rfl (hwf p (List.mem_cons_self ..))
    obtain ⟨ρ1, h2⟩ := h1.out
    have h3 := Mm.publishAll ps (dat (sl Rr p.1.1 p.2) :: R) (fun q hq => hwf q (List.mem_cons_of_mem _ hq)) (Mm.mk (h2.perm List.perm_middle.symm))
    obtain ⟨ρ2, h4⟩ := h3.out
    have h5 : (J.ptw Rr ((p :: ps).map Prod.fst) ((p :: ps).map Prod.snd)).f ρ2 := by
      intro i u l hu hl
      cases i with
      | zero =>
        simp only [List.map_cons, List.getElem?_cons_zero, Option.some.injEq] at hu hl
        subst hu hl
        exact dat_ok.1 (h4.ents _ (List.mem_cons_of_mem _ (List.mem_cons_self ..)))
      | succ i =>
        simp only [List.map_cons, List.getElem?_cons_succ] at hu hl
        exact dat_ok.1 (h4.ents _ (List.mem_cons_self ..)) i u l hu hl
    have h6 := h4.fact _ h5
    exact Mm.mk ((h6.perm (List.Perm.swap _ _ _)).drop.perm (List.Perm.swap _ _ _)).drop
theorem St.publishRev {α : Type} {Rr : Rp α} (ps : List (OneV × List α)) (hwf : ∀ p ∈ ps, ∀ x ∈ p.2, Rr.wf x) [tk : TakeL (owned e Rr ps) H R]
    (h : St n F (Mm c (dat (J.ptw Rr (ps.map Prod.fst).reverse (ps.map Prod.snd).reverse) :: R)) T) : St n F (Mm c H) T := h.weak fun w hw => by
  obtain ⟨ρ, hm⟩ := hw.out
  have h1 : MmR c (owned e Rr ps.reverse ++ R) ρ w := hm.perm (tk.perm.trans (List.Perm.append_right R (by unfold owned; exact ((List.reverse_perm ps).map _).symm)))
  have h2 := Mm.publishAll ps.reverse R (fun p hp => hwf p (List.mem_reverse.1 hp)) (Mm.mk h1)
  simpa only [List.map_reverse] using h2
theorem rows_valR (vs : List OneV) : rows valR vs = vs.map Subtype.val := by
  induction vs with
  | nil => rfl
  | cons v vs ih => simp only [rows, List.flatMap_cons, List.map_cons] at ih ⊢; rw [ih]; rfl
end
end Go.J
