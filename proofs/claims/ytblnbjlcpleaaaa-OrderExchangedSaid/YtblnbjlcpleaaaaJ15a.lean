/-
  Facts in one: a contract over several facts as a contract over their conjunction; the sort of whatever values by their numbers.
  Conditions: none; everything holds of any program.
-/
import Derived.Test.YtblnbjlcpleaaaaJ14
namespace Go.J
open Go Go.Proofs Go.Shelf Go.RowKit Go.Lib Go.Sort

/-- these facts, as one -/
def allD (ds : List Dat) : Dat := ⟨fun ρ => ∀ d ∈ ds, d.f ρ, fun _ _ h k d hd => d.mono _ _ h (k d hd)⟩
theorem owns_none {H : List Ent} (h : ∀ E ∈ H, E.key = none) (b : Nat) : ¬ owns H b := by
  rintro ⟨E, hE, hb⟩; rw [h E hE] at hb; cases hb
theorem FnV.all {P : Program} {f : FuncId} {args : Array Value} {ds : List Dat} {v : Value} (h : FnV P f args ds v) : FnV P f args [allD ds] v := by
  intro w ρ st
  have hf : ∀ d ∈ ds, d.f ρ := dat_ok.1 (st.ents (dat (allD ds)) (by simp))
  have e : owns (ds.map dat) = owns ([allD ds].map dat) := by
    funext b
    apply propext
    constructor
    · intro h; exact absurd h (owns_dats ds b)
    · intro h; exact absurd h (owns_dats [allD ds] b)
  have st0 : MmR ⟨w, ρ, owns ([allD ds].map dat)⟩ [] ρ w := MmR.drop st
  have st2 : Start (ds.map dat) ρ w := by
    have := st0.dats ds hf
    rw [List.append_nil] at this
    unfold Start
    rw [e]
    exact this
  have := h w ρ st2
  rw [e] at this
  exact this
/-- a contract over facts that follow from others -/
theorem FnV.weak {P : Program} {f : FuncId} {args : Array Value} {ds ds' : List Dat} {v : Value} (h : FnV P f args ds v) (hi : ∀ ρ, (∀ d ∈ ds', d.f ρ) → ∀ d ∈ ds, d.f ρ) : FnV P f args ds' v := by
  intro w ρ st
  have hf : ∀ d ∈ ds', d.f ρ := fun d hd => dat_ok.1 (st.ents (dat d) (List.mem_map_of_mem hd))
  have e : owns (ds.map dat) = owns (ds'.map dat) := by
    funext b
    apply propext
    exact ⟨fun h => absurd h (owns_dats ds b), fun h => absurd h (owns_dats ds' b)⟩
  have st0 : MmR ⟨w, ρ, owns (ds'.map dat)⟩ [] ρ w := by
    have : ∀ (l : List Dat), MmR ⟨w, ρ, owns (ds'.map dat)⟩ (l.map dat) ρ w → MmR ⟨w, ρ, owns (ds'.map dat)⟩ [] ρ w := by
      intro l
      induction l with
      | nil => exact fun h => h
      | cons d l ih => exact fun h => ih h.drop
    exact this ds' st
  have st2 : Start (ds.map dat) ρ w := by
    have := st0.dats ds (hi ρ hf)
    rw [List.append_nil] at this
    unfold Start
    rw [e]
    exact this
  have := h w ρ st2
  rw [e] at this
  exact this
theorem LentO.allD {c : Ctx} {L R : List Ent} {ds : List Dat} (h : LentO c L R ds) : LentO c L R [J.allD ds] := fun ρ w hm d hd => by
  rw [List.mem_singleton.1 hd]
  exact fun d' hd' => h ρ w hm d' hd'
theorem Lent.allD {c : Ctx} {H : List Ent} {ds : List Dat} (h : Lent c H ds) : Lent c H [J.allD ds] := fun ρ w hm d hd => by
  rw [List.mem_singleton.1 hd]
  exact fun d' hd' => h ρ w hm d' hd'

theorem St.cast {n : Nat} {F : Fr} {c : Ctx} {H H' : List Ent} {T : Act → World → Prop} (h : H = H') (k : St n F (Mm c H') T) : St n F (Mm c H) T := by rw [h]; exact k
section
variable {P : Program} {ρr : Ren}
theorem sortFunc_nil (L : SlLaysF.n6 P ρr) (fv v : Value) (e : TypeId) (D : Dat) : FnH P (ρr.f 6) #[v, fv] ([D].map dat ++ [row v e 1 0 []]) (fun u H' => u = .tuple #[] ∧ H' = [row v e 1 0 []]) := by
  intro w ρ st
  have hrow := row_ok.1 (st.ents (row v e 1 0 []) (List.mem_append_right _ (List.mem_singleton_self _)))
  have none : ∀ (p : Option Addr) (cap : Nat), v = .slice p 0 cap → Calls P (ρr.f 6) #[v, fv] w fun e_1 w' => ∃ v_1 H', e_1 = .returned v_1 ∧ (v_1 = .tuple #[] ∧ H' = [row v e 1 0 []]) ∧ Mm ⟨w, ρ, owns ([D].map dat ++ [row v e 1 0 []])⟩ H' w' := by
    intro p cap hv
    have hc := AnyF.slices_SortFunc_none (P := P) (ρ := ρr) { L with } p cap fv w
    rw [← hv] at hc
    refine hc.mono ?_
    rintro e' w' ⟨rfl, rfl⟩
    exact ⟨_, _, rfl, ⟨rfl, rfl⟩, st.stays⟩
  rcases hrow.2 with ⟨hv, _⟩ | ⟨g0, cap, cur, hv, _⟩
  · exact none _ _ hv
  · exact none _ _ hv
/-- m values, sorted by a comparison of their numbers -/
theorem sortIdx_spec (L : SlLaysF.n6 P ρr) {m : Nat} (enc : Nat → Value) (h1 : ∀ i, i < m → (enc i).oneCell' = true) (cf : Nat → Nat → Int) (hirr : ∀ a, a < m → ¬ cf a a < 0) (htr : ∀ a b c, a < m → b < m → c < m → cf a b < 0 → cf b c < 0 → cf a c < 0)
    (hnt : ∀ a b c, a < m → b < m → c < m → ¬ cf a b < 0 → ¬ cf b c < 0 → ¬ cf a c < 0) (g : Nat) (hcb : Callable P g) (caps : List Value) (D : Dat)
    (hcl : ∀ a b, a < m → b < m → FnV P g ([enc a, enc b] ++ caps).toArray [D] (iv (cf a b))) (v : Value) (e : TypeId) (hm : m < 4611686018427387904) :
    FnH P (ρr.f 6) #[v, .func (.func g) #[] caps.toArray] ([D].map dat ++ [row v e 1 m ((List.range m).map enc)]) (fun u H' => u = .tuple #[] ∧ ∃ l : List Nat, l.Perm (List.range m) ∧ l.Pairwise (fun a b => ¬ cf b a < 0) ∧ H' = [row v e 1 m (l.map enc)]) := by
  rcases Nat.eq_zero_or_pos m with rfl | hpos
  · exact (sortFunc_nil L (.func (.func g) #[] caps.toArray) v e D).mono fun u H' ⟨h1, h2⟩ => ⟨h1, [], List.Perm.refl _, List.Pairwise.nil, h2⟩
  · haveI : Inhabited { i : Nat // i < m } := ⟨⟨0, hpos⟩⟩
    let d : List { i : Nat // i < m } := (List.range m).attach.map fun x => ⟨x.1, List.mem_range.1 x.2⟩
    have hdl : d.length = m := by simp [d]
    have hde : d.map (fun x => x.1) = List.range m := by simp [d, List.map_map, Function.comp_def]
    have hcs : d.map (fun x => enc x.1) = (List.range m).map enc := by rw [← hde]; simp [List.map_map, Function.comp_def]
    have hO : SWO (ltOf fun (x y : { i : Nat // i < m }) => cf x.1 y.1) := by
      refine ⟨fun x => decide_eq_false (hirr x.1 x.2), fun x y z h1 h2 => decide_eq_true (htr _ _ _ x.2 y.2 z.2 (of_decide_eq_true h1) (of_decide_eq_true h2)), fun x y z h1 h2 => decide_eq_false (hnt _ _ _ x.2 y.2 z.2 (of_decide_eq_false h1) (of_decide_eq_false h2))⟩
    have main := sortFunc_spec L (fun x : { i : Nat // i < m } => enc x.1) (fun x => h1 x.1 x.2) (fun x y => cf x.1 y.1) hO g caps.toArray (fun args w => hcb.run) [D] (fun x y => by have := hcl x.1 y.1 x.2 y.2; simpa using this) v e d (by omega)
    rw [hdl, hcs] at main
    refine main.mono ?_
    rintro u H' ⟨hu, d', hp, hs, hH⟩
    refine ⟨hu, d'.map (fun x => x.1), ?_, ?_, ?_⟩
    · have := hp.map (fun x => x.1); rw [hde] at this; exact this
    · rw [List.pairwise_map]
      exact hs.imp fun h => of_decide_eq_false h
    · rw [hH]; simp [List.map_map, Function.comp_def]
end
end Go.J
