/-
  Facts in one: a contract over several facts as a contract over their conjunction; the sort over numbers below a bound.
  Conditions: none; everything holds of any program.
-/
import Derived.Test.YtblmnncmkibhnaaJ14
import Derived.Test.YtblmnncmkibhnaaSufQ
namespace Go.J
open Go Go.Proofs Go.Shelf Go.RowKit Go.Lib Go.Sort

/-- these facts, as one -/
def allD (ds : List Dat) : Dat := ⟨fun ρ => ∀ d ∈ ds, d.f ρ, fun _ _ h k d hd => d.mono _ _ h (k d hd)⟩
theorem owns_none {H : List Ent} (h : ∀ E ∈ H, E.key = none) (b : Nat) : ¬ owns H b := by
  rintro ⟨E, hE, hb⟩; rw [h E hE] at hb; cases hb
theorem FnV.all {P : Program} {f : FuncId} {args : Array Value} {ds : List Dat} {v : Value} (h : FnV P f args ds v) : FnV P f args [allD ds] v := by
  intro w ρ st
  have hf : ∀ d ∈ ds, d.f ρ := dat_ok.1 (st.ents (dat (allD ds)) (by simp))
  have e : owns (ds.map dat) = owns ([allD ds].map dat) := by
    funext b
    apply propext
    constructor
    · intro h; exact absurd h (owns_dats ds b)
    · intro h; exact absurd h (owns_dats [allD ds] b)
  have st0 : MmR ⟨w, ρ, owns ([allD ds].map dat)⟩ [] ρ w := MmR.drop st
  have st2 : Start (ds.map dat) ρ w := by
    have := st0.dats ds hf
    rw [List.append_nil] at this
    unfold Start
    rw [e]
    exact this
  have := h w ρ st2
  rw [e] at this
  exact this
theorem LentO.allD {c : Ctx} {L R : List Ent} {ds : List Dat} (h : LentO c L R ds) : LentO c L R [J.allD ds] := fun ρ w hm d hd => by
  rw [List.mem_singleton.1 hd]
  exact fun d' hd' => h ρ w hm d' hd'
theorem Lent.allD {c : Ctx} {H : List Ent} {ds : List Dat} (h : Lent c H ds) : Lent c H [J.allD ds] := fun ρ w hm d hd => by
  rw [List.mem_singleton.1 hd]
  exact fun d' hd' => h ρ w hm d' hd'

theorem rows_intR (xs : List Int) : rows intR xs = xs.map (fun x => iv x) := by
  induction xs with
  | nil => rfl
  | cons x xs ih => simp only [rows, List.flatMap_cons, List.map_cons] at ih ⊢; rw [ih]; rfl
/-- the numbers of a list -/
abbrev ints (l : List Nat) : List Int := l.map (fun i : Nat => (i : Int))
theorem ints_getD (l : List Nat) (k : Nat) : (ints l).getD k 0 = (l.getD k 0 : Int) := by
  rw [List.getD_eq_getElem?_getD, List.getD_eq_getElem?_getD, List.getElem?_map]
  cases l[k]? <;> rfl

section
variable {P : Program} {ρr : Ren}
theorem sortFunc_nil (L : SlLaysF.n6 P ρr) (fv v : Value) (e : TypeId) (D : Dat) : FnH P (ρr.f 6) #[v, fv] ([D].map dat ++ [row v e 1 0 []]) (fun u H' => u = .tuple #[] ∧ H' = [row v e 1 0 []]) := by
  intro w ρ st
  have hrow := row_ok.1 (st.ents (row v e 1 0 []) (List.mem_append_right _ (List.mem_singleton_self _)))
  have none : ∀ (p : Option Addr) (cap : Nat), v = .slice p 0 cap → Calls P (ρr.f 6) #[v, fv] w fun e_1 w' => ∃ v_1 H', e_1 = .returned v_1 ∧ (v_1 = .tuple #[] ∧ H' = [row v e 1 0 []]) ∧ Mm ⟨w, ρ, owns ([D].map dat ++ [row v e 1 0 []])⟩ H' w' := by
    intro p cap hv
    have hc := AnyF.slices_SortFunc_none (P := P) (ρ := ρr) { L with } p cap fv w
    rw [← hv] at hc
    refine hc.mono ?_
    rintro e' w' ⟨rfl, rfl⟩
    exact ⟨_, _, rfl, ⟨rfl, rfl⟩, st.stays⟩
  rcases hrow.2 with ⟨hv, _⟩ | ⟨g0, cap, cur, hv, _⟩
  · exact none _ _ hv
  · exact none _ _ hv
/-- numbers below n, sorted by a comparison of keys -/
theorem sortKeys_spec (L : SlLaysF.n6 P ρr) {n : Nat} {key : Nat → List Int} {cf : Nat → Nat → Int} (hK : KeyCmp n key cf) (g : Nat) (hcb : Callable P g) (caps : List Value) (D : Dat)
    (hcl : ∀ a b, a < n → b < n → FnV P g ([iv a, iv b] ++ caps).toArray [D] (iv (cf a b))) (v : Value) (e : TypeId) (l0 : List Nat) (hp0 : l0.Perm (List.range n)) (hn : n < 4611686018427387904) :
    FnH P (ρr.f 6) #[v, .func (.func g) #[] caps.toArray] ([D].map dat ++ [row v e 1 n (rows intR (ints l0))]) (fun u H' => u = .tuple #[] ∧ ∃ l : List Nat, l.Perm (List.range n) ∧ Sorted cf l ∧ H' = [row v e 1 n (rows intR (ints l))]) := by
  have hl0 : l0.length = n := by rw [hp0.length_eq, List.length_range]
  rcases Nat.eq_zero_or_pos n with rfl | hpos
  · obtain rfl : l0 = [] := List.eq_nil_of_length_eq_zero hl0
    exact (sortFunc_nil L (.func (.func g) #[] caps.toArray) v e D).mono fun u H' ⟨h1, h2⟩ => ⟨h1, [], hp0, fun j k _ hk => by simp at hk, h2⟩
  · haveI : Inhabited { i : Nat // i < n } := ⟨⟨0, hpos⟩⟩
    have hb : ∀ i ∈ l0, i < n := fun i hi => List.mem_range.1 (hp0.mem_iff.1 hi)
    let d : List { i : Nat // i < n } := l0.attach.map fun x => ⟨x.1, hb x.1 x.2⟩
    have hdl : d.length = n := by simp [d, hl0]
    have hde : d.map (fun x => x.1) = l0 := by simp [d, List.map_map, Function.comp_def]
    have hcs : d.map (fun x => iv (x.1 : Nat)) = rows intR (ints l0) := by
      rw [rows_intR, ← hde]; simp [List.map_map, Function.comp_def]
    have hO : SWO (ltOf fun (x y : { i : Nat // i < n }) => cf x.1 y.1) := by
      have q : ∀ x y : { i : Nat // i < n }, ltOf (fun (x y : { i : Nat // i < n }) => cf x.1 y.1) x y = llt (key x.1) (key y.1) := fun x y => by
        unfold ltOf
        rw [Bool.eq_iff_iff, decide_eq_true_eq]
        exact hK.lt _ _ x.2 y.2
      refine ⟨fun x => by rw [q, llt_irrefl], fun x y z h1 h2 => by rw [q] at *; exact llt_trans h1 h2, fun x y z h1 h2 => ?_⟩
      rw [q] at *
      cases h3 : llt (key x.1) (key z.1) with
      | false => rfl
      | true =>
        rcases llt_tri (key x.1) (key y.1) with t | t | t
        · rw [h1] at t; cases t
        · rw [t, h2] at h3; cases h3
        · have := llt_trans t h3; rw [h2] at this; cases this
    have main := sortFunc_spec L (fun x : { i : Nat // i < n } => iv (x.1 : Nat)) (fun _ => rfl) (fun x y => cf x.1 y.1) hO g caps.toArray (fun args w => hcb.run) [D] (fun x y => by have := hcl x.1 y.1 x.2 y.2; simpa using this) v e d (by omega)
    rw [hdl, hcs] at main
    refine main.mono ?_
    rintro u H' ⟨hu, d', hp, hs, hH⟩
    refine ⟨hu, d'.map (fun x => x.1), ?_, ?_, ?_⟩
    · have := hp.map (fun x => x.1); rw [hde] at this; exact this.trans hp0
    · intro j k hjk hk
      rw [List.length_map] at hk
      have h1 := List.pairwise_iff_getElem.1 hs j k (by omega) hk hjk
      rw [List.getD_eq_getElem?_getD, List.getD_eq_getElem?_getD, List.getElem?_map, List.getElem?_map, List.getElem?_eq_getElem hk, List.getElem?_eq_getElem (show j < d'.length by omega)]
      simpa [ltOf] using h1
    · rw [hH, rows_intR]; simp [List.map_map, Function.comp_def]
end
theorem rowI {l : List Int} {k : Nat} (h : k < l.length) : (rows intR l)[k * 1 + 0]? = some (iv (l.getD k 0)) := by
  rw [rows_intR, Nat.mul_one, Nat.add_zero, List.getElem?_map, some_getD 0 h]; rfl
theorem rowI_set (l : List Int) (k : Nat) (x : Int) : (rows intR l).set (k * 1 + 0) (iv x) = rows intR (l.set k x) := by
  rw [Nat.mul_one, Nat.add_zero, rows_set1 (Rr := intR) rfl rfl]
theorem St.cast {n : Nat} {F : Fr} {c : Ctx} {H H' : List Ent} {T : Act → World → Prop} (h : H = H') (k : St n F (Mm c H') T) : St n F (Mm c H) T := by rw [h]; exact k
theorem wf_ints {n : Nat} {l : List Nat} (hp : l.Perm (List.range n)) (hn : n ≤ 9223372036854775807) : ∀ x ∈ ints l, intR.wf x := by
  intro x hx
  obtain ⟨i, hi, rfl⟩ := List.mem_map.1 hx
  have := List.mem_range.1 (hp.mem_iff.1 hi)
  show i64ok (i : Int)
  unfold i64ok; omega
theorem ints_length (l : List Nat) : (ints l).length = l.length := List.length_map _
theorem rowI2 {l : List Nat} {k : Nat} (h : k < l.length) : (rows intR (ints l))[k * 1 + 0]? = some (iv ((l.getD k 0 : Nat) : Int)) := by
  rw [rowI (by rw [ints_length]; exact h), ints_getD]
end Go.J
