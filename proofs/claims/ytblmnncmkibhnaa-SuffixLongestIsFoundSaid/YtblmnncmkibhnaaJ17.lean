/-
  The library's sort of numbers, as a contract over a row that the call owns.
  Conditions: none; everything holds of any program.
-/
import Derived.Test.YtblmnncmkibhnaaJ16
import Derived.Shelf.SortM.Plain
import Derived.Shelf.SortM.SortNone
namespace Go.J
open Go Go.Proofs Go.Shelf Go.RowKit Go.Lib Go.Sort

theorem sortI_spec {P : Program} {ρr : Ren} (L : SlLaysM.n5 P ρr) (v : Value) (e : TypeId) (xs : List Int) (hlen : xs.length < 4611686018427387904) :
    FnH P (ρr.f 5) #[v] [row v e 1 xs.length (rows intR xs)] (fun u H' => u = .tuple #[] ∧ H' = [row v e 1 xs.length (rows intR (xs.mergeSort fun x y => decide (x ≤ y)))]) := by
  intro w ρ st0
  have st : Start (([] : List Dat).map dat ++ [row v e 1 xs.length (xs.map (Value.int .i64))]) ρ w := by
    rw [rows_intR] at st0; exact st0
  have hO : owns [row v e 1 xs.length (rows intR xs)] = owns (([] : List Dat).map dat ++ [row v e 1 xs.length (xs.map (Value.int .i64))]) := by rw [rows_intR]; rfl
  rw [hO]
  have hrow := row_ok.1 (st.ents _ (List.mem_append_right _ (List.mem_singleton_self _)))
  have none : ∀ (p : Option Addr) (cap : Nat), v = .slice p 0 cap → xs = [] → Calls P (ρr.f 5) #[v] w fun e_1 w' => ∃ v_1 H', e_1 = .returned v_1 ∧
      (v_1 = .tuple #[] ∧ H' = [row v e 1 xs.length (rows intR (xs.mergeSort fun x y => decide (x ≤ y)))]) ∧ Mm ⟨w, ρ, owns (([] : List Dat).map dat ++ [row v e 1 xs.length (xs.map (Value.int .i64))])⟩ H' w' := by
    intro p cap hv hd0
    have hc := AnyM.slices_Sort_int_none (P := P) (ρ := ρr) L p cap w
    rw [← hv] at hc
    refine hc.mono ?_
    rintro e' w' ⟨rfl, rfl⟩
    refine ⟨_, _, rfl, ⟨rfl, rfl⟩, ?_⟩
    rw [rows_intR, hd0, show ([] : List Int).mergeSort (fun x y => decide (x ≤ y)) = [] from List.mergeSort_nil]
    rw [hd0] at st
    exact st.stays
  rcases hrow.2 with ⟨hv, hn⟩ | ⟨g0, cap, cur, hv, _, hg, hnc, hcm, hcs, htk⟩
  · exact none _ _ hv (List.eq_nil_of_length_eq_zero hn)
  · by_cases hz : xs.length = 0
    · rw [hz] at hv; exact none _ _ hv (List.eq_nil_of_length_eq_zero hz)
    · obtain ⟨hH, hblk, hle, hend⟩ := Start.sorted st hv hg hnc hcm hcs htk
      have main := AnyM.slices_Sort_int L g0 0 cap xs w hH hblk hlen
      rw [← hv] at main
      refine main.mono ?_
      rintro e' w' ⟨rfl, n, os, rfl⟩
      refine ⟨_, _, rfl, ⟨rfl, rfl⟩, ?_⟩
      rw [rows_intR]
      have := hend n (xs.mergeSort fun x y => decide (x ≤ y)).toArray os (by simp)
      exact this
end Go.J
