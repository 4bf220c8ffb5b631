/-
  From a contract over data to a law's statement: how an argument that reads as data is a slice of data here; what a call leaves alone.
  Conditions: none; everything holds of any program.
-/
import Derived.Test.YteahhholjojfbaaDoorJ10
import Derived.ProofKit
import Derived.OpenShut
import Derived.JoinedCond
import Derived.Carry
import Derived.Deep.Slices
import Derived.SizedLaws
namespace Go.J
open Go Go.ChangeShapes Go.WideShapes Go.ChangeAt Go.RowKit Go.Deep

theorem FnV.below {P : Program} {f : FuncId} {args : Array Value} {ds : List Dat} {v : Value} {W : World} (h : FnV P f args ds v) (hd : ∀ d ∈ ds, d.f (J.all W)) : Calls P f args W fun e W' => e = .returned v ∧ Below W.heap.size W W' := by
  have st : Start (ds.map J.dat) (J.all W) W :=
    ⟨rfl, rfl, rfl, Nat.le_refl _, fun _ _ _ => rfl, fun _ _ h => h, Ro.le_refl _, fun _ _ _ => rfl, fun E hE => by
        obtain ⟨d, hd', rfl⟩ := List.mem_map.1 hE
        exact dat_ok.2 (hd d hd'),
      (fun E hE b hb => by
        obtain ⟨d, hd, rfl⟩ := List.mem_map.1 hE
        rw [dat_key] at hb; cases hb),
      by
        refine List.pairwise_map.2 (List.Pairwise.imp_of_mem (R := fun _ _ => True) ?_ (List.pairwise_of_forall fun _ _ => trivial))
        intro d d' _ _ _ b hb
        rw [dat_key] at hb; cases hb⟩
  refine (h W (J.all W) st).mono ?_
  rintro e w' ⟨u, H', rfl, rfl, hm⟩
  obtain ⟨ρ', hm⟩ := hm.out
  exact ⟨rfl, hm.os, hm.tape, hm.output, hm.size, fun k hk => hm.old k hk (owns_dats ds k)⟩

section
variable {H : Type} {enc : TypeId × Value → H} {P : Program} {W : World} {α : Type}

theorem blk_of_cell {a : Addr} {v : Value} (h : W.cell? a = some v) : a.spot = none ∧ ∃ C e fr, W.heap[a.block]? = some (.cells C e fr) ∧ C[a.off]? = some v := by
  refine ⟨World.cell?_spot h, ?_⟩
  unfold World.cell? at h
  split at h
  · rename_i C e fr hb
    split at h
    · cases h
    · exact ⟨C, e, fr, hb, h⟩
  · cases h

theorem rows_at {R : Rp α} : ∀ (xs : List α) (j : Nat) (u : Value), (rows R xs)[j]? = some u → ∃ i k x, xs[i]? = some x ∧ k < R.size ∧ j = i * R.size + k ∧ (R.cells x)[k]? = some u
  | [], j, u, h => by simp [rows] at h
  | x :: xs, j, u, h => by
    simp only [rows, List.flatMap_cons] at h
    by_cases hj : j < R.size
    · rw [List.getElem?_append_left (by rw [R.len]; exact hj)] at h
      exact ⟨0, j, x, rfl, hj, by omega, h⟩
    · rw [List.getElem?_append_right (by rw [R.len]; omega), R.len] at h
      obtain ⟨i, k, y, h1, h2, h3, h4⟩ := rows_at xs (j - R.size) u h
      exact ⟨i + 1, k, y, by simpa using h1, h2, by rw [Nat.add_mul, Nat.one_mul]; omega, h4⟩

/-- an argument that reads as a slice is a slice of data -/
theorem sl_open (R : Rp α) {t e : TypeId} {v : Value} {d : DataW H} {p : List MemPlace} {base0 : Nat} (ht : P.underlying t = some (.slice e)) (hc : P.cellsOf e = R.size)
    (hel : ∀ (n : Nat) (cs : List Value) (y : DataW H × List MemPlace), cs.length = R.size → DataW.trod enc P W 0 (fun _ => true) true n e cs = some y → ∃ x : α, cs = R.cells x ∧ R.wf x)
    (hv : Value.okWide P W .any base0 t v) (h : DataW.Trod enc P W 0 (fun _ => true) true t v d p) : ∃ xs : List α, (sl R v xs).f (J.all W) ∧ ((d = .nil ∧ xs = []) ∨ ∃ es sp, d = .slice es sp ∧ es.length = xs.length) := by
  obtain ⟨a0, len0, cap0, rfl⟩ := okWide_slice ht hv
  obtain ⟨fuel, hf⟩ := h
  rcases open_slice ht hf with ⟨hcs, hdx⟩ | ⟨a, len, cap, m, n, D, Pl, hcs, _, hl, hm, hmm, hdx, hx⟩
  · simp only [Value.cells, List.cons.injEq, and_true] at hcs
    rw [show Value.slice a0 len0 cap0 = .slice none 0 0 by simpa [Value.cells] using hcs]
    exact ⟨[], sl_nil _ _, .inl ⟨by simpa using (Prod.mk.inj hdx).1, rfl⟩⟩
  · rw [show Value.slice a0 len0 cap0 = .slice (some a) len cap by simpa [Value.cells] using hcs]
    simp only [if_true] at hmm
    subst hmm
    rcases Nat.eq_zero_or_pos len with rfl | hpos
    · exact ⟨[], ⟨_, m, rfl, Nat.zero_le _, hm, (fun x hx => by cases hx), .inl rfl⟩, .inr ⟨_, _, (Prod.mk.inj hdx).1, by simp⟩⟩
    have each : ∀ i, i < m → ∃ x : α, R.wf x ∧ ∀ k u, k < R.size → (R.cells x)[k]? = some u → W.cell? ((a.add (i * R.size)).add k) = some u := fun i hi => by
      obtain ⟨cs, h1, h2⟩ := hx i hi
      rw [hc] at h1
      obtain ⟨_, h4, h5⟩ := World.cells?_some h1
      obtain ⟨x, rfl, hw⟩ := hel n cs _ h4 h2
      exact ⟨x, hw, fun k u hk hu => by rw [h5 k hk, hu]⟩
    obtain ⟨x0, hx0⟩ := each 0 (by omega)
    haveI : Inhabited α := ⟨x0⟩
    obtain ⟨X, hX⟩ := choose_lt (α := α) each
    have hxl : ((List.range len).map X).length = len := by simp
    obtain ⟨b, off, spot⟩ := a
    have hu0 : ∃ u, (R.cells (X 0))[0]? = some u := by
      have := R.len (X 0)
      have := R.pos
      exact ⟨_, List.getElem?_eq_getElem (by omega)⟩
    obtain ⟨u0, hu0⟩ := hu0
    have hc0 := (hX 0 (by omega)).2 0 u0 R.pos hu0
    rw [Nat.zero_mul, Deep.add_add] at hc0
    obtain ⟨hs, C, e', fr, hb, _⟩ := blk_of_cell hc0
    have hspot : spot = none := by simpa [Addr.add] using hs
    subst hspot
    have hb : W.heap[b]? = some (.cells C e' fr) := by simpa [Addr.add] using hb
    refine ⟨(List.range len).map X, ⟨some ⟨b, off, none⟩, m, by rw [hxl], by rw [hxl]; exact hl, hm, ?_, .inr ⟨b, off, C, e', fr, rfl, hb, ?_⟩⟩, .inr ⟨_, _, (Prod.mk.inj hdx).1, by simp⟩⟩
    · intro x hx'
      obtain ⟨i, hi, rfl⟩ := List.mem_map.1 hx'
      exact (hX i (by have := List.mem_range.1 hi; omega)).1
    · intro j u hj
      obtain ⟨i, k, x, h1, h2, h3, h4⟩ := rows_at _ _ _ hj
      have hil := lt_of_some' h1
      rw [hxl] at hil
      have hxe : x = X i := by simpa [hil] using h1.symm
      subst hxe
      have := (hX i (by omega)).2 k u h2 h4
      rw [Deep.add_add, ← h3] at this
      obtain ⟨_, C', e'', fr', hb', hcell⟩ := blk_of_cell this
      have hb' : W.heap[b]? = some (.cells C' e'' fr') := by
        by_cases h0 : j = 0
        · subst h0; simpa [Addr.add] using hb'
        · simpa [Addr.add, h0] using hb'
      have hcell : C'[off + j]? = some u := by
        by_cases h0 : j = 0
        · subst h0; simpa [Addr.add] using hcell
        · simpa [Addr.add, h0] using hcell
      rw [hb] at hb'
      simp only [Option.some.injEq, Obj.cells.injEq] at hb'
      rw [hb'.1]; exact hcell
where lt_of_some' {β : Type} {l : List β} {i : Nat} {x : β} (h : l[i]? = some x) : i < l.length := (List.getElem?_eq_some_iff.1 h).1

theorem sl_sized {ts : List TypeId} {ds : List (DataW H)} (h : (DataW.weightsEach P ts ds).all (· ≤ reachBytes) = true) (j : Nat) {t e : TypeId} {d : DataW H} {xs : List α} (ht : ts[j]? = some t) (hd : ds[j]? = some d) (hu : P.underlying t = some (.slice e))
    (hf : (d = .nil ∧ xs = []) ∨ ∃ es sp, d = .slice es sp ∧ es.length = xs.length) (n : Nat) (hn : P.bytesOf e = n) : xs.length * n ≤ 140737488351232 := by
  subst hn
  rcases hf with ⟨_, rfl⟩ | ⟨es, sp, rfl, hl⟩
  · simp
  · have h1 := sized_slice h ht hd hu
    rw [← hl]
    have h2 : es.length * P.bytesOf e ≤ (es.length + sp.length) * P.bytesOf e := Nat.mul_le_mul_right _ (by omega)
    unfold reachBytes at h1
    omega
theorem wf_i64 {n : Int} (h : (Lit.int .i64 n).wf = true) : i64ok n := by
  have e1 : IntKind.i64.min = -9223372036854775808 := rfl
  have e2 : IntKind.i64.max = 9223372036854775807 := rfl
  simpa [Lit.wf, e1, e2, i64ok] using h
theorem el_int {e : TypeId} (he : P.underlying e = some (.int .i64)) (n : Nat) (cs : List Value) (y : DataW H × List MemPlace) (_ : cs.length = 1) (h : DataW.trod enc P W 0 (fun _ => true) true n e cs = some y) : ∃ x : Int, cs = intR.cells x ∧ intR.wf x := by
  obtain ⟨z, rfl, _, hw⟩ := DataW.trod_int he h
  exact ⟨z, rfl, wf_i64 hw⟩
theorem sv_of (s : ByteArray) : Value.string s = sv s.data.toList := by
  cases s; rfl
theorem el_str {e : TypeId} (he : P.underlying e = some .string) (n : Nat) (cs : List Value) (y : DataW H × List MemPlace) (_ : cs.length = 1) (h : DataW.trod enc P W 0 (fun _ => true) true n e cs = some y) : ∃ x : Str, cs = strR.cells x ∧ strR.wf x := by
  obtain ⟨s, rfl, _, hw⟩ := DataW.trod_string he h
  exact ⟨s.data.toList, by rw [sv_of]; rfl, by simpa [strR] using hw⟩
theorem el_bool {e : TypeId} (he : P.underlying e = some .bool) (n : Nat) (cs : List Value) (y : DataW H × List MemPlace) (_ : cs.length = 1) (h : DataW.trod enc P W 0 (fun _ => true) true n e cs = some y) : ∃ x : Bool, cs = boolR.cells x ∧ boolR.wf x := by
  obtain ⟨z, rfl, _⟩ := DataW.trod_bool he h
  exact ⟨z, rfl, trivial⟩
end
end Go.J
