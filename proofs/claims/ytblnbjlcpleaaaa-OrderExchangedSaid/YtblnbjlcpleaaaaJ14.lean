/-
  The library's sort by a comparison of one's own, as a contract over a row that the call owns.
  Conditions: the comparison is a strict weak order, and a contract over data alone.
-/
import Derived.Test.YtblnbjlcpleaaaaJ11
import Derived.Shelf.SlSortCmp.NoneTotal
namespace Go.J
open Go Go.Proofs Go.Shelf Go.RowKit Go.Lib Go.Sort

theorem Start.dats {ds : List Dat} {W : World} (hd : ∀ d ∈ ds, d.f (J.all W)) : Start (ds.map J.dat) (J.all W) W :=
  ⟨rfl, ⟨rfl, Nat.le_refl _⟩, rfl, Nat.le_refl _, fun _ _ _ => rfl, fun _ _ h => h, Ro.le_refl _, fun _ _ _ => rfl, fun E hE => by
        obtain ⟨d, hd', rfl⟩ := List.mem_map.1 hE
        exact dat_ok.2 (hd d hd'),
      (fun E hE b hb => by
        obtain ⟨d, hd, rfl⟩ := List.mem_map.1 hE
        rw [dat_key] at hb; cases hb),
      by
        refine List.pairwise_map.2 (List.Pairwise.imp_of_mem (R := fun _ _ => True) ?_ (List.pairwise_of_forall fun _ _ => trivial))
        intro d d' _ _ _ b hb
        rw [dat_key] at hb; cases hb⟩

/-- a call over data alone lays blocks and draws, and does nothing else to the world -/
theorem FnV.grows {P : Program} {f : FuncId} {args : Array Value} {ds : List Dat} {v : Value} {W : World} (h : FnV P f args ds v) (hd : ∀ d ∈ ds, d.f (J.all W)) :
    Calls P f args W fun e w' => e = .returned v ∧ ∃ q os', w' = grow (W.drewN q) os' := by
  refine (h W (J.all W) (Start.dats hd)).mono ?_
  rintro e w' ⟨u, H', rfl, rfl, hm⟩
  obtain ⟨ρ', hm⟩ := hm.out
  refine ⟨rfl, w'.drawn - W.drawn, w'.heap.extract W.heap.size w'.heap.size, ?_⟩
  have h1 := hm.os
  have h2 := hm.tape
  have h3 := hm.output
  have h4 := hm.size
  have h5 : ∀ k, k < W.heap.size → w'.heap[k]? = W.heap[k]? := fun k hk => hm.old k hk (owns_dats ds k)
  clear hm
  cases w' with
  | mk heap' tape' drawn' os' out' =>
    cases W with
    | mk heap tape drawn os out =>
      simp only at h1 h2 h3 h4 h5
      simp only [grow, World.drewN, World.mk.injEq]
      refine ⟨?_, h2.1, by omega, h1, h3⟩
      apply Array.ext_getElem?
      intro i
      rw [Array.getElem?_append]
      split
      · rename_i hi; exact h5 i hi
      · rename_i hi
        rw [Array.getElem?_extract]
        split
        · congr 1; omega
        · rename_i h6
          rw [Array.getElem?_eq_none (by omega)]

section
variable {P : Program} {ρr : Ren} {α : Type} [Inhabited α]
theorem sortWorld_other (enc : α → Value) (w : World) (g0 m k : Nat) (dk : Array α) (os : Array Obj) (hk : k ≠ g0) (hl : k < w.heap.size) : (sortWorld enc w g0 0 m dk os).heap[k]? = w.heap[k]? := by
  unfold sortWorld grow putRow mapBlock
  simp only []
  rw [Array.getElem?_append_left (by simpa using hl), Array.getElem?_modify]
  rw [if_neg (fun e => hk e.symm)]
  rfl
theorem sortWorld_self (enc : α → Value) (w : World) (g0 m : Nat) (dk : Array α) (os : Array Obj) {cur : Array Value} {e : TypeId} {fr : Nat × Nat} (hg : w.heap[g0]? = some (.cells cur e fr)) :
    (sortWorld enc w g0 0 m dk os).heap[g0]? = some (.cells (putCells enc 0 dk cur) e fr) := by
  have hl := (Array.getElem?_eq_some_iff.1 hg).1
  have hg' : (Sort.ahead w m).heap[g0]? = some (.cells cur e fr) := hg
  unfold sortWorld grow putRow mapBlock
  simp only []
  rw [Array.getElem?_append_left (by simpa using hl), Array.getElem?_modify, if_pos rfl, hg']
  rfl

/-- behind a sort: the row holds what it holds now, all else is as it was -/
theorem Start.sorted {ds : List Dat} {enc : α → Value} {v : Value} {e : TypeId} {d : List α} {w : World} {ρ : Ro} (st : Start (ds.map dat ++ [row v e 1 d.length (d.map enc)]) ρ w) {g0 cap : Nat} {cur : Array Value}
    (hv : v = .slice (some ⟨g0, 0, none⟩) d.length cap) (hg : w.heap[g0]? = some (.cells cur e (0, 0))) (hnc : d.length ≤ cap) (hcm : cap ≤ maxLen) (hcs : cur.size = cap * 1) (htk : cur.toList.take (d.length * 1) = d.map enc) :
    Holds enc w g0 0 d.toArray ∧ g0 < w.heap.size ∧ (∀ (m : Nat) (os : Array Obj) (dk : Array α), Ro.le ρ (J.all (sortWorld enc w g0 0 m dk os))) ∧
      ∀ (n : Nat) (d' : Array α) (os : Array Obj), d'.size = d.length → Mm ⟨w, ρ, owns (ds.map dat ++ [row v e 1 d.length (d.map enc)])⟩ [row v e 1 d.length (d'.toList.map enc)] (sortWorld enc w g0 0 n d' os) := by
  have hblk := (Array.getElem?_eq_some_iff.1 hg).1
  have hρ : ρ g0 = Option.none := (st.own _ (List.mem_append_right _ (List.mem_singleton_self _)) g0 (by rw [row_key, hv]; rfl)).1
  have hcell : ∀ j (hj : j < d.length), cur[j]? = some (enc d[j]) := fun j hj => by
    have := congrArg (fun l => l[j]?) htk
    simp only [List.getElem?_take, List.getElem?_map, List.getElem?_eq_getElem hj, Option.map_some] at this
    rw [if_pos (by omega)] at this
    simpa using this
  have hle : ∀ (m : Nat) (os : Array Obj) (dk : Array α), Ro.le ρ (J.all (sortWorld enc w g0 0 m dk os)) := fun m os dk k o hk => by
    have h2 := st.fits k o hk
    have h3 : k ≠ g0 := by rintro rfl; rw [hρ] at hk; cases hk
    show (sortWorld enc w g0 0 m dk os).heap[k]? = some o
    rw [sortWorld_other enc w g0 m k dk os h3 (Array.getElem?_eq_some_iff.1 h2).1, h2]
  refine ⟨fun j hj => ?_, hblk, hle, fun n d' os hsz => Mm.mk (ρ := ρ) ⟨rfl, ⟨rfl, ?_⟩, rfl, ?_, ?_, ?_, Ro.le_refl _, fun _ _ _ => rfl, ?_, ?_, List.pairwise_singleton ..⟩⟩
  · have hj' : j < d.length := by simpa using hj
    refine ⟨?_, ?_⟩
    · rw [World.cell?, hg]
      simp only [Option.isSome_none, Bool.false_eq_true, if_false, Nat.zero_add]
      rw [hcell j hj', getElem!_pos d.toArray j hj]
      simp
    · rw [World.frozen?, hg]; simp
  · show w.drawn ≤ w.drawn + n; omega
  · unfold sortWorld grow; simp
  · intro k hk hM
    refine sortWorld_other enc w g0 n k d' os ?_ hk
    rintro rfl
    exact hM ⟨_, List.mem_append_right _ (List.mem_singleton_self _), by rw [row_key, hv]; rfl⟩
  · exact fun k o hk => hle n os d' k o hk
  · intro E hE
    rw [List.mem_singleton.1 hE]
    refine row_ok.2 ⟨by simp [hsz], .inr ⟨g0, cap, putCells enc 0 d' cur, hv, Nat.zero_le _, sortWorld_self enc w g0 n d' os hg, hnc, hcm, by simp [putCells, hcs], ?_⟩⟩
    apply List.ext_getElem?
    intro i
    simp only [putCells, List.getElem?_take, Array.getElem?_toList, Array.getElem?_mapIdx, List.getElem?_map]
    by_cases hi : i < d.length
    · have hi' : i < d'.size := by omega
      rw [if_pos (by omega), hcell i hi]
      simp only [Option.map_some, Nat.zero_le, true_and, Nat.zero_add, Nat.sub_zero]
      rw [if_pos hi', getElem!_pos d' i hi', Array.getElem?_eq_getElem hi']
      rfl
    · rw [if_neg (by omega), Array.getElem?_eq_none (by omega)]; rfl
  · intro E hE b hb
    rw [List.mem_singleton.1 hE] at hb
    have hb' : b = g0 := by rw [row_key, hv] at hb; simp [Value.ownBlock] at hb; exact hb.symm
    exact ⟨hb' ▸ hρ, .inr ⟨_, List.mem_append_right _ (List.mem_singleton_self _), by rw [row_key, hv, hb']; rfl⟩⟩
theorem Start.stays {ds : List Dat} {E : Ent} {w : World} {ρ : Ro} (st : Start (ds.map dat ++ [E]) ρ w) : Mm ⟨w, ρ, owns (ds.map dat ++ [E])⟩ [E] w := Mm.mk (MmR.perm st List.perm_append_comm).left

theorem sortFunc_spec (L : SlLaysF.n6 P ρr) (enc : α → Value) (h1 : OneCell enc) (cf : α → α → Int) (hO : SWO (ltOf cf)) (g : Nat) (cb : Array Value)
    (eg : ∀ args w, (callFunc g args).run P w = .ok (.enter g args) w) (ds : List Dat) (hcl : ∀ x y, FnV P g (#[enc x, enc y] ++ cb) ds (.int .i64 (cf x y))) (v : Value) (e : TypeId) (d : List α) (hlen : d.length < 4611686018427387904) :
    FnH P (ρr.f 6) #[v, .func (.func g) #[] cb] (ds.map dat ++ [row v e 1 d.length (d.map enc)])
      (fun u H' => u = .tuple #[] ∧ ∃ d' : List α, d'.Perm d ∧ d'.Pairwise (fun a b => ltOf cf b a = false) ∧ H' = [row v e 1 d.length (d'.map enc)]) := by
  intro w ρ st
  have hrow := row_ok.1 (st.ents _ (List.mem_append_right _ (List.mem_singleton_self _)))
  have hfacts : ∀ x ∈ ds, x.f ρ := fun x hx => dat_ok.1 (st.ents _ (List.mem_append_left _ (List.mem_map_of_mem hx)))
  have none : ∀ (p : Option Addr) (cap : Nat), v = .slice p 0 cap → d = [] → Calls P (ρr.f 6) #[v, .func (.func g) #[] cb] w fun e_1 w' => ∃ v_1 H', e_1 = .returned v_1 ∧
      (v_1 = .tuple #[] ∧ ∃ d' : List α, d'.Perm d ∧ d'.Pairwise (fun a b => ltOf cf b a = false) ∧ H' = [row v e 1 d.length (d'.map enc)]) ∧ Mm ⟨w, ρ, owns (ds.map dat ++ [row v e 1 d.length (d.map enc)])⟩ H' w' := by
    intro p cap hv hd0
    have hc := AnyF.slices_SortFunc_none (P := P) (ρ := ρr) { L with } p cap (.func (.func g) #[] cb) w
    rw [← hv] at hc
    refine hc.mono ?_
    rintro e' w' ⟨rfl, rfl⟩
    exact ⟨_, _, rfl, ⟨rfl, d, .refl _, (by rw [hd0]; exact .nil), rfl⟩, st.stays⟩
  rcases hrow.2 with ⟨hv, hn⟩ | ⟨g0, cap, cur, hv, _, hg, hnc, hcm, hcs, htk⟩
  · exact none _ _ hv (List.eq_nil_of_length_eq_zero hn)
  · by_cases hz : d.length = 0
    · rw [hz] at hv; exact none _ _ hv (List.eq_nil_of_length_eq_zero hz)
    · obtain ⟨hH, hblk, hle, hend⟩ := Start.sorted st hv hg hnc hcm hcs htk
      have hcmp : CmpLays1 P g cb enc cf g0 0 d.toArray.size w := fun m os dk _ x y => (hcl x y).grows fun x hx => x.mono _ _ (hle m os dk) (hfacts x hx)
      have main := Any.slices_SortFunc L enc h1 cf hO g cb g0 0 cap d.toArray w eg hcmp hH hblk (by simpa using hlen)
      have hv' : v = .slice (some ⟨g0, 0, Option.none⟩) d.toArray.size cap := by rw [hv]; simp
      rw [← hv'] at main
      refine main.mono ?_
      rintro e' w' ⟨rfl, d', n, os, ⟨hs, _, hp⟩, hsort, rfl⟩
      have hsz : d'.size = d.length := by simpa using hs
      have hperm : d'.toList.Perm d := by
        have e1 : d'.extract 0 d.toArray.size = d' := by rw [← hs]; simp
        have e2 : d.toArray.extract 0 d.toArray.size = d.toArray := by simp
        rw [e1, e2] at hp
        simpa using hp
      refine ⟨_, _, rfl, ⟨rfl, d'.toList, hperm, ?_, rfl⟩, hend n d' os hsz⟩
      rw [List.pairwise_iff_getElem]
      intro i j hi hj hij
      have hi' : i < d'.size := by simpa using hi
      have hj' : j < d'.size := by simpa using hj
      have := hsort i j (Nat.zero_le _) hij (by rw [← hs]; exact hj')
      rw [getElem!_pos d' i hi', getElem!_pos d' j hj'] at this
      simpa using this
end
end Go.J
