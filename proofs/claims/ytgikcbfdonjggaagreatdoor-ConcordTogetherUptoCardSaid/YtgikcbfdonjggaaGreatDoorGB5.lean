/-
  Several texts in one: YtgikcbfdonjggaaGreatDoorC6, YtgikcbfdonjggaaGreatDoorC7, YtgikcbfdonjggaaGreatDoorC8, YtgikcbfdonjggaaGreatDoorC9, YtgikcbfdonjggaaGreatDoorC10.
  Conditions: none.
-/
import Derived.Test.YtgikcbfdonjggaaGreatDoorGB4
import Derived.Test.YtgikcbfdonjggaaGreatDoorGB2
/-
  (YtgikcbfdonjggaaGreatDoorC6)
  The walks of listing the places of a part with what stands around it; of the reference's list.
  Conditions: none beyond the sizes.
-/
set_option maxRecDepth 20000
set_option linter.unusedSimpArgs false
set_option linter.unusedVariables false
namespace Go.Proofs.YtgikcbfdonjggaaGreatDoor
open Go Go.J

/-- a place of a part, with what stands around it -/
structure Hd where
  s : Nat
  a : Nat
  l : List Str
  r : List Str
  deriving DecidableEq
def hR4 : Rp (Nat × Nat × OneV × OneV) := ⟨4, by decide, fun x => [iv (x.1 : Nat), iv (x.2.1 : Nat), x.2.2.1.1, x.2.2.2.1], fun _ => True, fun _ => rfl, fun x u h => by
  simp at h; rcases h with rfl | rfl | rfl | rfl
  · rfl
  · rfl
  · exact x.2.2.1.2
  · exact x.2.2.2.2⟩
instance (x : Nat × Nat × OneV × OneV) : Cel hR4 x [iv (x.1 : Nat), iv (x.2.1 : Nat), x.2.2.1.1, x.2.2.2.1] := ⟨rfl⟩
def hdR (x : Hd) (u : OneV × OneV) : Nat × Nat × OneV × OneV := (x.s, x.a, u.1, u.2)
abbrev hslL (v : Value) (xs : List Hd) (uws : List (OneV × OneV)) : List Dat := [sl hR4 v (List.zipWith hdR xs uws), ptw strR (uws.map Prod.fst) (xs.map Hd.l), ptw strR (uws.map Prod.snd) (xs.map Hd.r)]
/-- v reads as these places -/
def hsl (v : Value) (xs : List Hd) : Dat := ⟨fun ρ => ∃ uws : List (OneV × OneV), uws.length = xs.length ∧ ∀ d ∈ hslL v xs uws, d.f ρ, fun ρ ρ' h ⟨uws, h1, h2⟩ => ⟨uws, h1, fun d hd => d.mono _ _ h (h2 d hd)⟩⟩
theorem St.openH {n : Nat} {F : Fr} {c : Ctx} {H : List Ent} {T : Act → World → Prop} (v : Value) (xs : List Hd) [hd : InD (hsl v xs) H]
    (k : ∀ uws : List (OneV × OneV), uws.length = xs.length → St n F (Mm c (dat (sl hR4 v (List.zipWith hdR xs uws)) :: dat (ptw strR (uws.map Prod.fst) (xs.map Hd.l)) :: dat (ptw strR (uws.map Prod.snd) (xs.map Hd.r)) :: H)) T) : St n F (Mm c H) T := by
  intro a w ha hw
  obtain ⟨ρ, hm⟩ := hw.out
  obtain ⟨uws, h1, h2⟩ := dat_ok.1 (hm.ents _ hd.mem)
  exact k uws h1 a w ha (Mm.mk (hm.dats (hslL v xs uws) h2))
theorem St.mkH {n : Nat} {F : Fr} {c : Ctx} {H : List Ent} {T : Act → World → Prop} (v : Value) (xs : List Hd) (uws : List (OneV × OneV)) (hl : uws.length = xs.length) [h1 : InD (sl hR4 v (List.zipWith hdR xs uws)) H] [h2 : InD (ptw strR (uws.map Prod.fst) (xs.map Hd.l)) H] [h3 : InD (ptw strR (uws.map Prod.snd) (xs.map Hd.r)) H]
    (k : St n F (Mm c (dat (hsl v xs) :: H)) T) : St n F (Mm c H) T :=
  St.fact (hsl v xs) (fun ρ w hm => ⟨uws, hl, fun d hd => by
    simp only [hslL, List.mem_cons, List.not_mem_nil, or_false] at hd
    rcases hd with rfl | rfl | rfl
    · exact dat_ok.1 (hm.ents _ h1.mem)
    · exact dat_ok.1 (hm.ents _ h2.mem)
    · exact dat_ok.1 (hm.ents _ h3.mem)⟩) k
theorem zip_get {xs : List Hd} {uws : List (OneV × OneV)} {k : Nat} {x : Hd} {u : OneV × OneV} (hx : xs[k]? = some x) (hu : uws[k]? = some u) : (List.zipWith hdR xs uws)[k]? = some (hdR x u) := by
  rw [List.getElem?_zipWith, hx, hu]
theorem zip_snoc {xs : List Hd} {uws : List (OneV × OneV)} (hl : uws.length = xs.length) (x : Hd) (u : OneV × OneV) : List.zipWith hdR (xs ++ [x]) (uws ++ [u]) = List.zipWith hdR xs uws ++ [hdR x u] := by
  rw [List.zipWith_append hl.symm]
  rfl
theorem zip_len {xs : List Hd} {uws : List (OneV × OneV)} (hl : uws.length = xs.length) : (List.zipWith hdR xs uws).length = xs.length := by rw [List.length_zipWith]; omega
/-- the words ahead of place k, the last w of them, as far as place m; those from place t on -/
def lfw (s : List Str) (k w m : Nat) : List Str := (s.drop (k - w)).take (min m k - (k - w))
def rgw (s : List Str) (t w m : Nat) : List Str := (s.drop t).take (min m (t + w) - t)
theorem dt_snoc {s : List Str} {d n m : Nat} {x : Str} (hx : s[m]? = some x) (h : m = d + n) : (s.drop d).take (n + 1) = (s.drop d).take n ++ [x] := by
  have : (s.drop d)[n]? = some x := by rw [List.getElem?_drop, ← h]; exact hx
  exact take_of_some this
theorem lfw_t {s : List Str} {k w m : Nat} {x : Str} (hx : s[m]? = some x) (h1 : m < k) (h2 : k ≤ m + w) : lfw s k w (m + 1) = lfw s k w m ++ [x] := by
  unfold lfw
  rw [show min (m + 1) k - (k - w) = (min m k - (k - w)) + 1 by omega]
  exact dt_snoc hx (by omega)
theorem lfw_f {s : List Str} {k w m : Nat} (h : ¬ (m < k ∧ k ≤ m + w)) : lfw s k w (m + 1) = lfw s k w m := by
  unfold lfw
  rw [show min (m + 1) k - (k - w) = min m k - (k - w) by omega]
theorem rgw_t {s : List Str} {t w m : Nat} {x : Str} (hx : s[m]? = some x) (h1 : t ≤ m) (h2 : m < t + w) : rgw s t w (m + 1) = rgw s t w m ++ [x] := by
  unfold rgw
  rw [show min (m + 1) (t + w) - t = (min m (t + w) - t) + 1 by omega]
  exact dt_snoc hx (by omega)
theorem rgw_f {s : List Str} {t w m : Nat} (h : ¬ (t ≤ m ∧ m < t + w)) : rgw s t w (m + 1) = rgw s t w m := by
  unfold rgw
  rw [show min (m + 1) (t + w) - t = min m (t + w) - t by omega]
theorem lfw_len (s : List Str) (k w m : Nat) : (lfw s k w m).length ≤ s.length := by unfold lfw; rw [List.length_take, List.length_drop]; omega
theorem rgw_len (s : List Str) (k w m : Nat) : (rgw s k w m).length ≤ s.length := by unfold rgw; rw [List.length_take, List.length_drop]; omega
theorem lfw_zero (s : List Str) (k w : Nat) : lfw s k w 0 = [] := by unfold lfw; rw [show min 0 k - (k - w) = 0 by omega]; rfl
theorem rgw_zero (s : List Str) (k w : Nat) : rgw s k w 0 = [] := by unfold rgw; rw [show min 0 (k + w) - k = 0 by omega]; rfl
theorem lfw_end {s : List Str} {k w : Nat} (h : k ≤ s.length) : lfw s k w s.length = (s.drop (k - w)).take (k - (k - w)) := by unfold lfw; rw [Nat.min_eq_right h]
theorem lfw_mem {s : List Str} {k w m : Nat} {x : Str} (h : x ∈ lfw s k w m) : x ∈ s := List.mem_of_mem_drop (List.mem_of_mem_take h)
theorem rgw_mem {s : List Str} {k w m : Nat} {x : Str} (h : x ∈ rgw s k w m) : x ∈ s := List.mem_of_mem_drop (List.mem_of_mem_take h)
def mkH (l : List (List Str)) (p : List Str) (w : Nat) (h : Nat × Nat) : Hd := ⟨h.1, h.2, lfw (l.getD h.1 []) h.2 w (l.getD h.1 []).length, rgw (l.getD h.1 []) (h.2 + p.length) w (l.getD h.1 []).length⟩
/-- the places of a part, with what stands around them -/
def hitsW (l : List (List Str)) (p : List Str) (w : Nat) : List Hd := (hitsOf l p).map (mkH l p w)

set_option maxHeartbeats 2000000 in
theorem sameHits_spec (v0 v1 : Value) (a b : List Hd) : FnV Tryz.prog 17 #[v0, v1] [hsl v0 a, hsl v1 b] (.bool (decide (a = b))) := by
  refine FnV.body2 (args := [v0, v1]) 69 Tryz.func17 rfl Tryz.ntmps17 rfl (fun c => ?_)
  refine St.seq ?_
  refine St.openH v0 a (fun us hus => ?_)
  refine St.openH v1 b (fun ws hws => ?_)
  have hza := zip_len hus
  have hzb := zip_len hws
  refine St.wf v0 (fun hwf0 hlen0 => ?_)
  refine St.wf v1 (fun hwf1 hlen1 => ?_)
  refine St.rg ?_
  refine St.ev _ (Ev.assign (Opd.mk rfl)) rfl ?_
  refine St.nil ?_
  refine St.then_normal ?_
  refine St.seq ?_
  refine St.seq ?_
  refine St.rg ?_
  refine St.ev _ (Ev.move (Opd.mk rfl)) rfl ?_
  refine St.ev _ (Ev.lensl (Opd.mk rfl) Tryz.underlying36) rfl ?_
  refine St.ev _ (Ev.move (Opd.mk rfl)) rfl ?_
  refine St.ev _ (Ev.lensl (Opd.mk rfl) Tryz.underlying36) rfl ?_
  refine St.ev _ (Ev.neq (Opd.mk rfl) (Opd.mk rfl)) rfl ?_
  refine St.nil ?_
  refine St.then_normal ?_
  refine St.cond _ rfl (fun h10 => ?_) (fun h10 => ?_)
  · skip
    try simp only [Bool.and_true, Bool.true_and, decide_eq_true_eq, decide_eq_false_iff_not, Bool.and_eq_true, Bool.or_eq_true, Bool.and_eq_false_iff, Bool.or_eq_false_iff, Bool.not_eq_true', Bool.not_eq_false', beq_iff_eq, beq_eq_false_iff_ne, Int.not_lt, Int.not_le] at h10
    refine St.seq ?_
    refine St.rg ?_
    refine St.ev _ (Ev.assign (Opd.mk rfl)) rfl ?_
    refine St.nil ?_
    refine St.then_normal ?_
    refine St.rett ?_
    refine St.then_ret ?_
    refine St.rets [_] [] Tryz.results17 ⟨rfl, trivial⟩ ?_ (fun _ hw => hw.sub)
    exact be (by rw [eq_comm, decide_eq_false_iff_not]; rintro rfl; omega)
  · skip
    try simp only [Bool.and_true, Bool.true_and, decide_eq_true_eq, decide_eq_false_iff_not, Bool.and_eq_true, Bool.or_eq_true, Bool.and_eq_false_iff, Bool.or_eq_false_iff, Bool.not_eq_true', Bool.not_eq_false', beq_iff_eq, beq_eq_false_iff_ne, Int.not_lt, Int.not_le] at h10
    refine St.skip ?_
    refine St.then_normal ?_
    refine St.seq ?_
    refine St.seq ?_
    refine St.rg ?_
    refine St.ev _ (Ev.assign (Opd.mk rfl)) rfl ?_
    refine St.nil ?_
    refine St.then_normal ?_
    refine St.block ?_
    refine St.loopS (ι := Nat) (fun k T => (5, iv k) :: T) (fun k => k ≤ a.length ∧ a.take k = b.take k) (fun k => a.length - k) 0 (Keep.cons 0 rfl (Keep.cons 1 rfl Keep.nil)) ⟨Nat.zero_le _, rfl⟩ (by repeat (first | exact Sub.nil | refine Sub.cons (by first | rfl | exact congrArg (fun z => some (iv z)) (by first | omega | (dsimp only; omega)) | exact congrArg (fun z => some (Value.bool z)) (by first | assumption | exact Eq.symm (by assumption))) ?_)) ?_
    intro k hphi
    obtain ⟨hk, hv⟩ := hphi
    refine St.seq ?_
    refine St.seq ?_
    refine St.rg ?_
    refine St.ev _ (Ev.move (Opd.mk rfl)) rfl ?_
    refine St.ev _ (Ev.move (Opd.mk rfl)) rfl ?_
    refine St.ev _ (Ev.lensl (Opd.mk rfl) Tryz.underlying36) rfl ?_
    refine St.ev _ (Ev.lss (Opd.mk rfl) (Opd.mk rfl)) rfl ?_
    refine St.nil ?_
    refine St.then_normal ?_
    refine St.cond _ rfl (fun h14 => ?_) (fun h14 => ?_)
    · skip
      try simp only [Bool.and_true, Bool.true_and, decide_eq_true_eq, decide_eq_false_iff_not, Bool.and_eq_true, Bool.or_eq_true, Bool.and_eq_false_iff, Bool.or_eq_false_iff, Bool.not_eq_true', Bool.not_eq_false', beq_iff_eq, beq_eq_false_iff_ne, Int.not_lt, Int.not_le] at h14
      obtain ⟨x, hx⟩ := some_of_lt (show k < a.length by omega)
      obtain ⟨y, hy⟩ := some_of_lt (show k < b.length by omega)
      obtain ⟨u, hu⟩ := some_of_lt (show k < us.length by omega)
      obtain ⟨w, hw⟩ := some_of_lt (show k < ws.length by omega)
      have hX := zip_get hx hu
      have hY := zip_get hy hw
      refine St.ptw (vs := us.map Prod.fst) (u := u.1) (l := x.l) k (by rw [List.getElem?_map, hu]; rfl) (by rw [List.getElem?_map, hx]; rfl) ?_
      refine St.ptw (vs := us.map Prod.snd) (u := u.2) (l := x.r) k (by rw [List.getElem?_map, hu]; rfl) (by rw [List.getElem?_map, hx]; rfl) ?_
      refine St.ptw (vs := ws.map Prod.fst) (u := w.1) (l := y.l) k (by rw [List.getElem?_map, hw]; rfl) (by rw [List.getElem?_map, hy]; rfl) ?_
      refine St.ptw (vs := ws.map Prod.snd) (u := w.2) (l := y.r) k (by rw [List.getElem?_map, hw]; rfl) (by rw [List.getElem?_map, hy]; rfl) ?_
      have hxy : ((((!decide ((x.s : Int) = y.s)) || !decide ((x.a : Int) = y.a)) || !decide (x.l = y.l)) || !decide (x.r = y.r)) = false ↔ x = y := by
        cases x; cases y; dsimp only; simp only [Bool.or_eq_false_iff, Bool.not_eq_false', decide_eq_true_eq, Hd.mk.injEq, Int.ofNat_inj, and_assoc]
      refine St.skip ?_
      refine St.then_normal ?_
      refine St.seq ?_
      refine St.block ?_
      refine St.seq ?_
      refine St.rq mixed (by kernel_rfl) (Mm.drawn _ _) ?_
      refine Sq.ev _ (Ev.move (Opd.mk rfl)) rfl ?_
      refine Sq.ev _ (Ev.move (Opd.mk rfl)) rfl ?_
      refine Sq.ev _ (Ev.idxaddr (k := k) (Opd.mk rfl) (Opd.mk rfl) Tryz.underlying36 sz44 (by omega) (by omega)) rfl ?_
      refine Sq.ev _ (Ev.fldel (Opd.mk rfl) (by omega) fo44_0) rfl ?_
      refine Sq.ev _ (Ev.ld1 (Opd.mk rfl) hX Tryz.underlying3 trivial rfl) rfl ?_
      refine Sq.ev _ (Ev.move (Opd.mk rfl)) rfl ?_
      refine Sq.ev _ (Ev.move (Opd.mk rfl)) rfl ?_
      refine Sq.ev _ (Ev.idxaddr (k := k) (Opd.mk rfl) (Opd.mk rfl) Tryz.underlying36 sz44 (by omega) (by omega)) rfl ?_
      refine Sq.ev _ (Ev.fldel (Opd.mk rfl) (by omega) fo44_0) rfl ?_
      refine Sq.ev _ (Ev.ld1 (Opd.mk rfl) hY Tryz.underlying3 trivial rfl) rfl ?_
      refine Sq.ev _ (Ev.neq (Opd.mk rfl) (Opd.mk rfl)) rfl ?_
      refine Sq.ev _ (Ev.move (Opd.mk rfl)) rfl ?_
      refine Sq.gf _ rfl rfl (fun hg => Ev.move (Opd.mk rfl)) rfl ?_
      refine Sq.gf _ rfl rfl (fun hg => Ev.move (Opd.mk rfl)) rfl ?_
      refine Sq.gf _ rfl rfl (fun hg => Ev.idxaddr (k := k) (Opd.gv rfl hg) (Opd.gv rfl hg) Tryz.underlying36 sz44 (by omega) (by omega)) rfl ?_
      refine Sq.gf _ rfl rfl (fun hg => Ev.fldel (Opd.gv rfl hg) (by omega) fo44_1) rfl ?_
      refine Sq.gf _ rfl rfl (fun hg => Ev.ld1 (Opd.gv rfl hg) hX Tryz.underlying3 trivial rfl) rfl ?_
      refine Sq.gf _ rfl rfl (fun hg => Ev.move (Opd.mk rfl)) rfl ?_
      refine Sq.gf _ rfl rfl (fun hg => Ev.move (Opd.mk rfl)) rfl ?_
      refine Sq.gf _ rfl rfl (fun hg => Ev.idxaddr (k := k) (Opd.gv rfl hg) (Opd.gv rfl hg) Tryz.underlying36 sz44 (by omega) (by omega)) rfl ?_
      refine Sq.gf _ rfl rfl (fun hg => Ev.fldel (Opd.gv rfl hg) (by omega) fo44_1) rfl ?_
      refine Sq.gf _ rfl rfl (fun hg => Ev.ld1 (Opd.gv rfl hg) hY Tryz.underlying3 trivial rfl) rfl ?_
      refine Sq.gf _ rfl rfl (fun hg => Ev.neq (Opd.gv rfl hg) (Opd.gv rfl hg)) rfl ?_
      refine Sq.ev _ (Ev.or (Opd.mk rfl) (fun hp => Opd.gv rfl hp)) rfl ?_
      refine Sq.ev _ (Ev.move (Opd.mk rfl)) rfl ?_
      refine Sq.gf _ rfl rfl (fun hg => Ev.move (Opd.mk rfl)) rfl ?_
      refine Sq.gf _ rfl rfl (fun hg => Ev.move (Opd.mk rfl)) rfl ?_
      refine Sq.gf _ rfl rfl (fun hg => Ev.idxaddr (k := k) (Opd.gv rfl hg) (Opd.gv rfl hg) Tryz.underlying36 sz44 (by omega) (by omega)) rfl ?_
      refine Sq.gf _ rfl rfl (fun hg => Ev.fldel (Opd.gv rfl hg) (by omega) fo44_2) rfl ?_
      refine Sq.gf _ rfl rfl (fun hg => Ev.ld1 (Opd.gv rfl hg) hX Tryz.underlying23 trivial rfl) rfl ?_
      refine Sq.gf _ rfl rfl (fun hg => Ev.move (Opd.mk rfl)) rfl ?_
      refine Sq.gf _ rfl rfl (fun hg => Ev.move (Opd.mk rfl)) rfl ?_
      refine Sq.gf _ rfl rfl (fun hg => Ev.idxaddr (k := k) (Opd.gv rfl hg) (Opd.gv rfl hg) Tryz.underlying36 sz44 (by omega) (by omega)) rfl ?_
      refine Sq.gf _ rfl rfl (fun hg => Ev.fldel (Opd.gv rfl hg) (by omega) fo44_2) rfl ?_
      refine Sq.gf _ rfl rfl (fun hg => Ev.ld1 (Opd.gv rfl hg) hY Tryz.underlying23 trivial rfl) rfl ?_
      refine Sq.gf _ rfl rfl (fun hg => Ev.call (sameWords_spec u.1.1 w.1.1 x.l y.l) cb18 (Opds.cons (Opd.gv rfl hg) (Opds.cons (Opd.gv rfl hg) Opds.nil))) rfl ?_
      refine Sq.gf _ rfl rfl (fun hg => Ev.not (Opd.gv rfl hg)) rfl ?_
      refine Sq.ev _ (Ev.or (Opd.mk rfl) (fun hp => Opd.gv rfl hp)) rfl ?_
      refine Sq.ev _ (Ev.move (Opd.mk rfl)) rfl ?_
      refine Sq.gf _ rfl rfl (fun hg => Ev.move (Opd.mk rfl)) rfl ?_
      refine Sq.gf _ rfl rfl (fun hg => Ev.move (Opd.mk rfl)) rfl ?_
      refine Sq.gf _ rfl rfl (fun hg => Ev.idxaddr (k := k) (Opd.gv rfl hg) (Opd.gv rfl hg) Tryz.underlying36 sz44 (by omega) (by omega)) rfl ?_
      refine Sq.gf _ rfl rfl (fun hg => Ev.fldel (Opd.gv rfl hg) (by omega) fo44_3) rfl ?_
      refine Sq.gf _ rfl rfl (fun hg => Ev.ld1 (Opd.gv rfl hg) hX Tryz.underlying23 trivial rfl) rfl ?_
      refine Sq.gf _ rfl rfl (fun hg => Ev.move (Opd.mk rfl)) rfl ?_
      refine Sq.gf _ rfl rfl (fun hg => Ev.move (Opd.mk rfl)) rfl ?_
      refine Sq.gf _ rfl rfl (fun hg => Ev.idxaddr (k := k) (Opd.gv rfl hg) (Opd.gv rfl hg) Tryz.underlying36 sz44 (by omega) (by omega)) rfl ?_
      refine Sq.gf _ rfl rfl (fun hg => Ev.fldel (Opd.gv rfl hg) (by omega) fo44_3) rfl ?_
      refine Sq.gf _ rfl rfl (fun hg => Ev.ld1 (Opd.gv rfl hg) hY Tryz.underlying23 trivial rfl) rfl ?_
      refine Sq.gf _ rfl rfl (fun hg => Ev.call (sameWords_spec u.2.1 w.2.1 x.r y.r) cb18 (Opds.cons (Opd.gv rfl hg) (Opds.cons (Opd.gv rfl hg) Opds.nil))) rfl ?_
      refine Sq.gf _ rfl rfl (fun hg => Ev.not (Opd.gv rfl hg)) rfl ?_
      refine Sq.ev _ (Ev.or (Opd.mk rfl) (fun hp => Opd.gv rfl hp)) rfl ?_
      refine Sq.nil ?_
      refine St.then_normal ?_
      refine St.cond _ rfl (fun h68 => ?_) (fun h68 => ?_)
      · skip
        first | change ((((!decide ((x.s : Int) = y.s)) || !decide ((x.a : Int) = y.a)) || !decide (x.l = y.l)) || !decide (x.r = y.r)) = false at h68 | change ((((!decide ((x.s : Int) = y.s)) || !decide ((x.a : Int) = y.a)) || !decide (x.l = y.l)) || !decide (x.r = y.r)) = true at h68
        refine St.seq ?_
        refine St.rg ?_
        refine St.ev _ (Ev.assign (Opd.mk rfl)) rfl ?_
        refine St.nil ?_
        refine St.then_normal ?_
        refine St.rett ?_
        refine St.in_ret ?_
        refine St.then_ret ?_
        refine St.then_ret ?_
        refine St.in_ret ?_
        refine St.then_ret ?_
        refine St.rets [_] [] Tryz.results17 ⟨rfl, trivial⟩ ?_ (fun _ hw => hw.sub)
        exact be (by rw [eq_comm, decide_eq_false_iff_not]; rintro rfl; rw [hx] at hy; simp only [Option.some.injEq] at hy; have q := hxy.2 hy; rw [h68] at q; cases q)
      · skip
        first | change ((((!decide ((x.s : Int) = y.s)) || !decide ((x.a : Int) = y.a)) || !decide (x.l = y.l)) || !decide (x.r = y.r)) = false at h68 | change ((((!decide ((x.s : Int) = y.s)) || !decide ((x.a : Int) = y.a)) || !decide (x.l = y.l)) || !decide (x.r = y.r)) = true at h68
        refine St.skip ?_
        refine St.in_normal ?_
        refine St.then_normal ?_
        refine St.rg ?_
        refine St.ev _ (Ev.move (Opd.mk rfl)) rfl ?_
        refine St.ev _ (Ev.add (Opd.mk rfl) (Opd.mk rfl) (by omega)) rfl ?_
        refine St.ev _ (Ev.assign (Opd.mk rfl)) rfl ?_
        refine St.nil ?_
        refine St.then_normal ?_
        refine St.againS (k + 1) ⟨by omega, by rw [take_of_some hx, take_of_some hy, hv, hxy.1 h68]⟩ (by first | omega | (dsimp only; omega)) (by repeat (first | exact Sub.nil | refine Sub.cons (by first | rfl | exact congrArg (fun z => some (iv z)) (by first | omega | (dsimp only; omega)) | exact congrArg (fun z => some (Value.bool z)) (by first | assumption | exact Eq.symm (by assumption))) ?_)) (fun _ hw => hw.sub)
    · skip
      try simp only [Bool.and_true, Bool.true_and, decide_eq_true_eq, decide_eq_false_iff_not, Bool.and_eq_true, Bool.or_eq_true, Bool.and_eq_false_iff, Bool.or_eq_false_iff, Bool.not_eq_true', Bool.not_eq_false', beq_iff_eq, beq_eq_false_iff_ne, Int.not_lt, Int.not_le] at h14
      refine St.exit ?_
      refine St.then_exit ?_
      refine St.then_exit ?_
      refine St.in_hit ?_
      refine St.then_normal ?_
      refine St.seq ?_
      refine St.rg ?_
      refine St.ev _ (Ev.assign (Opd.mk rfl)) rfl ?_
      refine St.nil ?_
      refine St.then_normal ?_
      refine St.rett ?_
      refine St.rets [_] [] Tryz.results17 ⟨rfl, trivial⟩ ?_ (fun _ hw => hw.sub)
      exact be (by rw [eq_comm, decide_eq_true_eq]; rw [List.take_of_length_le (by omega), List.take_of_length_le (by omega)] at hv; exact hv)

theorem Words_spec (vl vw vp vo vz : Value) (l : List (List Str)) (hc : Corp l) : FnH Tryz.prog 19 #[idxV vl vw vp vo vz] ([idxD vl vw vp vo vz l].map dat) (fun v H' => v.oneCell' = true ∧ H' = [row v 9 1 (wordsOf l).length (rows strR (wordsOf l))]) := by
  refine FnH.body (args := [idxV vl vw vp vo vz]) 6 Tryz.func19 rfl Tryz.ntmps19 rfl (fun c => ?_)
  refine St.seq ?_
  refine St.cast (H' := [dat (idxD vl vw vp vo vz l)]) rfl ?_
  refine St.openD (idxD vl vw vp vo vz l) (fun _ : Unit => idxL vl vw vp vo vz l) (fun ρ h => ⟨(), h⟩) (fun _ => ?_)
  unfold idxL
  refine St.appl ?_
  have hwl := wordsOf_len hc
  refine St.rg ?_
  refine St.boxA (Opd.mk rfl) rfl (fun b1 => ?_)
  refine St.ev _ (Ev.assign (Opd.mk rfl)) rfl ?_
  refine St.nil ?_
  refine St.then_normal ?_
  refine St.seq ?_
  refine St.rg ?_
  refine St.ev _ (Ev.fldb0 (Opd.mk rfl) fo28_1) rfl ?_
  refine St.ev _ (Ev.ldb (Opd.mk rfl) Tryz.underlying23 trivial (by rfl)) rfl ?_
  refine St.calld (CloneW_spec vw (wordsOf l) (by omega)) cb27 (Opds.cons (Opd.mk rfl) Opds.nil) rfl ?_
  rintro v5 _ ⟨h5, rfl⟩
  refine St.app1 ?_
  refine St.ev _ (Ev.assign (Opd.mk rfl)) rfl ?_
  refine St.nil ?_
  refine St.then_normal ?_
  refine St.rett ?_
  refine St.rets [_] [row v5 9 1 (wordsOf l).length (rows strR (wordsOf l))] Tryz.results19 ⟨rfl, trivial⟩ ?_ (fun _ hw => hw.sub)
  exact ⟨h5, rfl⟩

theorem slice_mem {s : List Str} {d n : Nat} {x : Str} (h : x ∈ (s.drop d).take n) : x ∈ s := List.mem_of_mem_drop (List.mem_of_mem_take h)
theorem hw_take (l : List (List Str)) (p : List Str) (w k : Nat) {h : Nat × Nat} (hh : (hitsOf l p)[k]? = some h) : (hitsW l p w).take (k + 1) = (hitsW l p w).take k ++ [mkH l p w h] := by
  refine take_of_some ?_
  unfold hitsW; rw [List.getElem?_map, hh]; rfl
theorem hw_len (l : List (List Str)) (p : List Str) (w : Nat) : (hitsW l p w).length = (hitsOf l p).length := List.length_map _
theorem hw_l {l : List (List Str)} {p : List Str} {w k : Nat} {h : Nat × Nat} (hh : (hitsOf l p)[k]? = some h) : ((hitsW l p w).take k).map Hd.l ++ [(mkH l p w h).l] = ((hitsW l p w).take (k + 1)).map Hd.l := by rw [hw_take l p w k hh]; simp
theorem hw_r {l : List (List Str)} {p : List Str} {w k : Nat} {h : Nat × Nat} (hh : (hitsOf l p)[k]? = some h) : ((hitsW l p w).take k).map Hd.r ++ [(mkH l p w h).r] = ((hitsW l p w).take (k + 1)).map Hd.r := by rw [hw_take l p w k hh]; simp
theorem fst_snoc (uws : List (OneV × OneV)) (a b : OneV) : uws.map Prod.fst ++ [a] = (uws ++ [(a, b)]).map Prod.fst := by simp
theorem snd_snoc (uws : List (OneV × OneV)) (a b : OneV) : uws.map Prod.snd ++ [b] = (uws ++ [(a, b)]).map Prod.snd := by simp
def hitF (p : List Str) (w : Int) : Int × Int := if (partF p).1 ≠ 0 then partF p else if w < 0 ∨ 12 < w then (3, -2) else (0, 0)
def hitL (l : List (List Str)) (p : List Str) (w : Int) : List Hd := if (hitF p w).1 = 0 then hitsW l p w.toNat else []
theorem hitF_1 {p : List Str} {w : Int} (h : (partF p).1 ≠ 0) : hitF p w = partF p := by unfold hitF; rw [if_pos h]
theorem hitF_2 {p : List Str} {w : Int} (h : (partF p).1 = 0) (h2 : w < 0 ∨ 12 < w) : hitF p w = (3, -2) := by unfold hitF; rw [if_neg (by omega), if_pos h2]
theorem hitF_3 {p : List Str} {w : Int} (h : (partF p).1 = 0) (h2 : 0 ≤ w ∧ w ≤ 12) : hitF p w = (0, 0) := by unfold hitF; rw [if_neg (by omega), if_neg (by omega)]
theorem hitL_t {l : List (List Str)} {p : List Str} {w : Int} (h : (hitF p w).1 = 0) : hitL l p w = hitsW l p w.toNat := by unfold hitL; rw [if_pos h]
theorem hitL_f {l : List (List Str)} {p : List Str} {w : Int} (h : (hitF p w).1 ≠ 0) : hitL l p w = [] := by unfold hitL; rw [if_neg h]
theorem hsl_nil (ρ : Ro) : (hsl (.slice none 0 0) []).f ρ := ⟨[], rfl, fun d hd => by
  simp only [hslL, List.mem_cons, List.not_mem_nil, or_false] at hd
  rcases hd with rfl | rfl | rfl
  · exact sl_nil _ _
  · intro i u l h; simp at h
  · intro i u l h; simp at h⟩
theorem rowsH4_snoc {X : List Hd} {uws : List (OneV × OneV)} (hl : uws.length = X.length) {Y : List Hd} {x : Hd} {u : OneV × OneV} (h : Y = X ++ [x]) : rows hR4 (List.zipWith hdR X uws) ++ [iv (x.s : Nat), iv (x.a : Nat), u.1.1, u.2.1] = rows hR4 (List.zipWith hdR Y (uws ++ [u])) := by
  rw [h, zip_snoc hl, rows_snoc]; rfl

set_option maxHeartbeats 4000000 in
theorem Hits_spec (vl vw vp vo vz v1 : Value) (l : List (List Str)) (p : List Str) (w : Int) (hc : Corp l) : FnW Tryz.prog 14 #[idxV vl vw vp vo vz, v1, iv w] ([idxD vl vw vp vo vz l, sl strR v1 p, u8].map dat) (fun u H' => ∃ u0, u = .tuple #[u0, fv (hitF p w)] ∧ u0.oneCell' = true ∧ H' = [dat (hsl u0 (hitL l p w))]) := by
  refine FnW.body (args := [idxV vl vw vp vo vz, v1, iv w]) 80 Tryz.func14 rfl Tryz.ntmps14 rfl (fun c hdr => ?_)
  refine St.seq ?_
  refine St.cast (H' := [dat (idxD vl vw vp vo vz l), dat (sl strR v1 p), dat u8]) rfl ?_
  refine St.rg ?_
  refine St.boxA (Opd.mk rfl) rfl (fun b3 => ?_)
  refine St.ev _ (Ev.assign (Opd.mk rfl)) rfl ?_
  refine St.alloc zc30 rfl (fun b7 => ?_)
  refine St.nil ?_
  refine St.then_normal ?_
  refine St.seq ?_
  refine St.rg ?_
  refine St.ev _ (Ev.ldbA (Opd.mk rfl) Tryz.underlying28 trivial (by exact sz28)) rfl ?_
  refine St.ev _ (Ev.move (Opd.mk rfl)) rfl ?_
  refine St.calldW hdr (find_spec vl vw vp vo vz v1 l p hc) cb33 (Opds.cons (Opd.mk rfl) (Opds.cons (Opd.mk rfl) Opds.nil)) rfl ?_
  rintro v18 _ ⟨uf, rfl, huf, rfl⟩
  refine St.app1 ?_
  refine St.openD (idxD vl vw vp vo vz l) (fun _ : Unit => idxL vl vw vp vo vz l) (fun ρ h => ⟨(), h⟩) (fun _ => ?_)
  unfold idxL
  refine St.appl ?_
  refine St.ev _ (Ev.move (Opd.mk rfl)) rfl ?_
  refine St.ev _ (Ev.extract (Opd.mk rfl) rfl) rfl ?_
  refine St.ev _ (Ev.extract (Opd.mk rfl) rfl) rfl ?_
  refine St.alloc zc30 rfl (fun b9 => ?_)
  refine St.ev _ (Ev.assign (Opd.mk rfl)) rfl ?_
  refine St.storeA (Opd.mk rfl) (Opd.mk rfl) sz30 (by first | simp only [List.length_cons, List.length_nil] | rfl) rfl ?_
  refine St.nil ?_
  refine St.then_normal ?_
  refine St.seq ?_
  refine St.seq ?_
  refine St.rg ?_
  refine St.ev _ (Ev.fldb0 (Opd.mk rfl) fo30_0) rfl ?_
  refine St.ev _ (Ev.ldb (Opd.mk rfl) Tryz.underlying3 trivial (by rfl)) rfl ?_
  refine St.ev _ (Ev.neq (Opd.mk rfl) (Opd.mk rfl)) rfl ?_
  refine St.nil ?_
  refine St.then_normal ?_
  refine St.cond _ rfl (fun h23 => ?_) (fun h23 => ?_)
  · skip
    try simp only [Bool.and_true, Bool.true_and, decide_eq_true_eq, decide_eq_false_iff_not, Bool.and_eq_true, Bool.or_eq_true, Bool.and_eq_false_iff, Bool.or_eq_false_iff, Bool.not_eq_true', Bool.not_eq_false', beq_iff_eq, beq_eq_false_iff_ne, Int.not_lt, Int.not_le] at h23
    refine St.seq ?_
    refine St.par [b7] mixed ?_
    refine SW.defer 0 (by repeat (first | refine NP.then ?_ | refine NP.inBlock ?_ | exact NP.body)) (by kernel_rfl) rfl (fun R => Ev.ldbA (Opd.mk rfl) Tryz.underlying30 trivial (by exact sz30)) (by kernel_rfl) rfl ?_
    refine SW.defer 1 (by repeat (first | refine NP.then ?_ | refine NP.inBlock ?_ | exact NP.body)) (by kernel_rfl) rfl (fun R => Ev.assign (Opd.mk rfl)) (by kernel_rfl) rfl ?_
    refine SW.turn1 (i := 2) (by kernel_rfl) rfl ?_
    refine St.storeA (Opd.mk rfl) (Opd.mk rfl) sz30 (by first | simp only [List.length_cons, List.length_nil] | rfl) rfl ?_
    refine St.nil ?_
    refine St.then_normal ?_
    refine SW.go ?_
    refine SW.done (by kernel_rfl) ?_
    refine St.then_normal ?_
    refine St.rett ?_
    refine St.then_ret ?_
    refine St.fact _ (fun ρ _ _ => hsl_nil ρ) ?_
    refine St.rets [_, _] [dat (hsl (.slice none 0 0) [])] Tryz.results14 ⟨rfl, ⟨⟨_, _, _, _, rfl, InB.mem, .inl ⟨⟨_, Tryz.underlying30⟩, sz30, rfl⟩⟩, trivial⟩⟩ ?_ (fun _ hw => hw.sub)
    rw [hitL_f (by rw [hitF_1 h23]; exact h23), hitF_1 h23]; exact ⟨_, rfl, rfl, rfl⟩
  · skip
    try simp only [Bool.and_true, Bool.true_and, decide_eq_true_eq, decide_eq_false_iff_not, Bool.and_eq_true, Bool.or_eq_true, Bool.and_eq_false_iff, Bool.or_eq_false_iff, Bool.not_eq_true', Bool.not_eq_false', beq_iff_eq, beq_eq_false_iff_ne, Int.not_lt, Int.not_le] at h23
    have hpz := (partF_ok (p := p) (by omega)).1
    obtain ⟨hp0, hp12, _⟩ := (partF_ok (p := p) (by omega)).2
    rw [fnH_t (by rw [hpz])]
    have hhl := hits_len hc p
    refine St.skip ?_
    refine St.then_normal ?_
    refine St.seq ?_
    refine St.seq ?_
    refine St.rg ?_
    refine St.ev _ (Ev.move (Opd.mk rfl)) rfl ?_
    refine St.ev _ (Ev.lss (Opd.mk rfl) (Opd.mk rfl)) rfl ?_
    refine St.ev _ (Ev.move (Opd.mk rfl)) rfl ?_
    refine St.gf _ rfl rfl (fun hg => Ev.move (Opd.mk rfl)) rfl ?_
    refine St.gf _ rfl rfl (fun hg => Ev.gtr (Opd.gv rfl hg) (Opd.mk rfl)) rfl ?_
    refine St.ev _ (Ev.or (Opd.mk rfl) (fun hp => Opd.gv rfl hp)) rfl ?_
    refine St.nil ?_
    refine St.then_normal ?_
    refine St.cond _ rfl (fun h30 => ?_) (fun h30 => ?_)
    · skip
      try simp only [Bool.and_true, Bool.true_and, decide_eq_true_eq, decide_eq_false_iff_not, Bool.and_eq_true, Bool.or_eq_true, Bool.and_eq_false_iff, Bool.or_eq_false_iff, Bool.not_eq_true', Bool.not_eq_false', beq_iff_eq, beq_eq_false_iff_ne, Int.not_lt, Int.not_le] at h30
      have hf2 := hitF_2 (p := p) (w := w) (by rw [hpz]) (by omega)
      refine St.seq ?_
      refine St.rg ?_
      refine St.ev _ (Ev.build (ps := [(0, (Operand.const (Value.int IntKind.i64 3))), (1, (Operand.const (Value.int IntKind.i64 (-2))))]) (Opds.cons (Opd.mk rfl) (Opds.cons (Opd.mk rfl) Opds.nil)) (fun w => bld30_0_1 rfl rfl w)) rfl ?_
      refine St.ev _ (Ev.assign (Opd.mk rfl)) rfl ?_
      refine St.storeA (Opd.mk rfl) (Opd.mk rfl) sz30 (by first | simp only [List.length_cons, List.length_nil] | rfl) rfl ?_
      refine St.nil ?_
      refine St.then_normal ?_
      refine St.rett ?_
      refine St.then_ret ?_
      refine St.fact _ (fun ρ _ _ => hsl_nil ρ) ?_
      refine St.rets [_, _] [dat (hsl (.slice none 0 0) [])] Tryz.results14 ⟨rfl, ⟨⟨_, _, _, _, rfl, InB.mem, .inl ⟨⟨_, Tryz.underlying30⟩, sz30, rfl⟩⟩, trivial⟩⟩ ?_ (fun _ hw => hw.sub)
      rw [hitL_f (by rw [hf2]; decide), hf2]; exact ⟨_, rfl, rfl, rfl⟩
    · skip
      try simp only [Bool.and_true, Bool.true_and, decide_eq_true_eq, decide_eq_false_iff_not, Bool.and_eq_true, Bool.or_eq_true, Bool.and_eq_false_iff, Bool.or_eq_false_iff, Bool.not_eq_true', Bool.not_eq_false', beq_iff_eq, beq_eq_false_iff_ne, Int.not_lt, Int.not_le] at h30
      have hf3 := hitF_3 (p := p) (w := w) (by rw [hpz]) (by omega)
      have hl3 := hitL_t (l := l) (p := p) (w := w) (by rw [hf3])
      have hwl := hw_len l p w.toNat
      refine St.skip ?_
      refine St.then_normal ?_
      refine St.seq ?_
      refine St.rg ?_
      refine St.ev _ (Ev.assign (Opd.mk rfl)) rfl ?_
      refine St.nil ?_
      refine St.then_normal ?_
      refine St.seq ?_
      refine St.seq ?_
      refine St.rg ?_
      refine St.ev _ (Ev.move (Opd.mk rfl)) rfl ?_
      refine St.ev _ (Ev.lensl (Opd.mk rfl) Tryz.underlying26) rfl ?_
      refine St.ev _ (Ev.move (Opd.mk rfl)) rfl ?_
      refine St.nil ?_
      refine St.then_normal ?_
      refine St.block ?_
      refine St.nilrow 44 4 ?_
      refine St.rowEqN (.slice none 0 0) (show _ = (List.zipWith hdR ((hitsW l p w.toNat).take 0) []).length from rfl) (show _ = rows hR4 (List.zipWith hdR ((hitsW l p w.toNat).take 0) []) from rfl) ?_
      refine St.fact (ptw strR (([] : List (OneV × OneV)).map Prod.fst) (((hitsW l p w.toNat).take 0).map Hd.l)) (fun _ _ _ => by intro i u l h; simp at h) ?_
      refine St.fact (ptw strR (([] : List (OneV × OneV)).map Prod.snd) (((hitsW l p w.toNat).take 0).map Hd.r)) (fun _ _ _ => by intro i u l h; simp at h) ?_
      refine St.loopH2 (ι := Nat) (κ := Value × List (OneV × OneV)) (fun k z T => (34, iv k) :: (10, z.1) :: T) (fun k z => [row z.1 44 4 (List.zipWith hdR ((hitsW l p w.toNat).take k) z.2).length (rows hR4 (List.zipWith hdR ((hitsW l p w.toNat).take k) z.2)), dat (ptw strR (z.2.map Prod.fst) (((hitsW l p w.toNat).take k).map Hd.l)), dat (ptw strR (z.2.map Prod.snd) (((hitsW l p w.toNat).take k).map Hd.r)), blk b3 (.cells [vl, vw, vp, vo, vz].toArray 28 (0, 0)), blk b7 (.cells [iv 0, iv 0].toArray 30 (0, 0)), dat (nsl strR vl l), dat (sl strR v1 p), dat (sl hitR uf (hitsOf l p))]) (fun k z => k ≤ (hitsOf l p).length ∧ z.1.oneCell' = true ∧ z.2.length = ((hitsW l p w.toNat).take k).length) (fun k z => (hitsOf l p).length - k) 0 (.slice none 0 0, []) (Keep.cons 1 rfl (Keep.cons 2 rfl (Keep.cons 3 rfl (Keep.cons 6 rfl (Keep.cons 7 rfl (Keep.cons 32 rfl (Keep.cons 33 rfl Keep.nil))))))) ⟨Nat.zero_le _, rfl, rfl⟩ (by repeat (first | exact Sub.nil | refine Sub.cons (by first | rfl | exact congrArg (fun z => some (iv z)) (by first | omega | (dsimp only; omega)) | exact congrArg (fun z => some (Value.bool z)) (by first | assumption | exact Eq.symm (by assumption))) ?_)) (fun _ hw => hw.sub) ?_
      rintro k ⟨v10, uws⟩ ⟨hk, hz1, huw⟩
      dsimp only at hz1 huw ⊢
      have htk : ((hitsW l p w.toNat).take k).length ≤ 1200 := by rw [List.length_take]; omega
      have hzl := zip_len huw
      refine St.seq ?_
      refine St.rg ?_
      refine St.ev _ (Ev.lss (Opd.mk rfl) (Opd.mk rfl)) rfl ?_
      refine St.nil ?_
      refine St.then_normal ?_
      refine St.seq ?_
      refine St.cond _ rfl (fun h35 => ?_) (fun h35 => ?_)
      · skip
        try simp only [Bool.and_true, Bool.true_and, decide_eq_true_eq, decide_eq_false_iff_not, Bool.and_eq_true, Bool.or_eq_true, Bool.and_eq_false_iff, Bool.or_eq_false_iff, Bool.not_eq_true', Bool.not_eq_false', beq_iff_eq, beq_eq_false_iff_ne, Int.not_lt, Int.not_le] at h35
        obtain ⟨h, hh⟩ := some_of_lt (show k < (hitsOf l p).length by omega)
        obtain ⟨s, hs, hsl2, hst⟩ := hitsOf_mem (List.mem_of_getElem? hh)
        have hsta := ((standsAt_iff (by omega)).1 hst).1
        have hs12 := mem_get hc hs
        have hgd := getD_of_some (d := ([] : List Str)) hs
        refine St.openNs vl (fun vs hvl => ?_)
        refine St.ptwWf vs hvl (fun hwfl => ?_)
        have hlt := lt_of_some hs
        obtain ⟨u, hu⟩ := some_of_lt (show h.1 < vs.length by omega)
        refine St.ptw (vs := vs) h.1 hu hs ?_
        have hsw := hwfl s (List.mem_of_getElem? hs)
        have hml : (mkH l p w.toNat h).l = (s.drop (h.2 - w.toNat)).take (h.2 - (h.2 - w.toNat)) := by show lfw _ _ _ _ = _; rw [hgd, lfw_end (by omega)]
        have hmr : (mkH l p w.toNat h).r = (s.drop (h.2 + p.length)).take (min s.length (h.2 + p.length + w.toNat) - (h.2 + p.length)) := by show rgw _ _ _ _ = _; rw [hgd]; rfl
        refine St.skip ?_
        refine St.then_normal ?_
        refine St.seq ?_
        refine St.block ?_
        refine St.seq ?_
        refine St.rg ?_
        refine St.ev _ (Ev.idxaddr (k := k) (Opd.mk rfl) (Opd.mk rfl) Tryz.underlying26 sz67 (by omega) (by omega)) rfl ?_
        refine St.ev _ (Ev.ldA (Opd.mk rfl) hh Tryz.underlying67 trivial sz67 Cel.eq) rfl ?_
        refine St.alloc zc67 rfl (fun b12 => ?_)
        refine St.storeA (Opd.mk rfl) (Opd.mk rfl) sz67 (by first | simp only [List.length_cons, List.length_nil] | rfl) rfl ?_
        refine St.nil ?_
        refine St.then_normal ?_
        refine St.seq ?_
        refine St.rg ?_
        refine St.ev _ (Ev.fldb0 (Opd.mk rfl) fo28_0) rfl ?_
        refine St.ev _ (Ev.ldb (Opd.mk rfl) Tryz.underlying22 trivial (by rfl)) rfl ?_
        refine St.ev _ (Ev.fldb0 (Opd.mk rfl) fo67_0) rfl ?_
        refine St.ev _ (Ev.ldb (Opd.mk rfl) Tryz.underlying3 trivial (by rfl)) rfl ?_
        refine St.ev _ (Ev.idxaddr (k := h.1) (Opd.mk rfl) (Opd.mk rfl) Tryz.underlying22 sz23 (by omega) (by omega)) rfl ?_
        refine St.ev _ (Ev.ld1 (Opd.mk rfl) hu Tryz.underlying23 trivial rfl) rfl ?_
        refine St.ev _ (Ev.assign (Opd.mk rfl)) rfl ?_
        refine St.nil ?_
        refine St.then_normal ?_
        refine St.seq ?_
        refine St.rg ?_
        refine St.ev _ (Ev.fldb0 (Opd.mk rfl) fo67_1) rfl ?_
        refine St.ev _ (Ev.ldb (Opd.mk rfl) Tryz.underlying3 trivial (by rfl)) rfl ?_
        refine St.ev _ (Ev.move (Opd.mk rfl)) rfl ?_
        refine St.ev _ (Ev.lensl (Opd.mk rfl) Tryz.underlying23) rfl ?_
        refine St.ev _ (Ev.add (Opd.mk rfl) (Opd.mk rfl) (by omega)) rfl ?_
        refine St.ev _ (Ev.assign (Opd.mk rfl)) rfl ?_
        refine St.nil ?_
        refine St.then_normal ?_
        refine St.part u.1 (h.2 - w.toNat) h.2 (by omega) (by omega) ?_
        refine St.part u.1 (h.2 + p.length) (min s.length (h.2 + p.length + w.toNat)) (by omega) (by omega) ?_
        rw [show strR.size = 1 from rfl]
        refine St.parL [row v10 44 4 (List.zipWith hdR ((hitsW l p w.toNat).take k) uws).length (rows hR4 (List.zipWith hdR ((hitsW l p w.toNat).take k) uws))] mixed ?_
        refine SW.defer 0 (by repeat (first | refine NP.then ?_ | refine NP.inBlock ?_ | exact NP.body)) (by kernel_rfl) rfl (fun R => Ev.move (Opd.mk rfl)) (by kernel_rfl) rfl ?_
        refine SW.defer 1 (by repeat (first | refine NP.then ?_ | refine NP.inBlock ?_ | exact NP.body)) (by kernel_rfl) rfl (fun R => Ev.fldb0 (Opd.mk rfl) fo67_0) (by kernel_rfl) rfl ?_
        refine SW.defer 2 (by repeat (first | refine NP.then ?_ | refine NP.inBlock ?_ | exact NP.body)) (by kernel_rfl) rfl (fun R => Ev.ldb (Opd.mk rfl) Tryz.underlying3 trivial (by rfl)) (by kernel_rfl) rfl ?_
        refine SW.defer 3 (by repeat (first | refine NP.then ?_ | refine NP.inBlock ?_ | exact NP.body)) (by kernel_rfl) rfl (fun R => Ev.fldb0 (Opd.mk rfl) fo67_1) (by kernel_rfl) rfl ?_
        refine SW.defer 4 (by repeat (first | refine NP.then ?_ | refine NP.inBlock ?_ | exact NP.body)) (by kernel_rfl) rfl (fun R => Ev.ldb (Opd.mk rfl) Tryz.underlying3 trivial (by rfl)) (by kernel_rfl) rfl ?_
        refine SW.defer 5 (by repeat (first | refine NP.then ?_ | refine NP.inBlock ?_ | exact NP.body)) (by kernel_rfl) rfl (fun R => Ev.move (Opd.mk rfl)) (by kernel_rfl) rfl ?_
        refine SW.defer 6 (by repeat (first | refine NP.then ?_ | refine NP.inBlock ?_ | exact NP.body)) (by kernel_rfl) rfl (fun R => Ev.fldb0 (Opd.mk rfl) fo67_1) (by kernel_rfl) rfl ?_
        refine SW.defer 7 (by repeat (first | refine NP.then ?_ | refine NP.inBlock ?_ | exact NP.body)) (by kernel_rfl) rfl (fun R => Ev.ldb (Opd.mk rfl) Tryz.underlying3 trivial (by rfl)) (by kernel_rfl) rfl ?_
        refine SW.defer 8 (by repeat (first | refine NP.then ?_ | refine NP.inBlock ?_ | exact NP.body)) (by kernel_rfl) rfl (fun R => Ev.move (Opd.mk rfl)) (by kernel_rfl) rfl ?_
        refine SW.defer 9 (by repeat (first | refine NP.then ?_ | refine NP.inBlock ?_ | exact NP.body)) (by kernel_rfl) rfl (fun R => Ev.sub (Opd.mk rfl) (Opd.mk rfl) (by omega)) (by kernel_rfl) rfl ?_
        refine SW.defer 10 (by repeat (first | refine NP.then ?_ | refine NP.inBlock ?_ | exact NP.body)) (by kernel_rfl) rfl (fun R => Ev.maxI (Opd.mk rfl) (Opd.mk rfl)) (by kernel_rfl) rfl ?_
        refine SW.defer 11 (by repeat (first | refine NP.then ?_ | refine NP.inBlock ?_ | exact NP.body)) (by kernel_rfl) rfl (fun R => Ev.fldb0 (Opd.mk rfl) fo67_1) (by kernel_rfl) rfl ?_
        refine SW.defer 12 (by repeat (first | refine NP.then ?_ | refine NP.inBlock ?_ | exact NP.body)) (by kernel_rfl) rfl (fun R => Ev.ldb (Opd.mk rfl) Tryz.underlying3 trivial (by rfl)) (by kernel_rfl) rfl ?_
        refine SW.defer 13 (by repeat (first | refine NP.then ?_ | refine NP.inBlock ?_ | exact NP.body)) (by kernel_rfl) rfl (fun R => Ev.slicesl (l := (h.2 - w.toNat)) (h := h.2) (Opd.mk rfl) (Opd.mk rfl) (Opd.mk rfl) Tryz.underlying23 sz9 (by omega) (by omega) (by omega) (by omega)) (by kernel_rfl) rfl ?_
        refine SW.defer 15 (by repeat (first | refine NP.then ?_ | refine NP.inBlock ?_ | exact NP.body)) (by kernel_rfl) rfl (fun R => Ev.move (Opd.mk rfl)) (by kernel_rfl) rfl ?_
        refine SW.defer 16 (by repeat (first | refine NP.then ?_ | refine NP.inBlock ?_ | exact NP.body)) (by kernel_rfl) rfl (fun R => Ev.move (Opd.mk rfl)) (by kernel_rfl) rfl ?_
        refine SW.defer 17 (by repeat (first | refine NP.then ?_ | refine NP.inBlock ?_ | exact NP.body)) (by kernel_rfl) rfl (fun R => Ev.move (Opd.mk rfl)) (by kernel_rfl) rfl ?_
        refine SW.defer 18 (by repeat (first | refine NP.then ?_ | refine NP.inBlock ?_ | exact NP.body)) (by kernel_rfl) rfl (fun R => Ev.lensl (Opd.mk rfl) Tryz.underlying23) (by kernel_rfl) rfl ?_
        refine SW.defer 19 (by repeat (first | refine NP.then ?_ | refine NP.inBlock ?_ | exact NP.body)) (by kernel_rfl) rfl (fun R => Ev.move (Opd.mk rfl)) (by kernel_rfl) rfl ?_
        refine SW.defer 20 (by repeat (first | refine NP.then ?_ | refine NP.inBlock ?_ | exact NP.body)) (by kernel_rfl) rfl (fun R => Ev.move (Opd.mk rfl)) (by kernel_rfl) rfl ?_
        refine SW.defer 21 (by repeat (first | refine NP.then ?_ | refine NP.inBlock ?_ | exact NP.body)) (by kernel_rfl) rfl (fun R => Ev.add (Opd.mk rfl) (Opd.mk rfl) (by omega)) (by kernel_rfl) rfl ?_
        refine SW.defer 22 (by repeat (first | refine NP.then ?_ | refine NP.inBlock ?_ | exact NP.body)) (by kernel_rfl) rfl (fun R => Ev.minI (Opd.mk rfl) (Opd.mk rfl)) (by kernel_rfl) rfl ?_
        refine SW.defer 23 (by repeat (first | refine NP.then ?_ | refine NP.inBlock ?_ | exact NP.body)) (by kernel_rfl) rfl (fun R => Ev.slicesl (l := (h.2 + p.length)) (h := (min s.length (h.2 + p.length + w.toNat))) (Opd.mk rfl) (Opd.mk rfl) (Opd.mk rfl) Tryz.underlying23 sz9 (by omega) (by omega) (by omega) (by omega)) (by kernel_rfl) rfl ?_
        refine SW.turn1 (i := 14) (by kernel_rfl) rfl ?_
        refine St.calld (CloneW_spec (slv u.1 1 (h.2 - w.toNat) h.2) ((s.drop (h.2 - w.toNat)).take (h.2 - (h.2 - w.toNat))) (by rw [List.length_take, List.length_drop]; omega)) cb27 (Opds.cons (Opd.mk rfl) Opds.nil) rfl ?_
        rintro v63 _ ⟨h63, rfl⟩
        refine St.app1 ?_
        refine St.publish v63 strR ((mkH l p w.toNat h).l) (by rw [hml]) (by rw [hml]) (by rw [hml]; exact fun x hx => hsw x (slice_mem hx)) ?_
        refine St.nil ?_
        refine St.then_normal ?_
        refine SW.go ?_
        refine SW.turn1 (i := 24) (by kernel_rfl) rfl ?_
        refine St.calld (CloneW_spec (slv u.1 1 (h.2 + p.length) (min s.length (h.2 + p.length + w.toNat))) ((s.drop (h.2 + p.length)).take (min s.length (h.2 + p.length + w.toNat) - (h.2 + p.length))) (by rw [List.length_take, List.length_drop]; omega)) cb27 (Opds.cons (Opd.mk rfl) Opds.nil) rfl ?_
        rintro v73 _ ⟨h73, rfl⟩
        refine St.app1 ?_
        refine St.publish v73 strR ((mkH l p w.toNat h).r) (by rw [hmr]) (by rw [hmr]) (by rw [hmr]; exact fun x hx => hsw x (slice_mem hx)) ?_
        refine St.nil ?_
        refine St.then_normal ?_
        refine SW.go ?_
        refine SW.defer 25 (by repeat (first | refine NP.then ?_ | refine NP.inBlock ?_ | exact NP.body)) (by kernel_rfl) rfl (fun R => Ev.build (ps := [(0, (Operand.tmp 51)), (1, (Operand.tmp 53)), (2, (Operand.tmp 63)), (3, (Operand.tmp 73))]) (Opds.cons (Opd.mk rfl) (Opds.cons (Opd.mk rfl) (Opds.cons (Opd.mk rfl) (Opds.cons (Opd.mk rfl) Opds.nil)))) (fun w => bld44_0_1_2_3 rfl rfl h63 h73 w)) (by kernel_rfl) rfl ?_
        refine SW.turn1 (i := 26) (by kernel_rfl) rfl ?_
        refine St.buildSl (xs := [(Operand.tmp 74)]) (ps := [(0, (Operand.tmp 74))]) rfl (Opds.cons (Opd.mk rfl) Opds.nil) Tryz.underlying36 sz44 zv44 rfl rfl (by simp [Value.cells]) rfl rfl (fun b75 => ?_)
        refine St.nil ?_
        refine St.then_normal ?_
        refine SW.go ?_
        refine SW.turn1 (i := 27) (by kernel_rfl) rfl ?_
        refine St.appendRow (Opd.mk rfl) (Opd.mk rfl) Tryz.underlying36 sz44 zv44 by44 (by intro u hu; simp [Value.cells] at hu; rcases hu with rfl | rfl | rfl | rfl; rfl; rfl; exact h63; exact h73) (by omega) (by omega) rfl rfl rfl rfl (fun v76 hv76 => ?_)
        refine St.rowEqN v76 (show _ = (List.zipWith hdR ((hitsW l p w.toNat).take (k + 1)) (uws ++ [(⟨v63, h63⟩, ⟨v73, h73⟩)])).length by rw [hw_take l p w.toNat k hh, zip_snoc huw]; exact len_snoc) (show _ = rows hR4 (List.zipWith hdR ((hitsW l p w.toNat).take (k + 1)) (uws ++ [(⟨v63, h63⟩, ⟨v73, h73⟩)])) from rowsH4_snoc (x := mkH l p w.toNat h) (u := (⟨v63, h63⟩, ⟨v73, h73⟩)) huw (hw_take l p w.toNat k hh)) ?_
        refine St.rowOne v76 (fun h76 _ => ?_)
        refine St.nil ?_
        refine St.then_normal ?_
        refine SW.go ?_
        refine SW.defer 28 (by repeat (first | refine NP.then ?_ | refine NP.inBlock ?_ | exact NP.body)) (by kernel_rfl) rfl (fun R => Ev.assign (Opd.mk rfl)) (by kernel_rfl) rfl ?_
        refine SW.done (by kernel_rfl) ?_
        refine St.in_normal ?_
        refine St.then_normal ?_
        refine St.rg ?_
        refine St.ev _ (Ev.add (Opd.mk rfl) (Opd.mk rfl) (by omega)) rfl ?_
        refine St.ev _ (Ev.move (Opd.mk rfl)) rfl ?_
        refine St.nil ?_
        refine St.then_normal ?_
        refine St.ptwSnoc (uws.map Prod.fst) ⟨v63, h63⟩ (x := (mkH l p w.toNat h).l) (by rw [List.length_map, List.length_map, huw]) ?_
        refine St.ptwSnoc (uws.map Prod.snd) ⟨v73, h73⟩ (x := (mkH l p w.toNat h).r) (by rw [List.length_map, List.length_map, huw]) ?_
        rw [hw_l hh, hw_r hh, fst_snoc uws ⟨v63, h63⟩ ⟨v73, h73⟩, snd_snoc uws ⟨v63, h63⟩ ⟨v73, h73⟩]
        refine St.againH2 (k + 1) (v76, uws ++ [(⟨v63, h63⟩, ⟨v73, h73⟩)]) ⟨by omega, h76, by rw [hw_take l p w.toNat k hh]; simp [huw]⟩ (by first | omega | (dsimp only; omega)) (by repeat (first | exact Sub.nil | refine Sub.cons (by first | rfl | exact congrArg (fun z => some (iv z)) (by first | omega | (dsimp only; omega)) | exact congrArg (fun z => some (Value.bool z)) (by first | assumption | exact Eq.symm (by assumption))) ?_)) (fun _ hw => hw.sub)
      · skip
        try simp only [Bool.and_true, Bool.true_and, decide_eq_true_eq, decide_eq_false_iff_not, Bool.and_eq_true, Bool.or_eq_true, Bool.and_eq_false_iff, Bool.or_eq_false_iff, Bool.not_eq_true', Bool.not_eq_false', beq_iff_eq, beq_eq_false_iff_ne, Int.not_lt, Int.not_le] at h35
        obtain rfl : k = (hitsOf l p).length := by omega
        rw [← hwl, List.take_length] at huw hzl ⊢
        refine St.exit ?_
        refine St.then_exit ?_
        refine St.then_exit ?_
        refine St.in_hit ?_
        refine St.then_normal ?_
        refine St.seq ?_
        refine St.rg ?_
        refine St.ev _ (Ev.move (Opd.mk rfl)) rfl ?_
        refine St.ev _ (Ev.build (ps := []) (Opds.nil) (fun w => bld30_  w)) rfl ?_
        refine St.ev _ (Ev.assign (Opd.mk rfl)) rfl ?_
        refine St.storeA (Opd.mk rfl) (Opd.mk rfl) sz30 (by first | simp only [List.length_cons, List.length_nil] | rfl) rfl ?_
        refine St.nil ?_
        refine St.then_normal ?_
        refine St.rett ?_
        refine St.publish v10 hR4 (List.zipWith hdR (hitsW l p w.toNat) uws) rfl rfl (fun _ _ => trivial) ?_
        refine St.mkH v10 (hitsW l p w.toNat) uws huw ?_
        refine St.rets [_, _] [dat (hsl v10 (hitsW l p w.toNat))] Tryz.results14 ⟨rfl, ⟨⟨_, _, _, _, rfl, InB.mem, .inl ⟨⟨_, Tryz.underlying30⟩, sz30, rfl⟩⟩, trivial⟩⟩ ?_ (fun _ hw => hw.sub)
        rw [hl3, hf3]; exact ⟨_, rfl, hz1, rfl⟩

end Go.Proofs.YtgikcbfdonjggaaGreatDoor

/-
  (YtgikcbfdonjggaaGreatDoorC7)
  The walk of the reference's list of the places of a part.
  Conditions: none beyond the sizes.
-/
set_option maxRecDepth 20000
set_option linter.unusedSimpArgs false
set_option linter.unusedVariables false
namespace Go.Proofs.YtgikcbfdonjggaaGreatDoor
open Go Go.J

def hitsTo (l : List (List Str)) (p : List Str) (i : Nat) (s : List Str) (k : Nat) : List (Nat × Nat) := hitsOf (l.take i) p ++ ((List.range k).filter fun k => standsAt s k p).map fun k => (i, k)
theorem hitsTo_zero (l : List (List Str)) (p : List Str) (i : Nat) (s : List Str) : hitsTo l p i s 0 = hitsOf (l.take i) p := by simp [hitsTo]
theorem hitsTo_t {l : List (List Str)} {p : List Str} {i : Nat} {s : List Str} {k : Nat} (h : standsAt s k p = true) : hitsTo l p i s (k + 1) = hitsTo l p i s k ++ [(i, k)] := by
  unfold hitsTo; rw [List.range_succ, List.filter_append, List.map_append, List.append_assoc]; simp [h]
theorem hitsTo_f {l : List (List Str)} {p : List Str} {i : Nat} {s : List Str} {k : Nat} (h : standsAt s k p = false) : hitsTo l p i s (k + 1) = hitsTo l p i s k := by
  unfold hitsTo; rw [List.range_succ, List.filter_append]; simp [h]
theorem hitsTo_end {l : List (List Str)} {p : List Str} {i : Nat} {s : List Str} (hs : l[i]? = some s) : hitsTo l p i s s.length = hitsOf (l.take (i + 1)) p := by
  have hi := lt_of_some hs
  rw [take_of_some hs, hitsOf_append]
  have hl : (l.take i).length = i := by rw [List.length_take]; omega
  rw [hl]
  unfold hitsTo
  congr 1
  simp [hitsOf, hitsFrom, hitsIn, List.map_map, Function.comp_def]
theorem hitsTo_len {l : List (List Str)} (h : Corp l) (p : List Str) {i : Nat} {s : List Str} (hs : l[i]? = some s) {k : Nat} (hk : k ≤ 12) : (hitsTo l p i s k).length ≤ 1300 := by
  have h1 : Corp (l.take i) := ⟨by have := h.len; rw [List.length_take]; omega, fun x hx => h.each x (List.mem_of_mem_take hx)⟩
  have h2 := hits_len h1 p
  have h3 := List.length_filter_le (fun k => standsAt s k p) (List.range k)
  rw [List.length_range] at h3
  unfold hitsTo
  rw [List.length_append, List.length_map]
  omega
theorem map_l_snoc {l : List (List Str)} {p : List Str} {w : Nat} {X Y : List (Nat × Nat)} {h : Nat × Nat} (e : Y = X ++ [h]) : (X.map (mkH l p w)).map Hd.l ++ [(mkH l p w h).l] = (Y.map (mkH l p w)).map Hd.l := by rw [e]; simp
theorem map_r_snoc {l : List (List Str)} {p : List Str} {w : Nat} {X Y : List (Nat × Nat)} {h : Nat × Nat} (e : Y = X ++ [h]) : (X.map (mkH l p w)).map Hd.r ++ [(mkH l p w h).r] = (Y.map (mkH l p w)).map Hd.r := by rw [e]; simp
theorem map_h_snoc {l : List (List Str)} {p : List Str} {w : Nat} {X Y : List (Nat × Nat)} {h : Nat × Nat} (e : Y = X ++ [h]) : Y.map (mkH l p w) = X.map (mkH l p w) ++ [mkH l p w h] := by rw [e]; simp
theorem rowsS_snoc {X Y : List Str} {x : Str} (h : Y = X ++ [x]) : rows strR X ++ [sv x] = rows strR Y := by rw [h, rows_snoc]; rfl

set_option maxHeartbeats 4000000 in
theorem PartHits_spec (v0 v1 : Value) (l : List (List Str)) (p : List Str) (w : Nat) (hc : Corp l) (hp : p.length ≤ 12) (hw12 : w ≤ 12) : FnH Tryz.prog 16 #[v0, v1, iv (w : Nat)] ([nsl strR v0 l, sl strR v1 p].map dat) (fun v H' => v.oneCell' = true ∧ H' = [dat (hsl v (hitsW l p w))]) := by
  refine FnH.body (args := [v0, v1, iv (w : Nat)]) 103 Tryz.func16 rfl Tryz.ntmps16 rfl (fun c => ?_)
  refine St.seq ?_
  refine St.cast (H' := [dat (nsl strR v0 l), dat (sl strR v1 p)]) rfl ?_
  refine St.openNs v0 (fun vs hvl => ?_)
  refine St.ptwWf vs hvl (fun hwfl => ?_)
  have hl100 := hc.len
  refine St.rg ?_
  refine St.ev _ (Ev.assign (Opd.mk rfl)) rfl ?_
  refine St.nil ?_
  refine St.then_normal ?_
  refine St.seq ?_
  refine St.rg ?_
  refine St.buildSl (xs := []) (ps := []) rfl (Opds.nil) Tryz.underlying36 sz44 zv44 rfl rfl (by simp [Value.cells]) rfl rfl (fun b12 => ?_)
  refine St.ev _ (Ev.assign (Opd.mk rfl)) rfl ?_
  refine St.nil ?_
  refine St.then_normal ?_
  refine St.seq ?_
  refine St.seq ?_
  refine St.rg ?_
  refine St.ev _ (Ev.assign (Opd.mk rfl)) rfl ?_
  refine St.nil ?_
  refine St.then_normal ?_
  refine St.block ?_
  refine St.rowEqN (.slice (some ⟨b12, 0, none⟩) 0 0) (show _ = (List.zipWith hdR ((hitsOf (l.take 0) p).map (mkH l p w)) []).length from rfl) (show _ = rows hR4 (List.zipWith hdR ((hitsOf (l.take 0) p).map (mkH l p w)) []) from rfl) ?_
  refine St.fact (ptw strR (([] : List (OneV × OneV)).map Prod.fst) (((hitsOf (l.take 0) p).map (mkH l p w)).map Hd.l)) (fun _ _ _ => by intro i u l h; simp at h) ?_
  refine St.fact (ptw strR (([] : List (OneV × OneV)).map Prod.snd) (((hitsOf (l.take 0) p).map (mkH l p w)).map Hd.r)) (fun _ _ _ => by intro i u l h; simp at h) ?_
  refine St.loopH2 (ι := Nat) (κ := Value × List (OneV × OneV)) (fun i z T => (8, iv i) :: (7, z.1) :: T) (fun i z => [row z.1 44 4 (List.zipWith hdR ((hitsOf (l.take i) p).map (mkH l p w)) z.2).length (rows hR4 (List.zipWith hdR ((hitsOf (l.take i) p).map (mkH l p w)) z.2)), dat (ptw strR (z.2.map Prod.fst) (((hitsOf (l.take i) p).map (mkH l p w)).map Hd.l)), dat (ptw strR (z.2.map Prod.snd) (((hitsOf (l.take i) p).map (mkH l p w)).map Hd.r)), dat (sl valR v0 vs), dat (ptw strR vs l), dat (sl strR v1 p)]) (fun i z => i ≤ l.length ∧ z.1.oneCell' = true ∧ z.2.length = ((hitsOf (l.take i) p).map (mkH l p w)).length) (fun i z => l.length - i) 0 (.slice (some ⟨b12, 0, none⟩) 0 0, []) (Keep.cons 0 rfl (Keep.cons 1 rfl (Keep.cons 2 rfl (Keep.cons 6 rfl Keep.nil)))) ⟨Nat.zero_le _, rfl, rfl⟩ (by repeat (first | exact Sub.nil | refine Sub.cons (by first | rfl | exact congrArg (fun z => some (iv z)) (by first | omega | (dsimp only; omega)) | exact congrArg (fun z => some (Value.bool z)) (by first | assumption | exact Eq.symm (by assumption))) ?_)) (fun _ hw => hw.sub) ?_
  rintro i ⟨v7, uws⟩ ⟨hi, hz1, huw⟩
  dsimp only at hz1 huw ⊢
  refine St.seq ?_
  refine St.seq ?_
  refine St.rg ?_
  refine St.ev _ (Ev.move (Opd.mk rfl)) rfl ?_
  refine St.ev _ (Ev.move (Opd.mk rfl)) rfl ?_
  refine St.ev _ (Ev.lensl (Opd.mk rfl) Tryz.underlying22) rfl ?_
  refine St.ev _ (Ev.lss (Opd.mk rfl) (Opd.mk rfl)) rfl ?_
  refine St.nil ?_
  refine St.then_normal ?_
  refine St.cond _ rfl (fun h16 => ?_) (fun h16 => ?_)
  · skip
    try simp only [Bool.and_true, Bool.true_and, decide_eq_true_eq, decide_eq_false_iff_not, Bool.and_eq_true, Bool.or_eq_true, Bool.and_eq_false_iff, Bool.or_eq_false_iff, Bool.not_eq_true', Bool.not_eq_false', beq_iff_eq, beq_eq_false_iff_ne, Int.not_lt, Int.not_le] at h16
    obtain ⟨s, hs⟩ := some_of_lt (show i < l.length by omega)
    obtain ⟨u, hu⟩ := some_of_lt (show i < vs.length by omega)
    refine St.ptw (vs := vs) i hu hs ?_
    have hs12 := mem_get hc hs
    have hsw := hwfl s (List.mem_of_getElem? hs)
    have hgd := getD_of_some (d := ([] : List Str)) hs
    refine St.skip ?_
    refine St.then_normal ?_
    refine St.seq ?_
    refine St.block ?_
    refine St.seq ?_
    refine St.rg ?_
    refine St.ev _ (Ev.assign (Opd.mk rfl)) rfl ?_
    refine St.nil ?_
    refine St.then_normal ?_
    refine St.block ?_
    rw [← hitsTo_zero l p i s] at huw ⊢
    refine St.loopH2 (ι := Nat) (κ := Value × List (OneV × OneV)) (fun k z T => (9, iv k) :: (7, z.1) :: T) (fun k z => [row z.1 44 4 (List.zipWith hdR ((hitsTo l p i s k).map (mkH l p w)) z.2).length (rows hR4 (List.zipWith hdR ((hitsTo l p i s k).map (mkH l p w)) z.2)), dat (ptw strR (z.2.map Prod.fst) (((hitsTo l p i s k).map (mkH l p w)).map Hd.l)), dat (ptw strR (z.2.map Prod.snd) (((hitsTo l p i s k).map (mkH l p w)).map Hd.r)), dat (sl strR u.1 s), dat (sl valR v0 vs), dat (ptw strR vs l), dat (sl strR v1 p)]) (fun k z => k ≤ s.length ∧ z.1.oneCell' = true ∧ z.2.length = ((hitsTo l p i s k).map (mkH l p w)).length) (fun k z => s.length - k) 0 (v7, uws) (Keep.cons 0 rfl (Keep.cons 1 rfl (Keep.cons 2 rfl (Keep.cons 6 rfl (Keep.cons 8 rfl Keep.nil))))) ⟨Nat.zero_le _, hz1, huw⟩ (by repeat (first | exact Sub.nil | refine Sub.cons (by first | rfl | exact congrArg (fun z => some (iv z)) (by first | omega | (dsimp only; omega)) | exact congrArg (fun z => some (Value.bool z)) (by first | assumption | exact Eq.symm (by assumption))) ?_)) (fun _ hw => hw.sub) ?_
    rintro k ⟨v7, uws⟩ ⟨hk, hz1, huw⟩
    dsimp only at hz1 huw ⊢
    have hzl := zip_len huw
    rw [List.length_map] at hzl
    refine St.seq ?_
    refine St.seq ?_
    refine St.rg ?_
    refine St.ev _ (Ev.move (Opd.mk rfl)) rfl ?_
    refine St.ev _ (Ev.move (Opd.mk rfl)) rfl ?_
    refine St.ev _ (Ev.move (Opd.mk rfl)) rfl ?_
    refine St.ev _ (Ev.idxaddr (k := i) (Opd.mk rfl) (Opd.mk rfl) Tryz.underlying22 sz23 (by omega) (by omega)) rfl ?_
    refine St.ev _ (Ev.ld1 (Opd.mk rfl) hu Tryz.underlying23 trivial rfl) rfl ?_
    refine St.ev _ (Ev.lensl (Opd.mk rfl) Tryz.underlying23) rfl ?_
    refine St.ev _ (Ev.lss (Opd.mk rfl) (Opd.mk rfl)) rfl ?_
    refine St.nil ?_
    refine St.then_normal ?_
    refine St.cond _ rfl (fun h25 => ?_) (fun h25 => ?_)
    · skip
      try simp only [Bool.and_true, Bool.true_and, decide_eq_true_eq, decide_eq_false_iff_not, Bool.and_eq_true, Bool.or_eq_true, Bool.and_eq_false_iff, Bool.or_eq_false_iff, Bool.not_eq_true', Bool.not_eq_false', beq_iff_eq, beq_eq_false_iff_ne, Int.not_lt, Int.not_le] at h25
      have hkl : k < s.length := by omega
      have htl := hitsTo_len hc p hs (k := k) (by omega)
      refine St.skip ?_
      refine St.then_normal ?_
      refine St.seq ?_
      refine St.block ?_
      refine St.seq ?_
      refine St.seq ?_
      refine St.rg ?_
      refine St.ev _ (Ev.move (Opd.mk rfl)) rfl ?_
      refine St.ev _ (Ev.move (Opd.mk rfl)) rfl ?_
      refine St.ev _ (Ev.idxaddr (k := i) (Opd.mk rfl) (Opd.mk rfl) Tryz.underlying22 sz23 (by omega) (by omega)) rfl ?_
      refine St.ev _ (Ev.ld1 (Opd.mk rfl) hu Tryz.underlying23 trivial rfl) rfl ?_
      refine St.ev _ (Ev.move (Opd.mk rfl)) rfl ?_
      refine St.ev _ (Ev.move (Opd.mk rfl)) rfl ?_
      refine St.ev _ (Ev.call (PartAt_spec u.1 v1 s p k (by omega) ⟨by omega, by omega⟩) cb25 (Opds.cons (Opd.mk rfl) (Opds.cons (Opd.mk rfl) (Opds.cons (Opd.mk rfl) Opds.nil)))) rfl ?_
      refine St.ev _ (Ev.not (Opd.mk rfl)) rfl ?_
      refine St.nil ?_
      refine St.then_normal ?_
      refine St.cond _ rfl (fun h35 => ?_) (fun h35 => ?_)
      · skip
        simp only [Bool.not_eq_true', Bool.not_eq_false'] at h35
        refine St.exit ?_
        refine St.then_exit ?_
        refine St.in_hit ?_
        refine St.then_normal ?_
        refine St.rg ?_
        refine St.ev _ (Ev.move (Opd.mk rfl)) rfl ?_
        refine St.ev _ (Ev.add (Opd.mk rfl) (Opd.mk rfl) (by omega)) rfl ?_
        refine St.ev _ (Ev.assign (Opd.mk rfl)) rfl ?_
        refine St.nil ?_
        refine St.then_normal ?_
        rw [← hitsTo_f (l := l) (i := i) h35]
        refine St.againH2 (k + 1) (v7, uws) ⟨by omega, hz1, by rw [hitsTo_f h35]; exact huw⟩ (by first | omega | (dsimp only; omega)) (by repeat (first | exact Sub.nil | refine Sub.cons (by first | rfl | exact congrArg (fun z => some (iv z)) (by first | omega | (dsimp only; omega)) | exact congrArg (fun z => some (Value.bool z)) (by first | assumption | exact Eq.symm (by assumption))) ?_)) (fun _ hw => hw.sub)
      · skip
        simp only [Bool.not_eq_true', Bool.not_eq_false'] at h35
        have hst := ((standsAt_iff (by omega)).1 h35).1
        have hml : (mkH l p w (i, k)).l = lfw s k w s.length := by show lfw (l.getD i []) k w (l.getD i []).length = _; rw [hgd]
        have hmr : (mkH l p w (i, k)).r = rgw s (k + p.length) w s.length := by show rgw (l.getD i []) (k + p.length) w (l.getD i []).length = _; rw [hgd]
        refine St.skip ?_
        refine St.then_normal ?_
        refine St.seq ?_
        refine St.rg ?_
        refine St.ev _ (Ev.move (Opd.mk rfl)) rfl ?_
        refine St.ev _ (Ev.move (Opd.mk rfl)) rfl ?_
        refine St.ev _ (Ev.build (ps := [(0, (Operand.tmp 36)), (1, (Operand.tmp 37))]) (Opds.cons (Opd.mk rfl) (Opds.cons (Opd.mk rfl) Opds.nil)) (fun w => bld44_0_1 rfl rfl w)) rfl ?_
        refine St.alloc zc44 rfl (fun b10 => ?_)
        refine St.storeA (Opd.mk rfl) (Opd.mk rfl) sz44 (by first | simp only [List.length_cons, List.length_nil] | rfl) rfl ?_
        refine St.nil ?_
        refine St.then_normal ?_
        refine St.seq ?_
        refine St.seq ?_
        refine St.rg ?_
        refine St.ev _ (Ev.assign (Opd.mk rfl)) rfl ?_
        refine St.nil ?_
        refine St.then_normal ?_
        refine St.block ?_
        refine St.nilrow 9 1 ?_
        refine St.rowEqN (.slice none 0 0) (show _ = (rgw s (k + p.length) w 0).length by rw [rgw_zero]; rfl) (show _ = rows strR (rgw s (k + p.length) w 0) by rw [rgw_zero]; rfl) ?_
        refine St.nilrow 9 1 ?_
        refine St.rowEqN (.slice none 0 0) (show _ = (lfw s k w 0).length by rw [lfw_zero]; rfl) (show _ = rows strR (lfw s k w 0) by rw [lfw_zero]; rfl) ?_
        refine St.loopH2 (ι := Nat) (κ := Value × Value) (fun m z T => (11, iv m) :: T) (fun m z => [blk b10 (.cells [iv (i : Nat), iv (k : Nat), z.1, z.2].toArray 44 (0, 0)), row z.1 9 1 (lfw s k w m).length (rows strR (lfw s k w m)), row z.2 9 1 (rgw s (k + p.length) w m).length (rows strR (rgw s (k + p.length) w m)), row v7 44 4 (List.zipWith hdR ((hitsTo l p i s k).map (mkH l p w)) uws).length (rows hR4 (List.zipWith hdR ((hitsTo l p i s k).map (mkH l p w)) uws)), dat (ptw strR (uws.map Prod.fst) (((hitsTo l p i s k).map (mkH l p w)).map Hd.l)), dat (ptw strR (uws.map Prod.snd) (((hitsTo l p i s k).map (mkH l p w)).map Hd.r)), dat (sl strR u.1 s), dat (sl valR v0 vs), dat (ptw strR vs l), dat (sl strR v1 p)]) (fun m z => m ≤ s.length ∧ z.1.oneCell' = true ∧ z.2.oneCell' = true) (fun m z => s.length - m) 0 (.slice none 0 0, .slice none 0 0) (Keep.cons 0 rfl (Keep.cons 1 rfl (Keep.cons 2 rfl (Keep.cons 6 rfl (Keep.cons 7 rfl (Keep.cons 8 rfl (Keep.cons 9 rfl (Keep.cons 10 rfl Keep.nil)))))))) ⟨Nat.zero_le _, rfl, rfl⟩ (by repeat (first | exact Sub.nil | refine Sub.cons (by first | rfl | exact congrArg (fun z => some (iv z)) (by first | omega | (dsimp only; omega)) | exact congrArg (fun z => some (Value.bool z)) (by first | assumption | exact Eq.symm (by assumption))) ?_)) (fun _ hw => hw.sub) ?_
        rintro m ⟨vL, vR⟩ ⟨hm, hL, hR⟩
        dsimp only at hL hR ⊢
        have hlf := lfw_len s k w m
        have hrg := rgw_len s (k + p.length) w m
        refine St.seq ?_
        refine St.seq ?_
        refine St.rg ?_
        refine St.ev _ (Ev.move (Opd.mk rfl)) rfl ?_
        refine St.ev _ (Ev.move (Opd.mk rfl)) rfl ?_
        refine St.ev _ (Ev.move (Opd.mk rfl)) rfl ?_
        refine St.ev _ (Ev.idxaddr (k := i) (Opd.mk rfl) (Opd.mk rfl) Tryz.underlying22 sz23 (by omega) (by omega)) rfl ?_
        refine St.ev _ (Ev.ld1 (Opd.mk rfl) hu Tryz.underlying23 trivial rfl) rfl ?_
        refine St.ev _ (Ev.lensl (Opd.mk rfl) Tryz.underlying23) rfl ?_
        refine St.ev _ (Ev.lss (Opd.mk rfl) (Opd.mk rfl)) rfl ?_
        refine St.nil ?_
        refine St.then_normal ?_
        refine St.cond _ rfl (fun h45 => ?_) (fun h45 => ?_)
        · skip
          try simp only [Bool.and_true, Bool.true_and, decide_eq_true_eq, decide_eq_false_iff_not, Bool.and_eq_true, Bool.or_eq_true, Bool.and_eq_false_iff, Bool.or_eq_false_iff, Bool.not_eq_true', Bool.not_eq_false', beq_iff_eq, beq_eq_false_iff_ne, Int.not_lt, Int.not_le] at h45
          obtain ⟨x, hx⟩ := some_of_lt (show m < s.length by omega)
          refine St.skip ?_
          refine St.then_normal ?_
          refine St.seq ?_
          refine St.block ?_
          refine St.join (ι := Value) (fun vM T => T) (fun vM => [blk b10 (.cells [iv (i : Nat), iv (k : Nat), vM, vR].toArray 44 (0, 0)), row vM 9 1 (lfw s k w (m + 1)).length (rows strR (lfw s k w (m + 1))), row vR 9 1 (rgw s (k + p.length) w m).length (rows strR (rgw s (k + p.length) w m)), row v7 44 4 (List.zipWith hdR ((hitsTo l p i s k).map (mkH l p w)) uws).length (rows hR4 (List.zipWith hdR ((hitsTo l p i s k).map (mkH l p w)) uws)), dat (ptw strR (uws.map Prod.fst) (((hitsTo l p i s k).map (mkH l p w)).map Hd.l)), dat (ptw strR (uws.map Prod.snd) (((hitsTo l p i s k).map (mkH l p w)).map Hd.r)), dat (sl strR u.1 s), dat (sl valR v0 vs), dat (ptw strR vs l), dat (sl strR v1 p)]) (fun vM => vM.oneCell' = true) (Keep.cons 0 rfl (Keep.cons 1 rfl (Keep.cons 2 rfl (Keep.cons 6 rfl (Keep.cons 7 rfl (Keep.cons 8 rfl (Keep.cons 9 rfl (Keep.cons 10 rfl (Keep.cons 11 rfl Keep.nil))))))))) ?_ ?_
          · skip
            refine St.seq ?_
            refine St.rg ?_
            refine St.ev _ (Ev.move (Opd.mk rfl)) rfl ?_
            refine St.ev _ (Ev.move (Opd.mk rfl)) rfl ?_
            refine St.ev _ (Ev.lss (Opd.mk rfl) (Opd.mk rfl)) rfl ?_
            refine St.ev _ (Ev.move (Opd.mk rfl)) rfl ?_
            refine St.gt _ rfl rfl (fun hg => Ev.move (Opd.mk rfl)) rfl ?_
            refine St.gt _ rfl rfl (fun hg => Ev.move (Opd.mk rfl)) rfl ?_
            refine St.gt _ rfl rfl (fun hg => Ev.move (Opd.mk rfl)) rfl ?_
            refine St.gt _ rfl rfl (fun hg => Ev.sub (Opd.gv rfl hg) (Opd.gv rfl hg) (by first | omega | (simp only [Bool.and_true, Bool.true_and, decide_eq_true_eq, decide_eq_false_iff_not, Bool.and_eq_true, Bool.or_eq_true, Bool.and_eq_false_iff, Bool.or_eq_false_iff, Bool.not_eq_true', Bool.not_eq_false', beq_iff_eq, beq_eq_false_iff_ne, Int.not_lt, Int.not_le] at hg; omega))) rfl ?_
            refine St.gt _ rfl rfl (fun hg => Ev.geq (Opd.gv rfl hg) (Opd.gv rfl hg)) rfl ?_
            refine St.ev _ (Ev.and (Opd.mk rfl) (fun hp => Opd.gv rfl hp)) rfl ?_
            refine St.nil ?_
            refine St.then_normal ?_
            refine St.cond _ rfl (fun h57 => ?_) (fun h57 => ?_)
            · skip
              try simp only [Bool.and_true, Bool.true_and, decide_eq_true_eq, decide_eq_false_iff_not, Bool.and_eq_true, Bool.or_eq_true, Bool.and_eq_false_iff, Bool.or_eq_false_iff, Bool.not_eq_true', Bool.not_eq_false', beq_iff_eq, beq_eq_false_iff_ne, Int.not_lt, Int.not_le] at h57
              refine St.parL [blk b10 (.cells [iv (i : Nat), iv (k : Nat), vL, vR].toArray 44 (0, 0)), row vL 9 1 (lfw s k w m).length (rows strR (lfw s k w m))] mixed ?_
              refine SW.defer 0 (by repeat (first | refine NP.then ?_ | refine NP.inBlock ?_ | exact NP.body)) (by kernel_rfl) rfl (fun R => Ev.fldb0 (Opd.mk rfl) fo44_2) (by kernel_rfl) rfl ?_
              refine SW.defer 2 (by repeat (first | refine NP.then ?_ | refine NP.inBlock ?_ | exact NP.body)) (by kernel_rfl) rfl (fun R => Ev.move (Opd.mk rfl)) (by kernel_rfl) rfl ?_
              refine SW.defer 3 (by repeat (first | refine NP.then ?_ | refine NP.inBlock ?_ | exact NP.body)) (by kernel_rfl) rfl (fun R => Ev.move (Opd.mk rfl)) (by kernel_rfl) rfl ?_
              refine SW.defer 4 (by repeat (first | refine NP.then ?_ | refine NP.inBlock ?_ | exact NP.body)) (by kernel_rfl) rfl (fun R => Ev.idxaddr (k := i) (Opd.mk rfl) (Opd.mk rfl) Tryz.underlying22 sz23 (by omega) (by omega)) (by kernel_rfl) rfl ?_
              refine SW.defer 5 (by repeat (first | refine NP.then ?_ | refine NP.inBlock ?_ | exact NP.body)) (by kernel_rfl) rfl (fun R => Ev.ld1 (Opd.mk rfl) hu Tryz.underlying23 trivial rfl) (by kernel_rfl) rfl ?_
              refine SW.defer 6 (by repeat (first | refine NP.then ?_ | refine NP.inBlock ?_ | exact NP.body)) (by kernel_rfl) rfl (fun R => Ev.move (Opd.mk rfl)) (by kernel_rfl) rfl ?_
              refine SW.defer 7 (by repeat (first | refine NP.then ?_ | refine NP.inBlock ?_ | exact NP.body)) (by kernel_rfl) rfl (fun R => Ev.idxaddr (k := m) (Opd.mk rfl) (Opd.mk rfl) Tryz.underlying23 sz9 (by omega) (by omega)) (by kernel_rfl) rfl ?_
              refine SW.defer 8 (by repeat (first | refine NP.then ?_ | refine NP.inBlock ?_ | exact NP.body)) (by kernel_rfl) rfl (fun R => Ev.ld1 (Opd.mk rfl) hx Tryz.underlying9 trivial rfl) (by kernel_rfl) rfl ?_
              refine SW.turn2 (i := 1) (j := 9) (by kernel_rfl) rfl rfl ?_ ?_
              · skip
                refine St.ev _ (Ev.ldb (Opd.mk rfl) Tryz.underlying23 trivial (by rfl)) rfl ?_
                refine St.nil ?_
                refine St.then_normal ?_
                refine SW.go ?_
                refine SW.turn1 (i := 9) (by kernel_rfl) rfl ?_
                refine St.buildSl (xs := [(Operand.tmp 66)]) (ps := [(0, (Operand.tmp 66))]) rfl (Opds.cons (Opd.mk rfl) Opds.nil) Tryz.underlying23 sz9 zv9 rfl rfl (by simp [Value.cells]) rfl rfl (fun b67 => ?_)
                refine St.nil ?_
                refine St.then_normal ?_
                refine SW.go ?_
                refine SW.turn1 (i := 10) (by kernel_rfl) rfl ?_
                refine St.appendRow (Opd.mk rfl) (Opd.mk rfl) Tryz.underlying23 sz9 zv9 by9 (by simp [Value.oneCell', Value.cells]) (by omega) (by omega) rfl rfl rfl rfl (fun v68 hv68 => ?_)
                refine St.rowEqN v68 (show _ = (lfw s k w (m + 1)).length by rw [lfw_t hx (by omega) (by omega)]; exact len_snoc) (show _ = rows strR (lfw s k w (m + 1)) from rowsS_snoc (lfw_t hx (by omega) (by omega))) ?_
                refine St.rowOne v68 (fun h68 _ => ?_)
                refine St.nil ?_
                refine St.then_normal ?_
                refine SW.go ?_
                refine SW.defer 11 (by repeat (first | refine NP.then ?_ | refine NP.inBlock ?_ | exact NP.body)) (by kernel_rfl) rfl (fun R => Ev.fldb0 (Opd.mk rfl) fo44_2) (by kernel_rfl) rfl ?_
                refine SW.turn1 (i := 12) (by kernel_rfl) rfl ?_
                refine St.store1 (Opd.mk rfl) (Opd.mk rfl) sz23 h68 (by rfl) ?_
                refine St.nil ?_
                refine St.then_normal ?_
                refine SW.go ?_
                refine SW.done (by kernel_rfl) ?_
                refine St.then_normal ?_
                refine St.met v68 h68 (by repeat (first | exact Sub.nil | refine Sub.cons (by first | rfl | exact congrArg (fun z => some (iv z)) (by first | omega | (dsimp only; omega)) | exact congrArg (fun z => some (Value.bool z)) (by first | assumption | exact Eq.symm (by assumption))) ?_)) (fun _ hw => hw.sub)
              · skip
                refine St.buildSl (xs := [(Operand.tmp 66)]) (ps := [(0, (Operand.tmp 66))]) rfl (Opds.cons (Opd.mk rfl) Opds.nil) Tryz.underlying23 sz9 zv9 rfl rfl (by simp [Value.cells]) rfl rfl (fun b67 => ?_)
                refine St.nil ?_
                refine St.then_normal ?_
                refine SW.go ?_
                refine SW.turn1 (i := 1) (by kernel_rfl) rfl ?_
                refine St.ev _ (Ev.ldb (Opd.mk rfl) Tryz.underlying23 trivial (by rfl)) rfl ?_
                refine St.nil ?_
                refine St.then_normal ?_
                refine SW.go ?_
                refine SW.turn1 (i := 10) (by kernel_rfl) rfl ?_
                refine St.appendRow (Opd.mk rfl) (Opd.mk rfl) Tryz.underlying23 sz9 zv9 by9 (by simp [Value.oneCell', Value.cells]) (by omega) (by omega) rfl rfl rfl rfl (fun v68 hv68 => ?_)
                refine St.rowEqN v68 (show _ = (lfw s k w (m + 1)).length by rw [lfw_t hx (by omega) (by omega)]; exact len_snoc) (show _ = rows strR (lfw s k w (m + 1)) from rowsS_snoc (lfw_t hx (by omega) (by omega))) ?_
                refine St.rowOne v68 (fun h68 _ => ?_)
                refine St.nil ?_
                refine St.then_normal ?_
                refine SW.go ?_
                refine SW.defer 11 (by repeat (first | refine NP.then ?_ | refine NP.inBlock ?_ | exact NP.body)) (by kernel_rfl) rfl (fun R => Ev.fldb0 (Opd.mk rfl) fo44_2) (by kernel_rfl) rfl ?_
                refine SW.turn1 (i := 12) (by kernel_rfl) rfl ?_
                refine St.store1 (Opd.mk rfl) (Opd.mk rfl) sz23 h68 (by rfl) ?_
                refine St.nil ?_
                refine St.then_normal ?_
                refine SW.go ?_
                refine SW.done (by kernel_rfl) ?_
                refine St.then_normal ?_
                refine St.met v68 h68 (by repeat (first | exact Sub.nil | refine Sub.cons (by first | rfl | exact congrArg (fun z => some (iv z)) (by first | omega | (dsimp only; omega)) | exact congrArg (fun z => some (Value.bool z)) (by first | assumption | exact Eq.symm (by assumption))) ?_)) (fun _ hw => hw.sub)
            · skip
              try simp only [Bool.and_true, Bool.true_and, decide_eq_true_eq, decide_eq_false_iff_not, Bool.and_eq_true, Bool.or_eq_true, Bool.and_eq_false_iff, Bool.or_eq_false_iff, Bool.not_eq_true', Bool.not_eq_false', beq_iff_eq, beq_eq_false_iff_ne, Int.not_lt, Int.not_le] at h57
              refine St.skip ?_
              refine St.then_normal ?_
              rw [← lfw_f (s := s) (k := k) (w := w) (m := m) (by omega)]
              refine St.met vL hL (by repeat (first | exact Sub.nil | refine Sub.cons (by first | rfl | exact congrArg (fun z => some (iv z)) (by first | omega | (dsimp only; omega)) | exact congrArg (fun z => some (Value.bool z)) (by first | assumption | exact Eq.symm (by assumption))) ?_)) (fun _ hw => hw.sub)
          · skip
            intro vM hM
            refine St.seq ?_
            refine St.rg ?_
            refine St.ev _ (Ev.move (Opd.mk rfl)) rfl ?_
            refine St.ev _ (Ev.move (Opd.mk rfl)) rfl ?_
            refine St.ev _ (Ev.move (Opd.mk rfl)) rfl ?_
            refine St.ev _ (Ev.lensl (Opd.mk rfl) Tryz.underlying23) rfl ?_
            refine St.ev _ (Ev.add (Opd.mk rfl) (Opd.mk rfl) (by omega)) rfl ?_
            refine St.ev _ (Ev.geq (Opd.mk rfl) (Opd.mk rfl)) rfl ?_
            refine St.ev _ (Ev.move (Opd.mk rfl)) rfl ?_
            refine St.gt _ rfl rfl (fun hg => Ev.move (Opd.mk rfl)) rfl ?_
            refine St.gt _ rfl rfl (fun hg => Ev.move (Opd.mk rfl)) rfl ?_
            refine St.gt _ rfl rfl (fun hg => Ev.move (Opd.mk rfl)) rfl ?_
            refine St.gt _ rfl rfl (fun hg => Ev.lensl (Opd.gv rfl hg) Tryz.underlying23) rfl ?_
            refine St.gt _ rfl rfl (fun hg => Ev.add (Opd.gv rfl hg) (Opd.gv rfl hg) (by first | omega | (simp only [Bool.and_true, Bool.true_and, decide_eq_true_eq, decide_eq_false_iff_not, Bool.and_eq_true, Bool.or_eq_true, Bool.and_eq_false_iff, Bool.or_eq_false_iff, Bool.not_eq_true', Bool.not_eq_false', beq_iff_eq, beq_eq_false_iff_ne, Int.not_lt, Int.not_le] at hg; omega))) rfl ?_
            refine St.gt _ rfl rfl (fun hg => Ev.move (Opd.mk rfl)) rfl ?_
            refine St.gt _ rfl rfl (fun hg => Ev.add (Opd.gv rfl hg) (Opd.gv rfl hg) (by first | omega | (simp only [Bool.and_true, Bool.true_and, decide_eq_true_eq, decide_eq_false_iff_not, Bool.and_eq_true, Bool.or_eq_true, Bool.and_eq_false_iff, Bool.or_eq_false_iff, Bool.not_eq_true', Bool.not_eq_false', beq_iff_eq, beq_eq_false_iff_ne, Int.not_lt, Int.not_le] at hg; omega))) rfl ?_
            refine St.gt _ rfl rfl (fun hg => Ev.lss (Opd.gv rfl hg) (Opd.gv rfl hg)) rfl ?_
            refine St.ev _ (Ev.and (Opd.mk rfl) (fun hp => Opd.gv rfl hp)) rfl ?_
            refine St.nil ?_
            refine St.then_normal ?_
            refine St.cond _ rfl (fun h85 => ?_) (fun h85 => ?_)
            · skip
              try simp only [Bool.and_true, Bool.true_and, decide_eq_true_eq, decide_eq_false_iff_not, Bool.and_eq_true, Bool.or_eq_true, Bool.and_eq_false_iff, Bool.or_eq_false_iff, Bool.not_eq_true', Bool.not_eq_false', beq_iff_eq, beq_eq_false_iff_ne, Int.not_lt, Int.not_le] at h85
              refine St.parL [blk b10 (.cells [iv (i : Nat), iv (k : Nat), vM, vR].toArray 44 (0, 0)), row vR 9 1 (rgw s (k + p.length) w m).length (rows strR (rgw s (k + p.length) w m))] mixed ?_
              refine SW.defer 0 (by repeat (first | refine NP.then ?_ | refine NP.inBlock ?_ | exact NP.body)) (by kernel_rfl) rfl (fun R => Ev.fldb0 (Opd.mk rfl) fo44_3) (by kernel_rfl) rfl ?_
              refine SW.defer 2 (by repeat (first | refine NP.then ?_ | refine NP.inBlock ?_ | exact NP.body)) (by kernel_rfl) rfl (fun R => Ev.move (Opd.mk rfl)) (by kernel_rfl) rfl ?_
              refine SW.defer 3 (by repeat (first | refine NP.then ?_ | refine NP.inBlock ?_ | exact NP.body)) (by kernel_rfl) rfl (fun R => Ev.move (Opd.mk rfl)) (by kernel_rfl) rfl ?_
              refine SW.defer 4 (by repeat (first | refine NP.then ?_ | refine NP.inBlock ?_ | exact NP.body)) (by kernel_rfl) rfl (fun R => Ev.idxaddr (k := i) (Opd.mk rfl) (Opd.mk rfl) Tryz.underlying22 sz23 (by omega) (by omega)) (by kernel_rfl) rfl ?_
              refine SW.defer 5 (by repeat (first | refine NP.then ?_ | refine NP.inBlock ?_ | exact NP.body)) (by kernel_rfl) rfl (fun R => Ev.ld1 (Opd.mk rfl) hu Tryz.underlying23 trivial rfl) (by kernel_rfl) rfl ?_
              refine SW.defer 6 (by repeat (first | refine NP.then ?_ | refine NP.inBlock ?_ | exact NP.body)) (by kernel_rfl) rfl (fun R => Ev.move (Opd.mk rfl)) (by kernel_rfl) rfl ?_
              refine SW.defer 7 (by repeat (first | refine NP.then ?_ | refine NP.inBlock ?_ | exact NP.body)) (by kernel_rfl) rfl (fun R => Ev.idxaddr (k := m) (Opd.mk rfl) (Opd.mk rfl) Tryz.underlying23 sz9 (by omega) (by omega)) (by kernel_rfl) rfl ?_
              refine SW.defer 8 (by repeat (first | refine NP.then ?_ | refine NP.inBlock ?_ | exact NP.body)) (by kernel_rfl) rfl (fun R => Ev.ld1 (Opd.mk rfl) hx Tryz.underlying9 trivial rfl) (by kernel_rfl) rfl ?_
              refine SW.turn2 (i := 1) (j := 9) (by kernel_rfl) rfl rfl ?_ ?_
              · skip
                refine St.ev _ (Ev.ldb (Opd.mk rfl) Tryz.underlying23 trivial (by rfl)) rfl ?_
                refine St.nil ?_
                refine St.then_normal ?_
                refine SW.go ?_
                refine SW.turn1 (i := 9) (by kernel_rfl) rfl ?_
                refine St.buildSl (xs := [(Operand.tmp 94)]) (ps := [(0, (Operand.tmp 94))]) rfl (Opds.cons (Opd.mk rfl) Opds.nil) Tryz.underlying23 sz9 zv9 rfl rfl (by simp [Value.cells]) rfl rfl (fun b95 => ?_)
                refine St.nil ?_
                refine St.then_normal ?_
                refine SW.go ?_
                refine SW.turn1 (i := 10) (by kernel_rfl) rfl ?_
                refine St.appendRow (Opd.mk rfl) (Opd.mk rfl) Tryz.underlying23 sz9 zv9 by9 (by simp [Value.oneCell', Value.cells]) (by omega) (by omega) rfl rfl rfl rfl (fun v96 hv96 => ?_)
                refine St.rowEqN v96 (show _ = (rgw s (k + p.length) w (m + 1)).length by rw [rgw_t hx (by omega) (by omega)]; exact len_snoc) (show _ = rows strR (rgw s (k + p.length) w (m + 1)) from rowsS_snoc (rgw_t hx (by omega) (by omega))) ?_
                refine St.rowOne v96 (fun h96 _ => ?_)
                refine St.nil ?_
                refine St.then_normal ?_
                refine SW.go ?_
                refine SW.defer 11 (by repeat (first | refine NP.then ?_ | refine NP.inBlock ?_ | exact NP.body)) (by kernel_rfl) rfl (fun R => Ev.fldb0 (Opd.mk rfl) fo44_3) (by kernel_rfl) rfl ?_
                refine SW.turn1 (i := 12) (by kernel_rfl) rfl ?_
                refine St.store1 (Opd.mk rfl) (Opd.mk rfl) sz23 h96 (by rfl) ?_
                refine St.nil ?_
                refine St.then_normal ?_
                refine SW.go ?_
                refine SW.done (by kernel_rfl) ?_
                refine St.in_normal ?_
                refine St.then_normal ?_
                refine St.rg ?_
                refine St.ev _ (Ev.move (Opd.mk rfl)) rfl ?_
                refine St.ev _ (Ev.add (Opd.mk rfl) (Opd.mk rfl) (by omega)) rfl ?_
                refine St.ev _ (Ev.assign (Opd.mk rfl)) rfl ?_
                refine St.nil ?_
                refine St.then_normal ?_
                refine St.againH2 (m + 1) (vM, v96) ⟨by omega, hM, h96⟩ (by first | omega | (dsimp only; omega)) (by repeat (first | exact Sub.nil | refine Sub.cons (by first | rfl | exact congrArg (fun z => some (iv z)) (by first | omega | (dsimp only; omega)) | exact congrArg (fun z => some (Value.bool z)) (by first | assumption | exact Eq.symm (by assumption))) ?_)) (fun _ hw => hw.sub)
              · skip
                refine St.buildSl (xs := [(Operand.tmp 94)]) (ps := [(0, (Operand.tmp 94))]) rfl (Opds.cons (Opd.mk rfl) Opds.nil) Tryz.underlying23 sz9 zv9 rfl rfl (by simp [Value.cells]) rfl rfl (fun b95 => ?_)
                refine St.nil ?_
                refine St.then_normal ?_
                refine SW.go ?_
                refine SW.turn1 (i := 1) (by kernel_rfl) rfl ?_
                refine St.ev _ (Ev.ldb (Opd.mk rfl) Tryz.underlying23 trivial (by rfl)) rfl ?_
                refine St.nil ?_
                refine St.then_normal ?_
                refine SW.go ?_
                refine SW.turn1 (i := 10) (by kernel_rfl) rfl ?_
                refine St.appendRow (Opd.mk rfl) (Opd.mk rfl) Tryz.underlying23 sz9 zv9 by9 (by simp [Value.oneCell', Value.cells]) (by omega) (by omega) rfl rfl rfl rfl (fun v96 hv96 => ?_)
                refine St.rowEqN v96 (show _ = (rgw s (k + p.length) w (m + 1)).length by rw [rgw_t hx (by omega) (by omega)]; exact len_snoc) (show _ = rows strR (rgw s (k + p.length) w (m + 1)) from rowsS_snoc (rgw_t hx (by omega) (by omega))) ?_
                refine St.rowOne v96 (fun h96 _ => ?_)
                refine St.nil ?_
                refine St.then_normal ?_
                refine SW.go ?_
                refine SW.defer 11 (by repeat (first | refine NP.then ?_ | refine NP.inBlock ?_ | exact NP.body)) (by kernel_rfl) rfl (fun R => Ev.fldb0 (Opd.mk rfl) fo44_3) (by kernel_rfl) rfl ?_
                refine SW.turn1 (i := 12) (by kernel_rfl) rfl ?_
                refine St.store1 (Opd.mk rfl) (Opd.mk rfl) sz23 h96 (by rfl) ?_
                refine St.nil ?_
                refine St.then_normal ?_
                refine SW.go ?_
                refine SW.done (by kernel_rfl) ?_
                refine St.in_normal ?_
                refine St.then_normal ?_
                refine St.rg ?_
                refine St.ev _ (Ev.move (Opd.mk rfl)) rfl ?_
                refine St.ev _ (Ev.add (Opd.mk rfl) (Opd.mk rfl) (by omega)) rfl ?_
                refine St.ev _ (Ev.assign (Opd.mk rfl)) rfl ?_
                refine St.nil ?_
                refine St.then_normal ?_
                refine St.againH2 (m + 1) (vM, v96) ⟨by omega, hM, h96⟩ (by first | omega | (dsimp only; omega)) (by repeat (first | exact Sub.nil | refine Sub.cons (by first | rfl | exact congrArg (fun z => some (iv z)) (by first | omega | (dsimp only; omega)) | exact congrArg (fun z => some (Value.bool z)) (by first | assumption | exact Eq.symm (by assumption))) ?_)) (fun _ hw => hw.sub)
            · skip
              try simp only [Bool.and_true, Bool.true_and, decide_eq_true_eq, decide_eq_false_iff_not, Bool.and_eq_true, Bool.or_eq_true, Bool.and_eq_false_iff, Bool.or_eq_false_iff, Bool.not_eq_true', Bool.not_eq_false', beq_iff_eq, beq_eq_false_iff_ne, Int.not_lt, Int.not_le] at h85
              refine St.skip ?_
              refine St.in_normal ?_
              refine St.then_normal ?_
              refine St.rg ?_
              refine St.ev _ (Ev.move (Opd.mk rfl)) rfl ?_
              refine St.ev _ (Ev.add (Opd.mk rfl) (Opd.mk rfl) (by omega)) rfl ?_
              refine St.ev _ (Ev.assign (Opd.mk rfl)) rfl ?_
              refine St.nil ?_
              refine St.then_normal ?_
              rw [← rgw_f (s := s) (t := k + p.length) (w := w) (m := m) (by omega)]
              refine St.againH2 (m + 1) (vM, vR) ⟨by omega, hM, hR⟩ (by first | omega | (dsimp only; omega)) (by repeat (first | exact Sub.nil | refine Sub.cons (by first | rfl | exact congrArg (fun z => some (iv z)) (by first | omega | (dsimp only; omega)) | exact congrArg (fun z => some (Value.bool z)) (by first | assumption | exact Eq.symm (by assumption))) ?_)) (fun _ hw => hw.sub)
        · skip
          try simp only [Bool.and_true, Bool.true_and, decide_eq_true_eq, decide_eq_false_iff_not, Bool.and_eq_true, Bool.or_eq_true, Bool.and_eq_false_iff, Bool.or_eq_false_iff, Bool.not_eq_true', Bool.not_eq_false', beq_iff_eq, beq_eq_false_iff_ne, Int.not_lt, Int.not_le] at h45
          obtain rfl : m = s.length := by omega
          refine St.publish vL strR ((mkH l p w (i, k)).l) (by rw [hml]) (by rw [hml]) (by rw [hml]; exact fun x hx => hsw x (lfw_mem hx)) ?_
          refine St.publish vR strR ((mkH l p w (i, k)).r) (by rw [hmr]) (by rw [hmr]) (by rw [hmr]; exact fun x hx => hsw x (rgw_mem hx)) ?_
          refine St.exit ?_
          refine St.then_exit ?_
          refine St.then_exit ?_
          refine St.in_hit ?_
          refine St.then_normal ?_
          refine St.rg ?_
          refine St.ev _ (Ev.move (Opd.mk rfl)) rfl ?_
          refine St.ev _ (Ev.ldbA (Opd.mk rfl) Tryz.underlying44 trivial (by exact sz44)) rfl ?_
          refine St.buildSl (xs := [(Operand.tmp 99)]) (ps := [(0, (Operand.tmp 99))]) rfl (Opds.cons (Opd.mk rfl) Opds.nil) Tryz.underlying36 sz44 zv44 rfl rfl (by simp [Value.cells]) rfl rfl (fun b100 => ?_)
          refine St.appendRow (Opd.mk rfl) (Opd.mk rfl) Tryz.underlying36 sz44 zv44 by44 (by intro u hu; simp [Value.cells] at hu; rcases hu with rfl | rfl | rfl | rfl; rfl; rfl; exact hL; exact hR) (by omega) (by omega) rfl rfl rfl rfl (fun v101 hv101 => ?_)
          have hth := map_h_snoc (l := l) (p := p) (w := w) (hitsTo_t (l := l) (i := i) h35)
          refine St.rowEqN v101 (show _ = (List.zipWith hdR ((hitsTo l p i s (k + 1)).map (mkH l p w)) (uws ++ [(⟨vL, hL⟩, ⟨vR, hR⟩)])).length by rw [hth, zip_snoc huw]; exact len_snoc) (show _ = rows hR4 (List.zipWith hdR ((hitsTo l p i s (k + 1)).map (mkH l p w)) (uws ++ [(⟨vL, hL⟩, ⟨vR, hR⟩)])) from rowsH4_snoc (x := mkH l p w (i, k)) (u := (⟨vL, hL⟩, ⟨vR, hR⟩)) huw hth) ?_
          refine St.rowOne v101 (fun h101 _ => ?_)
          refine St.ev _ (Ev.assign (Opd.mk rfl)) rfl ?_
          refine St.nil ?_
          refine St.in_normal ?_
          refine St.then_normal ?_
          refine St.rg ?_
          refine St.ev _ (Ev.move (Opd.mk rfl)) rfl ?_
          refine St.ev _ (Ev.add (Opd.mk rfl) (Opd.mk rfl) (by omega)) rfl ?_
          refine St.ev _ (Ev.assign (Opd.mk rfl)) rfl ?_
          refine St.nil ?_
          refine St.then_normal ?_
          refine St.ptwSnoc (uws.map Prod.fst) ⟨vL, hL⟩ (x := (mkH l p w (i, k)).l) (by rw [List.length_map, List.length_map, huw]) ?_
          refine St.ptwSnoc (uws.map Prod.snd) ⟨vR, hR⟩ (x := (mkH l p w (i, k)).r) (by rw [List.length_map, List.length_map, huw]) ?_
          rw [map_l_snoc (hitsTo_t (l := l) (i := i) h35), map_r_snoc (hitsTo_t (l := l) (i := i) h35), fst_snoc uws ⟨vL, hL⟩ ⟨vR, hR⟩, snd_snoc uws ⟨vL, hL⟩ ⟨vR, hR⟩]
          refine St.againH2 (k + 1) (v101, uws ++ [(⟨vL, hL⟩, ⟨vR, hR⟩)]) ⟨by omega, h101, by rw [hth]; simp [huw]⟩ (by first | omega | (dsimp only; omega)) (by repeat (first | exact Sub.nil | refine Sub.cons (by first | rfl | exact congrArg (fun z => some (iv z)) (by first | omega | (dsimp only; omega)) | exact congrArg (fun z => some (Value.bool z)) (by first | assumption | exact Eq.symm (by assumption))) ?_)) (fun _ hw => hw.sub)
    · skip
      try simp only [Bool.and_true, Bool.true_and, decide_eq_true_eq, decide_eq_false_iff_not, Bool.and_eq_true, Bool.or_eq_true, Bool.and_eq_false_iff, Bool.or_eq_false_iff, Bool.not_eq_true', Bool.not_eq_false', beq_iff_eq, beq_eq_false_iff_ne, Int.not_lt, Int.not_le] at h25
      obtain rfl : k = s.length := by omega
      refine St.exit ?_
      refine St.then_exit ?_
      refine St.then_exit ?_
      refine St.in_hit ?_
      refine St.in_normal ?_
      refine St.then_normal ?_
      refine St.rg ?_
      refine St.ev _ (Ev.move (Opd.mk rfl)) rfl ?_
      refine St.ev _ (Ev.add (Opd.mk rfl) (Opd.mk rfl) (by omega)) rfl ?_
      refine St.ev _ (Ev.assign (Opd.mk rfl)) rfl ?_
      refine St.nil ?_
      refine St.then_normal ?_
      rw [hitsTo_end hs]
      refine St.againH2 (i + 1) (v7, uws) ⟨by omega, hz1, by rw [← hitsTo_end hs]; exact huw⟩ (by first | omega | (dsimp only; omega)) (by repeat (first | exact Sub.nil | refine Sub.cons (by first | rfl | exact congrArg (fun z => some (iv z)) (by first | omega | (dsimp only; omega)) | exact congrArg (fun z => some (Value.bool z)) (by first | assumption | exact Eq.symm (by assumption))) ?_)) (fun _ hw => hw.sub)
  · skip
    try simp only [Bool.and_true, Bool.true_and, decide_eq_true_eq, decide_eq_false_iff_not, Bool.and_eq_true, Bool.or_eq_true, Bool.and_eq_false_iff, Bool.or_eq_false_iff, Bool.not_eq_true', Bool.not_eq_false', beq_iff_eq, beq_eq_false_iff_ne, Int.not_lt, Int.not_le] at h16
    obtain rfl : i = l.length := by omega
    rw [List.take_length] at huw ⊢
    refine St.exit ?_
    refine St.then_exit ?_
    refine St.then_exit ?_
    refine St.in_hit ?_
    refine St.then_normal ?_
    refine St.seq ?_
    refine St.rg ?_
    refine St.ev _ (Ev.move (Opd.mk rfl)) rfl ?_
    refine St.ev _ (Ev.assign (Opd.mk rfl)) rfl ?_
    refine St.nil ?_
    refine St.then_normal ?_
    refine St.rett ?_
    rw [show (hitsOf l p).map (mkH l p w) = hitsW l p w from rfl] at huw ⊢
    refine St.publish v7 hR4 (List.zipWith hdR (hitsW l p w) uws) rfl rfl (fun _ _ => trivial) ?_
    refine St.mkH v7 (hitsW l p w) uws huw ?_
    refine St.rets [_] [dat (hsl v7 (hitsW l p w))] Tryz.results16 ⟨rfl, trivial⟩ ?_ (fun _ hw => hw.sub)
    exact ⟨hz1, rfl⟩

end Go.Proofs.YtgikcbfdonjggaaGreatDoor

/-
  (YtgikcbfdonjggaaGreatDoorC8)
  The closed example of the concordance; the law of hits.
  Conditions: none beyond the sizes.
-/
set_option maxRecDepth 20000
set_option linter.unusedSimpArgs false
set_option linter.unusedVariables false
namespace Go.Proofs.YtgikcbfdonjggaaGreatDoor
open Go Go.J

theorem sst_unique : ∀ {X Y : List Str}, SSt X → SSt Y → (∀ w, w ∈ X ↔ w ∈ Y) → X = Y
  | [], [], _, _, _ => rfl
  | [], y :: Y, _, _, h => by have := (h y).2 (List.mem_cons_self ..); cases this
  | x :: X, [], _, _, h => by have := (h x).1 (List.mem_cons_self ..); cases this
  | x :: X, y :: Y, hX, hY, h => by
    have h1 := List.pairwise_cons.1 hX
    have h2 := List.pairwise_cons.1 hY
    have exy : x = y := by
      rcases List.mem_cons.1 ((h x).1 (List.mem_cons_self ..)) with e | e
      · exact e
      · rcases List.mem_cons.1 ((h y).2 (List.mem_cons_self ..)) with f | f
        · exact f.symm
        · have q1 := h2.1 x e
          have q2 := h1.1 y f
          rw [slt_asymm q1] at q2; cases q2
    subst exy
    rw [sst_unique h1.2 h2.2 fun w => ⟨fun hw => by
      rcases List.mem_cons.1 ((h w).1 (List.mem_cons_of_mem _ hw)) with e | e
      · have := h1.1 w hw; rw [e, slt_irrefl] at this; cases this
      · exact e, fun hw => by
      rcases List.mem_cons.1 ((h w).2 (List.mem_cons_of_mem _ hw)) with e | e
      · have := h2.1 w hw; rw [e, slt_irrefl] at this; cases this
      · exact e⟩]
def sA : Str := [97]
def sD : Str := [100, 111, 103]
def sC : Str := [99, 97, 116]
def L0 : List (List Str) := [[sA, sD], [sA, sC]]
theorem L0_ok : conF L0 = (0, 0) := by decide +kernel
theorem L0_corp : Corp L0 := (conF_ok (by rw [L0_ok])).2
theorem L0_okL : okL L0 = L0 := okL_t (by rw [L0_ok])
theorem L0_words : wordsOf L0 = [sA, sC, sD] := by
  refine sst_unique (wordsOf_sst _) (by unfold SSt; decide) fun w => ?_
  rw [wordsOf_mem]
  simp only [L0, List.mem_cons, List.not_mem_nil, or_false]
  constructor
  · rintro ⟨s, rfl | rfl, hw⟩
    · simp only [List.mem_cons, List.not_mem_nil, or_false] at hw; rcases hw with h | h <;> simp [h]
    · simp only [List.mem_cons, List.not_mem_nil, or_false] at hw; rcases hw with h | h <;> simp [h]
  · rintro (h | h | h)
    · exact ⟨_, .inl rfl, by simp [h]⟩
    · exact ⟨_, .inr rfl, by simp [h]⟩
    · exact ⟨_, .inl rfl, by simp [h]⟩
theorem L0_pA : partF [sA] = (0, 0) := by decide +kernel
theorem L0_hA : (fnH L0 [sA]).length = 2 := by decide +kernel
theorem L0_hF : hitF [sD] 1 = (0, 0) := by decide +kernel
theorem L0_hD : hitL L0 [sD] 1 = [⟨0, 1, [sA], []⟩] := by decide +kernel
theorem wf3 {X : List Str} (h : ∀ x ∈ X, x.length ≤ 3) : ∀ x ∈ X, strR.wf x := fun x hx => by have := h x hx; show x.length ≤ 140737488351232; omega
theorem one_of {α : Type} {l : List α} (h : l.length = 1) : ∃ x, l = [x] := by
  match l, h with
  | [x], _ => exact ⟨x, rfl⟩

set_option maxHeartbeats 2000000 in
theorem ready_spec : FnVw Tryz.prog 10 #[] [u8] (.bool true) := by
  refine FnVw.body (args := []) (ds := [u8]) 68 Tryz.func10 rfl Tryz.ntmps10 rfl (fun c hdr => ?_)
  change St _ _ (Mm c [dat u8]) _
  refine St.seq ?_
  refine St.rg ?_
  refine St.ev _ (Ev.assign (Opd.mk rfl)) rfl ?_
  refine St.nil ?_
  refine St.then_normal ?_
  refine St.seq ?_
  refine St.rg ?_
  refine St.buildSl (xs := [(Operand.const (Value.string { data := #[97] })), (Operand.const (Value.string { data := #[100, 111, 103] }))]) (ps := [(0, (Operand.const (Value.string { data := #[97] }))), (1, (Operand.const (Value.string { data := #[100, 111, 103] })))]) rfl (Opds.cons (Opd.mk rfl) (Opds.cons (Opd.mk rfl) Opds.nil)) Tryz.underlying23 sz9 zv9 rfl rfl (by simp [Value.cells]) rfl rfl (fun b8 => ?_)
  refine St.publish (.slice (some ⟨b8, 0, none⟩) 2 2) strR [sA, sD] rfl rfl (wf3 (by decide)) ?_
  refine St.buildSl (xs := [(Operand.const (Value.string { data := #[97] })), (Operand.const (Value.string { data := #[99, 97, 116] }))]) (ps := [(0, (Operand.const (Value.string { data := #[97] }))), (1, (Operand.const (Value.string { data := #[99, 97, 116] })))]) rfl (Opds.cons (Opd.mk rfl) (Opds.cons (Opd.mk rfl) Opds.nil)) Tryz.underlying23 sz9 zv9 rfl rfl (by simp [Value.cells]) rfl rfl (fun b9 => ?_)
  refine St.publish (.slice (some ⟨b9, 0, none⟩) 2 2) strR [sA, sC] rfl rfl (wf3 (by decide)) ?_
  refine St.buildSl (xs := [(Operand.tmp 8), (Operand.tmp 9)]) (ps := [(0, (Operand.tmp 8)), (1, (Operand.tmp 9))]) rfl (Opds.cons (Opd.mk rfl) (Opds.cons (Opd.mk rfl) Opds.nil)) Tryz.underlying22 sz23 zv23 rfl rfl (by simp [Value.cells]) rfl rfl (fun b10 => ?_)
  refine St.publish (.slice (some ⟨b10, 0, none⟩) 2 2) valR [⟨(.slice (some ⟨b8, 0, none⟩) 2 2), rfl⟩, ⟨(.slice (some ⟨b9, 0, none⟩) 2 2), rfl⟩] rfl rfl (fun _ _ => trivial) ?_
  refine St.ptwNil strR ?_
  refine St.ptwSnoc [] ⟨(.slice (some ⟨b8, 0, none⟩) 2 2), rfl⟩ (x := [sA, sD]) rfl ?_
  refine St.ptwSnoc ([] ++ [⟨(.slice (some ⟨b8, 0, none⟩) 2 2), rfl⟩]) ⟨(.slice (some ⟨b9, 0, none⟩) 2 2), rfl⟩ (x := [sA, sC]) rfl ?_
  simp only [List.nil_append, List.cons_append]
  refine St.mkNs (Rr := strR) (l := L0) (.slice (some ⟨b10, 0, none⟩) 2 2) (vs := [⟨(.slice (some ⟨b8, 0, none⟩) 2 2), rfl⟩, ⟨(.slice (some ⟨b9, 0, none⟩) 2 2), rfl⟩]) (h2 := by unfold L0; infer_instance) rfl ?_
  refine St.calldW hdr (Build_cspec (.slice (some ⟨b10, 0, none⟩) 2 2) L0) cb11 (Opds.cons (Opd.mk rfl) Opds.nil) rfl ?_
  rintro v11 _ ⟨vl, vw, vp, vo, vz, rfl, o1, o2, o3, o4, o5, rfl⟩
  refine St.app1 ?_
  rw [L0_ok, L0_okL]
  refine St.ev _ (Ev.move (Opd.mk rfl)) rfl ?_
  refine St.ev _ (Ev.extract (Opd.mk rfl) rfl) rfl ?_
  refine St.ev _ (Ev.extract (Opd.mk rfl) rfl) rfl ?_
  refine St.alloc zc28 rfl (fun b1 => ?_)
  refine St.alloc zc30 rfl (fun b2 => ?_)
  refine St.storeA (Opd.mk rfl) (Opd.mk rfl) sz28 (by first | simp only [List.length_cons, List.length_nil] | rfl) (by simp [o1, o2, o3, o4, o5]) ?_
  refine St.storeA (Opd.mk rfl) (Opd.mk rfl) sz30 (by first | simp only [List.length_cons, List.length_nil] | rfl) rfl ?_
  refine St.nil ?_
  refine St.then_normal ?_
  refine St.seq ?_
  refine St.rg ?_
  refine St.ev _ (Ev.ldbA (Opd.mk rfl) Tryz.underlying28 trivial (by exact sz28)) rfl ?_
  refine St.buildSl (xs := [(Operand.const (Value.string { data := #[97] }))]) (ps := [(0, (Operand.const (Value.string { data := #[97] })))]) rfl (Opds.cons (Opd.mk rfl) Opds.nil) Tryz.underlying23 sz9 zv9 rfl rfl (by simp [Value.cells]) rfl rfl (fun b16 => ?_)
  refine St.publish (.slice (some ⟨b16, 0, none⟩) 1 1) strR [sA] rfl rfl (wf3 (by decide)) ?_
  refine St.ev _ (Ev.callW hdr (Count_spec vl vw vp vo vz (.slice (some ⟨b16, 0, none⟩) 1 1) L0 [sA] L0_corp) cb13 (Opds.cons (Opd.mk rfl) (Opds.cons (Opd.mk rfl) Opds.nil))) rfl ?_
  rw [L0_pA, L0_hA]
  refine St.ev _ (Ev.move (Opd.mk rfl)) rfl ?_
  refine St.ev _ (Ev.extract (Opd.mk rfl) rfl) rfl ?_
  refine St.ev _ (Ev.extract (Opd.mk rfl) rfl) rfl ?_
  refine St.alloc zc30 rfl (fun b4 => ?_)
  refine St.ev _ (Ev.assign (Opd.mk rfl)) rfl ?_
  refine St.storeA (Opd.mk rfl) (Opd.mk rfl) sz30 (by first | simp only [List.length_cons, List.length_nil] | rfl) rfl ?_
  refine St.nil ?_
  refine St.then_normal ?_
  refine St.seq ?_
  refine St.rg ?_
  refine St.ev _ (Ev.ldbA (Opd.mk rfl) Tryz.underlying28 trivial (by exact sz28)) rfl ?_
  refine St.buildSl (xs := [(Operand.const (Value.string { data := #[100, 111, 103] }))]) (ps := [(0, (Operand.const (Value.string { data := #[100, 111, 103] })))]) rfl (Opds.cons (Opd.mk rfl) Opds.nil) Tryz.underlying23 sz9 zv9 rfl rfl (by simp [Value.cells]) rfl rfl (fun b22 => ?_)
  refine St.publish (.slice (some ⟨b22, 0, none⟩) 1 1) strR [sD] rfl rfl (wf3 (by decide)) ?_
  refine St.calldW hdr (Hits_spec vl vw vp vo vz (.slice (some ⟨b22, 0, none⟩) 1 1) L0 [sD] 1 L0_corp) cb14 (Opds.cons (Opd.mk rfl) (Opds.cons (Opd.mk rfl) (Opds.cons (Opd.mk rfl) Opds.nil))) rfl ?_
  rintro v23 _ ⟨uh, rfl, h23, rfl⟩
  refine St.app1 ?_
  rw [L0_hF, L0_hD]
  refine St.openH uh [⟨0, 1, [sA], []⟩] (fun uws huw => ?_)
  obtain ⟨uw, rfl⟩ := one_of huw
  refine St.ev _ (Ev.move (Opd.mk rfl)) rfl ?_
  refine St.ev _ (Ev.extract (Opd.mk rfl) rfl) rfl ?_
  refine St.ev _ (Ev.extract (Opd.mk rfl) rfl) rfl ?_
  refine St.alloc zc30 rfl (fun b6 => ?_)
  refine St.ev _ (Ev.assign (Opd.mk rfl)) rfl ?_
  refine St.storeA (Opd.mk rfl) (Opd.mk rfl) sz30 (by first | simp only [List.length_cons, List.length_nil] | rfl) rfl ?_
  refine St.nil ?_
  refine St.then_normal ?_
  refine St.seq ?_
  refine St.rg ?_
  refine St.ev _ (Ev.fldb0 (Opd.mk rfl) fo30_0) rfl ?_
  refine St.ev _ (Ev.ldb (Opd.mk rfl) Tryz.underlying3 trivial (by rfl)) rfl ?_
  refine St.ev _ (Ev.eql (Opd.mk rfl) (Opd.mk rfl)) rfl ?_
  refine St.ev _ (Ev.move (Opd.mk rfl)) rfl ?_
  refine St.known 29 _ true rfl (by rfl) ?_
  refine St.takeg rfl rfl ?_
  refine St.ev _ (Ev.fldb0 (Opd.mk rfl) fo30_0) rfl ?_
  refine St.takeg rfl rfl ?_
  refine St.ev _ (Ev.ldb (Opd.mk rfl) Tryz.underlying3 trivial (by rfl)) rfl ?_
  refine St.takeg rfl rfl ?_
  refine St.ev _ (Ev.eql (Opd.mk rfl) (Opd.mk rfl)) rfl ?_
  refine St.ev _ (Ev.pickt (Opd.mk rfl) rfl (Opd.mk rfl)) rfl ?_
  refine St.ev _ (Ev.move (Opd.mk rfl)) rfl ?_
  refine St.known 34 _ true rfl (by rfl) ?_
  refine St.takeg rfl rfl ?_
  refine St.ev _ (Ev.move (Opd.mk rfl)) rfl ?_
  refine St.takeg rfl rfl ?_
  refine St.ev _ (Ev.eql (Opd.mk rfl) (Opd.mk rfl)) rfl ?_
  refine St.ev _ (Ev.pickt (Opd.mk rfl) rfl (Opd.mk rfl)) rfl ?_
  refine St.ev _ (Ev.move (Opd.mk rfl)) rfl ?_
  refine St.known 38 _ true rfl (by rfl) ?_
  refine St.takeg rfl rfl ?_
  refine St.ev _ (Ev.fldb0 (Opd.mk rfl) fo30_0) rfl ?_
  refine St.takeg rfl rfl ?_
  refine St.ev _ (Ev.ldb (Opd.mk rfl) Tryz.underlying3 trivial (by rfl)) rfl ?_
  refine St.takeg rfl rfl ?_
  refine St.ev _ (Ev.eql (Opd.mk rfl) (Opd.mk rfl)) rfl ?_
  refine St.ev _ (Ev.pickt (Opd.mk rfl) rfl (Opd.mk rfl)) rfl ?_
  refine St.ev _ (Ev.move (Opd.mk rfl)) rfl ?_
  refine St.known 43 _ true rfl (by rfl) ?_
  refine St.takeg rfl rfl ?_
  refine St.ev _ (Ev.move (Opd.mk rfl)) rfl ?_
  refine St.takeg rfl rfl ?_
  refine St.ev _ (Ev.lensl (Opd.mk rfl) Tryz.underlying36) rfl ?_
  refine St.takeg rfl rfl ?_
  refine St.ev _ (Ev.eql (Opd.mk rfl) (Opd.mk rfl)) rfl ?_
  refine St.ev _ (Ev.pickt (Opd.mk rfl) rfl (Opd.mk rfl)) rfl ?_
  refine St.ev _ (Ev.move (Opd.mk rfl)) rfl ?_
  refine St.known 48 _ true rfl (by rfl) ?_
  refine St.takeg rfl rfl ?_
  refine St.ev _ (Ev.move (Opd.mk rfl)) rfl ?_
  refine St.takeg rfl rfl ?_
  refine St.ev _ (Ev.idxaddr (k := 0) (Opd.mk rfl) (Opd.mk rfl) Tryz.underlying36 sz44 (by omega) (by exact Nat.zero_lt_one)) rfl ?_
  refine St.takeg rfl rfl ?_
  refine St.ev _ (Ev.fldel (Opd.mk rfl) (by exact Nat.zero_lt_one) fo44_0) rfl ?_
  refine St.takeg rfl rfl ?_
  refine St.ev _ (Ev.ld1 (Opd.mk rfl) (show (List.zipWith hdR [⟨0, 1, [sA], []⟩] [uw])[0]? = some (hdR ⟨0, 1, [sA], []⟩ uw) from rfl) Tryz.underlying3 trivial rfl) rfl ?_
  refine St.takeg rfl rfl ?_
  refine St.ev _ (Ev.eql (Opd.mk rfl) (Opd.mk rfl)) rfl ?_
  refine St.ev _ (Ev.pickt (Opd.mk rfl) rfl (Opd.mk rfl)) rfl ?_
  refine St.ev _ (Ev.move (Opd.mk rfl)) rfl ?_
  refine St.known 55 _ true rfl (by rfl) ?_
  refine St.takeg rfl rfl ?_
  refine St.ev _ (Ev.move (Opd.mk rfl)) rfl ?_
  refine St.takeg rfl rfl ?_
  refine St.ev _ (Ev.idxaddr (k := 0) (Opd.mk rfl) (Opd.mk rfl) Tryz.underlying36 sz44 (by omega) (by exact Nat.zero_lt_one)) rfl ?_
  refine St.takeg rfl rfl ?_
  refine St.ev _ (Ev.fldel (Opd.mk rfl) (by exact Nat.zero_lt_one) fo44_1) rfl ?_
  refine St.takeg rfl rfl ?_
  refine St.ev _ (Ev.ld1 (Opd.mk rfl) (show (List.zipWith hdR [⟨0, 1, [sA], []⟩] [uw])[0]? = some (hdR ⟨0, 1, [sA], []⟩ uw) from rfl) Tryz.underlying3 trivial rfl) rfl ?_
  refine St.takeg rfl rfl ?_
  refine St.ev _ (Ev.eql (Opd.mk rfl) (Opd.mk rfl)) rfl ?_
  refine St.ev _ (Ev.pickt (Opd.mk rfl) rfl (Opd.mk rfl)) rfl ?_
  refine St.ev _ (Ev.move (Opd.mk rfl)) rfl ?_
  refine St.known 62 _ true rfl (by rfl) ?_
  refine St.takeg rfl rfl ?_
  refine St.ev _ (Ev.ldbA (Opd.mk rfl) Tryz.underlying28 trivial (by exact sz28)) rfl ?_
  refine St.takeg rfl rfl ?_
  refine St.calld (Words_spec vl vw vp vo vz L0 L0_corp) cb19 (Opds.cons (Opd.mk rfl) Opds.nil) rfl ?_
  rintro v64 _ ⟨h64, rfl⟩
  refine St.app1 ?_
  rw [L0_words]
  refine St.publish v64 strR [sA, sC, sD] rfl rfl (wf3 (by decide)) ?_
  refine St.takeg rfl rfl ?_
  refine St.buildSl (xs := [(Operand.const (Value.string { data := #[97] })), (Operand.const (Value.string { data := #[99, 97, 116] })), (Operand.const (Value.string { data := #[100, 111, 103] }))]) (ps := [(0, (Operand.const (Value.string { data := #[97] }))), (1, (Operand.const (Value.string { data := #[99, 97, 116] }))), (2, (Operand.const (Value.string { data := #[100, 111, 103] })))]) rfl (Opds.cons (Opd.mk rfl) (Opds.cons (Opd.mk rfl) (Opds.cons (Opd.mk rfl) Opds.nil))) Tryz.underlying23 sz9 zv9 rfl rfl (by simp [Value.cells]) rfl rfl (fun b65 => ?_)
  refine St.publish (.slice (some ⟨b65, 0, none⟩) 3 3) strR [sA, sC, sD] rfl rfl (wf3 (by decide)) ?_
  refine St.takeg rfl rfl ?_
  refine St.ev _ (Ev.call (sameWords_spec v64 (.slice (some ⟨b65, 0, none⟩) 3 3) [sA, sC, sD] [sA, sC, sD]) cb18 (Opds.cons (Opd.mk rfl) (Opds.cons (Opd.mk rfl) Opds.nil))) rfl ?_
  refine St.ev _ (Ev.pickt (Opd.mk rfl) rfl (Opd.mk rfl)) rfl ?_
  refine St.ev _ (Ev.assign (Opd.mk rfl)) rfl ?_
  refine St.nil ?_
  refine St.then_normal ?_
  refine St.rett ?_
  refine St.rets [_] [] Tryz.results10 ⟨rfl, trivial⟩ ?_ (fun _ hw => hw.sub)
  exact be (by rfl)

set_option maxHeartbeats 2000000 in
theorem law1_spec (v0 v1 : Value) (l : List (List Str)) (p : List Str) (w : Int) : FnVw Tryz.prog 3 #[v0, v1, iv w] [nsl strR v0 l, sl strR v1 p, u8] (.bool true) := by
  refine FnVw.body (args := [v0, v1, iv w]) (ds := [(nsl strR v0 l), (sl strR v1 p), u8]) 102 Tryz.func3 rfl Tryz.ntmps3 rfl (fun c hdr => ?_)
  change St _ _ (Mm c [dat (nsl strR v0 l), dat (sl strR v1 p), dat u8]) _
  refine St.seq ?_
  refine St.rg ?_
  refine St.ev _ (Ev.assign (Opd.mk rfl)) rfl ?_
  refine St.nil ?_
  refine St.then_normal ?_
  refine St.seq ?_
  refine St.seq ?_
  refine St.rg ?_
  refine St.ev _ (Ev.callW hdr ready_spec cb10 (Opds.nil)) rfl ?_
  refine St.ev _ (Ev.not (Opd.mk rfl)) rfl ?_
  refine St.nil ?_
  refine St.then_normal ?_
  refine St.condf _ rfl rfl ?_
  refine St.skip ?_
  refine St.then_normal ?_
  refine St.seq ?_
  refine St.rg ?_
  refine St.ev _ (Ev.move (Opd.mk rfl)) rfl ?_
  refine St.calldW hdr (Build_cspec v0 l) cb11 (Opds.cons (Opd.mk rfl) Opds.nil) rfl ?_
  rintro v19 _ ⟨vl, vw, vp, vo, vz, rfl, o1, o2, o3, o4, o5, rfl⟩
  refine St.app1 ?_
  have hcorp := okL_corp l
  refine St.ev _ (Ev.move (Opd.mk rfl)) rfl ?_
  refine St.ev _ (Ev.extract (Opd.mk rfl) rfl) rfl ?_
  refine St.ev _ (Ev.extract (Opd.mk rfl) rfl) rfl ?_
  refine St.alloc zc28 rfl (fun b7 => ?_)
  refine St.alloc zc30 rfl (fun b8 => ?_)
  refine St.storeA (Opd.mk rfl) (Opd.mk rfl) sz28 (by first | simp only [List.length_cons, List.length_nil] | rfl) (by simp [o1, o2, o3, o4, o5]) ?_
  refine St.storeA (Opd.mk rfl) (Opd.mk rfl) sz30 (by first | simp only [List.length_cons, List.length_nil] | rfl) rfl ?_
  refine St.nil ?_
  refine St.then_normal ?_
  refine St.seq ?_
  refine St.rg ?_
  refine St.ev _ (Ev.move (Opd.mk rfl)) rfl ?_
  refine St.ev _ (Ev.call (ConcordFault_spec v0 l) cb12 (Opds.cons (Opd.mk rfl) Opds.nil)) rfl ?_
  refine St.alloc zc30 rfl (fun b9 => ?_)
  refine St.storeA (Opd.mk rfl) (Opd.mk rfl) sz30 (by first | simp only [List.length_cons, List.length_nil] | rfl) rfl ?_
  refine St.nil ?_
  refine St.then_normal ?_
  refine St.seq ?_
  refine St.seq ?_
  refine St.rg ?_
  refine St.ev _ (Ev.ldbA (Opd.mk rfl) Tryz.underlying30 trivial (by exact sz30)) rfl ?_
  refine St.ev _ (Ev.ldbA (Opd.mk rfl) Tryz.underlying30 trivial (by exact sz30)) rfl ?_
  refine St.ev _ (Ev.structneq (Opd.mk rfl) (Opd.mk rfl) Tryz.eqGuardType30 (fun w => eqf30 _ _ _ _ w)) rfl ?_
  refine St.nil ?_
  refine St.then_normal ?_
  refine St.condf _ rfl (by simp) ?_
  refine St.skip ?_
  refine St.then_normal ?_
  refine St.join (ι := Value) (fun v0b T => (0, v0b) :: T) (fun v0b => [blk b7 (.cells [vl, vw, vp, vo, vz].toArray 28 (0, 0)), blk b8 (.cells [iv (conF l).1, iv (conF l).2].toArray 30 (0, 0)), blk b9 (.cells [iv (conF l).1, iv (conF l).2].toArray 30 (0, 0)), dat (idxD vl vw vp vo vz (okL l)), dat (sl strR v1 p), dat u8, dat (nsl strR v0b (okL l))]) (fun v0b => True) (Keep.cons 1 rfl (Keep.cons 2 rfl (Keep.cons 6 rfl (Keep.cons 7 rfl (Keep.cons 9 rfl Keep.nil))))) ?_ ?_
  · skip
    refine St.seq ?_
    refine St.rg ?_
    refine St.ev _ (Ev.fldb0 (Opd.mk rfl) fo30_0) rfl ?_
    refine St.ev _ (Ev.ldb (Opd.mk rfl) Tryz.underlying3 trivial (by rfl)) rfl ?_
    refine St.ev _ (Ev.neq (Opd.mk rfl) (Opd.mk rfl)) rfl ?_
    refine St.nil ?_
    refine St.then_normal ?_
    refine St.cond _ rfl (fun h29 => ?_) (fun h29 => ?_)
    · skip
      simp only [Bool.not_eq_true', Bool.not_eq_false', decide_eq_true_eq, decide_eq_false_iff_not] at h29
      refine St.rg ?_
      refine St.ev _ (Ev.assign (Opd.mk rfl)) rfl ?_
      refine St.nil ?_
      refine St.then_normal ?_
      rw [okL_f h29]
      refine St.fact (nsl strR (.slice none 0 0) []) (fun ρ _ _ => ⟨[], rfl, sl_nil _ _, fun i u l h => by simp at h⟩) ?_
      refine St.met (.slice none 0 0) trivial (by repeat (first | exact Sub.nil | refine Sub.cons (by first | rfl | exact congrArg (fun z => some (iv z)) (by first | omega | (dsimp only; omega)) | exact congrArg (fun z => some (Value.bool z)) (by first | assumption | exact Eq.symm (by assumption))) ?_)) (fun _ hw => hw.sub)
    · skip
      simp only [Bool.not_eq_true', Bool.not_eq_false', decide_eq_true_eq, decide_eq_false_iff_not] at h29
      refine St.skip ?_
      refine St.then_normal ?_
      rw [okL_t h29]
      refine St.met v0 trivial (by repeat (first | exact Sub.nil | refine Sub.cons (by first | rfl | exact congrArg (fun z => some (iv z)) (by first | omega | (dsimp only; omega)) | exact congrArg (fun z => some (Value.bool z)) (by first | assumption | exact Eq.symm (by assumption))) ?_)) (fun _ hw => hw.sub)
  · skip
    intro v0b hphi
    refine St.seq ?_
    refine St.rg ?_
    refine St.ev _ (Ev.ldbA (Opd.mk rfl) Tryz.underlying28 trivial (by exact sz28)) rfl ?_
    refine St.ev _ (Ev.move (Opd.mk rfl)) rfl ?_
    refine St.ev _ (Ev.callW hdr (Count_spec vl vw vp vo vz v1 (okL l) p hcorp) cb13 (Opds.cons (Opd.mk rfl) (Opds.cons (Opd.mk rfl) Opds.nil))) rfl ?_
    refine St.ev _ (Ev.move (Opd.mk rfl)) rfl ?_
    refine St.ev _ (Ev.extract (Opd.mk rfl) rfl) rfl ?_
    refine St.ev _ (Ev.extract (Opd.mk rfl) rfl) rfl ?_
    refine St.alloc zc30 rfl (fun b11 => ?_)
    refine St.ev _ (Ev.assign (Opd.mk rfl)) rfl ?_
    refine St.storeA (Opd.mk rfl) (Opd.mk rfl) sz30 (by first | simp only [List.length_cons, List.length_nil] | rfl) rfl ?_
    refine St.nil ?_
    refine St.then_normal ?_
    refine St.seq ?_
    refine St.rg ?_
    refine St.ev _ (Ev.ldbA (Opd.mk rfl) Tryz.underlying28 trivial (by exact sz28)) rfl ?_
    refine St.ev _ (Ev.move (Opd.mk rfl)) rfl ?_
    refine St.ev _ (Ev.move (Opd.mk rfl)) rfl ?_
    refine St.calldW hdr (Hits_spec vl vw vp vo vz v1 (okL l) p w hcorp) cb14 (Opds.cons (Opd.mk rfl) (Opds.cons (Opd.mk rfl) (Opds.cons (Opd.mk rfl) Opds.nil))) rfl ?_
    rintro v40 _ ⟨uh, rfl, huh, rfl⟩
    refine St.app1 ?_
    refine St.openH uh (hitL (okL l) p w) (fun uws huw => ?_)
    have hzl := zip_len huw
    refine St.ev _ (Ev.move (Opd.mk rfl)) rfl ?_
    refine St.ev _ (Ev.extract (Opd.mk rfl) rfl) rfl ?_
    refine St.ev _ (Ev.extract (Opd.mk rfl) rfl) rfl ?_
    refine St.alloc zc30 rfl (fun b13 => ?_)
    refine St.ev _ (Ev.assign (Opd.mk rfl)) rfl ?_
    refine St.storeA (Opd.mk rfl) (Opd.mk rfl) sz30 (by first | simp only [List.length_cons, List.length_nil] | rfl) rfl ?_
    refine St.nil ?_
    refine St.then_normal ?_
    refine St.seq ?_
    refine St.rg ?_
    refine St.ev _ (Ev.move (Opd.mk rfl)) rfl ?_
    refine St.ev _ (Ev.call (PartFault_spec v1 p) cb15 (Opds.cons (Opd.mk rfl) Opds.nil)) rfl ?_
    refine St.storeA (Opd.mk rfl) (Opd.mk rfl) sz30 (by first | simp only [List.length_cons, List.length_nil] | rfl) rfl ?_
    refine St.nil ?_
    refine St.then_normal ?_
    refine St.seq ?_
    refine St.seq ?_
    refine St.rg ?_
    refine St.ev _ (Ev.fldb0 (Opd.mk rfl) fo30_0) rfl ?_
    refine St.ev _ (Ev.ldb (Opd.mk rfl) Tryz.underlying3 trivial (by rfl)) rfl ?_
    refine St.ev _ (Ev.neq (Opd.mk rfl) (Opd.mk rfl)) rfl ?_
    refine St.nil ?_
    refine St.then_normal ?_
    refine St.cond _ rfl (fun h47 => ?_) (fun h47 => ?_)
    · skip
      try simp only [Bool.and_true, Bool.true_and, decide_eq_true_eq, decide_eq_false_iff_not, Bool.and_eq_true, Bool.or_eq_true, Bool.and_eq_false_iff, Bool.or_eq_false_iff, Bool.not_eq_true', Bool.not_eq_false', beq_iff_eq, beq_eq_false_iff_ne, Int.not_lt, Int.not_le] at h47
      refine St.seq ?_
      refine St.rg ?_
      refine St.ev _ (Ev.ldbA (Opd.mk rfl) Tryz.underlying30 trivial (by exact sz30)) rfl ?_
      refine St.ev _ (Ev.ldbA (Opd.mk rfl) Tryz.underlying30 trivial (by exact sz30)) rfl ?_
      refine St.ev _ (Ev.structeql (Opd.mk rfl) (Opd.mk rfl) Tryz.eqGuardType30 (fun w => eqf30 _ _ _ _ w)) rfl ?_
      refine St.ev _ (Ev.move (Opd.mk rfl)) rfl ?_
      refine St.gt _ rfl rfl (fun hg => Ev.ldbA (Opd.mk rfl) Tryz.underlying30 trivial (by exact sz30)) rfl ?_
      refine St.gt _ rfl rfl (fun hg => Ev.ldbA (Opd.mk rfl) Tryz.underlying30 trivial (by exact sz30)) rfl ?_
      refine St.gt _ rfl rfl (fun hg => Ev.structeql (Opd.gv rfl hg) (Opd.gv rfl hg) Tryz.eqGuardType30 (fun w => eqf30 _ _ _ _ w)) rfl ?_
      refine St.ev _ (Ev.and (Opd.mk rfl) (fun hp => Opd.gv rfl hp)) rfl ?_
      refine St.ev _ (Ev.move (Opd.mk rfl)) rfl ?_
      refine St.gt _ rfl rfl (fun hg => Ev.move (Opd.mk rfl)) rfl ?_
      refine St.gt _ rfl rfl (fun hg => Ev.eql (Opd.gv rfl hg) (Opd.mk rfl)) rfl ?_
      refine St.ev _ (Ev.and (Opd.mk rfl) (fun hp => Opd.gv rfl hp)) rfl ?_
      refine St.ev _ (Ev.move (Opd.mk rfl)) rfl ?_
      refine St.gt _ rfl rfl (fun hg => Ev.move (Opd.mk rfl)) rfl ?_
      refine St.gt _ rfl rfl (fun hg => Ev.lensl (Opd.gv rfl hg) Tryz.underlying36) rfl ?_
      refine St.gt _ rfl rfl (fun hg => Ev.eql (Opd.gv rfl hg) (Opd.mk rfl)) rfl ?_
      refine St.ev _ (Ev.and (Opd.mk rfl) (fun hp => Opd.gv rfl hp)) rfl ?_
      refine St.ev _ (Ev.assign (Opd.mk rfl)) rfl ?_
      refine St.nil ?_
      refine St.then_normal ?_
      refine St.rett ?_
      refine St.then_ret ?_
      refine St.rets [_] [] Tryz.results3 ⟨rfl, trivial⟩ ?_ (fun _ hw => hw.sub)
      exact be (by rw [hzl, hitF_1 h47, fnH_f h47, hitL_f (by rw [hitF_1 h47]; exact h47)]; simp)
    · skip
      try simp only [Bool.and_true, Bool.true_and, decide_eq_true_eq, decide_eq_false_iff_not, Bool.and_eq_true, Bool.or_eq_true, Bool.and_eq_false_iff, Bool.or_eq_false_iff, Bool.not_eq_true', Bool.not_eq_false', beq_iff_eq, beq_eq_false_iff_ne, Int.not_lt, Int.not_le] at h47
      have hpz := (partF_ok (p := p) (by omega)).1
      obtain ⟨hp0, hp12, _⟩ := (partF_ok (p := p) (by omega)).2
      refine St.skip ?_
      refine St.then_normal ?_
      refine St.seq ?_
      refine St.rg ?_
      refine St.ev _ (Ev.move (Opd.mk rfl)) rfl ?_
      refine St.ev _ (Ev.move (Opd.mk rfl)) rfl ?_
      refine St.calld (PartHits_spec v0b v1 (okL l) p 0 hcorp (by omega) (by omega)) cb16 (Opds.cons (Opd.mk rfl) (Opds.cons (Opd.mk rfl) (Opds.cons (Opd.mk rfl) Opds.nil))) rfl ?_
      rintro v67 _ ⟨h67, rfl⟩
      refine St.app1 ?_
      refine St.openH v67 (hitsW (okL l) p 0) (fun uws0 huw0 => ?_)
      have hzl0 := zip_len huw0
      refine St.ev _ (Ev.assign (Opd.mk rfl)) rfl ?_
      refine St.nil ?_
      refine St.then_normal ?_
      refine St.seq ?_
      refine St.seq ?_
      refine St.rg ?_
      refine St.ev _ (Ev.fldb0 (Opd.mk rfl) fo30_0) rfl ?_
      refine St.ev _ (Ev.ldb (Opd.mk rfl) Tryz.underlying3 trivial (by rfl)) rfl ?_
      refine St.ev _ (Ev.neq (Opd.mk rfl) (Opd.mk rfl)) rfl ?_
      refine St.ev _ (Ev.move (Opd.mk rfl)) rfl ?_
      refine St.gf _ rfl rfl (fun hg => Ev.move (Opd.mk rfl)) rfl ?_
      refine St.gf _ rfl rfl (fun hg => Ev.move (Opd.mk rfl)) rfl ?_
      refine St.gf _ rfl rfl (fun hg => Ev.lensl (Opd.gv rfl hg) Tryz.underlying36) rfl ?_
      refine St.gf _ rfl rfl (fun hg => Ev.neq (Opd.gv rfl hg) (Opd.gv rfl hg)) rfl ?_
      refine St.ev _ (Ev.or (Opd.mk rfl) (fun hp => Opd.gv rfl hp)) rfl ?_
      refine St.nil ?_
      refine St.then_normal ?_
      refine St.condf _ rfl (by rw [hzl0, hw_len, fnH_t (by rw [hpz]), hpz]; simp) ?_
      refine St.skip ?_
      refine St.then_normal ?_
      refine St.seq ?_
      refine St.seq ?_
      refine St.rg ?_
      refine St.ev _ (Ev.move (Opd.mk rfl)) rfl ?_
      refine St.ev _ (Ev.lss (Opd.mk rfl) (Opd.mk rfl)) rfl ?_
      refine St.ev _ (Ev.move (Opd.mk rfl)) rfl ?_
      refine St.gf _ rfl rfl (fun hg => Ev.move (Opd.mk rfl)) rfl ?_
      refine St.gf _ rfl rfl (fun hg => Ev.gtr (Opd.gv rfl hg) (Opd.mk rfl)) rfl ?_
      refine St.ev _ (Ev.or (Opd.mk rfl) (fun hp => Opd.gv rfl hp)) rfl ?_
      refine St.nil ?_
      refine St.then_normal ?_
      refine St.cond _ rfl (fun h82 => ?_) (fun h82 => ?_)
      · skip
        try simp only [Bool.and_true, Bool.true_and, decide_eq_true_eq, decide_eq_false_iff_not, Bool.and_eq_true, Bool.or_eq_true, Bool.and_eq_false_iff, Bool.or_eq_false_iff, Bool.not_eq_true', Bool.not_eq_false', beq_iff_eq, beq_eq_false_iff_ne, Int.not_lt, Int.not_le] at h82
        have hf2 := hitF_2 (p := p) (w := w) (by rw [hpz]) (by omega)
        refine St.seq ?_
        refine St.rg ?_
        refine St.ev _ (Ev.ldbA (Opd.mk rfl) Tryz.underlying30 trivial (by exact sz30)) rfl ?_
        refine St.ev _ (Ev.build (ps := [(0, (Operand.const (Value.int IntKind.i64 3))), (1, (Operand.const (Value.int IntKind.i64 (-2))))]) (Opds.cons (Opd.mk rfl) (Opds.cons (Opd.mk rfl) Opds.nil)) (fun w => bld30_0_1 rfl rfl w)) rfl ?_
        refine St.ev _ (Ev.structeql (Opd.mk rfl) (Opd.mk rfl) Tryz.eqGuardType30 (fun w => eqf30 _ _ _ _ w)) rfl ?_
        refine St.ev _ (Ev.move (Opd.mk rfl)) rfl ?_
        refine St.gt _ rfl rfl (fun hg => Ev.move (Opd.mk rfl)) rfl ?_
        refine St.gt _ rfl rfl (fun hg => Ev.lensl (Opd.gv rfl hg) Tryz.underlying36) rfl ?_
        refine St.gt _ rfl rfl (fun hg => Ev.eql (Opd.gv rfl hg) (Opd.mk rfl)) rfl ?_
        refine St.ev _ (Ev.and (Opd.mk rfl) (fun hp => Opd.gv rfl hp)) rfl ?_
        refine St.ev _ (Ev.assign (Opd.mk rfl)) rfl ?_
        refine St.nil ?_
        refine St.then_normal ?_
        refine St.rett ?_
        refine St.then_ret ?_
        refine St.rets [_] [] Tryz.results3 ⟨rfl, trivial⟩ ?_ (fun _ hw => hw.sub)
        exact be (by rw [hzl, hitL_f (by rw [hf2]; decide), hf2]; simp)
      · skip
        try simp only [Bool.and_true, Bool.true_and, decide_eq_true_eq, decide_eq_false_iff_not, Bool.and_eq_true, Bool.or_eq_true, Bool.and_eq_false_iff, Bool.or_eq_false_iff, Bool.not_eq_true', Bool.not_eq_false', beq_iff_eq, beq_eq_false_iff_ne, Int.not_lt, Int.not_le] at h82
        have hf3 := hitF_3 (p := p) (w := w) (by rw [hpz]) (by omega)
        have hl3 := hitL_t (l := okL l) (p := p) (w := w) (by rw [hf3])
        refine St.skip ?_
        refine St.then_normal ?_
        refine St.seq ?_
        refine St.rg ?_
        refine St.ev _ (Ev.fldb0 (Opd.mk rfl) fo30_0) rfl ?_
        refine St.ev _ (Ev.ldb (Opd.mk rfl) Tryz.underlying3 trivial (by rfl)) rfl ?_
        refine St.ev _ (Ev.eql (Opd.mk rfl) (Opd.mk rfl)) rfl ?_
        refine St.ev _ (Ev.move (Opd.mk rfl)) rfl ?_
        refine St.known 94 _ true rfl (by rw [hf3]; rfl) ?_
        refine St.takeg rfl rfl ?_
        refine St.ev _ (Ev.move (Opd.mk rfl)) rfl ?_
        refine St.takeg rfl rfl ?_
        refine St.ev _ (Ev.move (Opd.mk rfl)) rfl ?_
        refine St.takeg rfl rfl ?_
        refine St.ev _ (Ev.move (Opd.mk rfl)) rfl ?_
        refine St.takeg rfl rfl ?_
        refine St.ev _ (Ev.move (Opd.mk rfl)) rfl ?_
        refine St.slot 98 (iv ((w.toNat : Nat) : Int)) rfl (congrArg (fun z => iv z) (by omega)) ?_
        refine St.takeg rfl rfl ?_
        refine St.calld (PartHits_spec v0b v1 (okL l) p w.toNat hcorp (by omega) (by omega)) cb16 (Opds.cons (Opd.mk rfl) (Opds.cons (Opd.mk rfl) (Opds.cons (Opd.mk rfl) Opds.nil))) rfl ?_
        rintro v99 _ ⟨h99, rfl⟩
        refine St.app1 ?_
        rw [hl3]
        refine St.takeg rfl rfl ?_
        refine St.ev _ (Ev.call (sameHits_spec uh v99 (hitsW (okL l) p w.toNat) (hitsW (okL l) p w.toNat)) cb17 (Opds.cons (Opd.mk rfl) (Opds.cons (Opd.mk rfl) Opds.nil))) rfl ?_
        refine St.ev _ (Ev.pickt (Opd.mk rfl) rfl (Opd.mk rfl)) rfl ?_
        refine St.ev _ (Ev.assign (Opd.mk rfl)) rfl ?_
        refine St.nil ?_
        refine St.then_normal ?_
        refine St.rett ?_
        refine St.rets [_] [] Tryz.results3 ⟨rfl, trivial⟩ ?_ (fun _ hw => hw.sub)
        exact be (by simp)

end Go.Proofs.YtgikcbfdonjggaaGreatDoor

/-
  (YtgikcbfdonjggaaGreatDoorC9)
  The walk of the sentences in which all words occur.
  Conditions: none beyond the sizes.
-/
set_option maxRecDepth 20000
set_option linter.unusedSimpArgs false
set_option linter.unusedVariables false
namespace Go.Proofs.YtgikcbfdonjggaaGreatDoor
open Go Go.J

def withF (ws : List Str) : Int × Int := if 12 < ws.length then (2, -1) else partFrom 0 ws
/-- how often the word stands in the sentence i -/
def cntW (l : List (List Str)) (w : Str) (i : Nat) : Nat := (hitsOf l [w]).countP fun h => decide (h.1 = i)
def hasAll (l : List (List Str)) (ws : List Str) (i : Nat) : Bool := ws.all fun w => !decide (cntW l w i = 0)
def withL (l : List (List Str)) (ws : List Str) : List Nat := if (withF ws).1 = 0 then (List.range l.length).filter (hasAll l ws) else []
theorem withL_t {l : List (List Str)} {ws : List Str} (h : (withF ws).1 = 0) : withL l ws = (List.range l.length).filter (hasAll l ws) := by unfold withL; rw [if_pos h]
theorem withL_f {l : List (List Str)} {ws : List Str} (h : (withF ws).1 ≠ 0) : withL l ws = [] := by unfold withL; rw [if_neg h]
theorem part_one' {w : Str} (h : isWord w = true) : partF [w] = (0, 0) := by simp [partF, partFrom, h]
theorem hasAll_step {l : List (List Str)} {ws : List Str} {k : Nat} {w : Str} (hw : ws[k]? = some w) (i : Nat) : hasAll l (ws.take (k + 1)) i = (hasAll l (ws.take k) i && !decide (cntW l w i = 0)) := by
  unfold hasAll; rw [take_of_some hw, List.all_append]; simp
theorem filter_two {l : List (List Str)} {ws : List Str} {k : Nat} {w : Str} (hw : ws[k]? = some w) (n : Nat) : ((List.range n).filter (hasAll l (ws.take k))).filter (fun i => !decide (cntW l w i = 0)) = (List.range n).filter (hasAll l (ws.take (k + 1))) := by
  rw [List.filter_filter]
  apply List.filter_congr
  intro i _
  rw [hasAll_step hw, Bool.and_comm]
theorem fil_zero (l : List (List Str)) (ws : List Str) (n : Nat) : (List.range n).filter (hasAll l (ws.take 0)) = List.range n := List.filter_eq_self.2 fun i _ => rfl
def iotaK (n k : Nat) : List Nat := List.range k ++ List.replicate (n - k) 0
theorem iotaK_zero (n : Nat) : iotaK n 0 = List.replicate n 0 := by simp [iotaK]
theorem iotaK_end (n : Nat) : iotaK n n = List.range n := by simp [iotaK]
theorem iotaK_len {n k : Nat} (h : k ≤ n) : (iotaK n k).length = n := by simp [iotaK]; omega
theorem iotaK_set {n k : Nat} (h : k < n) : (iotaK n k).set k k = iotaK n (k + 1) := by
  unfold iotaK
  rw [List.set_append_right _ _ (by simp), List.length_range, Nat.sub_self, show n - k = (n - (k + 1)) + 1 by omega, List.replicate_succ, List.set_cons_zero, List.range_succ]
  simp
/-- where the deleting stands: what is kept so far, and what is still ahead -/
structure DF (pr : Int → Bool) (xs : List Int) (j i : Nat) (W : List Int) : Prop where
  ij : i < j
  jn : j ≤ xs.length
  len : W.length = xs.length
  out : W.take i = (xs.take j).filter fun x => !pr x
  rest : ∀ q, j ≤ q → W[q]? = xs[q]?
theorem DF.start {pr : Int → Bool} {xs : List Int} {k : Nat} {x : Int} (hk : xs[k]? = some x) (hp : pr x = true) (h : ∀ j y, j < k → xs[j]? = some y → pr y = false) : DF pr xs (k + 1) k xs := by
  have hlt := lt_of_some hk
  refine ⟨Nat.lt_succ_self _, hlt, rfl, ?_, fun _ _ => rfl⟩
  rw [take_of_some hk, List.filter_append]
  have e : (xs.take k).filter (fun x => !pr x) = xs.take k := by
    rw [List.filter_eq_self]
    intro y hy
    obtain ⟨j, hj, he⟩ := List.mem_iff_getElem.1 hy
    rw [List.length_take] at hj
    rw [List.getElem_take] at he
    rw [h j y (by omega) (by rw [List.getElem?_eq_getElem (by omega), he])]; rfl
  rw [e]
  simp [hp]
theorem DF.skip {pr : Int → Bool} {xs W : List Int} {j i : Nat} {x : Int} (h : DF pr xs j i W) (hx : xs[j]? = some x) (hp : pr x = true) : DF pr xs (j + 1) i W := by
  refine ⟨by have := h.ij; omega, lt_of_some hx, h.len, ?_, fun q hq => h.rest q (by omega)⟩
  rw [h.out, take_of_some hx, List.filter_append]; simp [hp]
theorem DF.keep {pr : Int → Bool} {xs W : List Int} {j i : Nat} {x : Int} (h : DF pr xs j i W) (hx : xs[j]? = some x) (hp : pr x = false) : DF pr xs (j + 1) (i + 1) (W.set i x) := by
  have hj := lt_of_some hx
  have hij := h.ij
  have hl := h.len
  refine ⟨by omega, hj, by rw [List.length_set]; exact hl, ?_, fun q hq => ?_⟩
  · have e : (W.set i x)[i]? = some x := by rw [List.getElem?_set_self (by omega)]
    rw [take_of_some e, List.take_set_of_le (Nat.le_refl _), h.out, take_of_some hx, List.filter_append]; simp [hp]
  · rw [List.getElem?_set_ne (by omega)]; exact h.rest q (by omega)
theorem DF.fin {pr : Int → Bool} {xs W : List Int} {j i : Nat} (h : DF pr xs j i W) (hj : xs.length ≤ j) : W.take i = xs.filter (fun x => !pr x) := by
  rw [h.out, List.take_of_length_le hj]
theorem ix_first {pr : Int → Bool} {xs : List Int} (h : ix pr xs ≠ -1) : ∃ (k : Nat) (x : Int), ix pr xs = k ∧ xs[k]? = some x ∧ pr x = true ∧ ∀ j y, j < k → xs[j]? = some y → pr y = false := by
  rcases ix_cases pr xs with ⟨h1, _⟩ | ⟨k, x, h1, h2, h3, h4⟩
  · exact absurd h1 h
  · exact ⟨k, x, h3, h1, h2, h4⟩
theorem ix_no {pr : Int → Bool} {xs : List Int} (h : ix pr xs = -1) : xs.filter (fun x => !pr x) = xs := by
  rcases ix_cases pr xs with ⟨_, h2⟩ | ⟨k, x, _, _, h3, _⟩
  · rw [List.filter_eq_self]; intro x hx; rw [h2 x hx]; rfl
  · omega
theorem rowI_get {W : List Int} {k : Nat} {x : Int} (h : W[k]? = some x) : (rows intR W)[k * 1 + 0]? = some (iv x) := by
  rw [rows_intR, Nat.mul_one, Nat.add_zero, List.getElem?_map, h]; rfl
theorem ints_filter (pr : Nat → Bool) (q : Int → Bool) (l : List Nat) (h : ∀ i ∈ l, q (i : Int) = pr i) : (ints l).filter (fun x => !q x) = ints (l.filter fun i => !pr i) := by
  induction l with
  | nil => rfl
  | cons i l ih =>
    have h1 := h i (List.mem_cons_self ..)
    have h2 := ih fun j hj => h j (List.mem_cons_of_mem _ hj)
    simp only [ints, List.map_cons, List.filter_cons, h1] at h2 ⊢
    cases pr i <;> simp [h2]

theorem DeleteFunc_spec (v : Value) (xs : List Int) (g : FuncId) (hcb : Callable Tryz.prog g) (caps : List Value) (D : Dat) (pr : Int → Bool) (hwx : ∀ x ∈ xs, intR.wf x) (hlen : xs.length ≤ 1000000) (hcl : ∀ x ∈ xs, FnV Tryz.prog g ([iv x] ++ caps).toArray [D] (.bool (pr x))) :
    FnH Tryz.prog 35 #[v, .func (.func g) #[] caps.toArray] ([D].map dat ++ [row v 3 1 xs.length (rows intR xs)]) (fun u H' => u.oneCell' = true ∧ H' = [row u 3 1 (xs.filter fun x => !pr x).length (rows intR (xs.filter fun x => !pr x))]) := by
  refine FnH.body (args := [v, .func (.func g) #[] caps.toArray]) 42 Tryz.func35 rfl Tryz.ntmps35 rfl (fun c => ?_)
  refine St.seq ?_
  refine St.cast (H' := [dat D, row v 3 1 xs.length (rows intR xs)]) rfl ?_
  refine St.rowOne v (fun hov _ => ?_)
  refine St.rg ?_
  refine St.ev _ (Ev.assign (Opd.mk rfl)) rfl ?_
  refine St.nil ?_
  refine St.then_normal ?_
  refine St.seq ?_
  refine St.rg ?_
  refine St.ev _ (Ev.move (Opd.mk rfl)) rfl ?_
  refine St.ev _ (Ev.move (Opd.mk rfl)) rfl ?_
  refine St.ev _ (Ev.callL (IndexFunc_spec v xs g hcb caps D pr hcl) cb53 (Opds.cons (Opd.mk rfl) (Opds.cons (Opd.mk rfl) Opds.nil)) (Lent.row (Lent.dat Lent.nil) rfl rfl rfl hwx)) rfl ?_
  refine St.ev _ (Ev.assign (Opd.mk rfl)) rfl ?_
  refine St.nil ?_
  refine St.then_normal ?_
  refine St.seq ?_
  refine St.seq ?_
  refine St.rg ?_
  refine St.ev _ (Ev.move (Opd.mk rfl)) rfl ?_
  refine St.ev _ (Ev.eql (Opd.mk rfl) (Opd.mk rfl)) rfl ?_
  refine St.nil ?_
  refine St.then_normal ?_
  refine St.cond _ rfl (fun h12 => ?_) (fun h12 => ?_)
  · skip
    try simp only [Bool.and_true, Bool.true_and, decide_eq_true_eq, decide_eq_false_iff_not, Bool.and_eq_true, Bool.or_eq_true, Bool.and_eq_false_iff, Bool.or_eq_false_iff, Bool.not_eq_true', Bool.not_eq_false', beq_iff_eq, beq_eq_false_iff_ne, Int.not_lt, Int.not_le] at h12
    have hno := ix_no (pr := pr) (xs := xs) (by omega)
    refine St.seq ?_
    refine St.rg ?_
    refine St.ev _ (Ev.move (Opd.mk rfl)) rfl ?_
    refine St.ev _ (Ev.assign (Opd.mk rfl)) rfl ?_
    refine St.nil ?_
    refine St.then_normal ?_
    refine St.rett ?_
    refine St.then_ret ?_
    refine St.rets [_] [row v 3 1 xs.length (rows intR xs)] Tryz.results35 ⟨rfl, trivial⟩ ?_ (fun _ hw => hw.sub)
    rw [hno]; exact ⟨hov, rfl⟩
  · skip
    try simp only [Bool.and_true, Bool.true_and, decide_eq_true_eq, decide_eq_false_iff_not, Bool.and_eq_true, Bool.or_eq_true, Bool.and_eq_false_iff, Bool.or_eq_false_iff, Bool.not_eq_true', Bool.not_eq_false', beq_iff_eq, beq_eq_false_iff_ne, Int.not_lt, Int.not_le] at h12
    obtain ⟨k0, x0, hk0, hx0, hp0, hbef⟩ := ix_first (pr := pr) (xs := xs) (by omega)
    rw [hk0]
    have hk0l := lt_of_some hx0
    refine St.skip ?_
    refine St.then_normal ?_
    refine St.seq ?_
    refine St.seq ?_
    refine St.rg ?_
    refine St.ev _ (Ev.move (Opd.mk rfl)) rfl ?_
    refine St.ev _ (Ev.add (Opd.mk rfl) (Opd.mk rfl) (by omega)) rfl ?_
    refine St.ev _ (Ev.assign (Opd.mk rfl)) rfl ?_
    refine St.nil ?_
    refine St.then_normal ?_
    refine St.block ?_
    refine St.loopH (ι := Nat × Nat × List Int) (fun x T => (6, iv x.1) :: (5, iv x.2.1) :: T) (fun x => [row v 3 1 xs.length (rows intR x.2.2), dat D]) (fun x => DF pr xs x.1 x.2.1 x.2.2) (fun x => xs.length - x.1) (k0 + 1, k0, xs) (Keep.cons 0 rfl (Keep.cons 1 rfl (Keep.cons 4 rfl Keep.nil))) (DF.start hx0 hp0 hbef) (by repeat (first | exact Sub.nil | refine Sub.cons (by first | rfl | exact congrArg (fun z => some (iv z)) (by first | omega | (dsimp only; omega)) | exact congrArg (fun z => some (Value.bool z)) (by first | assumption | exact Eq.symm (by assumption))) ?_)) (fun _ hw => hw.sub) ?_
    rintro ⟨j, i, W⟩ hdf
    dsimp only at hdf ⊢
    have hd1 := hdf.ij
    have hd2 := hdf.jn
    have hd3 := hdf.len
    refine St.seq ?_
    refine St.seq ?_
    refine St.rg ?_
    refine St.ev _ (Ev.move (Opd.mk rfl)) rfl ?_
    refine St.ev _ (Ev.move (Opd.mk rfl)) rfl ?_
    refine St.ev _ (Ev.lenrow (Opd.mk rfl) Tryz.underlying25) rfl ?_
    refine St.ev _ (Ev.lss (Opd.mk rfl) (Opd.mk rfl)) rfl ?_
    refine St.nil ?_
    refine St.then_normal ?_
    refine St.cond _ rfl (fun h19 => ?_) (fun h19 => ?_)
    · skip
      try simp only [Bool.and_true, Bool.true_and, decide_eq_true_eq, decide_eq_false_iff_not, Bool.and_eq_true, Bool.or_eq_true, Bool.and_eq_false_iff, Bool.or_eq_false_iff, Bool.not_eq_true', Bool.not_eq_false', beq_iff_eq, beq_eq_false_iff_ne, Int.not_lt, Int.not_le] at h19
      obtain ⟨y, hy⟩ := some_of_lt (show j < xs.length by omega)
      have hyW : W[j]? = some y := by rw [hdf.rest j (Nat.le_refl _)]; exact hy
      have hym := List.mem_of_getElem? hy
      refine St.skip ?_
      refine St.then_normal ?_
      refine St.seq ?_
      refine St.block ?_
      refine St.seq ?_
      refine St.rg ?_
      refine St.ev _ (Ev.move (Opd.mk rfl)) rfl ?_
      refine St.ev _ (Ev.move (Opd.mk rfl)) rfl ?_
      refine St.ev _ (Ev.idxaddrrow (k := j) (Opd.mk rfl) (Opd.mk rfl) Tryz.underlying25 sz3 (by omega) (by omega)) rfl ?_
      refine St.ev _ (Ev.ldrow (Opd.mk rfl) Tryz.underlying3 trivial (by omega) (rowI_get hyW)) rfl ?_
      refine St.ev _ (Ev.assign (Opd.mk rfl)) rfl ?_
      refine St.nil ?_
      refine St.then_normal ?_
      refine St.seq ?_
      refine St.rg ?_
      refine St.ev _ (Ev.move (Opd.mk rfl)) rfl ?_
      refine St.ev _ (Ev.move (Opd.mk rfl)) rfl ?_
      refine St.ev _ (Ev.callc (hcl y hym) hcb (Opd.mk rfl) (Opds.cons (Opd.mk rfl) Opds.nil)) rfl ?_
      refine St.ev _ (Ev.not (Opd.mk rfl)) rfl ?_
      refine St.nil ?_
      refine St.then_normal ?_
      refine St.cond _ rfl (fun h29 => ?_) (fun h29 => ?_)
      · skip
        simp only [Bool.not_eq_true', Bool.not_eq_false'] at h29
        refine St.seq ?_
        refine St.rg ?_
        refine St.ev _ (Ev.move (Opd.mk rfl)) rfl ?_
        refine St.ev _ (Ev.move (Opd.mk rfl)) rfl ?_
        refine St.ev _ (Ev.move (Opd.mk rfl)) rfl ?_
        refine St.ev _ (Ev.idxaddrrow (k := i) (Opd.mk rfl) (Opd.mk rfl) Tryz.underlying25 sz3 (by omega) (by omega)) rfl ?_
        refine St.storerow (Opd.mk rfl) (Opd.mk rfl) sz3 rfl (by omega) (by decide) ?_
        refine St.rowEq v (rowI_set _ _ _) ?_
        refine St.nil ?_
        refine St.then_normal ?_
        refine St.rg ?_
        refine St.ev _ (Ev.move (Opd.mk rfl)) rfl ?_
        refine St.ev _ (Ev.add (Opd.mk rfl) (Opd.mk rfl) (by omega)) rfl ?_
        refine St.ev _ (Ev.assign (Opd.mk rfl)) rfl ?_
        refine St.nil ?_
        refine St.in_normal ?_
        refine St.then_normal ?_
        refine St.rg ?_
        refine St.ev _ (Ev.move (Opd.mk rfl)) rfl ?_
        refine St.ev _ (Ev.add (Opd.mk rfl) (Opd.mk rfl) (by omega)) rfl ?_
        refine St.ev _ (Ev.assign (Opd.mk rfl)) rfl ?_
        refine St.nil ?_
        refine St.then_normal ?_
        refine St.againH (j + 1, i + 1, W.set i y) (hdf.keep hy h29) (by show xs.length - (j + 1) < xs.length - j; omega) (by repeat (first | exact Sub.nil | refine Sub.cons (by first | rfl | exact congrArg (fun z => some (iv z)) (by first | omega | (dsimp only; omega)) | exact congrArg (fun z => some (Value.bool z)) (by first | assumption | exact Eq.symm (by assumption))) ?_)) (fun _ hw => hw.sub)
      · skip
        simp only [Bool.not_eq_true', Bool.not_eq_false'] at h29
        refine St.skip ?_
        refine St.in_normal ?_
        refine St.then_normal ?_
        refine St.rg ?_
        refine St.ev _ (Ev.move (Opd.mk rfl)) rfl ?_
        refine St.ev _ (Ev.add (Opd.mk rfl) (Opd.mk rfl) (by omega)) rfl ?_
        refine St.ev _ (Ev.assign (Opd.mk rfl)) rfl ?_
        refine St.nil ?_
        refine St.then_normal ?_
        refine St.againH (j + 1, i, W) (hdf.skip hy h29) (by show xs.length - (j + 1) < xs.length - j; omega) (by repeat (first | exact Sub.nil | refine Sub.cons (by first | rfl | exact congrArg (fun z => some (iv z)) (by first | omega | (dsimp only; omega)) | exact congrArg (fun z => some (Value.bool z)) (by first | assumption | exact Eq.symm (by assumption))) ?_)) (fun _ hw => hw.sub)
    · skip
      try simp only [Bool.and_true, Bool.true_and, decide_eq_true_eq, decide_eq_false_iff_not, Bool.and_eq_true, Bool.or_eq_true, Bool.and_eq_false_iff, Bool.or_eq_false_iff, Bool.not_eq_true', Bool.not_eq_false', beq_iff_eq, beq_eq_false_iff_ne, Int.not_lt, Int.not_le] at h19
      have hfin := hdf.fin (by omega)
      refine St.exit ?_
      refine St.then_exit ?_
      refine St.then_exit ?_
      refine St.in_hit ?_
      refine St.then_normal ?_
      refine St.seq ?_
      refine St.rg ?_
      refine St.ev _ (Ev.move (Opd.mk rfl)) rfl ?_
      refine St.ev _ (Ev.move (Opd.mk rfl)) rfl ?_
      refine St.ev _ (Ev.slicerow_l (l := i) (Opd.mk rfl) (Opd.mk rfl) Tryz.underlying25 sz3 rfl (by omega)) rfl ?_
      refine St.clearslv (Opd.mk rfl) Tryz.underlying25 zv3 rfl rfl (by omega) rfl ?_
      refine St.nil ?_
      refine St.then_normal ?_
      refine St.seq ?_
      refine St.rg ?_
      refine St.ev _ (Ev.move (Opd.mk rfl)) rfl ?_
      refine St.ev _ (Ev.move (Opd.mk rfl)) rfl ?_
      refine St.ev _ (Ev.slicerow_h (h := i) (Opd.mk rfl) (Opd.mk rfl) Tryz.underlying25 sz3 (by omega) (by omega)) rfl ?_
      refine St.ev _ (Ev.assign (Opd.mk rfl)) rfl ?_
      refine St.nil ?_
      refine St.then_normal ?_
      refine St.rett ?_
      refine St.rowCut v i (by omega) ?_
      refine St.rowOne (slv v 1 0 i) (fun hos _ => ?_)
      have hfl : i = (xs.filter fun x => !pr x).length := by rw [← hfin, List.length_take]; omega
      refine St.rowEqN (slv v 1 0 i) hfl (show _ = rows intR (xs.filter fun x => !pr x) by rw [rows_intR, rows_intR, Nat.mul_one, List.take_append_of_le_length (by rw [List.length_take, List.length_map]; omega), List.take_take, Nat.min_self, ← List.map_take, hfin]) ?_
      refine St.rets [_] [row (slv v 1 0 i) 3 1 (xs.filter fun x => !pr x).length (rows intR (xs.filter fun x => !pr x))] Tryz.results35 ⟨rfl, trivial⟩ ?_ (fun _ hw => hw.sub)
      exact ⟨hos, rfl⟩

theorem With1_spec (b bm : Nat) (m : List (Int × Value)) (g : Nat) (i : Nat) (hm : (mget m (i : Int)).getD (iv 0) = iv (g : Nat)) : FnV Tryz.prog 36 #[iv (i : Nat), Value.pointer (some ⟨b, 0, none⟩)] [cel b (.map (some bm)), mpd mkInt bm m] (.bool (decide (g = 0))) := by
  refine FnV.body2 (args := [iv (i : Nat), Value.pointer (some ⟨b, 0, none⟩)]) 8 Tryz.func36 rfl Tryz.ntmps36 rfl (fun c => ?_)
  refine St.seq ?_
  refine St.rg ?_
  refine St.ev _ (Ev.assign (Opd.mk rfl)) rfl ?_
  refine St.nil ?_
  refine St.then_normal ?_
  refine St.seq ?_
  refine St.rg ?_
  refine St.ev _ (Ev.ldcel (Opd.mk rfl) Tryz.underlying71 trivial) rfl ?_
  refine St.ev _ (Ev.move (Opd.mk rfl)) rfl ?_
  refine St.ev _ (Ev.lookupd mkInt (k := (i : Int)) (Opd.mk rfl) (Opd.mk rfl) Tryz.underlying71 (by exact Tryz.underlying3) zv3) rfl ?_
  refine St.slot 6 (iv (g : Nat)) rfl hm ?_
  refine St.ev _ (Ev.eql (Opd.mk rfl) (Opd.mk rfl)) rfl ?_
  refine St.ev _ (Ev.assign (Opd.mk rfl)) rfl ?_
  refine St.nil ?_
  refine St.then_normal ?_
  refine St.rett ?_
  refine St.rets [_] [] Tryz.results36 ⟨rfl, trivial⟩ ?_ (fun _ hw => hw.sub)
  exact be (decide_eq_decide.2 (by omega))

theorem With1_specC (b bm : Nat) (m : List (Int × Value)) (g : Nat) (i : Nat) (hm : (mget m (i : Int)).getD (iv 0) = iv (g : Nat)) : FnV Tryz.prog 36 ([iv (i : Nat)] ++ [Value.pointer (some ⟨b, 0, none⟩)]).toArray [cel b (.map (some bm)), mpd mkInt bm m] (.bool (decide (g = 0))) := With1_spec b bm m g i hm

theorem cnt_take {hs : List (Nat × Nat)} {k : Nat} {h : Nat × Nat} (hh : hs[k]? = some h) (i : Nat) : (hs.take (k + 1)).countP (fun x => decide (x.1 = i)) = (hs.take k).countP (fun x => decide (x.1 = i)) + if h.1 = i then 1 else 0 := by
  rw [take_of_some hh, List.countP_append]; congr 1
  by_cases e : h.1 = i <;> simp [e]
def CntM (m : List (Int × Value)) (hs : List (Nat × Nat)) (k : Nat) : Prop := ∀ i : Nat, (mget m (i : Int)).getD (iv 0) = iv (((hs.take k).countP (fun x => decide (x.1 = i)) : Nat) : Int)
theorem CntM.step {m : List (Int × Value)} {hs : List (Nat × Nat)} {k : Nat} {h : Nat × Nat} (hc : CntM m hs k) (hh : hs[k]? = some h) : CntM (mset m (h.1 : Int) (iv ((((hs.take k).countP (fun x => decide (x.1 = h.1)) : Nat) : Int) + 1))) hs (k + 1) := by
  intro i
  rw [mget_set, cnt_take hh i]
  by_cases e : i = h.1
  · subst e; simp
  · rw [if_neg (by omega), hc i, if_neg (fun q => e q.symm)]; rfl
theorem wf_filter {n : Nat} (q : Nat → Bool) (hn : n ≤ 1000) : ∀ x ∈ ints ((List.range n).filter q), intR.wf x := int_wf fun i hi => by
  have := List.mem_range.1 (List.mem_filter.1 hi).1; omega
theorem filter_le (q : Nat → Bool) (n : Nat) : ((List.range n).filter q).length ≤ n := by
  have := List.length_filter_le q (List.range n); rwa [List.length_range] at this

set_option maxHeartbeats 4000000 in
theorem With_spec (vl vw vp vo vz v1 : Value) (l : List (List Str)) (ws : List Str) (hc : Corp l) : FnW Tryz.prog 20 #[idxV vl vw vp vo vz, v1] ([idxD vl vw vp vo vz l, sl strR v1 ws, u8].map dat) (fun u H' => ∃ u0, u = .tuple #[u0, fv (withF ws)] ∧ u0.oneCell' = true ∧ H' = [dat (sl intR u0 (ints (withL l ws)))]) := by
  refine FnW.body (args := [idxV vl vw vp vo vz, v1]) 80 Tryz.func20 rfl Tryz.ntmps20 rfl (fun c hdr => ?_)
  refine St.seq ?_
  refine St.cast (H' := [dat (idxD vl vw vp vo vz l), dat (sl strR v1 ws), dat u8]) rfl ?_
  refine St.openD (idxD vl vw vp vo vz l) (fun _ : Unit => idxL vl vw vp vo vz l) (fun ρ h => ⟨(), h⟩) (fun _ => ?_)
  unfold idxL
  refine St.appl ?_
  refine St.wf v1 (fun hwf hlen => ?_)
  have hl100 := hc.len
  refine St.rg ?_
  refine St.boxA (Opd.mk rfl) rfl (fun b2 => ?_)
  refine St.ev _ (Ev.assign (Opd.mk rfl)) rfl ?_
  refine St.alloc zc30 rfl (fun b5 => ?_)
  refine St.nil ?_
  refine St.then_normal ?_
  refine St.seq ?_
  refine St.seq ?_
  refine St.rg ?_
  refine St.ev _ (Ev.move (Opd.mk rfl)) rfl ?_
  refine St.ev _ (Ev.lensl (Opd.mk rfl) Tryz.underlying23) rfl ?_
  refine St.ev _ (Ev.gtr (Opd.mk rfl) (Opd.mk rfl)) rfl ?_
  refine St.nil ?_
  refine St.then_normal ?_
  refine St.cond _ rfl (fun h19 => ?_) (fun h19 => ?_)
  · skip
    try simp only [Bool.and_true, Bool.true_and, decide_eq_true_eq, decide_eq_false_iff_not, Bool.and_eq_true, Bool.or_eq_true, Bool.and_eq_false_iff, Bool.or_eq_false_iff, Bool.not_eq_true', Bool.not_eq_false', beq_iff_eq, beq_eq_false_iff_ne, Int.not_lt, Int.not_le] at h19
    have hf : withF ws = (2, -1) := by unfold withF; rw [if_pos (by omega)]
    refine St.seq ?_
    refine St.rg ?_
    refine St.ev _ (Ev.build (ps := [(0, (Operand.const (Value.int IntKind.i64 2))), (1, (Operand.const (Value.int IntKind.i64 (-1))))]) (Opds.cons (Opd.mk rfl) (Opds.cons (Opd.mk rfl) Opds.nil)) (fun w => bld30_0_1 rfl rfl w)) rfl ?_
    refine St.ev _ (Ev.assign (Opd.mk rfl)) rfl ?_
    refine St.storeA (Opd.mk rfl) (Opd.mk rfl) sz30 (by first | simp only [List.length_cons, List.length_nil] | rfl) rfl ?_
    refine St.nil ?_
    refine St.then_normal ?_
    refine St.rett ?_
    refine St.then_ret ?_
    refine St.slNil intR ?_
    refine St.rets [_, _] [dat (sl intR (.slice none 0 0) [])] Tryz.results20 ⟨rfl, ⟨⟨_, _, _, _, rfl, InB.mem, .inl ⟨⟨_, Tryz.underlying30⟩, sz30, rfl⟩⟩, trivial⟩⟩ ?_ (fun _ hw => hw.sub)
    rw [withL_f (by rw [hf]; decide), hf]; exact ⟨_, rfl, rfl, rfl⟩
  · skip
    try simp only [Bool.and_true, Bool.true_and, decide_eq_true_eq, decide_eq_false_iff_not, Bool.and_eq_true, Bool.or_eq_true, Bool.and_eq_false_iff, Bool.or_eq_false_iff, Bool.not_eq_true', Bool.not_eq_false', beq_iff_eq, beq_eq_false_iff_ne, Int.not_lt, Int.not_le] at h19
    refine St.skip ?_
    refine St.then_normal ?_
    refine St.seq ?_
    refine St.seq ?_
    refine St.rg ?_
    refine St.ev _ (Ev.move (Opd.mk rfl)) rfl ?_
    refine St.ev _ (Ev.lensl (Opd.mk rfl) Tryz.underlying23) rfl ?_
    refine St.ev _ (Ev.move (Opd.mk rfl)) rfl ?_
    refine St.nil ?_
    refine St.then_normal ?_
    refine St.block ?_
    refine St.loopS (ι := Nat) (fun k T => (23, iv k) :: T) (fun k => k ≤ ws.length ∧ withF ws = partFrom k (ws.drop k) ∧ (ws.take k).all isWord = true) (fun k => ws.length - k) 0 (Keep.cons 1 rfl (Keep.cons 2 rfl (Keep.cons 5 rfl (Keep.cons 21 rfl (Keep.cons 22 rfl Keep.nil))))) ⟨Nat.zero_le _, by unfold withF; rw [if_neg (by omega)]; rfl, rfl⟩ (by repeat (first | exact Sub.nil | refine Sub.cons (by first | rfl | exact congrArg (fun z => some (iv z)) (by first | omega | (dsimp only; omega)) | exact congrArg (fun z => some (Value.bool z)) (by first | assumption | exact Eq.symm (by assumption))) ?_)) ?_
    intro k hphi
    obtain ⟨hk, hv, hall⟩ := hphi
    refine St.seq ?_
    refine St.rg ?_
    refine St.ev _ (Ev.lss (Opd.mk rfl) (Opd.mk rfl)) rfl ?_
    refine St.nil ?_
    refine St.then_normal ?_
    refine St.seq ?_
    refine St.cond _ rfl (fun h24 => ?_) (fun h24 => ?_)
    · skip
      try simp only [Bool.and_true, Bool.true_and, decide_eq_true_eq, decide_eq_false_iff_not, Bool.and_eq_true, Bool.or_eq_true, Bool.and_eq_false_iff, Bool.or_eq_false_iff, Bool.not_eq_true', Bool.not_eq_false', beq_iff_eq, beq_eq_false_iff_ne, Int.not_lt, Int.not_le] at h24
      obtain ⟨w, hw⟩ := some_of_lt (show k < ws.length by omega)
      have hwm := List.mem_of_getElem? hw
      refine St.skip ?_
      refine St.then_normal ?_
      refine St.seq ?_
      refine St.block ?_
      refine St.seq ?_
      refine St.rg ?_
      refine St.ev _ (Ev.move (Opd.mk rfl)) rfl ?_
      refine St.ev _ (Ev.idxaddr (k := k) (Opd.mk rfl) (Opd.mk rfl) Tryz.underlying23 sz9 (by omega) (by omega)) rfl ?_
      refine St.ev _ (Ev.ld1 (Opd.mk rfl) hw Tryz.underlying9 trivial rfl) rfl ?_
      refine St.ev _ (Ev.assign (Opd.mk rfl)) rfl ?_
      refine St.ev _ (Ev.assign (Opd.mk rfl)) rfl ?_
      refine St.nil ?_
      refine St.then_normal ?_
      refine St.seq ?_
      refine St.rg ?_
      refine St.ev _ (Ev.move (Opd.mk rfl)) rfl ?_
      refine St.ev _ (Ev.callW hdr (Word_spec w (wlen (hwf w hwm))) cb34 (Opds.cons (Opd.mk rfl) Opds.nil)) rfl ?_
      refine St.ev _ (Ev.not (Opd.mk rfl)) rfl ?_
      refine St.nil ?_
      refine St.then_normal ?_
      refine St.cond _ rfl (fun h30 => ?_) (fun h30 => ?_)
      · skip
        simp only [Bool.not_eq_true', Bool.not_eq_false'] at h30
        have hf : withF ws = (10, (k : Int)) := by rw [hv, partFrom_step hw, if_neg (by rw [h30]; decide)]
        refine St.seq ?_
        refine St.rg ?_
        refine St.ev _ (Ev.move (Opd.mk rfl)) rfl ?_
        refine St.ev _ (Ev.build (ps := [(0, (Operand.const (Value.int IntKind.i64 10))), (1, (Operand.tmp 31))]) (Opds.cons (Opd.mk rfl) (Opds.cons (Opd.mk rfl) Opds.nil)) (fun w => bld30_0_1 rfl rfl w)) rfl ?_
        refine St.ev _ (Ev.assign (Opd.mk rfl)) rfl ?_
        refine St.storeA (Opd.mk rfl) (Opd.mk rfl) sz30 (by first | simp only [List.length_cons, List.length_nil] | rfl) rfl ?_
        refine St.nil ?_
        refine St.then_normal ?_
        refine St.rett ?_
        refine St.in_ret ?_
        refine St.then_ret ?_
        refine St.then_ret ?_
        refine St.in_ret ?_
        refine St.then_ret ?_
        refine St.slNil intR ?_
        refine St.rets [_, _] [dat (sl intR (.slice none 0 0) [])] Tryz.results20 ⟨rfl, ⟨⟨_, _, _, _, rfl, InB.mem, .inl ⟨⟨_, Tryz.underlying30⟩, sz30, rfl⟩⟩, trivial⟩⟩ ?_ (fun _ hw => hw.sub)
        rw [withL_f (by rw [hf]; show (10 : Int) ≠ 0; decide), hf]; exact ⟨_, rfl, rfl, rfl⟩
      · skip
        simp only [Bool.not_eq_true', Bool.not_eq_false'] at h30
        refine St.skip ?_
        refine St.in_normal ?_
        refine St.then_normal ?_
        refine St.rg ?_
        refine St.ev _ (Ev.add (Opd.mk rfl) (Opd.mk rfl) (by omega)) rfl ?_
        refine St.ev _ (Ev.move (Opd.mk rfl)) rfl ?_
        refine St.nil ?_
        refine St.then_normal ?_
        refine St.againS (k + 1) ⟨by omega, by rw [hv, partFrom_step hw, if_pos h30], all_take_some hall hw h30⟩ (by first | omega | (dsimp only; omega)) (by repeat (first | exact Sub.nil | refine Sub.cons (by first | rfl | exact congrArg (fun z => some (iv z)) (by first | omega | (dsimp only; omega)) | exact congrArg (fun z => some (Value.bool z)) (by first | assumption | exact Eq.symm (by assumption))) ?_)) (fun _ hw => hw.sub)
    · skip
      try simp only [Bool.and_true, Bool.true_and, decide_eq_true_eq, decide_eq_false_iff_not, Bool.and_eq_true, Bool.or_eq_true, Bool.and_eq_false_iff, Bool.or_eq_false_iff, Bool.not_eq_true', Bool.not_eq_false', beq_iff_eq, beq_eq_false_iff_ne, Int.not_lt, Int.not_le] at h24
      have hwz : withF ws = (0, 0) := by rw [hv, List.drop_of_length_le (by omega)]; rfl
      have haw : ∀ w ∈ ws, isWord w = true := by rw [List.take_of_length_le (by omega)] at hall; exact List.all_eq_true.1 hall
      refine St.openNs vl (fun vs hvl => ?_)
      refine St.exit ?_
      refine St.then_exit ?_
      refine St.then_exit ?_
      refine St.in_hit ?_
      refine St.then_normal ?_
      refine St.seq ?_
      refine St.rg ?_
      refine St.ev _ (Ev.fldb0 (Opd.mk rfl) fo28_0) rfl ?_
      refine St.ev _ (Ev.ldb (Opd.mk rfl) Tryz.underlying22 trivial (by rfl)) rfl ?_
      refine St.ev _ (Ev.lensl (Opd.mk rfl) Tryz.underlying22) rfl ?_
      refine St.makeSl (m := l.length) (Opd.mk rfl) (Opd.mk rfl) Tryz.underlying25 sz3 zv3 by3 (by omega) (by omega) (by omega) rfl rfl (fun b37 => ?_)
      refine St.rowEqN (.slice (some ⟨b37, 0, none⟩) l.length l.length) (iotaK_len (Nat.zero_le _)).symm (show _ = rows intR (ints (iotaK l.length 0)) by rw [iotaK_zero, rows_intR]; simp [ints]) ?_
      refine St.ev _ (Ev.assign (Opd.mk rfl)) rfl ?_
      refine St.nil ?_
      refine St.then_normal ?_
      refine St.seq ?_
      refine St.seq ?_
      refine St.rg ?_
      refine St.ev _ (Ev.move (Opd.mk rfl)) rfl ?_
      refine St.ev _ (Ev.lenrow (Opd.mk rfl) Tryz.underlying25) rfl ?_
      refine St.slot 39 (iv (l.length : Nat)) rfl (by rw [iotaK_len (Nat.zero_le _)]) ?_
      refine St.ev _ (Ev.move (Opd.mk rfl)) rfl ?_
      refine St.nil ?_
      refine St.then_normal ?_
      refine St.block ?_
      refine St.loopH (ι := Nat) (fun k T => (40, iv k) :: T) (fun k => [row (.slice (some ⟨b37, 0, none⟩) l.length l.length) 3 1 (iotaK l.length k).length (rows intR (ints (iotaK l.length k))), blk b2 (.cells [vl, vw, vp, vo, vz].toArray 28 (0, 0)), blk b5 (.cells [iv 0, iv 0].toArray 30 (0, 0)), dat (nsl strR vl l), dat (idxD vl vw vp vo vz l), dat (sl strR v1 ws), dat u8]) (fun k => k ≤ l.length) (fun k => l.length - k) 0 (Keep.cons 1 rfl (Keep.cons 2 rfl (Keep.cons 5 rfl (Keep.cons 8 rfl (Keep.cons 39 rfl Keep.nil))))) (Nat.zero_le _) (by repeat (first | exact Sub.nil | refine Sub.cons (by first | rfl | exact congrArg (fun z => some (iv z)) (by first | omega | (dsimp only; omega)) | exact congrArg (fun z => some (Value.bool z)) (by first | assumption | exact Eq.symm (by assumption))) ?_)) (fun _ hw => hw.sub) ?_
      intro k hphi
      have hil := iotaK_len hphi
      refine St.seq ?_
      refine St.rg ?_
      refine St.ev _ (Ev.lss (Opd.mk rfl) (Opd.mk rfl)) rfl ?_
      refine St.nil ?_
      refine St.then_normal ?_
      refine St.seq ?_
      refine St.cond _ rfl (fun h41 => ?_) (fun h41 => ?_)
      · skip
        try simp only [Bool.and_true, Bool.true_and, decide_eq_true_eq, decide_eq_false_iff_not, Bool.and_eq_true, Bool.or_eq_true, Bool.and_eq_false_iff, Bool.or_eq_false_iff, Bool.not_eq_true', Bool.not_eq_false', beq_iff_eq, beq_eq_false_iff_ne, Int.not_lt, Int.not_le] at h41
        refine St.skip ?_
        refine St.then_normal ?_
        refine St.seq ?_
        refine St.block ?_
        refine St.seq ?_
        refine St.rg ?_
        refine St.ev _ (Ev.move (Opd.mk rfl)) rfl ?_
        refine St.ev _ (Ev.assign (Opd.mk rfl)) rfl ?_
        refine St.nil ?_
        refine St.then_normal ?_
        refine St.rg ?_
        refine St.ev _ (Ev.move (Opd.mk rfl)) rfl ?_
        refine St.ev _ (Ev.move (Opd.mk rfl)) rfl ?_
        refine St.ev _ (Ev.move (Opd.mk rfl)) rfl ?_
        refine St.ev _ (Ev.idxaddrrow (k := k) (Opd.mk rfl) (Opd.mk rfl) Tryz.underlying25 sz3 (by omega) (by omega)) rfl ?_
        refine St.storerow (Opd.mk rfl) (Opd.mk rfl) sz3 rfl (by omega) (by decide) ?_
        refine St.rowEqN (.slice (some ⟨b37, 0, none⟩) l.length l.length) (show _ = (iotaK l.length (k + 1)).length by rw [hil, iotaK_len (by omega)]) (show _ = rows intR (ints (iotaK l.length (k + 1))) by rw [rowI2_set, iotaK_set (by omega)]) ?_
        refine St.nil ?_
        refine St.in_normal ?_
        refine St.then_normal ?_
        refine St.rg ?_
        refine St.ev _ (Ev.add (Opd.mk rfl) (Opd.mk rfl) (by omega)) rfl ?_
        refine St.ev _ (Ev.move (Opd.mk rfl)) rfl ?_
        refine St.nil ?_
        refine St.then_normal ?_
        refine St.againH (k + 1) (by omega) (by first | omega | (dsimp only; omega)) (by repeat (first | exact Sub.nil | refine Sub.cons (by first | rfl | exact congrArg (fun z => some (iv z)) (by first | omega | (dsimp only; omega)) | exact congrArg (fun z => some (Value.bool z)) (by first | assumption | exact Eq.symm (by assumption))) ?_)) (fun _ hw => hw.sub)
      · skip
        try simp only [Bool.and_true, Bool.true_and, decide_eq_true_eq, decide_eq_false_iff_not, Bool.and_eq_true, Bool.or_eq_true, Bool.and_eq_false_iff, Bool.or_eq_false_iff, Bool.not_eq_true', Bool.not_eq_false', beq_iff_eq, beq_eq_false_iff_ne, Int.not_lt, Int.not_le] at h41
        obtain rfl : k = l.length := by omega
        rw [iotaK_end]
        refine St.rowEqN (.slice (some ⟨b37, 0, none⟩) l.length l.length) (show _ = ((List.range l.length).filter (hasAll l (ws.take 0))).length by rw [fil_zero, List.length_range]) (show _ = rows intR (ints ((List.range l.length).filter (hasAll l (ws.take 0)))) by rw [fil_zero]) ?_
        refine St.exit ?_
        refine St.then_exit ?_
        refine St.then_exit ?_
        refine St.in_hit ?_
        refine St.then_normal ?_
        refine St.seq ?_
        refine St.seq ?_
        refine St.rg ?_
        refine St.ev _ (Ev.move (Opd.mk rfl)) rfl ?_
        refine St.ev _ (Ev.lensl (Opd.mk rfl) Tryz.underlying23) rfl ?_
        refine St.ev _ (Ev.move (Opd.mk rfl)) rfl ?_
        refine St.nil ?_
        refine St.then_normal ?_
        refine St.block ?_
        refine St.loopH2 (ι := Nat) (κ := Value) (fun k z T => (50, iv k) :: (8, z) :: T) (fun k z => [row z 3 1 ((List.range l.length).filter (hasAll l (ws.take k))).length (rows intR (ints ((List.range l.length).filter (hasAll l (ws.take k))))), blk b2 (.cells [vl, vw, vp, vo, vz].toArray 28 (0, 0)), blk b5 (.cells [iv 0, iv 0].toArray 30 (0, 0)), dat (nsl strR vl l), dat (idxD vl vw vp vo vz l), dat (sl strR v1 ws), dat u8]) (fun k z => k ≤ ws.length ∧ z.oneCell' = true) (fun k z => ws.length - k) 0 (.slice (some ⟨b37, 0, none⟩) l.length l.length) (Keep.cons 2 rfl (Keep.cons 5 rfl (Keep.cons 48 rfl (Keep.cons 49 rfl Keep.nil)))) ⟨Nat.zero_le _, rfl⟩ (by repeat (first | exact Sub.nil | refine Sub.cons (by first | rfl | exact congrArg (fun z => some (iv z)) (by first | omega | (dsimp only; omega)) | exact congrArg (fun z => some (Value.bool z)) (by first | assumption | exact Eq.symm (by assumption))) ?_)) (fun _ hw => hw.sub) ?_
        intro k z hphi
        obtain ⟨hk2, hz⟩ := hphi
        have hfl := filter_le (hasAll l (ws.take k)) l.length
        refine St.seq ?_
        refine St.rg ?_
        refine St.ev _ (Ev.lss (Opd.mk rfl) (Opd.mk rfl)) rfl ?_
        refine St.nil ?_
        refine St.then_normal ?_
        refine St.seq ?_
        refine St.cond _ rfl (fun h51 => ?_) (fun h51 => ?_)
        · skip
          try simp only [Bool.and_true, Bool.true_and, decide_eq_true_eq, decide_eq_false_iff_not, Bool.and_eq_true, Bool.or_eq_true, Bool.and_eq_false_iff, Bool.or_eq_false_iff, Bool.not_eq_true', Bool.not_eq_false', beq_iff_eq, beq_eq_false_iff_ne, Int.not_lt, Int.not_le] at h51
          obtain ⟨w, hw⟩ := some_of_lt (show k < ws.length by omega)
          have hwm := List.mem_of_getElem? hw
          have hww := haw w hwm
          refine St.skip ?_
          refine St.then_normal ?_
          refine St.seq ?_
          refine St.block ?_
          refine St.seq ?_
          refine St.rg ?_
          refine St.ev _ (Ev.idxaddr (k := k) (Opd.mk rfl) (Opd.mk rfl) Tryz.underlying23 sz9 (by omega) (by omega)) rfl ?_
          refine St.ev _ (Ev.ld1 (Opd.mk rfl) hw Tryz.underlying9 trivial rfl) rfl ?_
          refine St.ev _ (Ev.assign (Opd.mk rfl)) rfl ?_
          refine St.nil ?_
          refine St.then_normal ?_
          refine St.seq ?_
          refine St.rg ?_
          refine St.ev _ (Ev.ldbA (Opd.mk rfl) Tryz.underlying28 trivial (by exact sz28)) rfl ?_
          refine St.ev _ (Ev.move (Opd.mk rfl)) rfl ?_
          refine St.buildSl (xs := [(Operand.tmp 56)]) (ps := [(0, (Operand.tmp 56))]) rfl (Opds.cons (Opd.mk rfl) Opds.nil) Tryz.underlying23 sz9 zv9 rfl rfl (by simp [Value.cells]) rfl rfl (fun b57 => ?_)
          refine St.publish (.slice (some ⟨b57, 0, none⟩) 1 1) strR [w] rfl rfl (fun x hx => by rw [List.mem_singleton.1 hx]; exact hwf w hwm) ?_
          refine St.calldW hdr (find_spec vl vw vp vo vz (.slice (some ⟨b57, 0, none⟩) 1 1) l [w] hc) cb33 (Opds.cons (Opd.mk rfl) (Opds.cons (Opd.mk rfl) Opds.nil)) rfl ?_
          rintro v58 _ ⟨uf, rfl, huf, rfl⟩
          refine St.app1 ?_
          rw [part_one' hww, fnH_t (by rw [part_one' hww])]
          have hhl := hits_len hc [w]
          refine St.ev _ (Ev.move (Opd.mk rfl)) rfl ?_
          refine St.ev _ (Ev.extract (Opd.mk rfl) rfl) rfl ?_
          refine St.ev _ (Ev.extract (Opd.mk rfl) rfl) rfl ?_
          refine St.alloc zc30 rfl (fun b13 => ?_)
          refine St.ev _ (Ev.assign (Opd.mk rfl)) rfl ?_
          refine St.storeA (Opd.mk rfl) (Opd.mk rfl) sz30 (by first | simp only [List.length_cons, List.length_nil] | rfl) rfl ?_
          refine St.nil ?_
          refine St.then_normal ?_
          refine St.seq ?_
          refine St.rg ?_
          refine St.makeMap mkInt rfl (fun b61 => ?_)
          refine St.alloc zc71 rfl (fun b14 => ?_)
          refine St.store1 (Opd.mk rfl) (Opd.mk rfl) sz71 rfl (by rfl) ?_
          refine St.nil ?_
          refine St.then_normal ?_
          refine St.seq ?_
          refine St.seq ?_
          refine St.rg ?_
          refine St.ev _ (Ev.move (Opd.mk rfl)) rfl ?_
          refine St.ev _ (Ev.lensl (Opd.mk rfl) Tryz.underlying26) rfl ?_
          refine St.ev _ (Ev.move (Opd.mk rfl)) rfl ?_
          refine St.nil ?_
          refine St.then_normal ?_
          refine St.block ?_
          refine St.loopH2 (ι := Nat) (κ := List (Int × Value)) (fun q m T => (64, iv q) :: T) (fun q m => [blk b61 (mobj mkInt m), blk b14 (.cells [.map (some b61)].toArray 71 (0, 0)), dat (sl hitR uf (hitsOf l [w])), row z 3 1 ((List.range l.length).filter (hasAll l (ws.take k))).length (rows intR (ints ((List.range l.length).filter (hasAll l (ws.take k))))), blk b2 (.cells [vl, vw, vp, vo, vz].toArray 28 (0, 0)), blk b5 (.cells [iv 0, iv 0].toArray 30 (0, 0)), dat (nsl strR vl l), dat (idxD vl vw vp vo vz l), dat (sl strR v1 ws), dat u8]) (fun q m => q ≤ (hitsOf l [w]).length ∧ CntM m (hitsOf l [w]) q) (fun q m => (hitsOf l [w]).length - q) 0 [] (Keep.cons 2 rfl (Keep.cons 5 rfl (Keep.cons 8 rfl (Keep.cons 14 rfl (Keep.cons 48 rfl (Keep.cons 49 rfl (Keep.cons 50 rfl (Keep.cons 62 rfl (Keep.cons 63 rfl Keep.nil))))))))) ⟨Nat.zero_le _, fun i => rfl⟩ (by repeat (first | exact Sub.nil | refine Sub.cons (by first | rfl | exact congrArg (fun z => some (iv z)) (by first | omega | (dsimp only; omega)) | exact congrArg (fun z => some (Value.bool z)) (by first | assumption | exact Eq.symm (by assumption))) ?_)) (fun _ hw => hw.sub) ?_
          rintro q m ⟨hq, hcm⟩
          refine St.seq ?_
          refine St.rg ?_
          refine St.ev _ (Ev.lss (Opd.mk rfl) (Opd.mk rfl)) rfl ?_
          refine St.nil ?_
          refine St.then_normal ?_
          refine St.seq ?_
          refine St.cond _ rfl (fun h65 => ?_) (fun h65 => ?_)
          · skip
            try simp only [Bool.and_true, Bool.true_and, decide_eq_true_eq, decide_eq_false_iff_not, Bool.and_eq_true, Bool.or_eq_true, Bool.and_eq_false_iff, Bool.or_eq_false_iff, Bool.not_eq_true', Bool.not_eq_false', beq_iff_eq, beq_eq_false_iff_ne, Int.not_lt, Int.not_le] at h65
            obtain ⟨h, hh⟩ := some_of_lt (show q < (hitsOf l [w]).length by omega)
            have hcnt : ((hitsOf l [w]).take q).countP (fun x => decide (x.1 = h.1)) ≤ 1200 := Nat.le_trans List.countP_le_length (by rw [List.length_take]; omega)
            refine St.skip ?_
            refine St.then_normal ?_
            refine St.seq ?_
            refine St.block ?_
            refine St.seq ?_
            refine St.rg ?_
            refine St.ev _ (Ev.idxaddr (k := q) (Opd.mk rfl) (Opd.mk rfl) Tryz.underlying26 sz67 (by omega) (by omega)) rfl ?_
            refine St.ev _ (Ev.ldA (Opd.mk rfl) hh Tryz.underlying67 trivial sz67 Cel.eq) rfl ?_
            refine St.alloc zc67 rfl (fun b16 => ?_)
            refine St.storeA (Opd.mk rfl) (Opd.mk rfl) sz67 (by first | simp only [List.length_cons, List.length_nil] | rfl) rfl ?_
            refine St.nil ?_
            refine St.then_normal ?_
            refine St.rg ?_
            refine St.ev _ (Ev.ldb (Opd.mk rfl) Tryz.underlying71 trivial (by rfl)) rfl ?_
            refine St.ev _ (Ev.fldb0 (Opd.mk rfl) fo67_0) rfl ?_
            refine St.ev _ (Ev.ldb (Opd.mk rfl) Tryz.underlying3 trivial (by rfl)) rfl ?_
            refine St.ev _ (Ev.lookup mkInt (k := (h.1 : Int)) (Opd.mk rfl) (Opd.mk rfl) Tryz.underlying71 (by exact Tryz.underlying3) zv3) rfl ?_
            refine St.slot 71 (iv ((((hitsOf l [w]).take q).countP (fun x => decide (x.1 = h.1)) : Nat) : Int)) rfl (hcm h.1) ?_
            refine St.ev _ (Ev.add (Opd.mk rfl) (Opd.mk rfl) (by omega)) rfl ?_
            refine St.mapUpdate mkInt (k := (h.1 : Int)) (Opd.mk rfl) (Opd.mk rfl) (Opd.mk rfl) Tryz.underlying71 (by exact Tryz.underlying3) ?_
            refine St.nil ?_
            refine St.in_normal ?_
            refine St.then_normal ?_
            refine St.rg ?_
            refine St.ev _ (Ev.add (Opd.mk rfl) (Opd.mk rfl) (by omega)) rfl ?_
            refine St.ev _ (Ev.move (Opd.mk rfl)) rfl ?_
            refine St.nil ?_
            refine St.then_normal ?_
            refine St.againH2 (q + 1) (mset m (h.1 : Int) (iv ((((hitsOf l [w]).take q).countP (fun x => decide (x.1 = h.1)) : Nat) + 1))) ⟨by omega, hcm.step hh⟩ (by first | omega | (dsimp only; omega)) (by repeat (first | exact Sub.nil | refine Sub.cons (by first | rfl | exact congrArg (fun z => some (iv z)) (by first | omega | (dsimp only; omega)) | exact congrArg (fun z => some (Value.bool z)) (by first | assumption | exact Eq.symm (by assumption))) ?_)) (fun _ hw => hw.sub)
          · skip
            try simp only [Bool.and_true, Bool.true_and, decide_eq_true_eq, decide_eq_false_iff_not, Bool.and_eq_true, Bool.or_eq_true, Bool.and_eq_false_iff, Bool.or_eq_false_iff, Bool.not_eq_true', Bool.not_eq_false', beq_iff_eq, beq_eq_false_iff_ne, Int.not_lt, Int.not_le] at h65
            obtain rfl : q = (hitsOf l [w]).length := by omega
            unfold CntM at hcm
            simp only [List.take_length] at hcm
            refine St.publishM b61 ?_
            refine St.publishB b14 ?_
            refine St.exit ?_
            refine St.then_exit ?_
            refine St.then_exit ?_
            refine St.in_hit ?_
            refine St.then_normal ?_
            refine St.rowEqN z (ints_length _).symm rfl ?_
            refine St.rg ?_
            refine St.ev _ (Ev.move (Opd.mk rfl)) rfl ?_
            refine St.ev _ (Ev.func (Opds.cons (Opd.mk rfl) Opds.nil)) rfl ?_
            refine St.callO  (ds := [allD [cel b14 (.map (some b61)), mpd mkInt b61 m]]) (L := [row z 3 1 (ints ((List.range l.length).filter (hasAll l (ws.take k)))).length (rows intR (ints ((List.range l.length).filter (hasAll l (ws.take k)))))]) (R := _) (DeleteFunc_spec z (ints ((List.range l.length).filter (hasAll l (ws.take k)))) 36 cb36 [Value.pointer (some ⟨b14, 0, none⟩)] (allD [cel b14 (.map (some b61)), mpd mkInt b61 m]) (fun x => decide (cntW l w x.toNat = 0)) (wf_filter _ (by omega)) (by rw [ints_length]; omega) (fun x hx => by obtain ⟨i, hi, rfl⟩ := List.mem_map.1 hx; exact (With1_specC b14 b61 m (cntW l w i) i (hcm i)).all)) cb35 (Opds.cons (Opd.mk rfl) (Opds.cons (Opd.mk rfl) Opds.nil)) (LentO.allD (LentO.dat (LentO.dat LentO.nil))) (Solid.row Solid.nil) (fun u H' h => by obtain ⟨_, rfl⟩ := h; exact Solid.row Solid.nil) rfl ?_
            rintro v76 _ ⟨h76, rfl⟩
            refine St.appr ?_
            have hif := ints_filter (fun i => decide (cntW l w i = 0)) (fun x => decide (cntW l w x.toNat = 0)) ((List.range l.length).filter (hasAll l (ws.take k))) (fun i _ => rfl)
            refine St.rowEqN v76 (show _ = (((List.range l.length).filter (hasAll l (ws.take k))).filter (fun i => !decide (cntW l w i = 0))).length by rw [hif, ints_length]) (show _ = rows intR (ints (((List.range l.length).filter (hasAll l (ws.take k))).filter (fun i => !decide (cntW l w i = 0)))) by rw [hif]) ?_
            refine St.ev _ (Ev.assign (Opd.mk rfl)) rfl ?_
            refine St.nil ?_
            refine St.in_normal ?_
            refine St.then_normal ?_
            refine St.rg ?_
            refine St.ev _ (Ev.add (Opd.mk rfl) (Opd.mk rfl) (by omega)) rfl ?_
            refine St.ev _ (Ev.move (Opd.mk rfl)) rfl ?_
            refine St.nil ?_
            refine St.then_normal ?_
            rw [filter_two hw]
            refine St.againH2 (k + 1) v76 ⟨by omega, h76⟩ (by first | omega | (dsimp only; omega)) (by repeat (first | exact Sub.nil | refine Sub.cons (by first | rfl | exact congrArg (fun z => some (iv z)) (by first | omega | (dsimp only; omega)) | exact congrArg (fun z => some (Value.bool z)) (by first | assumption | exact Eq.symm (by assumption))) ?_)) (fun _ hw => hw.sub)
        · skip
          try simp only [Bool.and_true, Bool.true_and, decide_eq_true_eq, decide_eq_false_iff_not, Bool.and_eq_true, Bool.or_eq_true, Bool.and_eq_false_iff, Bool.or_eq_false_iff, Bool.not_eq_true', Bool.not_eq_false', beq_iff_eq, beq_eq_false_iff_ne, Int.not_lt, Int.not_le] at h51
          obtain rfl : k = ws.length := by omega
          rw [List.take_length] at hfl ⊢
          refine St.exit ?_
          refine St.then_exit ?_
          refine St.then_exit ?_
          refine St.in_hit ?_
          refine St.then_normal ?_
          refine St.seq ?_
          refine St.rg ?_
          refine St.ev _ (Ev.move (Opd.mk rfl)) rfl ?_
          refine St.ev _ (Ev.build (ps := []) (Opds.nil) (fun w => bld30_  w)) rfl ?_
          refine St.ev _ (Ev.assign (Opd.mk rfl)) rfl ?_
          refine St.storeA (Opd.mk rfl) (Opd.mk rfl) sz30 (by first | simp only [List.length_cons, List.length_nil] | rfl) rfl ?_
          refine St.nil ?_
          refine St.then_normal ?_
          refine St.rett ?_
          refine St.publish z intR (ints ((List.range l.length).filter (hasAll l ws))) rfl (ints_length _).symm (wf_filter _ (by omega)) ?_
          refine St.rets [_, _] [dat (sl intR z (ints ((List.range l.length).filter (hasAll l ws))))] Tryz.results20 ⟨rfl, ⟨⟨_, _, _, _, rfl, InB.mem, .inl ⟨⟨_, Tryz.underlying30⟩, sz30, rfl⟩⟩, trivial⟩⟩ ?_ (fun _ hw => hw.sub)
          rw [withL_t (by rw [hwz]), hwz]; exact ⟨_, rfl, hz, rfl⟩

end Go.Proofs.YtgikcbfdonjggaaGreatDoor

/-
  (YtgikcbfdonjggaaGreatDoorC10)
  The laws of the whole sentence, of With, and of what is listed and counted.
  Conditions: none beyond the sizes.
-/
set_option maxRecDepth 20000
set_option linter.unusedSimpArgs false
set_option linter.unusedVariables false
namespace Go.Proofs.YtgikcbfdonjggaaGreatDoor
open Go Go.J

theorem whole {s p : List Str} {k : Nat} (hk : k < s.length) (h12 : s.length ≤ 12) (h : standsAt s k p = true) : (lfw s k 12 s.length ++ p) ++ rgw s (k + p.length) 12 s.length = s := by
  have h1 : (s.drop k).take p.length = p := by simpa [standsAt] using h
  have h2 := ((standsAt_iff (by omega)).1 h).1
  have e1 : lfw s k 12 s.length = s.take k := by
    rw [lfw_end (by omega), show k - 12 = 0 by omega]; rfl
  have e2 : rgw s (k + p.length) 12 s.length = s.drop (k + p.length) := by
    unfold rgw
    rw [Nat.min_eq_left (by omega), List.take_of_length_le (by rw [List.length_drop]; omega)]
  rw [e1, e2, ← h1]
  rw [List.length_take, List.length_drop, Nat.min_eq_left (by omega), List.append_assoc, ← List.drop_drop, List.take_append_drop, List.take_append_drop]

set_option maxHeartbeats 2000000 in
theorem law3_spec (v0 v1 : Value) (l : List (List Str)) (p : List Str) : FnVw Tryz.prog 5 #[v0, v1] [nsl strR v0 l, sl strR v1 p, u8] (.bool true) := by
  refine FnVw.body (args := [v0, v1]) (ds := [(nsl strR v0 l), (sl strR v1 p), u8]) 127 Tryz.func5 rfl Tryz.ntmps5 rfl (fun c hdr => ?_)
  change St _ _ (Mm c [dat (nsl strR v0 l), dat (sl strR v1 p), dat u8]) _
  refine St.seq ?_
  refine St.rg ?_
  refine St.ev _ (Ev.assign (Opd.mk rfl)) rfl ?_
  refine St.nil ?_
  refine St.then_normal ?_
  refine St.seq ?_
  refine St.seq ?_
  refine St.rg ?_
  refine St.ev _ (Ev.callW hdr ready_spec cb10 (Opds.nil)) rfl ?_
  refine St.ev _ (Ev.not (Opd.mk rfl)) rfl ?_
  refine St.nil ?_
  refine St.then_normal ?_
  refine St.condf _ rfl rfl ?_
  refine St.skip ?_
  refine St.then_normal ?_
  refine St.seq ?_
  refine St.rg ?_
  refine St.ev _ (Ev.move (Opd.mk rfl)) rfl ?_
  refine St.calldW hdr (Build_cspec v0 l) cb11 (Opds.cons (Opd.mk rfl) Opds.nil) rfl ?_
  rintro v17 _ ⟨vl, vw, vp, vo, vz, rfl, o1, o2, o3, o4, o5, rfl⟩
  refine St.app1 ?_
  have hcorp := okL_corp l
  refine St.ev _ (Ev.move (Opd.mk rfl)) rfl ?_
  refine St.ev _ (Ev.extract (Opd.mk rfl) rfl) rfl ?_
  refine St.ev _ (Ev.extract (Opd.mk rfl) rfl) rfl ?_
  refine St.alloc zc28 rfl (fun b5 => ?_)
  refine St.alloc zc30 rfl (fun b6 => ?_)
  refine St.storeA (Opd.mk rfl) (Opd.mk rfl) sz28 (by first | simp only [List.length_cons, List.length_nil] | rfl) (by simp [o1, o2, o3, o4, o5]) ?_
  refine St.storeA (Opd.mk rfl) (Opd.mk rfl) sz30 (by first | simp only [List.length_cons, List.length_nil] | rfl) rfl ?_
  refine St.nil ?_
  refine St.then_normal ?_
  refine St.seq ?_
  refine St.seq ?_
  refine St.rg ?_
  refine St.ev _ (Ev.fldb0 (Opd.mk rfl) fo30_0) rfl ?_
  refine St.ev _ (Ev.ldb (Opd.mk rfl) Tryz.underlying3 trivial (by rfl)) rfl ?_
  refine St.ev _ (Ev.neq (Opd.mk rfl) (Opd.mk rfl)) rfl ?_
  refine St.ev _ (Ev.move (Opd.mk rfl)) rfl ?_
  refine St.gf _ rfl rfl (fun hg => Ev.move (Opd.mk rfl)) rfl ?_
  refine St.gf _ rfl rfl (fun hg => Ev.call (PartFault_spec v1 p) cb15 (Opds.cons (Opd.gv rfl hg) Opds.nil)) rfl ?_
  refine St.gf _ rfl rfl (fun hg => Ev.field1 (Opd.gv rfl hg) Tryz.underlying30 rfl (by first | rw [Tryz.underlying3] | (dsimp only; rw [Tryz.underlying3]) | kernel_rfl) rfl) rfl ?_
  refine St.gf _ rfl rfl (fun hg => Ev.neq (Opd.gv rfl hg) (Opd.mk rfl)) rfl ?_
  refine St.ev _ (Ev.or (Opd.mk rfl) (fun hp => Opd.gv rfl hp)) rfl ?_
  refine St.nil ?_
  refine St.then_normal ?_
  refine St.cond _ rfl (fun h28 => ?_) (fun h28 => ?_)
  · skip
    try simp only [Bool.and_true, Bool.true_and, decide_eq_true_eq, decide_eq_false_iff_not, Bool.and_eq_true, Bool.or_eq_true, Bool.and_eq_false_iff, Bool.or_eq_false_iff, Bool.not_eq_true', Bool.not_eq_false', beq_iff_eq, beq_eq_false_iff_ne, Int.not_lt, Int.not_le] at h28
    refine St.seq ?_
    refine St.rg ?_
    refine St.ev _ (Ev.assign (Opd.mk rfl)) rfl ?_
    refine St.nil ?_
    refine St.then_normal ?_
    refine St.rett ?_
    refine St.then_ret ?_
    refine St.rets [_] [] Tryz.results5 ⟨rfl, trivial⟩ ?_ (fun _ hw => hw.sub)
    exact be rfl
  · skip
    try simp only [Bool.and_true, Bool.true_and, decide_eq_true_eq, decide_eq_false_iff_not, Bool.and_eq_true, Bool.or_eq_true, Bool.and_eq_false_iff, Bool.or_eq_false_iff, Bool.not_eq_true', Bool.not_eq_false', beq_iff_eq, beq_eq_false_iff_ne, Int.not_lt, Int.not_le] at h28
    obtain ⟨hcz, hpz0⟩ : (conF l).1 = 0 ∧ (partF p).1 = 0 := by constructor <;> omega
    rw [okL_t hcz] at hcorp ⊢
    have hpz := (partF_ok hpz0).1
    obtain ⟨hp0, hp12, _⟩ := (partF_ok hpz0).2
    have hf3 := hitF_3 (p := p) (w := 12) hpz0 (by omega)
    have hl3 := hitL_t (l := l) (p := p) (w := 12) (by rw [hf3])
    have hl100 := hcorp.len
    refine St.skip ?_
    refine St.then_normal ?_
    refine St.seq ?_
    refine St.rg ?_
    refine St.ev _ (Ev.ldbA (Opd.mk rfl) Tryz.underlying28 trivial (by exact sz28)) rfl ?_
    refine St.ev _ (Ev.move (Opd.mk rfl)) rfl ?_
    refine St.calldW hdr (Hits_spec vl vw vp vo vz v1 l p 12 hcorp) cb14 (Opds.cons (Opd.mk rfl) (Opds.cons (Opd.mk rfl) (Opds.cons (Opd.mk rfl) Opds.nil))) rfl ?_
    rintro v32 _ ⟨uh, rfl, huh, rfl⟩
    refine St.app1 ?_
    rw [hl3, hf3]
    refine St.openH uh (hitsW l p (Int.toNat 12)) (fun uws huw => ?_)
    rw [show Int.toNat 12 = 12 from rfl] at huw ⊢
    have hzl := zip_len huw
    have hwl := hw_len l p 12
    have hhl := hits_len hcorp p
    refine St.ev _ (Ev.move (Opd.mk rfl)) rfl ?_
    refine St.ev _ (Ev.extract (Opd.mk rfl) rfl) rfl ?_
    refine St.ev _ (Ev.extract (Opd.mk rfl) rfl) rfl ?_
    refine St.ev _ (Ev.assign (Opd.mk rfl)) rfl ?_
    refine St.storeA (Opd.mk rfl) (Opd.mk rfl) sz30 (by first | simp only [List.length_cons, List.length_nil] | rfl) rfl ?_
    refine St.nil ?_
    refine St.then_normal ?_
    refine St.seq ?_
    refine St.seq ?_
    refine St.rg ?_
    refine St.ev _ (Ev.fldb0 (Opd.mk rfl) fo30_0) rfl ?_
    refine St.ev _ (Ev.ldb (Opd.mk rfl) Tryz.underlying3 trivial (by rfl)) rfl ?_
    refine St.ev _ (Ev.neq (Opd.mk rfl) (Opd.mk rfl)) rfl ?_
    refine St.nil ?_
    refine St.then_normal ?_
    refine St.condf _ rfl rfl ?_
    refine St.skip ?_
    refine St.then_normal ?_
    refine St.seq ?_
    refine St.seq ?_
    refine St.rg ?_
    refine St.ev _ (Ev.assign (Opd.mk rfl)) rfl ?_
    refine St.nil ?_
    refine St.then_normal ?_
    refine St.block ?_
    refine St.loopH (ι := Nat) (fun k T => (8, iv k) :: T) (fun k => [dat (sl hR4 uh (List.zipWith hdR (hitsW l p 12) uws)), dat (ptw strR (uws.map Prod.fst) ((hitsW l p 12).map Hd.l)), dat (ptw strR (uws.map Prod.snd) ((hitsW l p 12).map Hd.r)), dat (sl strR v1 p), dat (nsl strR v0 l)]) (fun k => k ≤ (hitsOf l p).length) (fun k => (hitsOf l p).length - k) 0 (Keep.cons 0 rfl (Keep.cons 1 rfl (Keep.cons 7 rfl Keep.nil))) (Nat.zero_le _) (by repeat (first | exact Sub.nil | refine Sub.cons (by first | rfl | exact congrArg (fun z => some (iv z)) (by first | omega | (dsimp only; omega)) | exact congrArg (fun z => some (Value.bool z)) (by first | assumption | exact Eq.symm (by assumption))) ?_)) (fun _ hw => hw.sub) ?_
    intro k hphi
    refine St.seq ?_
    refine St.seq ?_
    refine St.rg ?_
    refine St.ev _ (Ev.move (Opd.mk rfl)) rfl ?_
    refine St.ev _ (Ev.move (Opd.mk rfl)) rfl ?_
    refine St.ev _ (Ev.lensl (Opd.mk rfl) Tryz.underlying36) rfl ?_
    refine St.ev _ (Ev.lss (Opd.mk rfl) (Opd.mk rfl)) rfl ?_
    refine St.nil ?_
    refine St.then_normal ?_
    refine St.cond _ rfl (fun h41 => ?_) (fun h41 => ?_)
    · skip
      try simp only [Bool.and_true, Bool.true_and, decide_eq_true_eq, decide_eq_false_iff_not, Bool.and_eq_true, Bool.or_eq_true, Bool.and_eq_false_iff, Bool.or_eq_false_iff, Bool.not_eq_true', Bool.not_eq_false', beq_iff_eq, beq_eq_false_iff_ne, Int.not_lt, Int.not_le] at h41
      obtain ⟨h, hh⟩ := some_of_lt (show k < (hitsOf l p).length by omega)
      obtain ⟨x, hxd, hx⟩ : ∃ x, x = mkH l p 12 h ∧ (hitsW l p 12)[k]? = some x := ⟨_, rfl, by unfold hitsW; rw [List.getElem?_map, hh]; rfl⟩
      obtain ⟨u, hu⟩ := some_of_lt (show k < uws.length by omega)
      have hX := zip_get hx hu
      refine St.ptw (vs := uws.map Prod.fst) (u := u.1) (l := x.l) k (by rw [List.getElem?_map, hu]; rfl) (by rw [List.getElem?_map, hx]; rfl) ?_
      refine St.ptw (vs := uws.map Prod.snd) (u := u.2) (l := x.r) k (by rw [List.getElem?_map, hu]; rfl) (by rw [List.getElem?_map, hx]; rfl) ?_
      refine St.openNs v0 (fun vs0 hvl0 => ?_)
      obtain ⟨s, hs, hsl2, hst⟩ := hitsOf_mem (List.mem_of_getElem? hh)
      have hs12 := mem_get hcorp hs
      have hlt := lt_of_some hs
      have hgd := getD_of_some (d := ([] : List Str)) hs
      have hxl : x.l = lfw s h.2 12 s.length := by rw [hxd]; show lfw (l.getD h.1 []) h.2 12 (l.getD h.1 []).length = _; rw [hgd]
      have hxr : x.r = rgw s (h.2 + p.length) 12 s.length := by rw [hxd]; show rgw (l.getD h.1 []) (h.2 + p.length) 12 (l.getD h.1 []).length = _; rw [hgd]
      have hxs : x.s = h.1 := by rw [hxd]; rfl
      have hwh : (x.l ++ p) ++ x.r = s := by rw [hxl, hxr]; exact whole hsl2 hs12 hst
      have hle : x.l.length ≤ 12 := by rw [hxl]; have := lfw_len s h.2 12 s.length; omega
      have hre : x.r.length ≤ 12 := by rw [hxr]; have := rgw_len s (h.2 + p.length) 12 s.length; omega
      refine St.skip ?_
      refine St.then_normal ?_
      refine St.seq ?_
      refine St.block ?_
      refine St.seq ?_
      refine St.seq ?_
      refine St.rg ?_
      refine St.ev _ (Ev.move (Opd.mk rfl)) rfl ?_
      refine St.ev _ (Ev.move (Opd.mk rfl)) rfl ?_
      refine St.ev _ (Ev.idxaddr (k := k) (Opd.mk rfl) (Opd.mk rfl) Tryz.underlying36 sz44 (by omega) (by omega)) rfl ?_
      refine St.ev _ (Ev.fldel (Opd.mk rfl) (by omega) fo44_0) rfl ?_
      refine St.ev _ (Ev.ld1 (Opd.mk rfl) hX Tryz.underlying3 trivial rfl) rfl ?_
      refine St.ev _ (Ev.lss (Opd.mk rfl) (Opd.mk rfl)) rfl ?_
      refine St.ev _ (Ev.move (Opd.mk rfl)) rfl ?_
      refine St.gf _ rfl rfl (fun hg => Ev.move (Opd.mk rfl)) rfl ?_
      refine St.gf _ rfl rfl (fun hg => Ev.move (Opd.mk rfl)) rfl ?_
      refine St.gf _ rfl rfl (fun hg => Ev.idxaddr (k := k) (Opd.gv rfl hg) (Opd.gv rfl hg) Tryz.underlying36 sz44 (by omega) (by omega)) rfl ?_
      refine St.gf _ rfl rfl (fun hg => Ev.fldel (Opd.gv rfl hg) (by omega) fo44_0) rfl ?_
      refine St.gf _ rfl rfl (fun hg => Ev.ld1 (Opd.gv rfl hg) hX Tryz.underlying3 trivial rfl) rfl ?_
      refine St.gf _ rfl rfl (fun hg => Ev.move (Opd.mk rfl)) rfl ?_
      refine St.gf _ rfl rfl (fun hg => Ev.lensl (Opd.gv rfl hg) Tryz.underlying22) rfl ?_
      refine St.gf _ rfl rfl (fun hg => Ev.geq (Opd.gv rfl hg) (Opd.gv rfl hg)) rfl ?_
      refine St.ev _ (Ev.or (Opd.mk rfl) (fun hp => Opd.gv rfl hp)) rfl ?_
      refine St.nil ?_
      refine St.then_normal ?_
      refine St.condf _ rfl (by show (decide ((x.s : Int) < 0) || decide ((vs0.length : Int) ≤ x.s)) = false; rw [hxs, Bool.or_eq_false_iff, decide_eq_false_iff_not, decide_eq_false_iff_not]; omega) ?_
      refine St.skip ?_
      refine St.then_normal ?_
      refine St.seq ?_
      refine St.rg ?_
      refine St.buildSl (xs := []) (ps := []) rfl (Opds.nil) Tryz.underlying23 sz9 zv9 rfl rfl (by simp [Value.cells]) rfl rfl (fun b60 => ?_)
      refine St.ev _ (Ev.assign (Opd.mk rfl)) rfl ?_
      refine St.nil ?_
      refine St.then_normal ?_
      refine St.seq ?_
      refine St.seq ?_
      refine St.rg ?_
      refine St.ev _ (Ev.assign (Opd.mk rfl)) rfl ?_
      refine St.nil ?_
      refine St.then_normal ?_
      refine St.block ?_
      refine St.rowEqN (.slice (some ⟨b60, 0, none⟩) 0 0) (show _ = (x.l.take 0).length from rfl) (show _ = rows strR (x.l.take 0) from rfl) ?_
      refine St.loopH2 (ι := Nat) (κ := Value) (fun m z T => (10, iv m) :: (9, z) :: T) (fun m z => [row z 9 1 (x.l.take m).length (rows strR (x.l.take m)), dat (sl hR4 uh (List.zipWith hdR (hitsW l p 12) uws)), dat (sl strR u.1.1 x.l), dat (sl strR u.2.1 x.r), dat (ptw strR (uws.map Prod.fst) ((hitsW l p 12).map Hd.l)), dat (ptw strR (uws.map Prod.snd) ((hitsW l p 12).map Hd.r)), dat (sl strR v1 p), dat (nsl strR v0 l)]) (fun m z => m ≤ x.l.length) (fun m z => x.l.length - m) 0 (.slice (some ⟨b60, 0, none⟩) 0 0) (Keep.cons 0 rfl (Keep.cons 1 rfl (Keep.cons 7 rfl (Keep.cons 8 rfl Keep.nil)))) (Nat.zero_le _) (by repeat (first | exact Sub.nil | refine Sub.cons (by first | rfl | exact congrArg (fun z => some (iv z)) (by first | omega | (dsimp only; omega)) | exact congrArg (fun z => some (Value.bool z)) (by first | assumption | exact Eq.symm (by assumption))) ?_)) (fun _ hw => hw.sub) ?_
      intro m z hm
      have hml : (x.l.take m).length ≤ 12 := by rw [List.length_take]; omega
      refine St.seq ?_
      refine St.seq ?_
      refine St.rg ?_
      refine St.ev _ (Ev.move (Opd.mk rfl)) rfl ?_
      refine St.ev _ (Ev.move (Opd.mk rfl)) rfl ?_
      refine St.ev _ (Ev.move (Opd.mk rfl)) rfl ?_
      refine St.ev _ (Ev.idxaddr (k := k) (Opd.mk rfl) (Opd.mk rfl) Tryz.underlying36 sz44 (by omega) (by omega)) rfl ?_
      refine St.ev _ (Ev.fldel (Opd.mk rfl) (by omega) fo44_2) rfl ?_
      refine St.ev _ (Ev.ld1 (Opd.mk rfl) hX Tryz.underlying23 trivial rfl) rfl ?_
      refine St.slot 66 u.1.1 rfl rfl ?_
      refine St.ev _ (Ev.lensl (Opd.mk rfl) Tryz.underlying23) rfl ?_
      refine St.ev _ (Ev.lss (Opd.mk rfl) (Opd.mk rfl)) rfl ?_
      refine St.nil ?_
      refine St.then_normal ?_
      refine St.cond _ rfl (fun h68 => ?_) (fun h68 => ?_)
      · skip
        try simp only [Bool.and_true, Bool.true_and, decide_eq_true_eq, decide_eq_false_iff_not, Bool.and_eq_true, Bool.or_eq_true, Bool.and_eq_false_iff, Bool.or_eq_false_iff, Bool.not_eq_true', Bool.not_eq_false', beq_iff_eq, beq_eq_false_iff_ne, Int.not_lt, Int.not_le] at h68
        obtain ⟨y, hy⟩ := some_of_lt (show m < x.l.length by omega)
        refine St.skip ?_
        refine St.then_normal ?_
        refine St.seq ?_
        refine St.block ?_
        refine St.rg ?_
        refine St.ev _ (Ev.move (Opd.mk rfl)) rfl ?_
        refine St.ev _ (Ev.move (Opd.mk rfl)) rfl ?_
        refine St.ev _ (Ev.move (Opd.mk rfl)) rfl ?_
        refine St.ev _ (Ev.idxaddr (k := k) (Opd.mk rfl) (Opd.mk rfl) Tryz.underlying36 sz44 (by omega) (by omega)) rfl ?_
        refine St.ev _ (Ev.fldel (Opd.mk rfl) (by omega) fo44_2) rfl ?_
        refine St.ev _ (Ev.ld1 (Opd.mk rfl) hX Tryz.underlying23 trivial rfl) rfl ?_
        refine St.slot 76 u.1.1 rfl rfl ?_
        refine St.ev _ (Ev.move (Opd.mk rfl)) rfl ?_
        refine St.ev _ (Ev.idxaddr (k := m) (Opd.mk rfl) (Opd.mk rfl) Tryz.underlying23 sz9 (by omega) (by omega)) rfl ?_
        refine St.ev _ (Ev.ld1 (Opd.mk rfl) hy Tryz.underlying9 trivial rfl) rfl ?_
        refine St.buildSl (xs := [(Operand.tmp 79)]) (ps := [(0, (Operand.tmp 79))]) rfl (Opds.cons (Opd.mk rfl) Opds.nil) Tryz.underlying23 sz9 zv9 rfl rfl (by simp [Value.cells]) rfl rfl (fun b80 => ?_)
        refine St.appendRow (Opd.mk rfl) (Opd.mk rfl) Tryz.underlying23 sz9 zv9 by9 (by simp [Value.oneCell', Value.cells]) (by omega) (by omega) rfl rfl rfl rfl (fun v81 hv81 => ?_)
        refine St.rowEqN v81 (show _ = (x.l.take (m + 1)).length by rw [take_of_some hy]; exact len_snoc) (show _ = rows strR (x.l.take (m + 1)) from rowsS_snoc (take_of_some hy)) ?_
        refine St.ev _ (Ev.assign (Opd.mk rfl)) rfl ?_
        refine St.nil ?_
        refine St.in_normal ?_
        refine St.then_normal ?_
        refine St.rg ?_
        refine St.ev _ (Ev.move (Opd.mk rfl)) rfl ?_
        refine St.ev _ (Ev.add (Opd.mk rfl) (Opd.mk rfl) (by omega)) rfl ?_
        refine St.ev _ (Ev.assign (Opd.mk rfl)) rfl ?_
        refine St.nil ?_
        refine St.then_normal ?_
        refine St.againH2 (m + 1) v81 (by omega) (by first | omega | (dsimp only; omega)) (by repeat (first | exact Sub.nil | refine Sub.cons (by first | rfl | exact congrArg (fun z => some (iv z)) (by first | omega | (dsimp only; omega)) | exact congrArg (fun z => some (Value.bool z)) (by first | assumption | exact Eq.symm (by assumption))) ?_)) (fun _ hw => hw.sub)
      · skip
        try simp only [Bool.and_true, Bool.true_and, decide_eq_true_eq, decide_eq_false_iff_not, Bool.and_eq_true, Bool.or_eq_true, Bool.and_eq_false_iff, Bool.or_eq_false_iff, Bool.not_eq_true', Bool.not_eq_false', beq_iff_eq, beq_eq_false_iff_ne, Int.not_lt, Int.not_le] at h68
        obtain rfl : m = x.l.length := by omega
        rw [List.take_length]
        refine St.exit ?_
        refine St.then_exit ?_
        refine St.then_exit ?_
        refine St.in_hit ?_
        refine St.then_normal ?_
        refine St.seq ?_
        refine St.seq ?_
        refine St.rg ?_
        refine St.ev _ (Ev.assign (Opd.mk rfl)) rfl ?_
        refine St.nil ?_
        refine St.then_normal ?_
        refine St.block ?_
        refine St.rowEqN z (show _ = (x.l ++ p.take 0).length by simp) (show _ = rows strR (x.l ++ p.take 0) by simp) ?_
        refine St.loopH2 (ι := Nat) (κ := Value) (fun m z2 T => (11, iv m) :: (9, z2) :: T) (fun m z2 => [row z2 9 1 (x.l ++ p.take m).length (rows strR (x.l ++ p.take m)), dat (sl hR4 uh (List.zipWith hdR (hitsW l p 12) uws)), dat (sl strR u.1.1 x.l), dat (sl strR u.2.1 x.r), dat (ptw strR (uws.map Prod.fst) ((hitsW l p 12).map Hd.l)), dat (ptw strR (uws.map Prod.snd) ((hitsW l p 12).map Hd.r)), dat (sl strR v1 p), dat (nsl strR v0 l)]) (fun m z2 => m ≤ p.length) (fun m z2 => p.length - m) 0 z (Keep.cons 0 rfl (Keep.cons 1 rfl (Keep.cons 7 rfl (Keep.cons 8 rfl Keep.nil)))) (Nat.zero_le _) (by repeat (first | exact Sub.nil | refine Sub.cons (by first | rfl | exact congrArg (fun z => some (iv z)) (by first | omega | (dsimp only; omega)) | exact congrArg (fun z => some (Value.bool z)) (by first | assumption | exact Eq.symm (by assumption))) ?_)) (fun _ hw => hw.sub) ?_
        intro m z2 hm2
        have hml2 : (x.l ++ p.take m).length ≤ 24 := by rw [List.length_append, List.length_take]; omega
        refine St.seq ?_
        refine St.seq ?_
        refine St.rg ?_
        refine St.ev _ (Ev.move (Opd.mk rfl)) rfl ?_
        refine St.ev _ (Ev.move (Opd.mk rfl)) rfl ?_
        refine St.ev _ (Ev.lensl (Opd.mk rfl) Tryz.underlying23) rfl ?_
        refine St.ev _ (Ev.lss (Opd.mk rfl) (Opd.mk rfl)) rfl ?_
        refine St.nil ?_
        refine St.then_normal ?_
        refine St.cond _ rfl (fun h85 => ?_) (fun h85 => ?_)
        · skip
          try simp only [Bool.and_true, Bool.true_and, decide_eq_true_eq, decide_eq_false_iff_not, Bool.and_eq_true, Bool.or_eq_true, Bool.and_eq_false_iff, Bool.or_eq_false_iff, Bool.not_eq_true', Bool.not_eq_false', beq_iff_eq, beq_eq_false_iff_ne, Int.not_lt, Int.not_le] at h85
          obtain ⟨y, hy⟩ := some_of_lt (show m < p.length by omega)
          refine St.skip ?_
          refine St.then_normal ?_
          refine St.seq ?_
          refine St.block ?_
          refine St.rg ?_
          refine St.ev _ (Ev.move (Opd.mk rfl)) rfl ?_
          refine St.ev _ (Ev.move (Opd.mk rfl)) rfl ?_
          refine St.ev _ (Ev.move (Opd.mk rfl)) rfl ?_
          refine St.ev _ (Ev.idxaddr (k := m) (Opd.mk rfl) (Opd.mk rfl) Tryz.underlying23 sz9 (by omega) (by omega)) rfl ?_
          refine St.ev _ (Ev.ld1 (Opd.mk rfl) hy Tryz.underlying9 trivial rfl) rfl ?_
          refine St.buildSl (xs := [(Operand.tmp 92)]) (ps := [(0, (Operand.tmp 92))]) rfl (Opds.cons (Opd.mk rfl) Opds.nil) Tryz.underlying23 sz9 zv9 rfl rfl (by simp [Value.cells]) rfl rfl (fun b93 => ?_)
          refine St.appendRow (Opd.mk rfl) (Opd.mk rfl) Tryz.underlying23 sz9 zv9 by9 (by simp [Value.oneCell', Value.cells]) (by omega) (by omega) rfl rfl rfl rfl (fun v94 hv94 => ?_)
          refine St.rowEqN v94 (show _ = (x.l ++ p.take (m + 1)).length by rw [take_of_some hy, ← List.append_assoc]; exact len_snoc) (show _ = rows strR (x.l ++ p.take (m + 1)) from rowsS_snoc (by rw [take_of_some hy]; exact (List.append_assoc _ _ _).symm)) ?_
          refine St.ev _ (Ev.assign (Opd.mk rfl)) rfl ?_
          refine St.nil ?_
          refine St.in_normal ?_
          refine St.then_normal ?_
          refine St.rg ?_
          refine St.ev _ (Ev.move (Opd.mk rfl)) rfl ?_
          refine St.ev _ (Ev.add (Opd.mk rfl) (Opd.mk rfl) (by omega)) rfl ?_
          refine St.ev _ (Ev.assign (Opd.mk rfl)) rfl ?_
          refine St.nil ?_
          refine St.then_normal ?_
          refine St.againH2 (m + 1) v94 (by omega) (by first | omega | (dsimp only; omega)) (by repeat (first | exact Sub.nil | refine Sub.cons (by first | rfl | exact congrArg (fun z => some (iv z)) (by first | omega | (dsimp only; omega)) | exact congrArg (fun z => some (Value.bool z)) (by first | assumption | exact Eq.symm (by assumption))) ?_)) (fun _ hw => hw.sub)
        · skip
          try simp only [Bool.and_true, Bool.true_and, decide_eq_true_eq, decide_eq_false_iff_not, Bool.and_eq_true, Bool.or_eq_true, Bool.and_eq_false_iff, Bool.or_eq_false_iff, Bool.not_eq_true', Bool.not_eq_false', beq_iff_eq, beq_eq_false_iff_ne, Int.not_lt, Int.not_le] at h85
          obtain rfl : m = p.length := by omega
          rw [List.take_length]
          refine St.exit ?_
          refine St.then_exit ?_
          refine St.then_exit ?_
          refine St.in_hit ?_
          refine St.then_normal ?_
          refine St.seq ?_
          refine St.seq ?_
          refine St.rg ?_
          refine St.ev _ (Ev.assign (Opd.mk rfl)) rfl ?_
          refine St.nil ?_
          refine St.then_normal ?_
          refine St.block ?_
          refine St.rowEqN z2 (show _ = ((x.l ++ p) ++ x.r.take 0).length by rw [List.take_zero, List.append_nil]) (show _ = rows strR ((x.l ++ p) ++ x.r.take 0) by rw [List.take_zero, List.append_nil]) ?_
          refine St.loopH2 (ι := Nat) (κ := Value) (fun m z3 T => (12, iv m) :: (9, z3) :: T) (fun m z3 => [row z3 9 1 ((x.l ++ p) ++ x.r.take m).length (rows strR ((x.l ++ p) ++ x.r.take m)), dat (sl hR4 uh (List.zipWith hdR (hitsW l p 12) uws)), dat (sl strR u.1.1 x.l), dat (sl strR u.2.1 x.r), dat (ptw strR (uws.map Prod.fst) ((hitsW l p 12).map Hd.l)), dat (ptw strR (uws.map Prod.snd) ((hitsW l p 12).map Hd.r)), dat (sl strR v1 p), dat (nsl strR v0 l)]) (fun m z3 => m ≤ x.r.length) (fun m z3 => x.r.length - m) 0 z2 (Keep.cons 0 rfl (Keep.cons 1 rfl (Keep.cons 7 rfl (Keep.cons 8 rfl Keep.nil)))) (Nat.zero_le _) (by repeat (first | exact Sub.nil | refine Sub.cons (by first | rfl | exact congrArg (fun z => some (iv z)) (by first | omega | (dsimp only; omega)) | exact congrArg (fun z => some (Value.bool z)) (by first | assumption | exact Eq.symm (by assumption))) ?_)) (fun _ hw => hw.sub) ?_
          intro m z3 hm3
          have hml3 : ((x.l ++ p) ++ x.r.take m).length ≤ 36 := by rw [List.length_append, List.length_append, List.length_take]; omega
          refine St.seq ?_
          refine St.seq ?_
          refine St.rg ?_
          refine St.ev _ (Ev.move (Opd.mk rfl)) rfl ?_
          refine St.ev _ (Ev.move (Opd.mk rfl)) rfl ?_
          refine St.ev _ (Ev.move (Opd.mk rfl)) rfl ?_
          refine St.ev _ (Ev.idxaddr (k := k) (Opd.mk rfl) (Opd.mk rfl) Tryz.underlying36 sz44 (by omega) (by omega)) rfl ?_
          refine St.ev _ (Ev.fldel (Opd.mk rfl) (by omega) fo44_3) rfl ?_
          refine St.ev _ (Ev.ld1 (Opd.mk rfl) hX Tryz.underlying23 trivial rfl) rfl ?_
          refine St.slot 100 u.2.1 rfl rfl ?_
          refine St.ev _ (Ev.lensl (Opd.mk rfl) Tryz.underlying23) rfl ?_
          refine St.ev _ (Ev.lss (Opd.mk rfl) (Opd.mk rfl)) rfl ?_
          refine St.nil ?_
          refine St.then_normal ?_
          refine St.cond _ rfl (fun h102 => ?_) (fun h102 => ?_)
          · skip
            try simp only [Bool.and_true, Bool.true_and, decide_eq_true_eq, decide_eq_false_iff_not, Bool.and_eq_true, Bool.or_eq_true, Bool.and_eq_false_iff, Bool.or_eq_false_iff, Bool.not_eq_true', Bool.not_eq_false', beq_iff_eq, beq_eq_false_iff_ne, Int.not_lt, Int.not_le] at h102
            obtain ⟨y, hy⟩ := some_of_lt (show m < x.r.length by omega)
            refine St.skip ?_
            refine St.then_normal ?_
            refine St.seq ?_
            refine St.block ?_
            refine St.rg ?_
            refine St.ev _ (Ev.move (Opd.mk rfl)) rfl ?_
            refine St.ev _ (Ev.move (Opd.mk rfl)) rfl ?_
            refine St.ev _ (Ev.move (Opd.mk rfl)) rfl ?_
            refine St.ev _ (Ev.idxaddr (k := k) (Opd.mk rfl) (Opd.mk rfl) Tryz.underlying36 sz44 (by omega) (by omega)) rfl ?_
            refine St.ev _ (Ev.fldel (Opd.mk rfl) (by omega) fo44_3) rfl ?_
            refine St.ev _ (Ev.ld1 (Opd.mk rfl) hX Tryz.underlying23 trivial rfl) rfl ?_
            refine St.slot 110 u.2.1 rfl rfl ?_
            refine St.ev _ (Ev.move (Opd.mk rfl)) rfl ?_
            refine St.ev _ (Ev.idxaddr (k := m) (Opd.mk rfl) (Opd.mk rfl) Tryz.underlying23 sz9 (by omega) (by omega)) rfl ?_
            refine St.ev _ (Ev.ld1 (Opd.mk rfl) hy Tryz.underlying9 trivial rfl) rfl ?_
            refine St.buildSl (xs := [(Operand.tmp 113)]) (ps := [(0, (Operand.tmp 113))]) rfl (Opds.cons (Opd.mk rfl) Opds.nil) Tryz.underlying23 sz9 zv9 rfl rfl (by simp [Value.cells]) rfl rfl (fun b114 => ?_)
            refine St.appendRow (Opd.mk rfl) (Opd.mk rfl) Tryz.underlying23 sz9 zv9 by9 (by simp [Value.oneCell', Value.cells]) (by omega) (by omega) rfl rfl rfl rfl (fun v115 hv115 => ?_)
            refine St.rowEqN v115 (show _ = ((x.l ++ p) ++ x.r.take (m + 1)).length by rw [take_of_some hy, ← List.append_assoc]; exact len_snoc) (show _ = rows strR ((x.l ++ p) ++ x.r.take (m + 1)) from rowsS_snoc (by rw [take_of_some hy]; exact (List.append_assoc _ _ _).symm)) ?_
            refine St.ev _ (Ev.assign (Opd.mk rfl)) rfl ?_
            refine St.nil ?_
            refine St.in_normal ?_
            refine St.then_normal ?_
            refine St.rg ?_
            refine St.ev _ (Ev.move (Opd.mk rfl)) rfl ?_
            refine St.ev _ (Ev.add (Opd.mk rfl) (Opd.mk rfl) (by omega)) rfl ?_
            refine St.ev _ (Ev.assign (Opd.mk rfl)) rfl ?_
            refine St.nil ?_
            refine St.then_normal ?_
            refine St.againH2 (m + 1) v115 (by omega) (by first | omega | (dsimp only; omega)) (by repeat (first | exact Sub.nil | refine Sub.cons (by first | rfl | exact congrArg (fun z => some (iv z)) (by first | omega | (dsimp only; omega)) | exact congrArg (fun z => some (Value.bool z)) (by first | assumption | exact Eq.symm (by assumption))) ?_)) (fun _ hw => hw.sub)
          · skip
            try simp only [Bool.and_true, Bool.true_and, decide_eq_true_eq, decide_eq_false_iff_not, Bool.and_eq_true, Bool.or_eq_true, Bool.and_eq_false_iff, Bool.or_eq_false_iff, Bool.not_eq_true', Bool.not_eq_false', beq_iff_eq, beq_eq_false_iff_ne, Int.not_lt, Int.not_le] at h102
            obtain rfl : m = x.r.length := by omega
            rw [List.take_length, hwh]
            refine St.openNs v0 (fun vs hvl => ?_)
            refine St.ptwWf vs hvl (fun hwfl => ?_)
            obtain ⟨us, hus⟩ := some_of_lt (show h.1 < vs.length by omega)
            refine St.ptw (vs := vs) h.1 hus hs ?_
            refine St.publish z3 strR s rfl rfl (hwfl s (List.mem_of_getElem? hs)) ?_
            refine St.exit ?_
            refine St.then_exit ?_
            refine St.then_exit ?_
            refine St.in_hit ?_
            refine St.then_normal ?_
            refine St.seq ?_
            refine St.rg ?_
            refine St.ev _ (Ev.move (Opd.mk rfl)) rfl ?_
            refine St.ev _ (Ev.move (Opd.mk rfl)) rfl ?_
            refine St.ev _ (Ev.move (Opd.mk rfl)) rfl ?_
            refine St.ev _ (Ev.move (Opd.mk rfl)) rfl ?_
            refine St.ev _ (Ev.idxaddr (k := k) (Opd.mk rfl) (Opd.mk rfl) Tryz.underlying36 sz44 (by omega) (by omega)) rfl ?_
            refine St.ev _ (Ev.fldel (Opd.mk rfl) (by omega) fo44_0) rfl ?_
            refine St.ev _ (Ev.ld1 (Opd.mk rfl) hX Tryz.underlying3 trivial rfl) rfl ?_
            refine St.slot 122 (iv (h.1 : Nat)) rfl (congrArg (fun z : Nat => iv (z : Int)) hxs) ?_
            refine St.ev _ (Ev.idxaddr (k := h.1) (Opd.mk rfl) (Opd.mk rfl) Tryz.underlying22 sz23 (by omega) (by omega)) rfl ?_
            refine St.ev _ (Ev.ld1 (Opd.mk rfl) hus Tryz.underlying23 trivial rfl) rfl ?_
            refine St.ev _ (Ev.call (sameWords_spec z3 us.1 s s) cb18 (Opds.cons (Opd.mk rfl) (Opds.cons (Opd.mk rfl) Opds.nil))) rfl ?_
            refine St.ev _ (Ev.not (Opd.mk rfl)) rfl ?_
            refine St.nil ?_
            refine St.then_normal ?_
            refine St.condf _ rfl (by simp) ?_
            refine St.skip ?_
            refine St.in_normal ?_
            refine St.then_normal ?_
            refine St.rg ?_
            refine St.ev _ (Ev.move (Opd.mk rfl)) rfl ?_
            refine St.ev _ (Ev.add (Opd.mk rfl) (Opd.mk rfl) (by omega)) rfl ?_
            refine St.ev _ (Ev.assign (Opd.mk rfl)) rfl ?_
            refine St.nil ?_
            refine St.then_normal ?_
            refine St.againH (k + 1) (by omega) (by first | omega | (dsimp only; omega)) (by repeat (first | exact Sub.nil | refine Sub.cons (by first | rfl | exact congrArg (fun z => some (iv z)) (by first | omega | (dsimp only; omega)) | exact congrArg (fun z => some (Value.bool z)) (by first | assumption | exact Eq.symm (by assumption))) ?_)) (fun _ hw => hw.sub)
    · skip
      try simp only [Bool.and_true, Bool.true_and, decide_eq_true_eq, decide_eq_false_iff_not, Bool.and_eq_true, Bool.or_eq_true, Bool.and_eq_false_iff, Bool.or_eq_false_iff, Bool.not_eq_true', Bool.not_eq_false', beq_iff_eq, beq_eq_false_iff_ne, Int.not_lt, Int.not_le] at h41
      refine St.exit ?_
      refine St.then_exit ?_
      refine St.then_exit ?_
      refine St.in_hit ?_
      refine St.then_normal ?_
      refine St.seq ?_
      refine St.rg ?_
      refine St.ev _ (Ev.assign (Opd.mk rfl)) rfl ?_
      refine St.nil ?_
      refine St.then_normal ?_
      refine St.rett ?_
      refine St.rets [_] [] Tryz.results5 ⟨rfl, trivial⟩ ?_ (fun _ hw => hw.sub)
      exact be rfl

end Go.Proofs.YtgikcbfdonjggaaGreatDoor
