/-
  Several texts in one: YtgikcbfdonjggaaGreatDoorC6, YtgikcbfdonjggaaGreatDoorC7, YtgikcbfdonjggaaGreatDoorC8, YtgikcbfdonjggaaGreatDoorJ24, YtgikcbfdonjggaaGreatDoorSymP, YtgikcbfdonjggaaGreatDoorG1, YtgikcbfdonjggaaGreatDoorG2.
  Conditions: none.
-/
import Derived.Test.YtgikcbfdonjggaaGreatDoorGF4
import Derived.Test.YtgikcbfdonjggaaGreatDoorGF2
/-
  (YtgikcbfdonjggaaGreatDoorC6)
  The walks of listing the places of a part with what stands around it; of the reference's list.
  Conditions: none beyond the sizes.
-/
set_option maxRecDepth 20000
set_option linter.unusedSimpArgs false
set_option linter.unusedVariables false
namespace Go.Proofs.YtgikcbfdonjggaaGreatDoor
open Go Go.J

/-- a place of a part, with what stands around it -/
structure Hd where
  s : Nat
  a : Nat
  l : List Str
  r : List Str
  deriving DecidableEq
def hR4 : Rp (Nat × Nat × OneV × OneV) := ⟨4, by decide, fun x => [iv (x.1 : Nat), iv (x.2.1 : Nat), x.2.2.1.1, x.2.2.2.1], fun _ => True, fun _ => rfl, fun x u h => by
  simp at h; rcases h with rfl | rfl | rfl | rfl
  · rfl
  · rfl
  · exact x.2.2.1.2
  · exact x.2.2.2.2⟩
instance (x : Nat × Nat × OneV × OneV) : Cel hR4 x [iv (x.1 : Nat), iv (x.2.1 : Nat), x.2.2.1.1, x.2.2.2.1] := ⟨rfl⟩
def hdR (x : Hd) (u : OneV × OneV) : Nat × Nat × OneV × OneV := (x.s, x.a, u.1, u.2)
abbrev hslL (v : Value) (xs : List Hd) (uws : List (OneV × OneV)) : List Dat := [sl hR4 v (List.zipWith hdR xs uws), ptw strR (uws.map Prod.fst) (xs.map Hd.l), ptw strR (uws.map Prod.snd) (xs.map Hd.r)]
/-- v reads as these places -/
def hsl (v : Value) (xs : List Hd) : Dat := ⟨fun ρ => ∃ uws : List (OneV × OneV), uws.length = xs.length ∧ ∀ d ∈ hslL v xs uws, d.f ρ, fun ρ ρ' h ⟨uws, h1, h2⟩ => ⟨uws, h1, fun d hd => d.mono _ _ h (h2 d hd)⟩⟩
theorem St.openH {n : Nat} {F : Fr} {c : Ctx} {H : List Ent} {T : Act → World → Prop} (v : Value) (xs : List Hd) [hd : InD (hsl v xs) H]
    (k : ∀ uws : List (OneV × OneV), uws.length = xs.length → St n F (Mm c (dat (sl hR4 v (List.zipWith hdR xs uws)) :: dat (ptw strR (uws.map Prod.fst) (xs.map Hd.l)) :: dat (ptw strR (uws.map Prod.snd) (xs.map Hd.r)) :: H)) T) : St n F (Mm c H) T := by
  intro a w ha hw
  obtain ⟨ρ, hm⟩ := hw.out
  obtain ⟨uws, h1, h2⟩ := dat_ok.1 (hm.ents _ hd.mem)
  exact k uws h1 a w ha (Mm.mk (hm.dats (hslL v xs uws) h2))
theorem St.mkH {n : Nat} {F : Fr} {c : Ctx} {H : List Ent} {T : Act → World → Prop} (v : Value) (xs : List Hd) (uws : List (OneV × OneV)) (hl : uws.length = xs.length) [h1 : InD (sl hR4 v (List.zipWith hdR xs uws)) H] [h2 : InD (ptw strR (uws.map Prod.fst) (xs.map Hd.l)) H] [h3 : InD (ptw strR (uws.map Prod.snd) (xs.map Hd.r)) H]
    (k : St n F (Mm c (dat (hsl v xs) :: H)) T) : St n F (Mm c H) T :=
  St.fact (hsl v xs) (fun ρ w hm => ⟨uws, hl, fun d hd => by
    simp only [hslL, List.mem_cons, List.not_mem_nil, or_false] at hd
    rcases hd with rfl | rfl | rfl
    · exact dat_ok.1 (hm.ents _ h1.mem)
    · exact dat_ok.1 (hm.ents _ h2.mem)
    · exact dat_ok.1 (hm.ents _ h3.mem)⟩) k
theorem zip_get {xs : List Hd} {uws : List (OneV × OneV)} {k : Nat} {x : Hd} {u : OneV × OneV} (hx : xs[k]? = some x) (hu : uws[k]? = some u) : (List.zipWith hdR xs uws)[k]? = some (hdR x u) := by
  rw [List.getElem?_zipWith, hx, hu]
theorem zip_snoc {xs : List Hd} {uws : List (OneV × OneV)} (hl : uws.length = xs.length) (x : Hd) (u : OneV × OneV) : List.zipWith hdR (xs ++ [x]) (uws ++ [u]) = List.zipWith hdR xs uws ++ [hdR x u] := by
  rw [List.zipWith_append hl.symm]
  rfl
theorem zip_len {xs : List Hd} {uws : List (OneV × OneV)} (hl : uws.length = xs.length) : (List.zipWith hdR xs uws).length = xs.length := by rw [List.length_zipWith]; omega
/-- the words ahead of place k, the last w of them, as far as place m; those from place t on -/
def lfw (s : List Str) (k w m : Nat) : List Str := (s.drop (k - w)).take (min m k - (k - w))
def rgw (s : List Str) (t w m : Nat) : List Str := (s.drop t).take (min m (t + w) - t)
theorem dt_snoc {s : List Str} {d n m : Nat} {x : Str} (hx : s[m]? = some x) (h : m = d + n) : (s.drop d).take (n + 1) = (s.drop d).take n ++ [x] := by
  have : (s.drop d)[n]? = some x := by rw [List.getElem?_drop, ← h]; exact hx
  exact take_of_some this
theorem lfw_t {s : List Str} {k w m : Nat} {x : Str} (hx : s[m]? = some x) (h1 : m < k) (h2 : k ≤ m + w) : lfw s k w (m + 1) = lfw s k w m ++ [x] := by
  unfold lfw
  rw [show min (m + 1) k - (k - w) = (min m k - (k - w)) + 1 by omega]
  exact dt_snoc hx (by omega)
theorem lfw_f {s : List Str} {k w m : Nat} (h : ¬ (m < k ∧ k ≤ m + w)) : lfw s k w (m + 1) = lfw s k w m := by
  unfold lfw
  rw [show min (m + 1) k - (k - w) = min m k - (k - w) by omega]
theorem rgw_t {s : List Str} {t w m : Nat} {x : Str} (hx : s[m]? = some x) (h1 : t ≤ m) (h2 : m < t + w) : rgw s t w (m + 1) = rgw s t w m ++ [x] := by
  unfold rgw
  rw [show min (m + 1) (t + w) - t = (min m (t + w) - t) + 1 by omega]
  exact dt_snoc hx (by omega)
theorem rgw_f {s : List Str} {t w m : Nat} (h : ¬ (t ≤ m ∧ m < t + w)) : rgw s t w (m + 1) = rgw s t w m := by
  unfold rgw
  rw [show min (m + 1) (t + w) - t = min m (t + w) - t by omega]
theorem lfw_len (s : List Str) (k w m : Nat) : (lfw s k w m).length ≤ s.length := by unfold lfw; rw [List.length_take, List.length_drop]; omega
theorem rgw_len (s : List Str) (k w m : Nat) : (rgw s k w m).length ≤ s.length := by unfold rgw; rw [List.length_take, List.length_drop]; omega
theorem lfw_zero (s : List Str) (k w : Nat) : lfw s k w 0 = [] := by unfold lfw; rw [show min 0 k - (k - w) = 0 by omega]; rfl
theorem rgw_zero (s : List Str) (k w : Nat) : rgw s k w 0 = [] := by unfold rgw; rw [show min 0 (k + w) - k = 0 by omega]; rfl
theorem lfw_end {s : List Str} {k w : Nat} (h : k ≤ s.length) : lfw s k w s.length = (s.drop (k - w)).take (k - (k - w)) := by unfold lfw; rw [Nat.min_eq_right h]
theorem lfw_mem {s : List Str} {k w m : Nat} {x : Str} (h : x ∈ lfw s k w m) : x ∈ s := List.mem_of_mem_drop (List.mem_of_mem_take h)
theorem rgw_mem {s : List Str} {k w m : Nat} {x : Str} (h : x ∈ rgw s k w m) : x ∈ s := List.mem_of_mem_drop (List.mem_of_mem_take h)
def mkH (l : List (List Str)) (p : List Str) (w : Nat) (h : Nat × Nat) : Hd := ⟨h.1, h.2, lfw (l.getD h.1 []) h.2 w (l.getD h.1 []).length, rgw (l.getD h.1 []) (h.2 + p.length) w (l.getD h.1 []).length⟩
/-- the places of a part, with what stands around them -/
def hitsW (l : List (List Str)) (p : List Str) (w : Nat) : List Hd := (hitsOf l p).map (mkH l p w)

set_option maxHeartbeats 2000000 in
theorem sameHits_spec (v0 v1 : Value) (a b : List Hd) : FnV Tryz.prog 17 #[v0, v1] [hsl v0 a, hsl v1 b] (.bool (decide (a = b))) := by
  refine FnV.body2 (args := [v0, v1]) 69 Tryz.func17 rfl Tryz.ntmps17 rfl (fun c => ?_)
  refine St.seq ?_
  refine St.openH v0 a (fun us hus => ?_)
  refine St.openH v1 b (fun ws hws => ?_)
  have hza := zip_len hus
  have hzb := zip_len hws
  refine St.wf v0 (fun hwf0 hlen0 => ?_)
  refine St.wf v1 (fun hwf1 hlen1 => ?_)
  refine St.rg ?_
  refine St.ev _ (Ev.assign (Opd.mk rfl)) rfl ?_
  refine St.nil ?_
  refine St.then_normal ?_
  refine St.seq ?_
  refine St.seq ?_
  refine St.rg ?_
  refine St.ev _ (Ev.move (Opd.mk rfl)) rfl ?_
  refine St.ev _ (Ev.lensl (Opd.mk rfl) Tryz.underlying36) rfl ?_
  refine St.ev _ (Ev.move (Opd.mk rfl)) rfl ?_
  refine St.ev _ (Ev.lensl (Opd.mk rfl) Tryz.underlying36) rfl ?_
  refine St.ev _ (Ev.neq (Opd.mk rfl) (Opd.mk rfl)) rfl ?_
  refine St.nil ?_
  refine St.then_normal ?_
  refine St.cond _ rfl (fun h10 => ?_) (fun h10 => ?_)
  · skip
    try simp only [Bool.and_true, Bool.true_and, decide_eq_true_eq, decide_eq_false_iff_not, Bool.and_eq_true, Bool.or_eq_true, Bool.and_eq_false_iff, Bool.or_eq_false_iff, Bool.not_eq_true', Bool.not_eq_false', beq_iff_eq, beq_eq_false_iff_ne, Int.not_lt, Int.not_le] at h10
    refine St.seq ?_
    refine St.rg ?_
    refine St.ev _ (Ev.assign (Opd.mk rfl)) rfl ?_
    refine St.nil ?_
    refine St.then_normal ?_
    refine St.rett ?_
    refine St.then_ret ?_
    refine St.rets [_] [] Tryz.results17 ⟨rfl, trivial⟩ ?_ (fun _ hw => hw.sub)
    exact be (by rw [eq_comm, decide_eq_false_iff_not]; rintro rfl; omega)
  · skip
    try simp only [Bool.and_true, Bool.true_and, decide_eq_true_eq, decide_eq_false_iff_not, Bool.and_eq_true, Bool.or_eq_true, Bool.and_eq_false_iff, Bool.or_eq_false_iff, Bool.not_eq_true', Bool.not_eq_false', beq_iff_eq, beq_eq_false_iff_ne, Int.not_lt, Int.not_le] at h10
    refine St.skip ?_
    refine St.then_normal ?_
    refine St.seq ?_
    refine St.seq ?_
    refine St.rg ?_
    refine St.ev _ (Ev.assign (Opd.mk rfl)) rfl ?_
    refine St.nil ?_
    refine St.then_normal ?_
    refine St.block ?_
    refine St.loopS (ι := Nat) (fun k T => (5, iv k) :: T) (fun k => k ≤ a.length ∧ a.take k = b.take k) (fun k => a.length - k) 0 (Keep.cons 0 rfl (Keep.cons 1 rfl Keep.nil)) ⟨Nat.zero_le _, rfl⟩ (by repeat (first | exact Sub.nil | refine Sub.cons (by first | rfl | exact congrArg (fun z => some (iv z)) (by first | omega | (dsimp only; omega)) | exact congrArg (fun z => some (Value.bool z)) (by first | assumption | exact Eq.symm (by assumption))) ?_)) ?_
    intro k hphi
    obtain ⟨hk, hv⟩ := hphi
    refine St.seq ?_
    refine St.seq ?_
    refine St.rg ?_
    refine St.ev _ (Ev.move (Opd.mk rfl)) rfl ?_
    refine St.ev _ (Ev.move (Opd.mk rfl)) rfl ?_
    refine St.ev _ (Ev.lensl (Opd.mk rfl) Tryz.underlying36) rfl ?_
    refine St.ev _ (Ev.lss (Opd.mk rfl) (Opd.mk rfl)) rfl ?_
    refine St.nil ?_
    refine St.then_normal ?_
    refine St.cond _ rfl (fun h14 => ?_) (fun h14 => ?_)
    · skip
      try simp only [Bool.and_true, Bool.true_and, decide_eq_true_eq, decide_eq_false_iff_not, Bool.and_eq_true, Bool.or_eq_true, Bool.and_eq_false_iff, Bool.or_eq_false_iff, Bool.not_eq_true', Bool.not_eq_false', beq_iff_eq, beq_eq_false_iff_ne, Int.not_lt, Int.not_le] at h14
      obtain ⟨x, hx⟩ := some_of_lt (show k < a.length by omega)
      obtain ⟨y, hy⟩ := some_of_lt (show k < b.length by omega)
      obtain ⟨u, hu⟩ := some_of_lt (show k < us.length by omega)
      obtain ⟨w, hw⟩ := some_of_lt (show k < ws.length by omega)
      have hX := zip_get hx hu
      have hY := zip_get hy hw
      refine St.ptw (vs := us.map Prod.fst) (u := u.1) (l := x.l) k (by rw [List.getElem?_map, hu]; rfl) (by rw [List.getElem?_map, hx]; rfl) ?_
      refine St.ptw (vs := us.map Prod.snd) (u := u.2) (l := x.r) k (by rw [List.getElem?_map, hu]; rfl) (by rw [List.getElem?_map, hx]; rfl) ?_
      refine St.ptw (vs := ws.map Prod.fst) (u := w.1) (l := y.l) k (by rw [List.getElem?_map, hw]; rfl) (by rw [List.getElem?_map, hy]; rfl) ?_
      refine St.ptw (vs := ws.map Prod.snd) (u := w.2) (l := y.r) k (by rw [List.getElem?_map, hw]; rfl) (by rw [List.getElem?_map, hy]; rfl) ?_
      have hxy : ((((!decide ((x.s : Int) = y.s)) || !decide ((x.a : Int) = y.a)) || !decide (x.l = y.l)) || !decide (x.r = y.r)) = false ↔ x = y := by
        cases x; cases y; dsimp only; simp only [Bool.or_eq_false_iff, Bool.not_eq_false', decide_eq_true_eq, Hd.mk.injEq, Int.ofNat_inj, and_assoc]
      refine St.skip ?_
      refine St.then_normal ?_
      refine St.seq ?_
      refine St.block ?_
      refine St.seq ?_
      refine St.rq mixed (by kernel_rfl) (Mm.drawn _ _) ?_
      refine Sq.ev _ (Ev.move (Opd.mk rfl)) rfl ?_
      refine Sq.ev _ (Ev.move (Opd.mk rfl)) rfl ?_
      refine Sq.ev _ (Ev.idxaddr (k := k) (Opd.mk rfl) (Opd.mk rfl) Tryz.underlying36 sz44 (by omega) (by omega)) rfl ?_
      refine Sq.ev _ (Ev.fldel (Opd.mk rfl) (by omega) fo44_0) rfl ?_
      refine Sq.ev _ (Ev.ld1 (Opd.mk rfl) hX Tryz.underlying3 trivial rfl) rfl ?_
      refine Sq.ev _ (Ev.move (Opd.mk rfl)) rfl ?_
      refine Sq.ev _ (Ev.move (Opd.mk rfl)) rfl ?_
      refine Sq.ev _ (Ev.idxaddr (k := k) (Opd.mk rfl) (Opd.mk rfl) Tryz.underlying36 sz44 (by omega) (by omega)) rfl ?_
      refine Sq.ev _ (Ev.fldel (Opd.mk rfl) (by omega) fo44_0) rfl ?_
      refine Sq.ev _ (Ev.ld1 (Opd.mk rfl) hY Tryz.underlying3 trivial rfl) rfl ?_
      refine Sq.ev _ (Ev.neq (Opd.mk rfl) (Opd.mk rfl)) rfl ?_
      refine Sq.ev _ (Ev.move (Opd.mk rfl)) rfl ?_
      refine Sq.gf _ rfl rfl (fun hg => Ev.move (Opd.mk rfl)) rfl ?_
      refine Sq.gf _ rfl rfl (fun hg => Ev.move (Opd.mk rfl)) rfl ?_
      refine Sq.gf _ rfl rfl (fun hg => Ev.idxaddr (k := k) (Opd.gv rfl hg) (Opd.gv rfl hg) Tryz.underlying36 sz44 (by omega) (by omega)) rfl ?_
      refine Sq.gf _ rfl rfl (fun hg => Ev.fldel (Opd.gv rfl hg) (by omega) fo44_1) rfl ?_
      refine Sq.gf _ rfl rfl (fun hg => Ev.ld1 (Opd.gv rfl hg) hX Tryz.underlying3 trivial rfl) rfl ?_
      refine Sq.gf _ rfl rfl (fun hg => Ev.move (Opd.mk rfl)) rfl ?_
      refine Sq.gf _ rfl rfl (fun hg => Ev.move (Opd.mk rfl)) rfl ?_
      refine Sq.gf _ rfl rfl (fun hg => Ev.idxaddr (k := k) (Opd.gv rfl hg) (Opd.gv rfl hg) Tryz.underlying36 sz44 (by omega) (by omega)) rfl ?_
      refine Sq.gf _ rfl rfl (fun hg => Ev.fldel (Opd.gv rfl hg) (by omega) fo44_1) rfl ?_
      refine Sq.gf _ rfl rfl (fun hg => Ev.ld1 (Opd.gv rfl hg) hY Tryz.underlying3 trivial rfl) rfl ?_
      refine Sq.gf _ rfl rfl (fun hg => Ev.neq (Opd.gv rfl hg) (Opd.gv rfl hg)) rfl ?_
      refine Sq.ev _ (Ev.or (Opd.mk rfl) (fun hp => Opd.gv rfl hp)) rfl ?_
      refine Sq.ev _ (Ev.move (Opd.mk rfl)) rfl ?_
      refine Sq.gf _ rfl rfl (fun hg => Ev.move (Opd.mk rfl)) rfl ?_
      refine Sq.gf _ rfl rfl (fun hg => Ev.move (Opd.mk rfl)) rfl ?_
      refine Sq.gf _ rfl rfl (fun hg => Ev.idxaddr (k := k) (Opd.gv rfl hg) (Opd.gv rfl hg) Tryz.underlying36 sz44 (by omega) (by omega)) rfl ?_
      refine Sq.gf _ rfl rfl (fun hg => Ev.fldel (Opd.gv rfl hg) (by omega) fo44_2) rfl ?_
      refine Sq.gf _ rfl rfl (fun hg => Ev.ld1 (Opd.gv rfl hg) hX Tryz.underlying23 trivial rfl) rfl ?_
      refine Sq.gf _ rfl rfl (fun hg => Ev.move (Opd.mk rfl)) rfl ?_
      refine Sq.gf _ rfl rfl (fun hg => Ev.move (Opd.mk rfl)) rfl ?_
      refine Sq.gf _ rfl rfl (fun hg => Ev.idxaddr (k := k) (Opd.gv rfl hg) (Opd.gv rfl hg) Tryz.underlying36 sz44 (by omega) (by omega)) rfl ?_
      refine Sq.gf _ rfl rfl (fun hg => Ev.fldel (Opd.gv rfl hg) (by omega) fo44_2) rfl ?_
      refine Sq.gf _ rfl rfl (fun hg => Ev.ld1 (Opd.gv rfl hg) hY Tryz.underlying23 trivial rfl) rfl ?_
      refine Sq.gf _ rfl rfl (fun hg => Ev.call (sameWords_spec u.1.1 w.1.1 x.l y.l) cb18 (Opds.cons (Opd.gv rfl hg) (Opds.cons (Opd.gv rfl hg) Opds.nil))) rfl ?_
      refine Sq.gf _ rfl rfl (fun hg => Ev.not (Opd.gv rfl hg)) rfl ?_
      refine Sq.ev _ (Ev.or (Opd.mk rfl) (fun hp => Opd.gv rfl hp)) rfl ?_
      refine Sq.ev _ (Ev.move (Opd.mk rfl)) rfl ?_
      refine Sq.gf _ rfl rfl (fun hg => Ev.move (Opd.mk rfl)) rfl ?_
      refine Sq.gf _ rfl rfl (fun hg => Ev.move (Opd.mk rfl)) rfl ?_
      refine Sq.gf _ rfl rfl (fun hg => Ev.idxaddr (k := k) (Opd.gv rfl hg) (Opd.gv rfl hg) Tryz.underlying36 sz44 (by omega) (by omega)) rfl ?_
      refine Sq.gf _ rfl rfl (fun hg => Ev.fldel (Opd.gv rfl hg) (by omega) fo44_3) rfl ?_
      refine Sq.gf _ rfl rfl (fun hg => Ev.ld1 (Opd.gv rfl hg) hX Tryz.underlying23 trivial rfl) rfl ?_
      refine Sq.gf _ rfl rfl (fun hg => Ev.move (Opd.mk rfl)) rfl ?_
      refine Sq.gf _ rfl rfl (fun hg => Ev.move (Opd.mk rfl)) rfl ?_
      refine Sq.gf _ rfl rfl (fun hg => Ev.idxaddr (k := k) (Opd.gv rfl hg) (Opd.gv rfl hg) Tryz.underlying36 sz44 (by omega) (by omega)) rfl ?_
      refine Sq.gf _ rfl rfl (fun hg => Ev.fldel (Opd.gv rfl hg) (by omega) fo44_3) rfl ?_
      refine Sq.gf _ rfl rfl (fun hg => Ev.ld1 (Opd.gv rfl hg) hY Tryz.underlying23 trivial rfl) rfl ?_
      refine Sq.gf _ rfl rfl (fun hg => Ev.call (sameWords_spec u.2.1 w.2.1 x.r y.r) cb18 (Opds.cons (Opd.gv rfl hg) (Opds.cons (Opd.gv rfl hg) Opds.nil))) rfl ?_
      refine Sq.gf _ rfl rfl (fun hg => Ev.not (Opd.gv rfl hg)) rfl ?_
      refine Sq.ev _ (Ev.or (Opd.mk rfl) (fun hp => Opd.gv rfl hp)) rfl ?_
      refine Sq.nil ?_
      refine St.then_normal ?_
      refine St.cond _ rfl (fun h68 => ?_) (fun h68 => ?_)
      · skip
        first | change ((((!decide ((x.s : Int) = y.s)) || !decide ((x.a : Int) = y.a)) || !decide (x.l = y.l)) || !decide (x.r = y.r)) = false at h68 | change ((((!decide ((x.s : Int) = y.s)) || !decide ((x.a : Int) = y.a)) || !decide (x.l = y.l)) || !decide (x.r = y.r)) = true at h68
        refine St.seq ?_
        refine St.rg ?_
        refine St.ev _ (Ev.assign (Opd.mk rfl)) rfl ?_
        refine St.nil ?_
        refine St.then_normal ?_
        refine St.rett ?_
        refine St.in_ret ?_
        refine St.then_ret ?_
        refine St.then_ret ?_
        refine St.in_ret ?_
        refine St.then_ret ?_
        refine St.rets [_] [] Tryz.results17 ⟨rfl, trivial⟩ ?_ (fun _ hw => hw.sub)
        exact be (by rw [eq_comm, decide_eq_false_iff_not]; rintro rfl; rw [hx] at hy; simp only [Option.some.injEq] at hy; have q := hxy.2 hy; rw [h68] at q; cases q)
      · skip
        first | change ((((!decide ((x.s : Int) = y.s)) || !decide ((x.a : Int) = y.a)) || !decide (x.l = y.l)) || !decide (x.r = y.r)) = false at h68 | change ((((!decide ((x.s : Int) = y.s)) || !decide ((x.a : Int) = y.a)) || !decide (x.l = y.l)) || !decide (x.r = y.r)) = true at h68
        refine St.skip ?_
        refine St.in_normal ?_
        refine St.then_normal ?_
        refine St.rg ?_
        refine St.ev _ (Ev.move (Opd.mk rfl)) rfl ?_
        refine St.ev _ (Ev.add (Opd.mk rfl) (Opd.mk rfl) (by omega)) rfl ?_
        refine St.ev _ (Ev.assign (Opd.mk rfl)) rfl ?_
        refine St.nil ?_
        refine St.then_normal ?_
        refine St.againS (k + 1) ⟨by omega, by rw [take_of_some hx, take_of_some hy, hv, hxy.1 h68]⟩ (by first | omega | (dsimp only; omega)) (by repeat (first | exact Sub.nil | refine Sub.cons (by first | rfl | exact congrArg (fun z => some (iv z)) (by first | omega | (dsimp only; omega)) | exact congrArg (fun z => some (Value.bool z)) (by first | assumption | exact Eq.symm (by assumption))) ?_)) (fun _ hw => hw.sub)
    · skip
      try simp only [Bool.and_true, Bool.true_and, decide_eq_true_eq, decide_eq_false_iff_not, Bool.and_eq_true, Bool.or_eq_true, Bool.and_eq_false_iff, Bool.or_eq_false_iff, Bool.not_eq_true', Bool.not_eq_false', beq_iff_eq, beq_eq_false_iff_ne, Int.not_lt, Int.not_le] at h14
      refine St.exit ?_
      refine St.then_exit ?_
      refine St.then_exit ?_
      refine St.in_hit ?_
      refine St.then_normal ?_
      refine St.seq ?_
      refine St.rg ?_
      refine St.ev _ (Ev.assign (Opd.mk rfl)) rfl ?_
      refine St.nil ?_
      refine St.then_normal ?_
      refine St.rett ?_
      refine St.rets [_] [] Tryz.results17 ⟨rfl, trivial⟩ ?_ (fun _ hw => hw.sub)
      exact be (by rw [eq_comm, decide_eq_true_eq]; rw [List.take_of_length_le (by omega), List.take_of_length_le (by omega)] at hv; exact hv)

theorem Words_spec (vl vw vp vo vz : Value) (l : List (List Str)) (hc : Corp l) : FnH Tryz.prog 19 #[idxV vl vw vp vo vz] ([idxD vl vw vp vo vz l].map dat) (fun v H' => v.oneCell' = true ∧ H' = [row v 9 1 (wordsOf l).length (rows strR (wordsOf l))]) := by
  refine FnH.body (args := [idxV vl vw vp vo vz]) 6 Tryz.func19 rfl Tryz.ntmps19 rfl (fun c => ?_)
  refine St.seq ?_
  refine St.cast (H' := [dat (idxD vl vw vp vo vz l)]) rfl ?_
  refine St.openD (idxD vl vw vp vo vz l) (fun _ : Unit => idxL vl vw vp vo vz l) (fun ρ h => ⟨(), h⟩) (fun _ => ?_)
  unfold idxL
  refine St.appl ?_
  have hwl := wordsOf_len hc
  refine St.rg ?_
  refine St.boxA (Opd.mk rfl) rfl (fun b1 => ?_)
  refine St.ev _ (Ev.assign (Opd.mk rfl)) rfl ?_
  refine St.nil ?_
  refine St.then_normal ?_
  refine St.seq ?_
  refine St.rg ?_
  refine St.ev _ (Ev.fldb0 (Opd.mk rfl) fo28_1) rfl ?_
  refine St.ev _ (Ev.ldb (Opd.mk rfl) Tryz.underlying23 trivial (by rfl)) rfl ?_
  refine St.calld (CloneW_spec vw (wordsOf l) (by omega)) cb27 (Opds.cons (Opd.mk rfl) Opds.nil) rfl ?_
  rintro v5 _ ⟨h5, rfl⟩
  refine St.app1 ?_
  refine St.ev _ (Ev.assign (Opd.mk rfl)) rfl ?_
  refine St.nil ?_
  refine St.then_normal ?_
  refine St.rett ?_
  refine St.rets [_] [row v5 9 1 (wordsOf l).length (rows strR (wordsOf l))] Tryz.results19 ⟨rfl, trivial⟩ ?_ (fun _ hw => hw.sub)
  exact ⟨h5, rfl⟩

theorem slice_mem {s : List Str} {d n : Nat} {x : Str} (h : x ∈ (s.drop d).take n) : x ∈ s := List.mem_of_mem_drop (List.mem_of_mem_take h)
theorem hw_take (l : List (List Str)) (p : List Str) (w k : Nat) {h : Nat × Nat} (hh : (hitsOf l p)[k]? = some h) : (hitsW l p w).take (k + 1) = (hitsW l p w).take k ++ [mkH l p w h] := by
  refine take_of_some ?_
  unfold hitsW; rw [List.getElem?_map, hh]; rfl
theorem hw_len (l : List (List Str)) (p : List Str) (w : Nat) : (hitsW l p w).length = (hitsOf l p).length := List.length_map _
theorem hw_l {l : List (List Str)} {p : List Str} {w k : Nat} {h : Nat × Nat} (hh : (hitsOf l p)[k]? = some h) : ((hitsW l p w).take k).map Hd.l ++ [(mkH l p w h).l] = ((hitsW l p w).take (k + 1)).map Hd.l := by rw [hw_take l p w k hh]; simp
theorem hw_r {l : List (List Str)} {p : List Str} {w k : Nat} {h : Nat × Nat} (hh : (hitsOf l p)[k]? = some h) : ((hitsW l p w).take k).map Hd.r ++ [(mkH l p w h).r] = ((hitsW l p w).take (k + 1)).map Hd.r := by rw [hw_take l p w k hh]; simp
theorem fst_snoc (uws : List (OneV × OneV)) (a b : OneV) : uws.map Prod.fst ++ [a] = (uws ++ [(a, b)]).map Prod.fst := by simp
theorem snd_snoc (uws : List (OneV × OneV)) (a b : OneV) : uws.map Prod.snd ++ [b] = (uws ++ [(a, b)]).map Prod.snd := by simp
def hitF (p : List Str) (w : Int) : Int × Int := if (partF p).1 ≠ 0 then partF p else if w < 0 ∨ 12 < w then (3, -2) else (0, 0)
def hitL (l : List (List Str)) (p : List Str) (w : Int) : List Hd := if (hitF p w).1 = 0 then hitsW l p w.toNat else []
theorem hitF_1 {p : List Str} {w : Int} (h : (partF p).1 ≠ 0) : hitF p w = partF p := by unfold hitF; rw [if_pos h]
theorem hitF_2 {p : List Str} {w : Int} (h : (partF p).1 = 0) (h2 : w < 0 ∨ 12 < w) : hitF p w = (3, -2) := by unfold hitF; rw [if_neg (by omega), if_pos h2]
theorem hitF_3 {p : List Str} {w : Int} (h : (partF p).1 = 0) (h2 : 0 ≤ w ∧ w ≤ 12) : hitF p w = (0, 0) := by unfold hitF; rw [if_neg (by omega), if_neg (by omega)]
theorem hitL_t {l : List (List Str)} {p : List Str} {w : Int} (h : (hitF p w).1 = 0) : hitL l p w = hitsW l p w.toNat := by unfold hitL; rw [if_pos h]
theorem hitL_f {l : List (List Str)} {p : List Str} {w : Int} (h : (hitF p w).1 ≠ 0) : hitL l p w = [] := by unfold hitL; rw [if_neg h]
theorem hsl_nil (ρ : Ro) : (hsl (.slice none 0 0) []).f ρ := ⟨[], rfl, fun d hd => by
  simp only [hslL, List.mem_cons, List.not_mem_nil, or_false] at hd
  rcases hd with rfl | rfl | rfl
  · exact sl_nil _ _
  · intro i u l h; simp at h
  · intro i u l h; simp at h⟩
theorem rowsH4_snoc {X : List Hd} {uws : List (OneV × OneV)} (hl : uws.length = X.length) {Y : List Hd} {x : Hd} {u : OneV × OneV} (h : Y = X ++ [x]) : rows hR4 (List.zipWith hdR X uws) ++ [iv (x.s : Nat), iv (x.a : Nat), u.1.1, u.2.1] = rows hR4 (List.zipWith hdR Y (uws ++ [u])) := by
  rw [h, zip_snoc hl, rows_snoc]; rfl

set_option maxHeartbeats 4000000 in
theorem Hits_spec (vl vw vp vo vz v1 : Value) (l : List (List Str)) (p : List Str) (w : Int) (hc : Corp l) : FnW Tryz.prog 14 #[idxV vl vw vp vo vz, v1, iv w] ([idxD vl vw vp vo vz l, sl strR v1 p, u8].map dat) (fun u H' => ∃ u0, u = .tuple #[u0, fv (hitF p w)] ∧ u0.oneCell' = true ∧ H' = [dat (hsl u0 (hitL l p w))]) := by
  refine FnW.body (args := [idxV vl vw vp vo vz, v1, iv w]) 80 Tryz.func14 rfl Tryz.ntmps14 rfl (fun c hdr => ?_)
  refine St.seq ?_
  refine St.cast (H' := [dat (idxD vl vw vp vo vz l), dat (sl strR v1 p), dat u8]) rfl ?_
  refine St.rg ?_
  refine St.boxA (Opd.mk rfl) rfl (fun b3 => ?_)
  refine St.ev _ (Ev.assign (Opd.mk rfl)) rfl ?_
  refine St.alloc zc30 rfl (fun b7 => ?_)
  refine St.nil ?_
  refine St.then_normal ?_
  refine St.seq ?_
  refine St.rg ?_
  refine St.ev _ (Ev.ldbA (Opd.mk rfl) Tryz.underlying28 trivial (by exact sz28)) rfl ?_
  refine St.ev _ (Ev.move (Opd.mk rfl)) rfl ?_
  refine St.calldW hdr (find_spec vl vw vp vo vz v1 l p hc) cb33 (Opds.cons (Opd.mk rfl) (Opds.cons (Opd.mk rfl) Opds.nil)) rfl ?_
  rintro v18 _ ⟨uf, rfl, huf, rfl⟩
  refine St.app1 ?_
  refine St.openD (idxD vl vw vp vo vz l) (fun _ : Unit => idxL vl vw vp vo vz l) (fun ρ h => ⟨(), h⟩) (fun _ => ?_)
  unfold idxL
  refine St.appl ?_
  refine St.ev _ (Ev.move (Opd.mk rfl)) rfl ?_
  refine St.ev _ (Ev.extract (Opd.mk rfl) rfl) rfl ?_
  refine St.ev _ (Ev.extract (Opd.mk rfl) rfl) rfl ?_
  refine St.alloc zc30 rfl (fun b9 => ?_)
  refine St.ev _ (Ev.assign (Opd.mk rfl)) rfl ?_
  refine St.storeA (Opd.mk rfl) (Opd.mk rfl) sz30 (by first | simp only [List.length_cons, List.length_nil] | rfl) rfl ?_
  refine St.nil ?_
  refine St.then_normal ?_
  refine St.seq ?_
  refine St.seq ?_
  refine St.rg ?_
  refine St.ev _ (Ev.fldb0 (Opd.mk rfl) fo30_0) rfl ?_
  refine St.ev _ (Ev.ldb (Opd.mk rfl) Tryz.underlying3 trivial (by rfl)) rfl ?_
  refine St.ev _ (Ev.neq (Opd.mk rfl) (Opd.mk rfl)) rfl ?_
  refine St.nil ?_
  refine St.then_normal ?_
  refine St.cond _ rfl (fun h23 => ?_) (fun h23 => ?_)
  · skip
    try simp only [Bool.and_true, Bool.true_and, decide_eq_true_eq, decide_eq_false_iff_not, Bool.and_eq_true, Bool.or_eq_true, Bool.and_eq_false_iff, Bool.or_eq_false_iff, Bool.not_eq_true', Bool.not_eq_false', beq_iff_eq, beq_eq_false_iff_ne, Int.not_lt, Int.not_le] at h23
    refine St.seq ?_
    refine St.par [b7] mixed ?_
    refine SW.defer 0 (by repeat (first | refine NP.then ?_ | refine NP.inBlock ?_ | exact NP.body)) (by kernel_rfl) rfl (fun R => Ev.ldbA (Opd.mk rfl) Tryz.underlying30 trivial (by exact sz30)) (by kernel_rfl) rfl ?_
    refine SW.defer 1 (by repeat (first | refine NP.then ?_ | refine NP.inBlock ?_ | exact NP.body)) (by kernel_rfl) rfl (fun R => Ev.assign (Opd.mk rfl)) (by kernel_rfl) rfl ?_
    refine SW.turn1 (i := 2) (by kernel_rfl) rfl ?_
    refine St.storeA (Opd.mk rfl) (Opd.mk rfl) sz30 (by first | simp only [List.length_cons, List.length_nil] | rfl) rfl ?_
    refine St.nil ?_
    refine St.then_normal ?_
    refine SW.go ?_
    refine SW.done (by kernel_rfl) ?_
    refine St.then_normal ?_
    refine St.rett ?_
    refine St.then_ret ?_
    refine St.fact _ (fun ρ _ _ => hsl_nil ρ) ?_
    refine St.rets [_, _] [dat (hsl (.slice none 0 0) [])] Tryz.results14 ⟨rfl, ⟨⟨_, _, _, _, rfl, InB.mem, .inl ⟨⟨_, Tryz.underlying30⟩, sz30, rfl⟩⟩, trivial⟩⟩ ?_ (fun _ hw => hw.sub)
    rw [hitL_f (by rw [hitF_1 h23]; exact h23), hitF_1 h23]; exact ⟨_, rfl, rfl, rfl⟩
  · skip
    try simp only [Bool.and_true, Bool.true_and, decide_eq_true_eq, decide_eq_false_iff_not, Bool.and_eq_true, Bool.or_eq_true, Bool.and_eq_false_iff, Bool.or_eq_false_iff, Bool.not_eq_true', Bool.not_eq_false', beq_iff_eq, beq_eq_false_iff_ne, Int.not_lt, Int.not_le] at h23
    have hpz := (partF_ok (p := p) (by omega)).1
    obtain ⟨hp0, hp12, _⟩ := (partF_ok (p := p) (by omega)).2
    rw [fnH_t (by rw [hpz])]
    have hhl := hits_len hc p
    refine St.skip ?_
    refine St.then_normal ?_
    refine St.seq ?_
    refine St.seq ?_
    refine St.rg ?_
    refine St.ev _ (Ev.move (Opd.mk rfl)) rfl ?_
    refine St.ev _ (Ev.lss (Opd.mk rfl) (Opd.mk rfl)) rfl ?_
    refine St.ev _ (Ev.move (Opd.mk rfl)) rfl ?_
    refine St.gf _ rfl rfl (fun hg => Ev.move (Opd.mk rfl)) rfl ?_
    refine St.gf _ rfl rfl (fun hg => Ev.gtr (Opd.gv rfl hg) (Opd.mk rfl)) rfl ?_
    refine St.ev _ (Ev.or (Opd.mk rfl) (fun hp => Opd.gv rfl hp)) rfl ?_
    refine St.nil ?_
    refine St.then_normal ?_
    refine St.cond _ rfl (fun h30 => ?_) (fun h30 => ?_)
    · skip
      try simp only [Bool.and_true, Bool.true_and, decide_eq_true_eq, decide_eq_false_iff_not, Bool.and_eq_true, Bool.or_eq_true, Bool.and_eq_false_iff, Bool.or_eq_false_iff, Bool.not_eq_true', Bool.not_eq_false', beq_iff_eq, beq_eq_false_iff_ne, Int.not_lt, Int.not_le] at h30
      have hf2 := hitF_2 (p := p) (w := w) (by rw [hpz]) (by omega)
      refine St.seq ?_
      refine St.rg ?_
      refine St.ev _ (Ev.build (ps := [(0, (Operand.const (Value.int IntKind.i64 3))), (1, (Operand.const (Value.int IntKind.i64 (-2))))]) (Opds.cons (Opd.mk rfl) (Opds.cons (Opd.mk rfl) Opds.nil)) (fun w => bld30_0_1 rfl rfl w)) rfl ?_
      refine St.ev _ (Ev.assign (Opd.mk rfl)) rfl ?_
      refine St.storeA (Opd.mk rfl) (Opd.mk rfl) sz30 (by first | simp only [List.length_cons, List.length_nil] | rfl) rfl ?_
      refine St.nil ?_
      refine St.then_normal ?_
      refine St.rett ?_
      refine St.then_ret ?_
      refine St.fact _ (fun ρ _ _ => hsl_nil ρ) ?_
      refine St.rets [_, _] [dat (hsl (.slice none 0 0) [])] Tryz.results14 ⟨rfl, ⟨⟨_, _, _, _, rfl, InB.mem, .inl ⟨⟨_, Tryz.underlying30⟩, sz30, rfl⟩⟩, trivial⟩⟩ ?_ (fun _ hw => hw.sub)
      rw [hitL_f (by rw [hf2]; decide), hf2]; exact ⟨_, rfl, rfl, rfl⟩
    · skip
      try simp only [Bool.and_true, Bool.true_and, decide_eq_true_eq, decide_eq_false_iff_not, Bool.and_eq_true, Bool.or_eq_true, Bool.and_eq_false_iff, Bool.or_eq_false_iff, Bool.not_eq_true', Bool.not_eq_false', beq_iff_eq, beq_eq_false_iff_ne, Int.not_lt, Int.not_le] at h30
      have hf3 := hitF_3 (p := p) (w := w) (by rw [hpz]) (by omega)
      have hl3 := hitL_t (l := l) (p := p) (w := w) (by rw [hf3])
      have hwl := hw_len l p w.toNat
      refine St.skip ?_
      refine St.then_normal ?_
      refine St.seq ?_
      refine St.rg ?_
      refine St.ev _ (Ev.assign (Opd.mk rfl)) rfl ?_
      refine St.nil ?_
      refine St.then_normal ?_
      refine St.seq ?_
      refine St.seq ?_
      refine St.rg ?_
      refine St.ev _ (Ev.move (Opd.mk rfl)) rfl ?_
      refine St.ev _ (Ev.lensl (Opd.mk rfl) Tryz.underlying26) rfl ?_
      refine St.ev _ (Ev.move (Opd.mk rfl)) rfl ?_
      refine St.nil ?_
      refine St.then_normal ?_
      refine St.block ?_
      refine St.nilrow 44 4 ?_
      refine St.rowEqN (.slice none 0 0) (show _ = (List.zipWith hdR ((hitsW l p w.toNat).take 0) []).length from rfl) (show _ = rows hR4 (List.zipWith hdR ((hitsW l p w.toNat).take 0) []) from rfl) ?_
      refine St.fact (ptw strR (([] : List (OneV × OneV)).map Prod.fst) (((hitsW l p w.toNat).take 0).map Hd.l)) (fun _ _ _ => by intro i u l h; simp at h) ?_
      refine St.fact (ptw strR (([] : List (OneV × OneV)).map Prod.snd) (((hitsW l p w.toNat).take 0).map Hd.r)) (fun _ _ _ => by intro i u l h; simp at h) ?_
      refine St.loopH2 (ι := Nat) (κ := Value × List (OneV × OneV)) (fun k z T => (34, iv k) :: (10, z.1) :: T) (fun k z => [row z.1 44 4 (List.zipWith hdR ((hitsW l p w.toNat).take k) z.2).length (rows hR4 (List.zipWith hdR ((hitsW l p w.toNat).take k) z.2)), dat (ptw strR (z.2.map Prod.fst) (((hitsW l p w.toNat).take k).map Hd.l)), dat (ptw strR (z.2.map Prod.snd) (((hitsW l p w.toNat).take k).map Hd.r)), blk b3 (.cells [vl, vw, vp, vo, vz].toArray 28 (0, 0)), blk b7 (.cells [iv 0, iv 0].toArray 30 (0, 0)), dat (nsl strR vl l), dat (sl strR v1 p), dat (sl hitR uf (hitsOf l p))]) (fun k z => k ≤ (hitsOf l p).length ∧ z.1.oneCell' = true ∧ z.2.length = ((hitsW l p w.toNat).take k).length) (fun k z => (hitsOf l p).length - k) 0 (.slice none 0 0, []) (Keep.cons 1 rfl (Keep.cons 2 rfl (Keep.cons 3 rfl (Keep.cons 6 rfl (Keep.cons 7 rfl (Keep.cons 32 rfl (Keep.cons 33 rfl Keep.nil))))))) ⟨Nat.zero_le _, rfl, rfl⟩ (by repeat (first | exact Sub.nil | refine Sub.cons (by first | rfl | exact congrArg (fun z => some (iv z)) (by first | omega | (dsimp only; omega)) | exact congrArg (fun z => some (Value.bool z)) (by first | assumption | exact Eq.symm (by assumption))) ?_)) (fun _ hw => hw.sub) ?_
      rintro k ⟨v10, uws⟩ ⟨hk, hz1, huw⟩
      dsimp only at hz1 huw ⊢
      have htk : ((hitsW l p w.toNat).take k).length ≤ 1200 := by rw [List.length_take]; omega
      have hzl := zip_len huw
      refine St.seq ?_
      refine St.rg ?_
      refine St.ev _ (Ev.lss (Opd.mk rfl) (Opd.mk rfl)) rfl ?_
      refine St.nil ?_
      refine St.then_normal ?_
      refine St.seq ?_
      refine St.cond _ rfl (fun h35 => ?_) (fun h35 => ?_)
      · skip
        try simp only [Bool.and_true, Bool.true_and, decide_eq_true_eq, decide_eq_false_iff_not, Bool.and_eq_true, Bool.or_eq_true, Bool.and_eq_false_iff, Bool.or_eq_false_iff, Bool.not_eq_true', Bool.not_eq_false', beq_iff_eq, beq_eq_false_iff_ne, Int.not_lt, Int.not_le] at h35
        obtain ⟨h, hh⟩ := some_of_lt (show k < (hitsOf l p).length by omega)
        obtain ⟨s, hs, hsl2, hst⟩ := hitsOf_mem (List.mem_of_getElem? hh)
        have hsta := ((standsAt_iff (by omega)).1 hst).1
        have hs12 := mem_get hc hs
        have hgd := getD_of_some (d := ([] : List Str)) hs
        refine St.openNs vl (fun vs hvl => ?_)
        refine St.ptwWf vs hvl (fun hwfl => ?_)
        have hlt := lt_of_some hs
        obtain ⟨u, hu⟩ := some_of_lt (show h.1 < vs.length by omega)
        refine St.ptw (vs := vs) h.1 hu hs ?_
        have hsw := hwfl s (List.mem_of_getElem? hs)
        have hml : (mkH l p w.toNat h).l = (s.drop (h.2 - w.toNat)).take (h.2 - (h.2 - w.toNat)) := by show lfw _ _ _ _ = _; rw [hgd, lfw_end (by omega)]
        have hmr : (mkH l p w.toNat h).r = (s.drop (h.2 + p.length)).take (min s.length (h.2 + p.length + w.toNat) - (h.2 + p.length)) := by show rgw _ _ _ _ = _; rw [hgd]; rfl
        refine St.skip ?_
        refine St.then_normal ?_
        refine St.seq ?_
        refine St.block ?_
        refine St.seq ?_
        refine St.rg ?_
        refine St.ev _ (Ev.idxaddr (k := k) (Opd.mk rfl) (Opd.mk rfl) Tryz.underlying26 sz67 (by omega) (by omega)) rfl ?_
        refine St.ev _ (Ev.ldA (Opd.mk rfl) hh Tryz.underlying67 trivial sz67 Cel.eq) rfl ?_
        refine St.alloc zc67 rfl (fun b12 => ?_)
        refine St.storeA (Opd.mk rfl) (Opd.mk rfl) sz67 (by first | simp only [List.length_cons, List.length_nil] | rfl) rfl ?_
        refine St.nil ?_
        refine St.then_normal ?_
        refine St.seq ?_
        refine St.rg ?_
        refine St.ev _ (Ev.fldb0 (Opd.mk rfl) fo28_0) rfl ?_
        refine St.ev _ (Ev.ldb (Opd.mk rfl) Tryz.underlying22 trivial (by rfl)) rfl ?_
        refine St.ev _ (Ev.fldb0 (Opd.mk rfl) fo67_0) rfl ?_
        refine St.ev _ (Ev.ldb (Opd.mk rfl) Tryz.underlying3 trivial (by rfl)) rfl ?_
        refine St.ev _ (Ev.idxaddr (k := h.1) (Opd.mk rfl) (Opd.mk rfl) Tryz.underlying22 sz23 (by omega) (by omega)) rfl ?_
        refine St.ev _ (Ev.ld1 (Opd.mk rfl) hu Tryz.underlying23 trivial rfl) rfl ?_
        refine St.ev _ (Ev.assign (Opd.mk rfl)) rfl ?_
        refine St.nil ?_
        refine St.then_normal ?_
        refine St.seq ?_
        refine St.rg ?_
        refine St.ev _ (Ev.fldb0 (Opd.mk rfl) fo67_1) rfl ?_
        refine St.ev _ (Ev.ldb (Opd.mk rfl) Tryz.underlying3 trivial (by rfl)) rfl ?_
        refine St.ev _ (Ev.move (Opd.mk rfl)) rfl ?_
        refine St.ev _ (Ev.lensl (Opd.mk rfl) Tryz.underlying23) rfl ?_
        refine St.ev _ (Ev.add (Opd.mk rfl) (Opd.mk rfl) (by omega)) rfl ?_
        refine St.ev _ (Ev.assign (Opd.mk rfl)) rfl ?_
        refine St.nil ?_
        refine St.then_normal ?_
        refine St.part u.1 (h.2 - w.toNat) h.2 (by omega) (by omega) ?_
        refine St.part u.1 (h.2 + p.length) (min s.length (h.2 + p.length + w.toNat)) (by omega) (by omega) ?_
        rw [show strR.size = 1 from rfl]
        refine St.parL [row v10 44 4 (List.zipWith hdR ((hitsW l p w.toNat).take k) uws).length (rows hR4 (List.zipWith hdR ((hitsW l p w.toNat).take k) uws))] mixed ?_
        refine SW.defer 0 (by repeat (first | refine NP.then ?_ | refine NP.inBlock ?_ | exact NP.body)) (by kernel_rfl) rfl (fun R => Ev.move (Opd.mk rfl)) (by kernel_rfl) rfl ?_
        refine SW.defer 1 (by repeat (first | refine NP.then ?_ | refine NP.inBlock ?_ | exact NP.body)) (by kernel_rfl) rfl (fun R => Ev.fldb0 (Opd.mk rfl) fo67_0) (by kernel_rfl) rfl ?_
        refine SW.defer 2 (by repeat (first | refine NP.then ?_ | refine NP.inBlock ?_ | exact NP.body)) (by kernel_rfl) rfl (fun R => Ev.ldb (Opd.mk rfl) Tryz.underlying3 trivial (by rfl)) (by kernel_rfl) rfl ?_
        refine SW.defer 3 (by repeat (first | refine NP.then ?_ | refine NP.inBlock ?_ | exact NP.body)) (by kernel_rfl) rfl (fun R => Ev.fldb0 (Opd.mk rfl) fo67_1) (by kernel_rfl) rfl ?_
        refine SW.defer 4 (by repeat (first | refine NP.then ?_ | refine NP.inBlock ?_ | exact NP.body)) (by kernel_rfl) rfl (fun R => Ev.ldb (Opd.mk rfl) Tryz.underlying3 trivial (by rfl)) (by kernel_rfl) rfl ?_
        refine SW.defer 5 (by repeat (first | refine NP.then ?_ | refine NP.inBlock ?_ | exact NP.body)) (by kernel_rfl) rfl (fun R => Ev.move (Opd.mk rfl)) (by kernel_rfl) rfl ?_
        refine SW.defer 6 (by repeat (first | refine NP.then ?_ | refine NP.inBlock ?_ | exact NP.body)) (by kernel_rfl) rfl (fun R => Ev.fldb0 (Opd.mk rfl) fo67_1) (by kernel_rfl) rfl ?_
        refine SW.defer 7 (by repeat (first | refine NP.then ?_ | refine NP.inBlock ?_ | exact NP.body)) (by kernel_rfl) rfl (fun R => Ev.ldb (Opd.mk rfl) Tryz.underlying3 trivial (by rfl)) (by kernel_rfl) rfl ?_
        refine SW.defer 8 (by repeat (first | refine NP.then ?_ | refine NP.inBlock ?_ | exact NP.body)) (by kernel_rfl) rfl (fun R => Ev.move (Opd.mk rfl)) (by kernel_rfl) rfl ?_
        refine SW.defer 9 (by repeat (first | refine NP.then ?_ | refine NP.inBlock ?_ | exact NP.body)) (by kernel_rfl) rfl (fun R => Ev.sub (Opd.mk rfl) (Opd.mk rfl) (by omega)) (by kernel_rfl) rfl ?_
        refine SW.defer 10 (by repeat (first | refine NP.then ?_ | refine NP.inBlock ?_ | exact NP.body)) (by kernel_rfl) rfl (fun R => Ev.maxI (Opd.mk rfl) (Opd.mk rfl)) (by kernel_rfl) rfl ?_
        refine SW.defer 11 (by repeat (first | refine NP.then ?_ | refine NP.inBlock ?_ | exact NP.body)) (by kernel_rfl) rfl (fun R => Ev.fldb0 (Opd.mk rfl) fo67_1) (by kernel_rfl) rfl ?_
        refine SW.defer 12 (by repeat (first | refine NP.then ?_ | refine NP.inBlock ?_ | exact NP.body)) (by kernel_rfl) rfl (fun R => Ev.ldb (Opd.mk rfl) Tryz.underlying3 trivial (by rfl)) (by kernel_rfl) rfl ?_
        refine SW.defer 13 (by repeat (first | refine NP.then ?_ | refine NP.inBlock ?_ | exact NP.body)) (by kernel_rfl) rfl (fun R => Ev.slicesl (l := (h.2 - w.toNat)) (h := h.2) (Opd.mk rfl) (Opd.mk rfl) (Opd.mk rfl) Tryz.underlying23 sz9 (by omega) (by omega) (by omega) (by omega)) (by kernel_rfl) rfl ?_
        refine SW.defer 15 (by repeat (first | refine NP.then ?_ | refine NP.inBlock ?_ | exact NP.body)) (by kernel_rfl) rfl (fun R => Ev.move (Opd.mk rfl)) (by kernel_rfl) rfl ?_
        refine SW.defer 16 (by repeat (first | refine NP.then ?_ | refine NP.inBlock ?_ | exact NP.body)) (by kernel_rfl) rfl (fun R => Ev.move (Opd.mk rfl)) (by kernel_rfl) rfl ?_
        refine SW.defer 17 (by repeat (first | refine NP.then ?_ | refine NP.inBlock ?_ | exact NP.body)) (by kernel_rfl) rfl (fun R => Ev.move (Opd.mk rfl)) (by kernel_rfl) rfl ?_
        refine SW.defer 18 (by repeat (first | refine NP.then ?_ | refine NP.inBlock ?_ | exact NP.body)) (by kernel_rfl) rfl (fun R => Ev.lensl (Opd.mk rfl) Tryz.underlying23) (by kernel_rfl) rfl ?_
        refine SW.defer 19 (by repeat (first | refine NP.then ?_ | refine NP.inBlock ?_ | exact NP.body)) (by kernel_rfl) rfl (fun R => Ev.move (Opd.mk rfl)) (by kernel_rfl) rfl ?_
        refine SW.defer 20 (by repeat (first | refine NP.then ?_ | refine NP.inBlock ?_ | exact NP.body)) (by kernel_rfl) rfl (fun R => Ev.move (Opd.mk rfl)) (by kernel_rfl) rfl ?_
        refine SW.defer 21 (by repeat (first | refine NP.then ?_ | refine NP.inBlock ?_ | exact NP.body)) (by kernel_rfl) rfl (fun R => Ev.add (Opd.mk rfl) (Opd.mk rfl) (by omega)) (by kernel_rfl) rfl ?_
        refine SW.defer 22 (by repeat (first | refine NP.then ?_ | refine NP.inBlock ?_ | exact NP.body)) (by kernel_rfl) rfl (fun R => Ev.minI (Opd.mk rfl) (Opd.mk rfl)) (by kernel_rfl) rfl ?_
        refine SW.defer 23 (by repeat (first | refine NP.then ?_ | refine NP.inBlock ?_ | exact NP.body)) (by kernel_rfl) rfl (fun R => Ev.slicesl (l := (h.2 + p.length)) (h := (min s.length (h.2 + p.length + w.toNat))) (Opd.mk rfl) (Opd.mk rfl) (Opd.mk rfl) Tryz.underlying23 sz9 (by omega) (by omega) (by omega) (by omega)) (by kernel_rfl) rfl ?_
        refine SW.turn1 (i := 14) (by kernel_rfl) rfl ?_
        refine St.calld (CloneW_spec (slv u.1 1 (h.2 - w.toNat) h.2) ((s.drop (h.2 - w.toNat)).take (h.2 - (h.2 - w.toNat))) (by rw [List.length_take, List.length_drop]; omega)) cb27 (Opds.cons (Opd.mk rfl) Opds.nil) rfl ?_
        rintro v63 _ ⟨h63, rfl⟩
        refine St.app1 ?_
        refine St.publish v63 strR ((mkH l p w.toNat h).l) (by rw [hml]) (by rw [hml]) (by rw [hml]; exact fun x hx => hsw x (slice_mem hx)) ?_
        refine St.nil ?_
        refine St.then_normal ?_
        refine SW.go ?_
        refine SW.turn1 (i := 24) (by kernel_rfl) rfl ?_
        refine St.calld (CloneW_spec (slv u.1 1 (h.2 + p.length) (min s.length (h.2 + p.length + w.toNat))) ((s.drop (h.2 + p.length)).take (min s.length (h.2 + p.length + w.toNat) - (h.2 + p.length))) (by rw [List.length_take, List.length_drop]; omega)) cb27 (Opds.cons (Opd.mk rfl) Opds.nil) rfl ?_
        rintro v73 _ ⟨h73, rfl⟩
        refine St.app1 ?_
        refine St.publish v73 strR ((mkH l p w.toNat h).r) (by rw [hmr]) (by rw [hmr]) (by rw [hmr]; exact fun x hx => hsw x (slice_mem hx)) ?_
        refine St.nil ?_
        refine St.then_normal ?_
        refine SW.go ?_
        refine SW.defer 25 (by repeat (first | refine NP.then ?_ | refine NP.inBlock ?_ | exact NP.body)) (by kernel_rfl) rfl (fun R => Ev.build (ps := [(0, (Operand.tmp 51)), (1, (Operand.tmp 53)), (2, (Operand.tmp 63)), (3, (Operand.tmp 73))]) (Opds.cons (Opd.mk rfl) (Opds.cons (Opd.mk rfl) (Opds.cons (Opd.mk rfl) (Opds.cons (Opd.mk rfl) Opds.nil)))) (fun w => bld44_0_1_2_3 rfl rfl h63 h73 w)) (by kernel_rfl) rfl ?_
        refine SW.turn1 (i := 26) (by kernel_rfl) rfl ?_
        refine St.buildSl (xs := [(Operand.tmp 74)]) (ps := [(0, (Operand.tmp 74))]) rfl (Opds.cons (Opd.mk rfl) Opds.nil) Tryz.underlying36 sz44 zv44 rfl rfl (by simp [Value.cells]) rfl rfl (fun b75 => ?_)
        refine St.nil ?_
        refine St.then_normal ?_
        refine SW.go ?_
        refine SW.turn1 (i := 27) (by kernel_rfl) rfl ?_
        refine St.appendRow (Opd.mk rfl) (Opd.mk rfl) Tryz.underlying36 sz44 zv44 by44 (by intro u hu; simp [Value.cells] at hu; rcases hu with rfl | rfl | rfl | rfl; rfl; rfl; exact h63; exact h73) (by omega) (by omega) rfl rfl rfl rfl (fun v76 hv76 => ?_)
        refine St.rowEqN v76 (show _ = (List.zipWith hdR ((hitsW l p w.toNat).take (k + 1)) (uws ++ [(⟨v63, h63⟩, ⟨v73, h73⟩)])).length by rw [hw_take l p w.toNat k hh, zip_snoc huw]; exact len_snoc) (show _ = rows hR4 (List.zipWith hdR ((hitsW l p w.toNat).take (k + 1)) (uws ++ [(⟨v63, h63⟩, ⟨v73, h73⟩)])) from rowsH4_snoc (x := mkH l p w.toNat h) (u := (⟨v63, h63⟩, ⟨v73, h73⟩)) huw (hw_take l p w.toNat k hh)) ?_
        refine St.rowOne v76 (fun h76 _ => ?_)
        refine St.nil ?_
        refine St.then_normal ?_
        refine SW.go ?_
        refine SW.defer 28 (by repeat (first | refine NP.then ?_ | refine NP.inBlock ?_ | exact NP.body)) (by kernel_rfl) rfl (fun R => Ev.assign (Opd.mk rfl)) (by kernel_rfl) rfl ?_
        refine SW.done (by kernel_rfl) ?_
        refine St.in_normal ?_
        refine St.then_normal ?_
        refine St.rg ?_
        refine St.ev _ (Ev.add (Opd.mk rfl) (Opd.mk rfl) (by omega)) rfl ?_
        refine St.ev _ (Ev.move (Opd.mk rfl)) rfl ?_
        refine St.nil ?_
        refine St.then_normal ?_
        refine St.ptwSnoc (uws.map Prod.fst) ⟨v63, h63⟩ (x := (mkH l p w.toNat h).l) (by rw [List.length_map, List.length_map, huw]) ?_
        refine St.ptwSnoc (uws.map Prod.snd) ⟨v73, h73⟩ (x := (mkH l p w.toNat h).r) (by rw [List.length_map, List.length_map, huw]) ?_
        rw [hw_l hh, hw_r hh, fst_snoc uws ⟨v63, h63⟩ ⟨v73, h73⟩, snd_snoc uws ⟨v63, h63⟩ ⟨v73, h73⟩]
        refine St.againH2 (k + 1) (v76, uws ++ [(⟨v63, h63⟩, ⟨v73, h73⟩)]) ⟨by omega, h76, by rw [hw_take l p w.toNat k hh]; simp [huw]⟩ (by first | omega | (dsimp only; omega)) (by repeat (first | exact Sub.nil | refine Sub.cons (by first | rfl | exact congrArg (fun z => some (iv z)) (by first | omega | (dsimp only; omega)) | exact congrArg (fun z => some (Value.bool z)) (by first | assumption | exact Eq.symm (by assumption))) ?_)) (fun _ hw => hw.sub)
      · skip
        try simp only [Bool.and_true, Bool.true_and, decide_eq_true_eq, decide_eq_false_iff_not, Bool.and_eq_true, Bool.or_eq_true, Bool.and_eq_false_iff, Bool.or_eq_false_iff, Bool.not_eq_true', Bool.not_eq_false', beq_iff_eq, beq_eq_false_iff_ne, Int.not_lt, Int.not_le] at h35
        obtain rfl : k = (hitsOf l p).length := by omega
        rw [← hwl, List.take_length] at huw hzl ⊢
        refine St.exit ?_
        refine St.then_exit ?_
        refine St.then_exit ?_
        refine St.in_hit ?_
        refine St.then_normal ?_
        refine St.seq ?_
        refine St.rg ?_
        refine St.ev _ (Ev.move (Opd.mk rfl)) rfl ?_
        refine St.ev _ (Ev.build (ps := []) (Opds.nil) (fun w => bld30_  w)) rfl ?_
        refine St.ev _ (Ev.assign (Opd.mk rfl)) rfl ?_
        refine St.storeA (Opd.mk rfl) (Opd.mk rfl) sz30 (by first | simp only [List.length_cons, List.length_nil] | rfl) rfl ?_
        refine St.nil ?_
        refine St.then_normal ?_
        refine St.rett ?_
        refine St.publish v10 hR4 (List.zipWith hdR (hitsW l p w.toNat) uws) rfl rfl (fun _ _ => trivial) ?_
        refine St.mkH v10 (hitsW l p w.toNat) uws huw ?_
        refine St.rets [_, _] [dat (hsl v10 (hitsW l p w.toNat))] Tryz.results14 ⟨rfl, ⟨⟨_, _, _, _, rfl, InB.mem, .inl ⟨⟨_, Tryz.underlying30⟩, sz30, rfl⟩⟩, trivial⟩⟩ ?_ (fun _ hw => hw.sub)
        rw [hl3, hf3]; exact ⟨_, rfl, hz1, rfl⟩

end Go.Proofs.YtgikcbfdonjggaaGreatDoor

/-
  (YtgikcbfdonjggaaGreatDoorC7)
  The walk of the reference's list of the places of a part.
  Conditions: none beyond the sizes.
-/
set_option maxRecDepth 20000
set_option linter.unusedSimpArgs false
set_option linter.unusedVariables false
namespace Go.Proofs.YtgikcbfdonjggaaGreatDoor
open Go Go.J

def hitsTo (l : List (List Str)) (p : List Str) (i : Nat) (s : List Str) (k : Nat) : List (Nat × Nat) := hitsOf (l.take i) p ++ ((List.range k).filter fun k => standsAt s k p).map fun k => (i, k)
theorem hitsTo_zero (l : List (List Str)) (p : List Str) (i : Nat) (s : List Str) : hitsTo l p i s 0 = hitsOf (l.take i) p := by simp [hitsTo]
theorem hitsTo_t {l : List (List Str)} {p : List Str} {i : Nat} {s : List Str} {k : Nat} (h : standsAt s k p = true) : hitsTo l p i s (k + 1) = hitsTo l p i s k ++ [(i, k)] := by
  unfold hitsTo; rw [List.range_succ, List.filter_append, List.map_append, List.append_assoc]; simp [h]
theorem hitsTo_f {l : List (List Str)} {p : List Str} {i : Nat} {s : List Str} {k : Nat} (h : standsAt s k p = false) : hitsTo l p i s (k + 1) = hitsTo l p i s k := by
  unfold hitsTo; rw [List.range_succ, List.filter_append]; simp [h]
theorem hitsTo_end {l : List (List Str)} {p : List Str} {i : Nat} {s : List Str} (hs : l[i]? = some s) : hitsTo l p i s s.length = hitsOf (l.take (i + 1)) p := by
  have hi := lt_of_some hs
  rw [take_of_some hs, hitsOf_append]
  have hl : (l.take i).length = i := by rw [List.length_take]; omega
  rw [hl]
  unfold hitsTo
  congr 1
  simp [hitsOf, hitsFrom, hitsIn, List.map_map, Function.comp_def]
theorem hitsTo_len {l : List (List Str)} (h : Corp l) (p : List Str) {i : Nat} {s : List Str} (hs : l[i]? = some s) {k : Nat} (hk : k ≤ 12) : (hitsTo l p i s k).length ≤ 1300 := by
  have h1 : Corp (l.take i) := ⟨by have := h.len; rw [List.length_take]; omega, fun x hx => h.each x (List.mem_of_mem_take hx)⟩
  have h2 := hits_len h1 p
  have h3 := List.length_filter_le (fun k => standsAt s k p) (List.range k)
  rw [List.length_range] at h3
  unfold hitsTo
  rw [List.length_append, List.length_map]
  omega
theorem map_l_snoc {l : List (List Str)} {p : List Str} {w : Nat} {X Y : List (Nat × Nat)} {h : Nat × Nat} (e : Y = X ++ [h]) : (X.map (mkH l p w)).map Hd.l ++ [(mkH l p w h).l] = (Y.map (mkH l p w)).map Hd.l := by rw [e]; simp
theorem map_r_snoc {l : List (List Str)} {p : List Str} {w : Nat} {X Y : List (Nat × Nat)} {h : Nat × Nat} (e : Y = X ++ [h]) : (X.map (mkH l p w)).map Hd.r ++ [(mkH l p w h).r] = (Y.map (mkH l p w)).map Hd.r := by rw [e]; simp
theorem map_h_snoc {l : List (List Str)} {p : List Str} {w : Nat} {X Y : List (Nat × Nat)} {h : Nat × Nat} (e : Y = X ++ [h]) : Y.map (mkH l p w) = X.map (mkH l p w) ++ [mkH l p w h] := by rw [e]; simp
theorem rowsS_snoc {X Y : List Str} {x : Str} (h : Y = X ++ [x]) : rows strR X ++ [sv x] = rows strR Y := by rw [h, rows_snoc]; rfl

set_option maxHeartbeats 4000000 in
theorem PartHits_spec (v0 v1 : Value) (l : List (List Str)) (p : List Str) (w : Nat) (hc : Corp l) (hp : p.length ≤ 12) (hw12 : w ≤ 12) : FnH Tryz.prog 16 #[v0, v1, iv (w : Nat)] ([nsl strR v0 l, sl strR v1 p].map dat) (fun v H' => v.oneCell' = true ∧ H' = [dat (hsl v (hitsW l p w))]) := by
  refine FnH.body (args := [v0, v1, iv (w : Nat)]) 103 Tryz.func16 rfl Tryz.ntmps16 rfl (fun c => ?_)
  refine St.seq ?_
  refine St.cast (H' := [dat (nsl strR v0 l), dat (sl strR v1 p)]) rfl ?_
  refine St.openNs v0 (fun vs hvl => ?_)
  refine St.ptwWf vs hvl (fun hwfl => ?_)
  have hl100 := hc.len
  refine St.rg ?_
  refine St.ev _ (Ev.assign (Opd.mk rfl)) rfl ?_
  refine St.nil ?_
  refine St.then_normal ?_
  refine St.seq ?_
  refine St.rg ?_
  refine St.buildSl (xs := []) (ps := []) rfl (Opds.nil) Tryz.underlying36 sz44 zv44 rfl rfl (by simp [Value.cells]) rfl rfl (fun b12 => ?_)
  refine St.ev _ (Ev.assign (Opd.mk rfl)) rfl ?_
  refine St.nil ?_
  refine St.then_normal ?_
  refine St.seq ?_
  refine St.seq ?_
  refine St.rg ?_
  refine St.ev _ (Ev.assign (Opd.mk rfl)) rfl ?_
  refine St.nil ?_
  refine St.then_normal ?_
  refine St.block ?_
  refine St.rowEqN (.slice (some ⟨b12, 0, none⟩) 0 0) (show _ = (List.zipWith hdR ((hitsOf (l.take 0) p).map (mkH l p w)) []).length from rfl) (show _ = rows hR4 (List.zipWith hdR ((hitsOf (l.take 0) p).map (mkH l p w)) []) from rfl) ?_
  refine St.fact (ptw strR (([] : List (OneV × OneV)).map Prod.fst) (((hitsOf (l.take 0) p).map (mkH l p w)).map Hd.l)) (fun _ _ _ => by intro i u l h; simp at h) ?_
  refine St.fact (ptw strR (([] : List (OneV × OneV)).map Prod.snd) (((hitsOf (l.take 0) p).map (mkH l p w)).map Hd.r)) (fun _ _ _ => by intro i u l h; simp at h) ?_
  refine St.loopH2 (ι := Nat) (κ := Value × List (OneV × OneV)) (fun i z T => (8, iv i) :: (7, z.1) :: T) (fun i z => [row z.1 44 4 (List.zipWith hdR ((hitsOf (l.take i) p).map (mkH l p w)) z.2).length (rows hR4 (List.zipWith hdR ((hitsOf (l.take i) p).map (mkH l p w)) z.2)), dat (ptw strR (z.2.map Prod.fst) (((hitsOf (l.take i) p).map (mkH l p w)).map Hd.l)), dat (ptw strR (z.2.map Prod.snd) (((hitsOf (l.take i) p).map (mkH l p w)).map Hd.r)), dat (sl valR v0 vs), dat (ptw strR vs l), dat (sl strR v1 p)]) (fun i z => i ≤ l.length ∧ z.1.oneCell' = true ∧ z.2.length = ((hitsOf (l.take i) p).map (mkH l p w)).length) (fun i z => l.length - i) 0 (.slice (some ⟨b12, 0, none⟩) 0 0, []) (Keep.cons 0 rfl (Keep.cons 1 rfl (Keep.cons 2 rfl (Keep.cons 6 rfl Keep.nil)))) ⟨Nat.zero_le _, rfl, rfl⟩ (by repeat (first | exact Sub.nil | refine Sub.cons (by first | rfl | exact congrArg (fun z => some (iv z)) (by first | omega | (dsimp only; omega)) | exact congrArg (fun z => some (Value.bool z)) (by first | assumption | exact Eq.symm (by assumption))) ?_)) (fun _ hw => hw.sub) ?_
  rintro i ⟨v7, uws⟩ ⟨hi, hz1, huw⟩
  dsimp only at hz1 huw ⊢
  refine St.seq ?_
  refine St.seq ?_
  refine St.rg ?_
  refine St.ev _ (Ev.move (Opd.mk rfl)) rfl ?_
  refine St.ev _ (Ev.move (Opd.mk rfl)) rfl ?_
  refine St.ev _ (Ev.lensl (Opd.mk rfl) Tryz.underlying22) rfl ?_
  refine St.ev _ (Ev.lss (Opd.mk rfl) (Opd.mk rfl)) rfl ?_
  refine St.nil ?_
  refine St.then_normal ?_
  refine St.cond _ rfl (fun h16 => ?_) (fun h16 => ?_)
  · skip
    try simp only [Bool.and_true, Bool.true_and, decide_eq_true_eq, decide_eq_false_iff_not, Bool.and_eq_true, Bool.or_eq_true, Bool.and_eq_false_iff, Bool.or_eq_false_iff, Bool.not_eq_true', Bool.not_eq_false', beq_iff_eq, beq_eq_false_iff_ne, Int.not_lt, Int.not_le] at h16
    obtain ⟨s, hs⟩ := some_of_lt (show i < l.length by omega)
    obtain ⟨u, hu⟩ := some_of_lt (show i < vs.length by omega)
    refine St.ptw (vs := vs) i hu hs ?_
    have hs12 := mem_get hc hs
    have hsw := hwfl s (List.mem_of_getElem? hs)
    have hgd := getD_of_some (d := ([] : List Str)) hs
    refine St.skip ?_
    refine St.then_normal ?_
    refine St.seq ?_
    refine St.block ?_
    refine St.seq ?_
    refine St.rg ?_
    refine St.ev _ (Ev.assign (Opd.mk rfl)) rfl ?_
    refine St.nil ?_
    refine St.then_normal ?_
    refine St.block ?_
    rw [← hitsTo_zero l p i s] at huw ⊢
    refine St.loopH2 (ι := Nat) (κ := Value × List (OneV × OneV)) (fun k z T => (9, iv k) :: (7, z.1) :: T) (fun k z => [row z.1 44 4 (List.zipWith hdR ((hitsTo l p i s k).map (mkH l p w)) z.2).length (rows hR4 (List.zipWith hdR ((hitsTo l p i s k).map (mkH l p w)) z.2)), dat (ptw strR (z.2.map Prod.fst) (((hitsTo l p i s k).map (mkH l p w)).map Hd.l)), dat (ptw strR (z.2.map Prod.snd) (((hitsTo l p i s k).map (mkH l p w)).map Hd.r)), dat (sl strR u.1 s), dat (sl valR v0 vs), dat (ptw strR vs l), dat (sl strR v1 p)]) (fun k z => k ≤ s.length ∧ z.1.oneCell' = true ∧ z.2.length = ((hitsTo l p i s k).map (mkH l p w)).length) (fun k z => s.length - k) 0 (v7, uws) (Keep.cons 0 rfl (Keep.cons 1 rfl (Keep.cons 2 rfl (Keep.cons 6 rfl (Keep.cons 8 rfl Keep.nil))))) ⟨Nat.zero_le _, hz1, huw⟩ (by repeat (first | exact Sub.nil | refine Sub.cons (by first | rfl | exact congrArg (fun z => some (iv z)) (by first | omega | (dsimp only; omega)) | exact congrArg (fun z => some (Value.bool z)) (by first | assumption | exact Eq.symm (by assumption))) ?_)) (fun _ hw => hw.sub) ?_
    rintro k ⟨v7, uws⟩ ⟨hk, hz1, huw⟩
    dsimp only at hz1 huw ⊢
    have hzl := zip_len huw
    rw [List.length_map] at hzl
    refine St.seq ?_
    refine St.seq ?_
    refine St.rg ?_
    refine St.ev _ (Ev.move (Opd.mk rfl)) rfl ?_
    refine St.ev _ (Ev.move (Opd.mk rfl)) rfl ?_
    refine St.ev _ (Ev.move (Opd.mk rfl)) rfl ?_
    refine St.ev _ (Ev.idxaddr (k := i) (Opd.mk rfl) (Opd.mk rfl) Tryz.underlying22 sz23 (by omega) (by omega)) rfl ?_
    refine St.ev _ (Ev.ld1 (Opd.mk rfl) hu Tryz.underlying23 trivial rfl) rfl ?_
    refine St.ev _ (Ev.lensl (Opd.mk rfl) Tryz.underlying23) rfl ?_
    refine St.ev _ (Ev.lss (Opd.mk rfl) (Opd.mk rfl)) rfl ?_
    refine St.nil ?_
    refine St.then_normal ?_
    refine St.cond _ rfl (fun h25 => ?_) (fun h25 => ?_)
    · skip
      try simp only [Bool.and_true, Bool.true_and, decide_eq_true_eq, decide_eq_false_iff_not, Bool.and_eq_true, Bool.or_eq_true, Bool.and_eq_false_iff, Bool.or_eq_false_iff, Bool.not_eq_true', Bool.not_eq_false', beq_iff_eq, beq_eq_false_iff_ne, Int.not_lt, Int.not_le] at h25
      have hkl : k < s.length := by omega
      have htl := hitsTo_len hc p hs (k := k) (by omega)
      refine St.skip ?_
      refine St.then_normal ?_
      refine St.seq ?_
      refine St.block ?_
      refine St.seq ?_
      refine St.seq ?_
      refine St.rg ?_
      refine St.ev _ (Ev.move (Opd.mk rfl)) rfl ?_
      refine St.ev _ (Ev.move (Opd.mk rfl)) rfl ?_
      refine St.ev _ (Ev.idxaddr (k := i) (Opd.mk rfl) (Opd.mk rfl) Tryz.underlying22 sz23 (by omega) (by omega)) rfl ?_
      refine St.ev _ (Ev.ld1 (Opd.mk rfl) hu Tryz.underlying23 trivial rfl) rfl ?_
      refine St.ev _ (Ev.move (Opd.mk rfl)) rfl ?_
      refine St.ev _ (Ev.move (Opd.mk rfl)) rfl ?_
      refine St.ev _ (Ev.call (PartAt_spec u.1 v1 s p k (by omega) ⟨by omega, by omega⟩) cb25 (Opds.cons (Opd.mk rfl) (Opds.cons (Opd.mk rfl) (Opds.cons (Opd.mk rfl) Opds.nil)))) rfl ?_
      refine St.ev _ (Ev.not (Opd.mk rfl)) rfl ?_
      refine St.nil ?_
      refine St.then_normal ?_
      refine St.cond _ rfl (fun h35 => ?_) (fun h35 => ?_)
      · skip
        simp only [Bool.not_eq_true', Bool.not_eq_false'] at h35
        refine St.exit ?_
        refine St.then_exit ?_
        refine St.in_hit ?_
        refine St.then_normal ?_
        refine St.rg ?_
        refine St.ev _ (Ev.move (Opd.mk rfl)) rfl ?_
        refine St.ev _ (Ev.add (Opd.mk rfl) (Opd.mk rfl) (by omega)) rfl ?_
        refine St.ev _ (Ev.assign (Opd.mk rfl)) rfl ?_
        refine St.nil ?_
        refine St.then_normal ?_
        rw [← hitsTo_f (l := l) (i := i) h35]
        refine St.againH2 (k + 1) (v7, uws) ⟨by omega, hz1, by rw [hitsTo_f h35]; exact huw⟩ (by first | omega | (dsimp only; omega)) (by repeat (first | exact Sub.nil | refine Sub.cons (by first | rfl | exact congrArg (fun z => some (iv z)) (by first | omega | (dsimp only; omega)) | exact congrArg (fun z => some (Value.bool z)) (by first | assumption | exact Eq.symm (by assumption))) ?_)) (fun _ hw => hw.sub)
      · skip
        simp only [Bool.not_eq_true', Bool.not_eq_false'] at h35
        have hst := ((standsAt_iff (by omega)).1 h35).1
        have hml : (mkH l p w (i, k)).l = lfw s k w s.length := by show lfw (l.getD i []) k w (l.getD i []).length = _; rw [hgd]
        have hmr : (mkH l p w (i, k)).r = rgw s (k + p.length) w s.length := by show rgw (l.getD i []) (k + p.length) w (l.getD i []).length = _; rw [hgd]
        refine St.skip ?_
        refine St.then_normal ?_
        refine St.seq ?_
        refine St.rg ?_
        refine St.ev _ (Ev.move (Opd.mk rfl)) rfl ?_
        refine St.ev _ (Ev.move (Opd.mk rfl)) rfl ?_
        refine St.ev _ (Ev.build (ps := [(0, (Operand.tmp 36)), (1, (Operand.tmp 37))]) (Opds.cons (Opd.mk rfl) (Opds.cons (Opd.mk rfl) Opds.nil)) (fun w => bld44_0_1 rfl rfl w)) rfl ?_
        refine St.alloc zc44 rfl (fun b10 => ?_)
        refine St.storeA (Opd.mk rfl) (Opd.mk rfl) sz44 (by first | simp only [List.length_cons, List.length_nil] | rfl) rfl ?_
        refine St.nil ?_
        refine St.then_normal ?_
        refine St.seq ?_
        refine St.seq ?_
        refine St.rg ?_
        refine St.ev _ (Ev.assign (Opd.mk rfl)) rfl ?_
        refine St.nil ?_
        refine St.then_normal ?_
        refine St.block ?_
        refine St.nilrow 9 1 ?_
        refine St.rowEqN (.slice none 0 0) (show _ = (rgw s (k + p.length) w 0).length by rw [rgw_zero]; rfl) (show _ = rows strR (rgw s (k + p.length) w 0) by rw [rgw_zero]; rfl) ?_
        refine St.nilrow 9 1 ?_
        refine St.rowEqN (.slice none 0 0) (show _ = (lfw s k w 0).length by rw [lfw_zero]; rfl) (show _ = rows strR (lfw s k w 0) by rw [lfw_zero]; rfl) ?_
        refine St.loopH2 (ι := Nat) (κ := Value × Value) (fun m z T => (11, iv m) :: T) (fun m z => [blk b10 (.cells [iv (i : Nat), iv (k : Nat), z.1, z.2].toArray 44 (0, 0)), row z.1 9 1 (lfw s k w m).length (rows strR (lfw s k w m)), row z.2 9 1 (rgw s (k + p.length) w m).length (rows strR (rgw s (k + p.length) w m)), row v7 44 4 (List.zipWith hdR ((hitsTo l p i s k).map (mkH l p w)) uws).length (rows hR4 (List.zipWith hdR ((hitsTo l p i s k).map (mkH l p w)) uws)), dat (ptw strR (uws.map Prod.fst) (((hitsTo l p i s k).map (mkH l p w)).map Hd.l)), dat (ptw strR (uws.map Prod.snd) (((hitsTo l p i s k).map (mkH l p w)).map Hd.r)), dat (sl strR u.1 s), dat (sl valR v0 vs), dat (ptw strR vs l), dat (sl strR v1 p)]) (fun m z => m ≤ s.length ∧ z.1.oneCell' = true ∧ z.2.oneCell' = true) (fun m z => s.length - m) 0 (.slice none 0 0, .slice none 0 0) (Keep.cons 0 rfl (Keep.cons 1 rfl (Keep.cons 2 rfl (Keep.cons 6 rfl (Keep.cons 7 rfl (Keep.cons 8 rfl (Keep.cons 9 rfl (Keep.cons 10 rfl Keep.nil)))))))) ⟨Nat.zero_le _, rfl, rfl⟩ (by repeat (first | exact Sub.nil | refine Sub.cons (by first | rfl | exact congrArg (fun z => some (iv z)) (by first | omega | (dsimp only; omega)) | exact congrArg (fun z => some (Value.bool z)) (by first | assumption | exact Eq.symm (by assumption))) ?_)) (fun _ hw => hw.sub) ?_
        rintro m ⟨vL, vR⟩ ⟨hm, hL, hR⟩
        dsimp only at hL hR ⊢
        have hlf := lfw_len s k w m
        have hrg := rgw_len s (k + p.length) w m
        refine St.seq ?_
        refine St.seq ?_
        refine St.rg ?_
        refine St.ev _ (Ev.move (Opd.mk rfl)) rfl ?_
        refine St.ev _ (Ev.move (Opd.mk rfl)) rfl ?_
        refine St.ev _ (Ev.move (Opd.mk rfl)) rfl ?_
        refine St.ev _ (Ev.idxaddr (k := i) (Opd.mk rfl) (Opd.mk rfl) Tryz.underlying22 sz23 (by omega) (by omega)) rfl ?_
        refine St.ev _ (Ev.ld1 (Opd.mk rfl) hu Tryz.underlying23 trivial rfl) rfl ?_
        refine St.ev _ (Ev.lensl (Opd.mk rfl) Tryz.underlying23) rfl ?_
        refine St.ev _ (Ev.lss (Opd.mk rfl) (Opd.mk rfl)) rfl ?_
        refine St.nil ?_
        refine St.then_normal ?_
        refine St.cond _ rfl (fun h45 => ?_) (fun h45 => ?_)
        · skip
          try simp only [Bool.and_true, Bool.true_and, decide_eq_true_eq, decide_eq_false_iff_not, Bool.and_eq_true, Bool.or_eq_true, Bool.and_eq_false_iff, Bool.or_eq_false_iff, Bool.not_eq_true', Bool.not_eq_false', beq_iff_eq, beq_eq_false_iff_ne, Int.not_lt, Int.not_le] at h45
          obtain ⟨x, hx⟩ := some_of_lt (show m < s.length by omega)
          refine St.skip ?_
          refine St.then_normal ?_
          refine St.seq ?_
          refine St.block ?_
          refine St.join (ι := Value) (fun vM T => T) (fun vM => [blk b10 (.cells [iv (i : Nat), iv (k : Nat), vM, vR].toArray 44 (0, 0)), row vM 9 1 (lfw s k w (m + 1)).length (rows strR (lfw s k w (m + 1))), row vR 9 1 (rgw s (k + p.length) w m).length (rows strR (rgw s (k + p.length) w m)), row v7 44 4 (List.zipWith hdR ((hitsTo l p i s k).map (mkH l p w)) uws).length (rows hR4 (List.zipWith hdR ((hitsTo l p i s k).map (mkH l p w)) uws)), dat (ptw strR (uws.map Prod.fst) (((hitsTo l p i s k).map (mkH l p w)).map Hd.l)), dat (ptw strR (uws.map Prod.snd) (((hitsTo l p i s k).map (mkH l p w)).map Hd.r)), dat (sl strR u.1 s), dat (sl valR v0 vs), dat (ptw strR vs l), dat (sl strR v1 p)]) (fun vM => vM.oneCell' = true) (Keep.cons 0 rfl (Keep.cons 1 rfl (Keep.cons 2 rfl (Keep.cons 6 rfl (Keep.cons 7 rfl (Keep.cons 8 rfl (Keep.cons 9 rfl (Keep.cons 10 rfl (Keep.cons 11 rfl Keep.nil))))))))) ?_ ?_
          · skip
            refine St.seq ?_
            refine St.rg ?_
            refine St.ev _ (Ev.move (Opd.mk rfl)) rfl ?_
            refine St.ev _ (Ev.move (Opd.mk rfl)) rfl ?_
            refine St.ev _ (Ev.lss (Opd.mk rfl) (Opd.mk rfl)) rfl ?_
            refine St.ev _ (Ev.move (Opd.mk rfl)) rfl ?_
            refine St.gt _ rfl rfl (fun hg => Ev.move (Opd.mk rfl)) rfl ?_
            refine St.gt _ rfl rfl (fun hg => Ev.move (Opd.mk rfl)) rfl ?_
            refine St.gt _ rfl rfl (fun hg => Ev.move (Opd.mk rfl)) rfl ?_
            refine St.gt _ rfl rfl (fun hg => Ev.sub (Opd.gv rfl hg) (Opd.gv rfl hg) (by first | omega | (simp only [Bool.and_true, Bool.true_and, decide_eq_true_eq, decide_eq_false_iff_not, Bool.and_eq_true, Bool.or_eq_true, Bool.and_eq_false_iff, Bool.or_eq_false_iff, Bool.not_eq_true', Bool.not_eq_false', beq_iff_eq, beq_eq_false_iff_ne, Int.not_lt, Int.not_le] at hg; omega))) rfl ?_
            refine St.gt _ rfl rfl (fun hg => Ev.geq (Opd.gv rfl hg) (Opd.gv rfl hg)) rfl ?_
            refine St.ev _ (Ev.and (Opd.mk rfl) (fun hp => Opd.gv rfl hp)) rfl ?_
            refine St.nil ?_
            refine St.then_normal ?_
            refine St.cond _ rfl (fun h57 => ?_) (fun h57 => ?_)
            · skip
              try simp only [Bool.and_true, Bool.true_and, decide_eq_true_eq, decide_eq_false_iff_not, Bool.and_eq_true, Bool.or_eq_true, Bool.and_eq_false_iff, Bool.or_eq_false_iff, Bool.not_eq_true', Bool.not_eq_false', beq_iff_eq, beq_eq_false_iff_ne, Int.not_lt, Int.not_le] at h57
              refine St.parL [blk b10 (.cells [iv (i : Nat), iv (k : Nat), vL, vR].toArray 44 (0, 0)), row vL 9 1 (lfw s k w m).length (rows strR (lfw s k w m))] mixed ?_
              refine SW.defer 0 (by repeat (first | refine NP.then ?_ | refine NP.inBlock ?_ | exact NP.body)) (by kernel_rfl) rfl (fun R => Ev.fldb0 (Opd.mk rfl) fo44_2) (by kernel_rfl) rfl ?_
              refine SW.defer 2 (by repeat (first | refine NP.then ?_ | refine NP.inBlock ?_ | exact NP.body)) (by kernel_rfl) rfl (fun R => Ev.move (Opd.mk rfl)) (by kernel_rfl) rfl ?_
              refine SW.defer 3 (by repeat (first | refine NP.then ?_ | refine NP.inBlock ?_ | exact NP.body)) (by kernel_rfl) rfl (fun R => Ev.move (Opd.mk rfl)) (by kernel_rfl) rfl ?_
              refine SW.defer 4 (by repeat (first | refine NP.then ?_ | refine NP.inBlock ?_ | exact NP.body)) (by kernel_rfl) rfl (fun R => Ev.idxaddr (k := i) (Opd.mk rfl) (Opd.mk rfl) Tryz.underlying22 sz23 (by omega) (by omega)) (by kernel_rfl) rfl ?_
              refine SW.defer 5 (by repeat (first | refine NP.then ?_ | refine NP.inBlock ?_ | exact NP.body)) (by kernel_rfl) rfl (fun R => Ev.ld1 (Opd.mk rfl) hu Tryz.underlying23 trivial rfl) (by kernel_rfl) rfl ?_
              refine SW.defer 6 (by repeat (first | refine NP.then ?_ | refine NP.inBlock ?_ | exact NP.body)) (by kernel_rfl) rfl (fun R => Ev.move (Opd.mk rfl)) (by kernel_rfl) rfl ?_
              refine SW.defer 7 (by repeat (first | refine NP.then ?_ | refine NP.inBlock ?_ | exact NP.body)) (by kernel_rfl) rfl (fun R => Ev.idxaddr (k := m) (Opd.mk rfl) (Opd.mk rfl) Tryz.underlying23 sz9 (by omega) (by omega)) (by kernel_rfl) rfl ?_
              refine SW.defer 8 (by repeat (first | refine NP.then ?_ | refine NP.inBlock ?_ | exact NP.body)) (by kernel_rfl) rfl (fun R => Ev.ld1 (Opd.mk rfl) hx Tryz.underlying9 trivial rfl) (by kernel_rfl) rfl ?_
              refine SW.turn2 (i := 1) (j := 9) (by kernel_rfl) rfl rfl ?_ ?_
              · skip
                refine St.ev _ (Ev.ldb (Opd.mk rfl) Tryz.underlying23 trivial (by rfl)) rfl ?_
                refine St.nil ?_
                refine St.then_normal ?_
                refine SW.go ?_
                refine SW.turn1 (i := 9) (by kernel_rfl) rfl ?_
                refine St.buildSl (xs := [(Operand.tmp 66)]) (ps := [(0, (Operand.tmp 66))]) rfl (Opds.cons (Opd.mk rfl) Opds.nil) Tryz.underlying23 sz9 zv9 rfl rfl (by simp [Value.cells]) rfl rfl (fun b67 => ?_)
                refine St.nil ?_
                refine St.then_normal ?_
                refine SW.go ?_
                refine SW.turn1 (i := 10) (by kernel_rfl) rfl ?_
                refine St.appendRow (Opd.mk rfl) (Opd.mk rfl) Tryz.underlying23 sz9 zv9 by9 (by simp [Value.oneCell', Value.cells]) (by omega) (by omega) rfl rfl rfl rfl (fun v68 hv68 => ?_)
                refine St.rowEqN v68 (show _ = (lfw s k w (m + 1)).length by rw [lfw_t hx (by omega) (by omega)]; exact len_snoc) (show _ = rows strR (lfw s k w (m + 1)) from rowsS_snoc (lfw_t hx (by omega) (by omega))) ?_
                refine St.rowOne v68 (fun h68 _ => ?_)
                refine St.nil ?_
                refine St.then_normal ?_
                refine SW.go ?_
                refine SW.defer 11 (by repeat (first | refine NP.then ?_ | refine NP.inBlock ?_ | exact NP.body)) (by kernel_rfl) rfl (fun R => Ev.fldb0 (Opd.mk rfl) fo44_2) (by kernel_rfl) rfl ?_
                refine SW.turn1 (i := 12) (by kernel_rfl) rfl ?_
                refine St.store1 (Opd.mk rfl) (Opd.mk rfl) sz23 h68 (by rfl) ?_
                refine St.nil ?_
                refine St.then_normal ?_
                refine SW.go ?_
                refine SW.done (by kernel_rfl) ?_
                refine St.then_normal ?_
                refine St.met v68 h68 (by repeat (first | exact Sub.nil | refine Sub.cons (by first | rfl | exact congrArg (fun z => some (iv z)) (by first | omega | (dsimp only; omega)) | exact congrArg (fun z => some (Value.bool z)) (by first | assumption | exact Eq.symm (by assumption))) ?_)) (fun _ hw => hw.sub)
              · skip
                refine St.buildSl (xs := [(Operand.tmp 66)]) (ps := [(0, (Operand.tmp 66))]) rfl (Opds.cons (Opd.mk rfl) Opds.nil) Tryz.underlying23 sz9 zv9 rfl rfl (by simp [Value.cells]) rfl rfl (fun b67 => ?_)
                refine St.nil ?_
                refine St.then_normal ?_
                refine SW.go ?_
                refine SW.turn1 (i := 1) (by kernel_rfl) rfl ?_
                refine St.ev _ (Ev.ldb (Opd.mk rfl) Tryz.underlying23 trivial (by rfl)) rfl ?_
                refine St.nil ?_
                refine St.then_normal ?_
                refine SW.go ?_
                refine SW.turn1 (i := 10) (by kernel_rfl) rfl ?_
                refine St.appendRow (Opd.mk rfl) (Opd.mk rfl) Tryz.underlying23 sz9 zv9 by9 (by simp [Value.oneCell', Value.cells]) (by omega) (by omega) rfl rfl rfl rfl (fun v68 hv68 => ?_)
                refine St.rowEqN v68 (show _ = (lfw s k w (m + 1)).length by rw [lfw_t hx (by omega) (by omega)]; exact len_snoc) (show _ = rows strR (lfw s k w (m + 1)) from rowsS_snoc (lfw_t hx (by omega) (by omega))) ?_
                refine St.rowOne v68 (fun h68 _ => ?_)
                refine St.nil ?_
                refine St.then_normal ?_
                refine SW.go ?_
                refine SW.defer 11 (by repeat (first | refine NP.then ?_ | refine NP.inBlock ?_ | exact NP.body)) (by kernel_rfl) rfl (fun R => Ev.fldb0 (Opd.mk rfl) fo44_2) (by kernel_rfl) rfl ?_
                refine SW.turn1 (i := 12) (by kernel_rfl) rfl ?_
                refine St.store1 (Opd.mk rfl) (Opd.mk rfl) sz23 h68 (by rfl) ?_
                refine St.nil ?_
                refine St.then_normal ?_
                refine SW.go ?_
                refine SW.done (by kernel_rfl) ?_
                refine St.then_normal ?_
                refine St.met v68 h68 (by repeat (first | exact Sub.nil | refine Sub.cons (by first | rfl | exact congrArg (fun z => some (iv z)) (by first | omega | (dsimp only; omega)) | exact congrArg (fun z => some (Value.bool z)) (by first | assumption | exact Eq.symm (by assumption))) ?_)) (fun _ hw => hw.sub)
            · skip
              try simp only [Bool.and_true, Bool.true_and, decide_eq_true_eq, decide_eq_false_iff_not, Bool.and_eq_true, Bool.or_eq_true, Bool.and_eq_false_iff, Bool.or_eq_false_iff, Bool.not_eq_true', Bool.not_eq_false', beq_iff_eq, beq_eq_false_iff_ne, Int.not_lt, Int.not_le] at h57
              refine St.skip ?_
              refine St.then_normal ?_
              rw [← lfw_f (s := s) (k := k) (w := w) (m := m) (by omega)]
              refine St.met vL hL (by repeat (first | exact Sub.nil | refine Sub.cons (by first | rfl | exact congrArg (fun z => some (iv z)) (by first | omega | (dsimp only; omega)) | exact congrArg (fun z => some (Value.bool z)) (by first | assumption | exact Eq.symm (by assumption))) ?_)) (fun _ hw => hw.sub)
          · skip
            intro vM hM
            refine St.seq ?_
            refine St.rg ?_
            refine St.ev _ (Ev.move (Opd.mk rfl)) rfl ?_
            refine St.ev _ (Ev.move (Opd.mk rfl)) rfl ?_
            refine St.ev _ (Ev.move (Opd.mk rfl)) rfl ?_
            refine St.ev _ (Ev.lensl (Opd.mk rfl) Tryz.underlying23) rfl ?_
            refine St.ev _ (Ev.add (Opd.mk rfl) (Opd.mk rfl) (by omega)) rfl ?_
            refine St.ev _ (Ev.geq (Opd.mk rfl) (Opd.mk rfl)) rfl ?_
            refine St.ev _ (Ev.move (Opd.mk rfl)) rfl ?_
            refine St.gt _ rfl rfl (fun hg => Ev.move (Opd.mk rfl)) rfl ?_
            refine St.gt _ rfl rfl (fun hg => Ev.move (Opd.mk rfl)) rfl ?_
            refine St.gt _ rfl rfl (fun hg => Ev.move (Opd.mk rfl)) rfl ?_
            refine St.gt _ rfl rfl (fun hg => Ev.lensl (Opd.gv rfl hg) Tryz.underlying23) rfl ?_
            refine St.gt _ rfl rfl (fun hg => Ev.add (Opd.gv rfl hg) (Opd.gv rfl hg) (by first | omega | (simp only [Bool.and_true, Bool.true_and, decide_eq_true_eq, decide_eq_false_iff_not, Bool.and_eq_true, Bool.or_eq_true, Bool.and_eq_false_iff, Bool.or_eq_false_iff, Bool.not_eq_true', Bool.not_eq_false', beq_iff_eq, beq_eq_false_iff_ne, Int.not_lt, Int.not_le] at hg; omega))) rfl ?_
            refine St.gt _ rfl rfl (fun hg => Ev.move (Opd.mk rfl)) rfl ?_
            refine St.gt _ rfl rfl (fun hg => Ev.add (Opd.gv rfl hg) (Opd.gv rfl hg) (by first | omega | (simp only [Bool.and_true, Bool.true_and, decide_eq_true_eq, decide_eq_false_iff_not, Bool.and_eq_true, Bool.or_eq_true, Bool.and_eq_false_iff, Bool.or_eq_false_iff, Bool.not_eq_true', Bool.not_eq_false', beq_iff_eq, beq_eq_false_iff_ne, Int.not_lt, Int.not_le] at hg; omega))) rfl ?_
            refine St.gt _ rfl rfl (fun hg => Ev.lss (Opd.gv rfl hg) (Opd.gv rfl hg)) rfl ?_
            refine St.ev _ (Ev.and (Opd.mk rfl) (fun hp => Opd.gv rfl hp)) rfl ?_
            refine St.nil ?_
            refine St.then_normal ?_
            refine St.cond _ rfl (fun h85 => ?_) (fun h85 => ?_)
            · skip
              try simp only [Bool.and_true, Bool.true_and, decide_eq_true_eq, decide_eq_false_iff_not, Bool.and_eq_true, Bool.or_eq_true, Bool.and_eq_false_iff, Bool.or_eq_false_iff, Bool.not_eq_true', Bool.not_eq_false', beq_iff_eq, beq_eq_false_iff_ne, Int.not_lt, Int.not_le] at h85
              refine St.parL [blk b10 (.cells [iv (i : Nat), iv (k : Nat), vM, vR].toArray 44 (0, 0)), row vR 9 1 (rgw s (k + p.length) w m).length (rows strR (rgw s (k + p.length) w m))] mixed ?_
              refine SW.defer 0 (by repeat (first | refine NP.then ?_ | refine NP.inBlock ?_ | exact NP.body)) (by kernel_rfl) rfl (fun R => Ev.fldb0 (Opd.mk rfl) fo44_3) (by kernel_rfl) rfl ?_
              refine SW.defer 2 (by repeat (first | refine NP.then ?_ | refine NP.inBlock ?_ | exact NP.body)) (by kernel_rfl) rfl (fun R => Ev.move (Opd.mk rfl)) (by kernel_rfl) rfl ?_
              refine SW.defer 3 (by repeat (first | refine NP.then ?_ | refine NP.inBlock ?_ | exact NP.body)) (by kernel_rfl) rfl (fun R => Ev.move (Opd.mk rfl)) (by kernel_rfl) rfl ?_
              refine SW.defer 4 (by repeat (first | refine NP.then ?_ | refine NP.inBlock ?_ | exact NP.body)) (by kernel_rfl) rfl (fun R => Ev.idxaddr (k := i) (Opd.mk rfl) (Opd.mk rfl) Tryz.underlying22 sz23 (by omega) (by omega)) (by kernel_rfl) rfl ?_
              refine SW.defer 5 (by repeat (first | refine NP.then ?_ | refine NP.inBlock ?_ | exact NP.body)) (by kernel_rfl) rfl (fun R => Ev.ld1 (Opd.mk rfl) hu Tryz.underlying23 trivial rfl) (by kernel_rfl) rfl ?_
              refine SW.defer 6 (by repeat (first | refine NP.then ?_ | refine NP.inBlock ?_ | exact NP.body)) (by kernel_rfl) rfl (fun R => Ev.move (Opd.mk rfl)) (by kernel_rfl) rfl ?_
              refine SW.defer 7 (by repeat (first | refine NP.then ?_ | refine NP.inBlock ?_ | exact NP.body)) (by kernel_rfl) rfl (fun R => Ev.idxaddr (k := m) (Opd.mk rfl) (Opd.mk rfl) Tryz.underlying23 sz9 (by omega) (by omega)) (by kernel_rfl) rfl ?_
              refine SW.defer 8 (by repeat (first | refine NP.then ?_ | refine NP.inBlock ?_ | exact NP.body)) (by kernel_rfl) rfl (fun R => Ev.ld1 (Opd.mk rfl) hx Tryz.underlying9 trivial rfl) (by kernel_rfl) rfl ?_
              refine SW.turn2 (i := 1) (j := 9) (by kernel_rfl) rfl rfl ?_ ?_
              · skip
                refine St.ev _ (Ev.ldb (Opd.mk rfl) Tryz.underlying23 trivial (by rfl)) rfl ?_
                refine St.nil ?_
                refine St.then_normal ?_
                refine SW.go ?_
                refine SW.turn1 (i := 9) (by kernel_rfl) rfl ?_
                refine St.buildSl (xs := [(Operand.tmp 94)]) (ps := [(0, (Operand.tmp 94))]) rfl (Opds.cons (Opd.mk rfl) Opds.nil) Tryz.underlying23 sz9 zv9 rfl rfl (by simp [Value.cells]) rfl rfl (fun b95 => ?_)
                refine St.nil ?_
                refine St.then_normal ?_
                refine SW.go ?_
                refine SW.turn1 (i := 10) (by kernel_rfl) rfl ?_
                refine St.appendRow (Opd.mk rfl) (Opd.mk rfl) Tryz.underlying23 sz9 zv9 by9 (by simp [Value.oneCell', Value.cells]) (by omega) (by omega) rfl rfl rfl rfl (fun v96 hv96 => ?_)
                refine St.rowEqN v96 (show _ = (rgw s (k + p.length) w (m + 1)).length by rw [rgw_t hx (by omega) (by omega)]; exact len_snoc) (show _ = rows strR (rgw s (k + p.length) w (m + 1)) from rowsS_snoc (rgw_t hx (by omega) (by omega))) ?_
                refine St.rowOne v96 (fun h96 _ => ?_)
                refine St.nil ?_
                refine St.then_normal ?_
                refine SW.go ?_
                refine SW.defer 11 (by repeat (first | refine NP.then ?_ | refine NP.inBlock ?_ | exact NP.body)) (by kernel_rfl) rfl (fun R => Ev.fldb0 (Opd.mk rfl) fo44_3) (by kernel_rfl) rfl ?_
                refine SW.turn1 (i := 12) (by kernel_rfl) rfl ?_
                refine St.store1 (Opd.mk rfl) (Opd.mk rfl) sz23 h96 (by rfl) ?_
                refine St.nil ?_
                refine St.then_normal ?_
                refine SW.go ?_
                refine SW.done (by kernel_rfl) ?_
                refine St.in_normal ?_
                refine St.then_normal ?_
                refine St.rg ?_
                refine St.ev _ (Ev.move (Opd.mk rfl)) rfl ?_
                refine St.ev _ (Ev.add (Opd.mk rfl) (Opd.mk rfl) (by omega)) rfl ?_
                refine St.ev _ (Ev.assign (Opd.mk rfl)) rfl ?_
                refine St.nil ?_
                refine St.then_normal ?_
                refine St.againH2 (m + 1) (vM, v96) ⟨by omega, hM, h96⟩ (by first | omega | (dsimp only; omega)) (by repeat (first | exact Sub.nil | refine Sub.cons (by first | rfl | exact congrArg (fun z => some (iv z)) (by first | omega | (dsimp only; omega)) | exact congrArg (fun z => some (Value.bool z)) (by first | assumption | exact Eq.symm (by assumption))) ?_)) (fun _ hw => hw.sub)
              · skip
                refine St.buildSl (xs := [(Operand.tmp 94)]) (ps := [(0, (Operand.tmp 94))]) rfl (Opds.cons (Opd.mk rfl) Opds.nil) Tryz.underlying23 sz9 zv9 rfl rfl (by simp [Value.cells]) rfl rfl (fun b95 => ?_)
                refine St.nil ?_
                refine St.then_normal ?_
                refine SW.go ?_
                refine SW.turn1 (i := 1) (by kernel_rfl) rfl ?_
                refine St.ev _ (Ev.ldb (Opd.mk rfl) Tryz.underlying23 trivial (by rfl)) rfl ?_
                refine St.nil ?_
                refine St.then_normal ?_
                refine SW.go ?_
                refine SW.turn1 (i := 10) (by kernel_rfl) rfl ?_
                refine St.appendRow (Opd.mk rfl) (Opd.mk rfl) Tryz.underlying23 sz9 zv9 by9 (by simp [Value.oneCell', Value.cells]) (by omega) (by omega) rfl rfl rfl rfl (fun v96 hv96 => ?_)
                refine St.rowEqN v96 (show _ = (rgw s (k + p.length) w (m + 1)).length by rw [rgw_t hx (by omega) (by omega)]; exact len_snoc) (show _ = rows strR (rgw s (k + p.length) w (m + 1)) from rowsS_snoc (rgw_t hx (by omega) (by omega))) ?_
                refine St.rowOne v96 (fun h96 _ => ?_)
                refine St.nil ?_
                refine St.then_normal ?_
                refine SW.go ?_
                refine SW.defer 11 (by repeat (first | refine NP.then ?_ | refine NP.inBlock ?_ | exact NP.body)) (by kernel_rfl) rfl (fun R => Ev.fldb0 (Opd.mk rfl) fo44_3) (by kernel_rfl) rfl ?_
                refine SW.turn1 (i := 12) (by kernel_rfl) rfl ?_
                refine St.store1 (Opd.mk rfl) (Opd.mk rfl) sz23 h96 (by rfl) ?_
                refine St.nil ?_
                refine St.then_normal ?_
                refine SW.go ?_
                refine SW.done (by kernel_rfl) ?_
                refine St.in_normal ?_
                refine St.then_normal ?_
                refine St.rg ?_
                refine St.ev _ (Ev.move (Opd.mk rfl)) rfl ?_
                refine St.ev _ (Ev.add (Opd.mk rfl) (Opd.mk rfl) (by omega)) rfl ?_
                refine St.ev _ (Ev.assign (Opd.mk rfl)) rfl ?_
                refine St.nil ?_
                refine St.then_normal ?_
                refine St.againH2 (m + 1) (vM, v96) ⟨by omega, hM, h96⟩ (by first | omega | (dsimp only; omega)) (by repeat (first | exact Sub.nil | refine Sub.cons (by first | rfl | exact congrArg (fun z => some (iv z)) (by first | omega | (dsimp only; omega)) | exact congrArg (fun z => some (Value.bool z)) (by first | assumption | exact Eq.symm (by assumption))) ?_)) (fun _ hw => hw.sub)
            · skip
              try simp only [Bool.and_true, Bool.true_and, decide_eq_true_eq, decide_eq_false_iff_not, Bool.and_eq_true, Bool.or_eq_true, Bool.and_eq_false_iff, Bool.or_eq_false_iff, Bool.not_eq_true', Bool.not_eq_false', beq_iff_eq, beq_eq_false_iff_ne, Int.not_lt, Int.not_le] at h85
              refine St.skip ?_
              refine St.in_normal ?_
              refine St.then_normal ?_
              refine St.rg ?_
              refine St.ev _ (Ev.move (Opd.mk rfl)) rfl ?_
              refine St.ev _ (Ev.add (Opd.mk rfl) (Opd.mk rfl) (by omega)) rfl ?_
              refine St.ev _ (Ev.assign (Opd.mk rfl)) rfl ?_
              refine St.nil ?_
              refine St.then_normal ?_
              rw [← rgw_f (s := s) (t := k + p.length) (w := w) (m := m) (by omega)]
              refine St.againH2 (m + 1) (vM, vR) ⟨by omega, hM, hR⟩ (by first | omega | (dsimp only; omega)) (by repeat (first | exact Sub.nil | refine Sub.cons (by first | rfl | exact congrArg (fun z => some (iv z)) (by first | omega | (dsimp only; omega)) | exact congrArg (fun z => some (Value.bool z)) (by first | assumption | exact Eq.symm (by assumption))) ?_)) (fun _ hw => hw.sub)
        · skip
          try simp only [Bool.and_true, Bool.true_and, decide_eq_true_eq, decide_eq_false_iff_not, Bool.and_eq_true, Bool.or_eq_true, Bool.and_eq_false_iff, Bool.or_eq_false_iff, Bool.not_eq_true', Bool.not_eq_false', beq_iff_eq, beq_eq_false_iff_ne, Int.not_lt, Int.not_le] at h45
          obtain rfl : m = s.length := by omega
          refine St.publish vL strR ((mkH l p w (i, k)).l) (by rw [hml]) (by rw [hml]) (by rw [hml]; exact fun x hx => hsw x (lfw_mem hx)) ?_
          refine St.publish vR strR ((mkH l p w (i, k)).r) (by rw [hmr]) (by rw [hmr]) (by rw [hmr]; exact fun x hx => hsw x (rgw_mem hx)) ?_
          refine St.exit ?_
          refine St.then_exit ?_
          refine St.then_exit ?_
          refine St.in_hit ?_
          refine St.then_normal ?_
          refine St.rg ?_
          refine St.ev _ (Ev.move (Opd.mk rfl)) rfl ?_
          refine St.ev _ (Ev.ldbA (Opd.mk rfl) Tryz.underlying44 trivial (by exact sz44)) rfl ?_
          refine St.buildSl (xs := [(Operand.tmp 99)]) (ps := [(0, (Operand.tmp 99))]) rfl (Opds.cons (Opd.mk rfl) Opds.nil) Tryz.underlying36 sz44 zv44 rfl rfl (by simp [Value.cells]) rfl rfl (fun b100 => ?_)
          refine St.appendRow (Opd.mk rfl) (Opd.mk rfl) Tryz.underlying36 sz44 zv44 by44 (by intro u hu; simp [Value.cells] at hu; rcases hu with rfl | rfl | rfl | rfl; rfl; rfl; exact hL; exact hR) (by omega) (by omega) rfl rfl rfl rfl (fun v101 hv101 => ?_)
          have hth := map_h_snoc (l := l) (p := p) (w := w) (hitsTo_t (l := l) (i := i) h35)
          refine St.rowEqN v101 (show _ = (List.zipWith hdR ((hitsTo l p i s (k + 1)).map (mkH l p w)) (uws ++ [(⟨vL, hL⟩, ⟨vR, hR⟩)])).length by rw [hth, zip_snoc huw]; exact len_snoc) (show _ = rows hR4 (List.zipWith hdR ((hitsTo l p i s (k + 1)).map (mkH l p w)) (uws ++ [(⟨vL, hL⟩, ⟨vR, hR⟩)])) from rowsH4_snoc (x := mkH l p w (i, k)) (u := (⟨vL, hL⟩, ⟨vR, hR⟩)) huw hth) ?_
          refine St.rowOne v101 (fun h101 _ => ?_)
          refine St.ev _ (Ev.assign (Opd.mk rfl)) rfl ?_
          refine St.nil ?_
          refine St.in_normal ?_
          refine St.then_normal ?_
          refine St.rg ?_
          refine St.ev _ (Ev.move (Opd.mk rfl)) rfl ?_
          refine St.ev _ (Ev.add (Opd.mk rfl) (Opd.mk rfl) (by omega)) rfl ?_
          refine St.ev _ (Ev.assign (Opd.mk rfl)) rfl ?_
          refine St.nil ?_
          refine St.then_normal ?_
          refine St.ptwSnoc (uws.map Prod.fst) ⟨vL, hL⟩ (x := (mkH l p w (i, k)).l) (by rw [List.length_map, List.length_map, huw]) ?_
          refine St.ptwSnoc (uws.map Prod.snd) ⟨vR, hR⟩ (x := (mkH l p w (i, k)).r) (by rw [List.length_map, List.length_map, huw]) ?_
          rw [map_l_snoc (hitsTo_t (l := l) (i := i) h35), map_r_snoc (hitsTo_t (l := l) (i := i) h35), fst_snoc uws ⟨vL, hL⟩ ⟨vR, hR⟩, snd_snoc uws ⟨vL, hL⟩ ⟨vR, hR⟩]
          refine St.againH2 (k + 1) (v101, uws ++ [(⟨vL, hL⟩, ⟨vR, hR⟩)]) ⟨by omega, h101, by rw [hth]; simp [huw]⟩ (by first | omega | (dsimp only; omega)) (by repeat (first | exact Sub.nil | refine Sub.cons (by first | rfl | exact congrArg (fun z => some (iv z)) (by first | omega | (dsimp only; omega)) | exact congrArg (fun z => some (Value.bool z)) (by first | assumption | exact Eq.symm (by assumption))) ?_)) (fun _ hw => hw.sub)
    · skip
      try simp only [Bool.and_true, Bool.true_and, decide_eq_true_eq, decide_eq_false_iff_not, Bool.and_eq_true, Bool.or_eq_true, Bool.and_eq_false_iff, Bool.or_eq_false_iff, Bool.not_eq_true', Bool.not_eq_false', beq_iff_eq, beq_eq_false_iff_ne, Int.not_lt, Int.not_le] at h25
      obtain rfl : k = s.length := by omega
      refine St.exit ?_
      refine St.then_exit ?_
      refine St.then_exit ?_
      refine St.in_hit ?_
      refine St.in_normal ?_
      refine St.then_normal ?_
      refine St.rg ?_
      refine St.ev _ (Ev.move (Opd.mk rfl)) rfl ?_
      refine St.ev _ (Ev.add (Opd.mk rfl) (Opd.mk rfl) (by omega)) rfl ?_
      refine St.ev _ (Ev.assign (Opd.mk rfl)) rfl ?_
      refine St.nil ?_
      refine St.then_normal ?_
      rw [hitsTo_end hs]
      refine St.againH2 (i + 1) (v7, uws) ⟨by omega, hz1, by rw [← hitsTo_end hs]; exact huw⟩ (by first | omega | (dsimp only; omega)) (by repeat (first | exact Sub.nil | refine Sub.cons (by first | rfl | exact congrArg (fun z => some (iv z)) (by first | omega | (dsimp only; omega)) | exact congrArg (fun z => some (Value.bool z)) (by first | assumption | exact Eq.symm (by assumption))) ?_)) (fun _ hw => hw.sub)
  · skip
    try simp only [Bool.and_true, Bool.true_and, decide_eq_true_eq, decide_eq_false_iff_not, Bool.and_eq_true, Bool.or_eq_true, Bool.and_eq_false_iff, Bool.or_eq_false_iff, Bool.not_eq_true', Bool.not_eq_false', beq_iff_eq, beq_eq_false_iff_ne, Int.not_lt, Int.not_le] at h16
    obtain rfl : i = l.length := by omega
    rw [List.take_length] at huw ⊢
    refine St.exit ?_
    refine St.then_exit ?_
    refine St.then_exit ?_
    refine St.in_hit ?_
    refine St.then_normal ?_
    refine St.seq ?_
    refine St.rg ?_
    refine St.ev _ (Ev.move (Opd.mk rfl)) rfl ?_
    refine St.ev _ (Ev.assign (Opd.mk rfl)) rfl ?_
    refine St.nil ?_
    refine St.then_normal ?_
    refine St.rett ?_
    rw [show (hitsOf l p).map (mkH l p w) = hitsW l p w from rfl] at huw ⊢
    refine St.publish v7 hR4 (List.zipWith hdR (hitsW l p w) uws) rfl rfl (fun _ _ => trivial) ?_
    refine St.mkH v7 (hitsW l p w) uws huw ?_
    refine St.rets [_] [dat (hsl v7 (hitsW l p w))] Tryz.results16 ⟨rfl, trivial⟩ ?_ (fun _ hw => hw.sub)
    exact ⟨hz1, rfl⟩

end Go.Proofs.YtgikcbfdonjggaaGreatDoor

/-
  (YtgikcbfdonjggaaGreatDoorC8)
  The closed example of the concordance; the law of hits.
  Conditions: none beyond the sizes.
-/
set_option maxRecDepth 20000
set_option linter.unusedSimpArgs false
set_option linter.unusedVariables false
namespace Go.Proofs.YtgikcbfdonjggaaGreatDoor
open Go Go.J

theorem sst_unique : ∀ {X Y : List Str}, SSt X → SSt Y → (∀ w, w ∈ X ↔ w ∈ Y) → X = Y
  | [], [], _, _, _ => rfl
  | [], y :: Y, _, _, h => by have := (h y).2 (List.mem_cons_self ..); cases this
  | x :: X, [], _, _, h => by have := (h x).1 (List.mem_cons_self ..); cases this
  | x :: X, y :: Y, hX, hY, h => by
    have h1 := List.pairwise_cons.1 hX
    have h2 := List.pairwise_cons.1 hY
    have exy : x = y := by
      rcases List.mem_cons.1 ((h x).1 (List.mem_cons_self ..)) with e | e
      · exact e
      · rcases List.mem_cons.1 ((h y).2 (List.mem_cons_self ..)) with f | f
        · exact f.symm
        · have q1 := h2.1 x e
          have q2 := h1.1 y f
          rw [slt_asymm q1] at q2; cases q2
    subst exy
    rw [sst_unique h1.2 h2.2 fun w => ⟨fun hw => by
      rcases List.mem_cons.1 ((h w).1 (List.mem_cons_of_mem _ hw)) with e | e
      · have := h1.1 w hw; rw [e, slt_irrefl] at this; cases this
      · exact e, fun hw => by
      rcases List.mem_cons.1 ((h w).2 (List.mem_cons_of_mem _ hw)) with e | e
      · have := h2.1 w hw; rw [e, slt_irrefl] at this; cases this
      · exact e⟩]
def sA : Str := [97]
def sD : Str := [100, 111, 103]
def sC : Str := [99, 97, 116]
def L0 : List (List Str) := [[sA, sD], [sA, sC]]
theorem L0_ok : conF L0 = (0, 0) := by decide +kernel
theorem L0_corp : Corp L0 := (conF_ok (by rw [L0_ok])).2
theorem L0_okL : okL L0 = L0 := okL_t (by rw [L0_ok])
theorem L0_words : wordsOf L0 = [sA, sC, sD] := by
  refine sst_unique (wordsOf_sst _) (by unfold SSt; decide) fun w => ?_
  rw [wordsOf_mem]
  simp only [L0, List.mem_cons, List.not_mem_nil, or_false]
  constructor
  · rintro ⟨s, rfl | rfl, hw⟩
    · simp only [List.mem_cons, List.not_mem_nil, or_false] at hw; rcases hw with h | h <;> simp [h]
    · simp only [List.mem_cons, List.not_mem_nil, or_false] at hw; rcases hw with h | h <;> simp [h]
  · rintro (h | h | h)
    · exact ⟨_, .inl rfl, by simp [h]⟩
    · exact ⟨_, .inr rfl, by simp [h]⟩
    · exact ⟨_, .inl rfl, by simp [h]⟩
theorem L0_pA : partF [sA] = (0, 0) := by decide +kernel
theorem L0_hA : (fnH L0 [sA]).length = 2 := by decide +kernel
theorem L0_hF : hitF [sD] 1 = (0, 0) := by decide +kernel
theorem L0_hD : hitL L0 [sD] 1 = [⟨0, 1, [sA], []⟩] := by decide +kernel
theorem wf3 {X : List Str} (h : ∀ x ∈ X, x.length ≤ 3) : ∀ x ∈ X, strR.wf x := fun x hx => by have := h x hx; show x.length ≤ 140737488351232; omega
theorem one_of {α : Type} {l : List α} (h : l.length = 1) : ∃ x, l = [x] := by
  match l, h with
  | [x], _ => exact ⟨x, rfl⟩

set_option maxHeartbeats 2000000 in
theorem ready_spec : FnVw Tryz.prog 10 #[] [u8] (.bool true) := by
  refine FnVw.body (args := []) (ds := [u8]) 68 Tryz.func10 rfl Tryz.ntmps10 rfl (fun c hdr => ?_)
  change St _ _ (Mm c [dat u8]) _
  refine St.seq ?_
  refine St.rg ?_
  refine St.ev _ (Ev.assign (Opd.mk rfl)) rfl ?_
  refine St.nil ?_
  refine St.then_normal ?_
  refine St.seq ?_
  refine St.rg ?_
  refine St.buildSl (xs := [(Operand.const (Value.string { data := #[97] })), (Operand.const (Value.string { data := #[100, 111, 103] }))]) (ps := [(0, (Operand.const (Value.string { data := #[97] }))), (1, (Operand.const (Value.string { data := #[100, 111, 103] })))]) rfl (Opds.cons (Opd.mk rfl) (Opds.cons (Opd.mk rfl) Opds.nil)) Tryz.underlying23 sz9 zv9 rfl rfl (by simp [Value.cells]) rfl rfl (fun b8 => ?_)
  refine St.publish (.slice (some ⟨b8, 0, none⟩) 2 2) strR [sA, sD] rfl rfl (wf3 (by decide)) ?_
  refine St.buildSl (xs := [(Operand.const (Value.string { data := #[97] })), (Operand.const (Value.string { data := #[99, 97, 116] }))]) (ps := [(0, (Operand.const (Value.string { data := #[97] }))), (1, (Operand.const (Value.string { data := #[99, 97, 116] })))]) rfl (Opds.cons (Opd.mk rfl) (Opds.cons (Opd.mk rfl) Opds.nil)) Tryz.underlying23 sz9 zv9 rfl rfl (by simp [Value.cells]) rfl rfl (fun b9 => ?_)
  refine St.publish (.slice (some ⟨b9, 0, none⟩) 2 2) strR [sA, sC] rfl rfl (wf3 (by decide)) ?_
  refine St.buildSl (xs := [(Operand.tmp 8), (Operand.tmp 9)]) (ps := [(0, (Operand.tmp 8)), (1, (Operand.tmp 9))]) rfl (Opds.cons (Opd.mk rfl) (Opds.cons (Opd.mk rfl) Opds.nil)) Tryz.underlying22 sz23 zv23 rfl rfl (by simp [Value.cells]) rfl rfl (fun b10 => ?_)
  refine St.publish (.slice (some ⟨b10, 0, none⟩) 2 2) valR [⟨(.slice (some ⟨b8, 0, none⟩) 2 2), rfl⟩, ⟨(.slice (some ⟨b9, 0, none⟩) 2 2), rfl⟩] rfl rfl (fun _ _ => trivial) ?_
  refine St.ptwNil strR ?_
  refine St.ptwSnoc [] ⟨(.slice (some ⟨b8, 0, none⟩) 2 2), rfl⟩ (x := [sA, sD]) rfl ?_
  refine St.ptwSnoc ([] ++ [⟨(.slice (some ⟨b8, 0, none⟩) 2 2), rfl⟩]) ⟨(.slice (some ⟨b9, 0, none⟩) 2 2), rfl⟩ (x := [sA, sC]) rfl ?_
  simp only [List.nil_append, List.cons_append]
  refine St.mkNs (Rr := strR) (l := L0) (.slice (some ⟨b10, 0, none⟩) 2 2) (vs := [⟨(.slice (some ⟨b8, 0, none⟩) 2 2), rfl⟩, ⟨(.slice (some ⟨b9, 0, none⟩) 2 2), rfl⟩]) (h2 := by unfold L0; infer_instance) rfl ?_
  refine St.calldW hdr (Build_cspec (.slice (some ⟨b10, 0, none⟩) 2 2) L0) cb11 (Opds.cons (Opd.mk rfl) Opds.nil) rfl ?_
  rintro v11 _ ⟨vl, vw, vp, vo, vz, rfl, o1, o2, o3, o4, o5, rfl⟩
  refine St.app1 ?_
  rw [L0_ok, L0_okL]
  refine St.ev _ (Ev.move (Opd.mk rfl)) rfl ?_
  refine St.ev _ (Ev.extract (Opd.mk rfl) rfl) rfl ?_
  refine St.ev _ (Ev.extract (Opd.mk rfl) rfl) rfl ?_
  refine St.alloc zc28 rfl (fun b1 => ?_)
  refine St.alloc zc30 rfl (fun b2 => ?_)
  refine St.storeA (Opd.mk rfl) (Opd.mk rfl) sz28 (by first | simp only [List.length_cons, List.length_nil] | rfl) (by simp [o1, o2, o3, o4, o5]) ?_
  refine St.storeA (Opd.mk rfl) (Opd.mk rfl) sz30 (by first | simp only [List.length_cons, List.length_nil] | rfl) rfl ?_
  refine St.nil ?_
  refine St.then_normal ?_
  refine St.seq ?_
  refine St.rg ?_
  refine St.ev _ (Ev.ldbA (Opd.mk rfl) Tryz.underlying28 trivial (by exact sz28)) rfl ?_
  refine St.buildSl (xs := [(Operand.const (Value.string { data := #[97] }))]) (ps := [(0, (Operand.const (Value.string { data := #[97] })))]) rfl (Opds.cons (Opd.mk rfl) Opds.nil) Tryz.underlying23 sz9 zv9 rfl rfl (by simp [Value.cells]) rfl rfl (fun b16 => ?_)
  refine St.publish (.slice (some ⟨b16, 0, none⟩) 1 1) strR [sA] rfl rfl (wf3 (by decide)) ?_
  refine St.ev _ (Ev.callW hdr (Count_spec vl vw vp vo vz (.slice (some ⟨b16, 0, none⟩) 1 1) L0 [sA] L0_corp) cb13 (Opds.cons (Opd.mk rfl) (Opds.cons (Opd.mk rfl) Opds.nil))) rfl ?_
  rw [L0_pA, L0_hA]
  refine St.ev _ (Ev.move (Opd.mk rfl)) rfl ?_
  refine St.ev _ (Ev.extract (Opd.mk rfl) rfl) rfl ?_
  refine St.ev _ (Ev.extract (Opd.mk rfl) rfl) rfl ?_
  refine St.alloc zc30 rfl (fun b4 => ?_)
  refine St.ev _ (Ev.assign (Opd.mk rfl)) rfl ?_
  refine St.storeA (Opd.mk rfl) (Opd.mk rfl) sz30 (by first | simp only [List.length_cons, List.length_nil] | rfl) rfl ?_
  refine St.nil ?_
  refine St.then_normal ?_
  refine St.seq ?_
  refine St.rg ?_
  refine St.ev _ (Ev.ldbA (Opd.mk rfl) Tryz.underlying28 trivial (by exact sz28)) rfl ?_
  refine St.buildSl (xs := [(Operand.const (Value.string { data := #[100, 111, 103] }))]) (ps := [(0, (Operand.const (Value.string { data := #[100, 111, 103] })))]) rfl (Opds.cons (Opd.mk rfl) Opds.nil) Tryz.underlying23 sz9 zv9 rfl rfl (by simp [Value.cells]) rfl rfl (fun b22 => ?_)
  refine St.publish (.slice (some ⟨b22, 0, none⟩) 1 1) strR [sD] rfl rfl (wf3 (by decide)) ?_
  refine St.calldW hdr (Hits_spec vl vw vp vo vz (.slice (some ⟨b22, 0, none⟩) 1 1) L0 [sD] 1 L0_corp) cb14 (Opds.cons (Opd.mk rfl) (Opds.cons (Opd.mk rfl) (Opds.cons (Opd.mk rfl) Opds.nil))) rfl ?_
  rintro v23 _ ⟨uh, rfl, h23, rfl⟩
  refine St.app1 ?_
  rw [L0_hF, L0_hD]
  refine St.openH uh [⟨0, 1, [sA], []⟩] (fun uws huw => ?_)
  obtain ⟨uw, rfl⟩ := one_of huw
  refine St.ev _ (Ev.move (Opd.mk rfl)) rfl ?_
  refine St.ev _ (Ev.extract (Opd.mk rfl) rfl) rfl ?_
  refine St.ev _ (Ev.extract (Opd.mk rfl) rfl) rfl ?_
  refine St.alloc zc30 rfl (fun b6 => ?_)
  refine St.ev _ (Ev.assign (Opd.mk rfl)) rfl ?_
  refine St.storeA (Opd.mk rfl) (Opd.mk rfl) sz30 (by first | simp only [List.length_cons, List.length_nil] | rfl) rfl ?_
  refine St.nil ?_
  refine St.then_normal ?_
  refine St.seq ?_
  refine St.rg ?_
  refine St.ev _ (Ev.fldb0 (Opd.mk rfl) fo30_0) rfl ?_
  refine St.ev _ (Ev.ldb (Opd.mk rfl) Tryz.underlying3 trivial (by rfl)) rfl ?_
  refine St.ev _ (Ev.eql (Opd.mk rfl) (Opd.mk rfl)) rfl ?_
  refine St.ev _ (Ev.move (Opd.mk rfl)) rfl ?_
  refine St.known 29 _ true rfl (by rfl) ?_
  refine St.takeg rfl rfl ?_
  refine St.ev _ (Ev.fldb0 (Opd.mk rfl) fo30_0) rfl ?_
  refine St.takeg rfl rfl ?_
  refine St.ev _ (Ev.ldb (Opd.mk rfl) Tryz.underlying3 trivial (by rfl)) rfl ?_
  refine St.takeg rfl rfl ?_
  refine St.ev _ (Ev.eql (Opd.mk rfl) (Opd.mk rfl)) rfl ?_
  refine St.ev _ (Ev.pickt (Opd.mk rfl) rfl (Opd.mk rfl)) rfl ?_
  refine St.ev _ (Ev.move (Opd.mk rfl)) rfl ?_
  refine St.known 34 _ true rfl (by rfl) ?_
  refine St.takeg rfl rfl ?_
  refine St.ev _ (Ev.move (Opd.mk rfl)) rfl ?_
  refine St.takeg rfl rfl ?_
  refine St.ev _ (Ev.eql (Opd.mk rfl) (Opd.mk rfl)) rfl ?_
  refine St.ev _ (Ev.pickt (Opd.mk rfl) rfl (Opd.mk rfl)) rfl ?_
  refine St.ev _ (Ev.move (Opd.mk rfl)) rfl ?_
  refine St.known 38 _ true rfl (by rfl) ?_
  refine St.takeg rfl rfl ?_
  refine St.ev _ (Ev.fldb0 (Opd.mk rfl) fo30_0) rfl ?_
  refine St.takeg rfl rfl ?_
  refine St.ev _ (Ev.ldb (Opd.mk rfl) Tryz.underlying3 trivial (by rfl)) rfl ?_
  refine St.takeg rfl rfl ?_
  refine St.ev _ (Ev.eql (Opd.mk rfl) (Opd.mk rfl)) rfl ?_
  refine St.ev _ (Ev.pickt (Opd.mk rfl) rfl (Opd.mk rfl)) rfl ?_
  refine St.ev _ (Ev.move (Opd.mk rfl)) rfl ?_
  refine St.known 43 _ true rfl (by rfl) ?_
  refine St.takeg rfl rfl ?_
  refine St.ev _ (Ev.move (Opd.mk rfl)) rfl ?_
  refine St.takeg rfl rfl ?_
  refine St.ev _ (Ev.lensl (Opd.mk rfl) Tryz.underlying36) rfl ?_
  refine St.takeg rfl rfl ?_
  refine St.ev _ (Ev.eql (Opd.mk rfl) (Opd.mk rfl)) rfl ?_
  refine St.ev _ (Ev.pickt (Opd.mk rfl) rfl (Opd.mk rfl)) rfl ?_
  refine St.ev _ (Ev.move (Opd.mk rfl)) rfl ?_
  refine St.known 48 _ true rfl (by rfl) ?_
  refine St.takeg rfl rfl ?_
  refine St.ev _ (Ev.move (Opd.mk rfl)) rfl ?_
  refine St.takeg rfl rfl ?_
  refine St.ev _ (Ev.idxaddr (k := 0) (Opd.mk rfl) (Opd.mk rfl) Tryz.underlying36 sz44 (by omega) (by exact Nat.zero_lt_one)) rfl ?_
  refine St.takeg rfl rfl ?_
  refine St.ev _ (Ev.fldel (Opd.mk rfl) (by exact Nat.zero_lt_one) fo44_0) rfl ?_
  refine St.takeg rfl rfl ?_
  refine St.ev _ (Ev.ld1 (Opd.mk rfl) (show (List.zipWith hdR [⟨0, 1, [sA], []⟩] [uw])[0]? = some (hdR ⟨0, 1, [sA], []⟩ uw) from rfl) Tryz.underlying3 trivial rfl) rfl ?_
  refine St.takeg rfl rfl ?_
  refine St.ev _ (Ev.eql (Opd.mk rfl) (Opd.mk rfl)) rfl ?_
  refine St.ev _ (Ev.pickt (Opd.mk rfl) rfl (Opd.mk rfl)) rfl ?_
  refine St.ev _ (Ev.move (Opd.mk rfl)) rfl ?_
  refine St.known 55 _ true rfl (by rfl) ?_
  refine St.takeg rfl rfl ?_
  refine St.ev _ (Ev.move (Opd.mk rfl)) rfl ?_
  refine St.takeg rfl rfl ?_
  refine St.ev _ (Ev.idxaddr (k := 0) (Opd.mk rfl) (Opd.mk rfl) Tryz.underlying36 sz44 (by omega) (by exact Nat.zero_lt_one)) rfl ?_
  refine St.takeg rfl rfl ?_
  refine St.ev _ (Ev.fldel (Opd.mk rfl) (by exact Nat.zero_lt_one) fo44_1) rfl ?_
  refine St.takeg rfl rfl ?_
  refine St.ev _ (Ev.ld1 (Opd.mk rfl) (show (List.zipWith hdR [⟨0, 1, [sA], []⟩] [uw])[0]? = some (hdR ⟨0, 1, [sA], []⟩ uw) from rfl) Tryz.underlying3 trivial rfl) rfl ?_
  refine St.takeg rfl rfl ?_
  refine St.ev _ (Ev.eql (Opd.mk rfl) (Opd.mk rfl)) rfl ?_
  refine St.ev _ (Ev.pickt (Opd.mk rfl) rfl (Opd.mk rfl)) rfl ?_
  refine St.ev _ (Ev.move (Opd.mk rfl)) rfl ?_
  refine St.known 62 _ true rfl (by rfl) ?_
  refine St.takeg rfl rfl ?_
  refine St.ev _ (Ev.ldbA (Opd.mk rfl) Tryz.underlying28 trivial (by exact sz28)) rfl ?_
  refine St.takeg rfl rfl ?_
  refine St.calld (Words_spec vl vw vp vo vz L0 L0_corp) cb19 (Opds.cons (Opd.mk rfl) Opds.nil) rfl ?_
  rintro v64 _ ⟨h64, rfl⟩
  refine St.app1 ?_
  rw [L0_words]
  refine St.publish v64 strR [sA, sC, sD] rfl rfl (wf3 (by decide)) ?_
  refine St.takeg rfl rfl ?_
  refine St.buildSl (xs := [(Operand.const (Value.string { data := #[97] })), (Operand.const (Value.string { data := #[99, 97, 116] })), (Operand.const (Value.string { data := #[100, 111, 103] }))]) (ps := [(0, (Operand.const (Value.string { data := #[97] }))), (1, (Operand.const (Value.string { data := #[99, 97, 116] }))), (2, (Operand.const (Value.string { data := #[100, 111, 103] })))]) rfl (Opds.cons (Opd.mk rfl) (Opds.cons (Opd.mk rfl) (Opds.cons (Opd.mk rfl) Opds.nil))) Tryz.underlying23 sz9 zv9 rfl rfl (by simp [Value.cells]) rfl rfl (fun b65 => ?_)
  refine St.publish (.slice (some ⟨b65, 0, none⟩) 3 3) strR [sA, sC, sD] rfl rfl (wf3 (by decide)) ?_
  refine St.takeg rfl rfl ?_
  refine St.ev _ (Ev.call (sameWords_spec v64 (.slice (some ⟨b65, 0, none⟩) 3 3) [sA, sC, sD] [sA, sC, sD]) cb18 (Opds.cons (Opd.mk rfl) (Opds.cons (Opd.mk rfl) Opds.nil))) rfl ?_
  refine St.ev _ (Ev.pickt (Opd.mk rfl) rfl (Opd.mk rfl)) rfl ?_
  refine St.ev _ (Ev.assign (Opd.mk rfl)) rfl ?_
  refine St.nil ?_
  refine St.then_normal ?_
  refine St.rett ?_
  refine St.rets [_] [] Tryz.results10 ⟨rfl, trivial⟩ ?_ (fun _ hw => hw.sub)
  exact be (by rfl)

set_option maxHeartbeats 2000000 in
theorem law1_spec (v0 v1 : Value) (l : List (List Str)) (p : List Str) (w : Int) : FnVw Tryz.prog 3 #[v0, v1, iv w] [nsl strR v0 l, sl strR v1 p, u8] (.bool true) := by
  refine FnVw.body (args := [v0, v1, iv w]) (ds := [(nsl strR v0 l), (sl strR v1 p), u8]) 102 Tryz.func3 rfl Tryz.ntmps3 rfl (fun c hdr => ?_)
  change St _ _ (Mm c [dat (nsl strR v0 l), dat (sl strR v1 p), dat u8]) _
  refine St.seq ?_
  refine St.rg ?_
  refine St.ev _ (Ev.assign (Opd.mk rfl)) rfl ?_
  refine St.nil ?_
  refine St.then_normal ?_
  refine St.seq ?_
  refine St.seq ?_
  refine St.rg ?_
  refine St.ev _ (Ev.callW hdr ready_spec cb10 (Opds.nil)) rfl ?_
  refine St.ev _ (Ev.not (Opd.mk rfl)) rfl ?_
  refine St.nil ?_
  refine St.then_normal ?_
  refine St.condf _ rfl rfl ?_
  refine St.skip ?_
  refine St.then_normal ?_
  refine St.seq ?_
  refine St.rg ?_
  refine St.ev _ (Ev.move (Opd.mk rfl)) rfl ?_
  refine St.calldW hdr (Build_cspec v0 l) cb11 (Opds.cons (Opd.mk rfl) Opds.nil) rfl ?_
  rintro v19 _ ⟨vl, vw, vp, vo, vz, rfl, o1, o2, o3, o4, o5, rfl⟩
  refine St.app1 ?_
  have hcorp := okL_corp l
  refine St.ev _ (Ev.move (Opd.mk rfl)) rfl ?_
  refine St.ev _ (Ev.extract (Opd.mk rfl) rfl) rfl ?_
  refine St.ev _ (Ev.extract (Opd.mk rfl) rfl) rfl ?_
  refine St.alloc zc28 rfl (fun b7 => ?_)
  refine St.alloc zc30 rfl (fun b8 => ?_)
  refine St.storeA (Opd.mk rfl) (Opd.mk rfl) sz28 (by first | simp only [List.length_cons, List.length_nil] | rfl) (by simp [o1, o2, o3, o4, o5]) ?_
  refine St.storeA (Opd.mk rfl) (Opd.mk rfl) sz30 (by first | simp only [List.length_cons, List.length_nil] | rfl) rfl ?_
  refine St.nil ?_
  refine St.then_normal ?_
  refine St.seq ?_
  refine St.rg ?_
  refine St.ev _ (Ev.move (Opd.mk rfl)) rfl ?_
  refine St.ev _ (Ev.call (ConcordFault_spec v0 l) cb12 (Opds.cons (Opd.mk rfl) Opds.nil)) rfl ?_
  refine St.alloc zc30 rfl (fun b9 => ?_)
  refine St.storeA (Opd.mk rfl) (Opd.mk rfl) sz30 (by first | simp only [List.length_cons, List.length_nil] | rfl) rfl ?_
  refine St.nil ?_
  refine St.then_normal ?_
  refine St.seq ?_
  refine St.seq ?_
  refine St.rg ?_
  refine St.ev _ (Ev.ldbA (Opd.mk rfl) Tryz.underlying30 trivial (by exact sz30)) rfl ?_
  refine St.ev _ (Ev.ldbA (Opd.mk rfl) Tryz.underlying30 trivial (by exact sz30)) rfl ?_
  refine St.ev _ (Ev.structneq (Opd.mk rfl) (Opd.mk rfl) Tryz.eqGuardType30 (fun w => eqf30 _ _ _ _ w)) rfl ?_
  refine St.nil ?_
  refine St.then_normal ?_
  refine St.condf _ rfl (by simp) ?_
  refine St.skip ?_
  refine St.then_normal ?_
  refine St.join (ι := Value) (fun v0b T => (0, v0b) :: T) (fun v0b => [blk b7 (.cells [vl, vw, vp, vo, vz].toArray 28 (0, 0)), blk b8 (.cells [iv (conF l).1, iv (conF l).2].toArray 30 (0, 0)), blk b9 (.cells [iv (conF l).1, iv (conF l).2].toArray 30 (0, 0)), dat (idxD vl vw vp vo vz (okL l)), dat (sl strR v1 p), dat u8, dat (nsl strR v0b (okL l))]) (fun v0b => True) (Keep.cons 1 rfl (Keep.cons 2 rfl (Keep.cons 6 rfl (Keep.cons 7 rfl (Keep.cons 9 rfl Keep.nil))))) ?_ ?_
  · skip
    refine St.seq ?_
    refine St.rg ?_
    refine St.ev _ (Ev.fldb0 (Opd.mk rfl) fo30_0) rfl ?_
    refine St.ev _ (Ev.ldb (Opd.mk rfl) Tryz.underlying3 trivial (by rfl)) rfl ?_
    refine St.ev _ (Ev.neq (Opd.mk rfl) (Opd.mk rfl)) rfl ?_
    refine St.nil ?_
    refine St.then_normal ?_
    refine St.cond _ rfl (fun h29 => ?_) (fun h29 => ?_)
    · skip
      simp only [Bool.not_eq_true', Bool.not_eq_false', decide_eq_true_eq, decide_eq_false_iff_not] at h29
      refine St.rg ?_
      refine St.ev _ (Ev.assign (Opd.mk rfl)) rfl ?_
      refine St.nil ?_
      refine St.then_normal ?_
      rw [okL_f h29]
      refine St.fact (nsl strR (.slice none 0 0) []) (fun ρ _ _ => ⟨[], rfl, sl_nil _ _, fun i u l h => by simp at h⟩) ?_
      refine St.met (.slice none 0 0) trivial (by repeat (first | exact Sub.nil | refine Sub.cons (by first | rfl | exact congrArg (fun z => some (iv z)) (by first | omega | (dsimp only; omega)) | exact congrArg (fun z => some (Value.bool z)) (by first | assumption | exact Eq.symm (by assumption))) ?_)) (fun _ hw => hw.sub)
    · skip
      simp only [Bool.not_eq_true', Bool.not_eq_false', decide_eq_true_eq, decide_eq_false_iff_not] at h29
      refine St.skip ?_
      refine St.then_normal ?_
      rw [okL_t h29]
      refine St.met v0 trivial (by repeat (first | exact Sub.nil | refine Sub.cons (by first | rfl | exact congrArg (fun z => some (iv z)) (by first | omega | (dsimp only; omega)) | exact congrArg (fun z => some (Value.bool z)) (by first | assumption | exact Eq.symm (by assumption))) ?_)) (fun _ hw => hw.sub)
  · skip
    intro v0b hphi
    refine St.seq ?_
    refine St.rg ?_
    refine St.ev _ (Ev.ldbA (Opd.mk rfl) Tryz.underlying28 trivial (by exact sz28)) rfl ?_
    refine St.ev _ (Ev.move (Opd.mk rfl)) rfl ?_
    refine St.ev _ (Ev.callW hdr (Count_spec vl vw vp vo vz v1 (okL l) p hcorp) cb13 (Opds.cons (Opd.mk rfl) (Opds.cons (Opd.mk rfl) Opds.nil))) rfl ?_
    refine St.ev _ (Ev.move (Opd.mk rfl)) rfl ?_
    refine St.ev _ (Ev.extract (Opd.mk rfl) rfl) rfl ?_
    refine St.ev _ (Ev.extract (Opd.mk rfl) rfl) rfl ?_
    refine St.alloc zc30 rfl (fun b11 => ?_)
    refine St.ev _ (Ev.assign (Opd.mk rfl)) rfl ?_
    refine St.storeA (Opd.mk rfl) (Opd.mk rfl) sz30 (by first | simp only [List.length_cons, List.length_nil] | rfl) rfl ?_
    refine St.nil ?_
    refine St.then_normal ?_
    refine St.seq ?_
    refine St.rg ?_
    refine St.ev _ (Ev.ldbA (Opd.mk rfl) Tryz.underlying28 trivial (by exact sz28)) rfl ?_
    refine St.ev _ (Ev.move (Opd.mk rfl)) rfl ?_
    refine St.ev _ (Ev.move (Opd.mk rfl)) rfl ?_
    refine St.calldW hdr (Hits_spec vl vw vp vo vz v1 (okL l) p w hcorp) cb14 (Opds.cons (Opd.mk rfl) (Opds.cons (Opd.mk rfl) (Opds.cons (Opd.mk rfl) Opds.nil))) rfl ?_
    rintro v40 _ ⟨uh, rfl, huh, rfl⟩
    refine St.app1 ?_
    refine St.openH uh (hitL (okL l) p w) (fun uws huw => ?_)
    have hzl := zip_len huw
    refine St.ev _ (Ev.move (Opd.mk rfl)) rfl ?_
    refine St.ev _ (Ev.extract (Opd.mk rfl) rfl) rfl ?_
    refine St.ev _ (Ev.extract (Opd.mk rfl) rfl) rfl ?_
    refine St.alloc zc30 rfl (fun b13 => ?_)
    refine St.ev _ (Ev.assign (Opd.mk rfl)) rfl ?_
    refine St.storeA (Opd.mk rfl) (Opd.mk rfl) sz30 (by first | simp only [List.length_cons, List.length_nil] | rfl) rfl ?_
    refine St.nil ?_
    refine St.then_normal ?_
    refine St.seq ?_
    refine St.rg ?_
    refine St.ev _ (Ev.move (Opd.mk rfl)) rfl ?_
    refine St.ev _ (Ev.call (PartFault_spec v1 p) cb15 (Opds.cons (Opd.mk rfl) Opds.nil)) rfl ?_
    refine St.storeA (Opd.mk rfl) (Opd.mk rfl) sz30 (by first | simp only [List.length_cons, List.length_nil] | rfl) rfl ?_
    refine St.nil ?_
    refine St.then_normal ?_
    refine St.seq ?_
    refine St.seq ?_
    refine St.rg ?_
    refine St.ev _ (Ev.fldb0 (Opd.mk rfl) fo30_0) rfl ?_
    refine St.ev _ (Ev.ldb (Opd.mk rfl) Tryz.underlying3 trivial (by rfl)) rfl ?_
    refine St.ev _ (Ev.neq (Opd.mk rfl) (Opd.mk rfl)) rfl ?_
    refine St.nil ?_
    refine St.then_normal ?_
    refine St.cond _ rfl (fun h47 => ?_) (fun h47 => ?_)
    · skip
      try simp only [Bool.and_true, Bool.true_and, decide_eq_true_eq, decide_eq_false_iff_not, Bool.and_eq_true, Bool.or_eq_true, Bool.and_eq_false_iff, Bool.or_eq_false_iff, Bool.not_eq_true', Bool.not_eq_false', beq_iff_eq, beq_eq_false_iff_ne, Int.not_lt, Int.not_le] at h47
      refine St.seq ?_
      refine St.rg ?_
      refine St.ev _ (Ev.ldbA (Opd.mk rfl) Tryz.underlying30 trivial (by exact sz30)) rfl ?_
      refine St.ev _ (Ev.ldbA (Opd.mk rfl) Tryz.underlying30 trivial (by exact sz30)) rfl ?_
      refine St.ev _ (Ev.structeql (Opd.mk rfl) (Opd.mk rfl) Tryz.eqGuardType30 (fun w => eqf30 _ _ _ _ w)) rfl ?_
      refine St.ev _ (Ev.move (Opd.mk rfl)) rfl ?_
      refine St.gt _ rfl rfl (fun hg => Ev.ldbA (Opd.mk rfl) Tryz.underlying30 trivial (by exact sz30)) rfl ?_
      refine St.gt _ rfl rfl (fun hg => Ev.ldbA (Opd.mk rfl) Tryz.underlying30 trivial (by exact sz30)) rfl ?_
      refine St.gt _ rfl rfl (fun hg => Ev.structeql (Opd.gv rfl hg) (Opd.gv rfl hg) Tryz.eqGuardType30 (fun w => eqf30 _ _ _ _ w)) rfl ?_
      refine St.ev _ (Ev.and (Opd.mk rfl) (fun hp => Opd.gv rfl hp)) rfl ?_
      refine St.ev _ (Ev.move (Opd.mk rfl)) rfl ?_
      refine St.gt _ rfl rfl (fun hg => Ev.move (Opd.mk rfl)) rfl ?_
      refine St.gt _ rfl rfl (fun hg => Ev.eql (Opd.gv rfl hg) (Opd.mk rfl)) rfl ?_
      refine St.ev _ (Ev.and (Opd.mk rfl) (fun hp => Opd.gv rfl hp)) rfl ?_
      refine St.ev _ (Ev.move (Opd.mk rfl)) rfl ?_
      refine St.gt _ rfl rfl (fun hg => Ev.move (Opd.mk rfl)) rfl ?_
      refine St.gt _ rfl rfl (fun hg => Ev.lensl (Opd.gv rfl hg) Tryz.underlying36) rfl ?_
      refine St.gt _ rfl rfl (fun hg => Ev.eql (Opd.gv rfl hg) (Opd.mk rfl)) rfl ?_
      refine St.ev _ (Ev.and (Opd.mk rfl) (fun hp => Opd.gv rfl hp)) rfl ?_
      refine St.ev _ (Ev.assign (Opd.mk rfl)) rfl ?_
      refine St.nil ?_
      refine St.then_normal ?_
      refine St.rett ?_
      refine St.then_ret ?_
      refine St.rets [_] [] Tryz.results3 ⟨rfl, trivial⟩ ?_ (fun _ hw => hw.sub)
      exact be (by rw [hzl, hitF_1 h47, fnH_f h47, hitL_f (by rw [hitF_1 h47]; exact h47)]; simp)
    · skip
      try simp only [Bool.and_true, Bool.true_and, decide_eq_true_eq, decide_eq_false_iff_not, Bool.and_eq_true, Bool.or_eq_true, Bool.and_eq_false_iff, Bool.or_eq_false_iff, Bool.not_eq_true', Bool.not_eq_false', beq_iff_eq, beq_eq_false_iff_ne, Int.not_lt, Int.not_le] at h47
      have hpz := (partF_ok (p := p) (by omega)).1
      obtain ⟨hp0, hp12, _⟩ := (partF_ok (p := p) (by omega)).2
      refine St.skip ?_
      refine St.then_normal ?_
      refine St.seq ?_
      refine St.rg ?_
      refine St.ev _ (Ev.move (Opd.mk rfl)) rfl ?_
      refine St.ev _ (Ev.move (Opd.mk rfl)) rfl ?_
      refine St.calld (PartHits_spec v0b v1 (okL l) p 0 hcorp (by omega) (by omega)) cb16 (Opds.cons (Opd.mk rfl) (Opds.cons (Opd.mk rfl) (Opds.cons (Opd.mk rfl) Opds.nil))) rfl ?_
      rintro v67 _ ⟨h67, rfl⟩
      refine St.app1 ?_
      refine St.openH v67 (hitsW (okL l) p 0) (fun uws0 huw0 => ?_)
      have hzl0 := zip_len huw0
      refine St.ev _ (Ev.assign (Opd.mk rfl)) rfl ?_
      refine St.nil ?_
      refine St.then_normal ?_
      refine St.seq ?_
      refine St.seq ?_
      refine St.rg ?_
      refine St.ev _ (Ev.fldb0 (Opd.mk rfl) fo30_0) rfl ?_
      refine St.ev _ (Ev.ldb (Opd.mk rfl) Tryz.underlying3 trivial (by rfl)) rfl ?_
      refine St.ev _ (Ev.neq (Opd.mk rfl) (Opd.mk rfl)) rfl ?_
      refine St.ev _ (Ev.move (Opd.mk rfl)) rfl ?_
      refine St.gf _ rfl rfl (fun hg => Ev.move (Opd.mk rfl)) rfl ?_
      refine St.gf _ rfl rfl (fun hg => Ev.move (Opd.mk rfl)) rfl ?_
      refine St.gf _ rfl rfl (fun hg => Ev.lensl (Opd.gv rfl hg) Tryz.underlying36) rfl ?_
      refine St.gf _ rfl rfl (fun hg => Ev.neq (Opd.gv rfl hg) (Opd.gv rfl hg)) rfl ?_
      refine St.ev _ (Ev.or (Opd.mk rfl) (fun hp => Opd.gv rfl hp)) rfl ?_
      refine St.nil ?_
      refine St.then_normal ?_
      refine St.condf _ rfl (by rw [hzl0, hw_len, fnH_t (by rw [hpz]), hpz]; simp) ?_
      refine St.skip ?_
      refine St.then_normal ?_
      refine St.seq ?_
      refine St.seq ?_
      refine St.rg ?_
      refine St.ev _ (Ev.move (Opd.mk rfl)) rfl ?_
      refine St.ev _ (Ev.lss (Opd.mk rfl) (Opd.mk rfl)) rfl ?_
      refine St.ev _ (Ev.move (Opd.mk rfl)) rfl ?_
      refine St.gf _ rfl rfl (fun hg => Ev.move (Opd.mk rfl)) rfl ?_
      refine St.gf _ rfl rfl (fun hg => Ev.gtr (Opd.gv rfl hg) (Opd.mk rfl)) rfl ?_
      refine St.ev _ (Ev.or (Opd.mk rfl) (fun hp => Opd.gv rfl hp)) rfl ?_
      refine St.nil ?_
      refine St.then_normal ?_
      refine St.cond _ rfl (fun h82 => ?_) (fun h82 => ?_)
      · skip
        try simp only [Bool.and_true, Bool.true_and, decide_eq_true_eq, decide_eq_false_iff_not, Bool.and_eq_true, Bool.or_eq_true, Bool.and_eq_false_iff, Bool.or_eq_false_iff, Bool.not_eq_true', Bool.not_eq_false', beq_iff_eq, beq_eq_false_iff_ne, Int.not_lt, Int.not_le] at h82
        have hf2 := hitF_2 (p := p) (w := w) (by rw [hpz]) (by omega)
        refine St.seq ?_
        refine St.rg ?_
        refine St.ev _ (Ev.ldbA (Opd.mk rfl) Tryz.underlying30 trivial (by exact sz30)) rfl ?_
        refine St.ev _ (Ev.build (ps := [(0, (Operand.const (Value.int IntKind.i64 3))), (1, (Operand.const (Value.int IntKind.i64 (-2))))]) (Opds.cons (Opd.mk rfl) (Opds.cons (Opd.mk rfl) Opds.nil)) (fun w => bld30_0_1 rfl rfl w)) rfl ?_
        refine St.ev _ (Ev.structeql (Opd.mk rfl) (Opd.mk rfl) Tryz.eqGuardType30 (fun w => eqf30 _ _ _ _ w)) rfl ?_
        refine St.ev _ (Ev.move (Opd.mk rfl)) rfl ?_
        refine St.gt _ rfl rfl (fun hg => Ev.move (Opd.mk rfl)) rfl ?_
        refine St.gt _ rfl rfl (fun hg => Ev.lensl (Opd.gv rfl hg) Tryz.underlying36) rfl ?_
        refine St.gt _ rfl rfl (fun hg => Ev.eql (Opd.gv rfl hg) (Opd.mk rfl)) rfl ?_
        refine St.ev _ (Ev.and (Opd.mk rfl) (fun hp => Opd.gv rfl hp)) rfl ?_
        refine St.ev _ (Ev.assign (Opd.mk rfl)) rfl ?_
        refine St.nil ?_
        refine St.then_normal ?_
        refine St.rett ?_
        refine St.then_ret ?_
        refine St.rets [_] [] Tryz.results3 ⟨rfl, trivial⟩ ?_ (fun _ hw => hw.sub)
        exact be (by rw [hzl, hitL_f (by rw [hf2]; decide), hf2]; simp)
      · skip
        try simp only [Bool.and_true, Bool.true_and, decide_eq_true_eq, decide_eq_false_iff_not, Bool.and_eq_true, Bool.or_eq_true, Bool.and_eq_false_iff, Bool.or_eq_false_iff, Bool.not_eq_true', Bool.not_eq_false', beq_iff_eq, beq_eq_false_iff_ne, Int.not_lt, Int.not_le] at h82
        have hf3 := hitF_3 (p := p) (w := w) (by rw [hpz]) (by omega)
        have hl3 := hitL_t (l := okL l) (p := p) (w := w) (by rw [hf3])
        refine St.skip ?_
        refine St.then_normal ?_
        refine St.seq ?_
        refine St.rg ?_
        refine St.ev _ (Ev.fldb0 (Opd.mk rfl) fo30_0) rfl ?_
        refine St.ev _ (Ev.ldb (Opd.mk rfl) Tryz.underlying3 trivial (by rfl)) rfl ?_
        refine St.ev _ (Ev.eql (Opd.mk rfl) (Opd.mk rfl)) rfl ?_
        refine St.ev _ (Ev.move (Opd.mk rfl)) rfl ?_
        refine St.known 94 _ true rfl (by rw [hf3]; rfl) ?_
        refine St.takeg rfl rfl ?_
        refine St.ev _ (Ev.move (Opd.mk rfl)) rfl ?_
        refine St.takeg rfl rfl ?_
        refine St.ev _ (Ev.move (Opd.mk rfl)) rfl ?_
        refine St.takeg rfl rfl ?_
        refine St.ev _ (Ev.move (Opd.mk rfl)) rfl ?_
        refine St.takeg rfl rfl ?_
        refine St.ev _ (Ev.move (Opd.mk rfl)) rfl ?_
        refine St.slot 98 (iv ((w.toNat : Nat) : Int)) rfl (congrArg (fun z => iv z) (by omega)) ?_
        refine St.takeg rfl rfl ?_
        refine St.calld (PartHits_spec v0b v1 (okL l) p w.toNat hcorp (by omega) (by omega)) cb16 (Opds.cons (Opd.mk rfl) (Opds.cons (Opd.mk rfl) (Opds.cons (Opd.mk rfl) Opds.nil))) rfl ?_
        rintro v99 _ ⟨h99, rfl⟩
        refine St.app1 ?_
        rw [hl3]
        refine St.takeg rfl rfl ?_
        refine St.ev _ (Ev.call (sameHits_spec uh v99 (hitsW (okL l) p w.toNat) (hitsW (okL l) p w.toNat)) cb17 (Opds.cons (Opd.mk rfl) (Opds.cons (Opd.mk rfl) Opds.nil))) rfl ?_
        refine St.ev _ (Ev.pickt (Opd.mk rfl) rfl (Opd.mk rfl)) rfl ?_
        refine St.ev _ (Ev.assign (Opd.mk rfl)) rfl ?_
        refine St.nil ?_
        refine St.then_normal ?_
        refine St.rett ?_
        refine St.rets [_] [] Tryz.results3 ⟨rfl, trivial⟩ ?_ (fun _ hw => hw.sub)
        exact be (by simp)

end Go.Proofs.YtgikcbfdonjggaaGreatDoor

/-
  (YtgikcbfdonjggaaGreatDoorJ24)
  Rows of elements of two cells: a slice value and a number; read, written, exchanged.
  Conditions: none; everything holds of any program.
-/
namespace Go.J
open Go
section
variable {P : Program} {n : Nat} {F : Fr} {A : World → Prop} {c : Ctx} {H R : List Ent} {ty : TypeId} {x y : Operand} {v : Value} {Q : Exit → Act → World → Prop} {ops : Array Oper} {rest : List Oper}
  {pos : String} {after : Array Edge} {t e : TypeId} {m k : Nat} {cs : List Value}

/-- the place of an element, from the slice's shape alone -/
theorem Ev.idxv {b o cap size : Nat} {i : Int} {kd : IntKind} (hv : v = .slice (some ⟨b, o, none⟩) m cap) (hx : Opd F x v) (hy : Opd F y (.int kd i)) (ht : P.underlying t = some (.slice e)) (hs : (P.info? e).map (·.size) = some size)
    (hi : i = k) (hk : k < m) : Ev P n F A (.indexAddr t x y) ty (eptr v size k 0) := .of_run fun a w ha _ => by
  subst hv
  obtain ⟨inf, hinf, hsz⟩ := Option.map_eq_some_iff.1 hs
  subst hi
  simp [execOp, hx.eval ha, hy.eval ha, Instr.indexAt, asIntOf, run_underlying ht, sizeOf, typeInfo, hinf, hsz, hk, eptr_slice, Addr.add_lit]

theorem Ev.ldrow2 {dd : TypeDesc} {u1 u2 : Value} [hr : InR v H e 2 m cs] (hx : Opd F x (eptr v 2 k 0)) (ht : P.underlying t = some dd) (hk1 : (match dd with | .struct _ | .array _ _ => True | _ => False))
    (hs : (P.info? t).map (·.size) = some 2) (hk : k < m) (h1 : cs[k * 2]? = some u1) (h2 : cs[k * 2 + 1]? = some u2) : Ev P n F (Mm c H) (.load t x) ty (.agg #[u1, u2]) := .of_run fun a w ha hw => by
  obtain ⟨ρ, hm⟩ := hw.out
  obtain ⟨b, e1, c1, o1, _⟩ := row_cell (hm.row hr) (off := 0) hk h1
  obtain ⟨b', e2, c2, o2, _⟩ := row_cell (hm.row hr) (off := 1) hk h2
  rw [o1] at o2; cases o2
  rw [e1] at hx
  have h4 := run_loadVar_agg (P := P) (w := w) (b := b) (off := k * 2 + 0) (L := [u1, u2]) ht hk1 hs (fun j u hj => by
    match j, hj with
    | 0, hj => simp at hj; subst hj; exact c1
    | 1, hj => simp at hj; subst hj; exact c2
    | j + 2, hj => simp at hj)
  simp at hx h4
  simp [execOp, hx.eval ha, Instr.loadAt, Instr.sureAddr, h4]

theorem row_set {size off : Nat} {u : Value} {ρ : Ro} {w : World} (hm' : MmR c (row v e size m cs :: R) ρ w) (hk : k < m) (hoff : off < size) : ∃ b u0, eptr v size k off = .pointer (some ⟨b, k * size + off, none⟩) ∧ v.ownBlock = some b ∧
    w.cell? ⟨b, k * size + off, none⟩ = some u0 ∧ w.frozen? ⟨b, k * size + off, none⟩ = false ∧ MmR c (row v e size m (cs.set (k * size + off) u) :: R) ρ (w.setCell ⟨b, k * size + off, none⟩ u) := by
  have hr := row_ok.1 (hm'.ents _ (List.mem_cons_self ..))
  have hlt : k * size + off < cs.length := by
    rw [hr.1]
    have : (k + 1) * size ≤ m * size := Nat.mul_le_mul_right _ hk
    rw [Nat.add_mul] at this; omega
  obtain ⟨b, h2, h3, h4, h5⟩ := row_cell hr hk (List.getElem?_eq_getElem hlt)
  refine ⟨b, _, h2, h4, h3, h5, ?_⟩
  refine hm'.alter rfl ⟨rfl, Nat.le_refl _⟩ rfl (by simp) (fun j hj hne => ?_) (row_ok.2 ?_) (fun b' hb' => by rw [row_key] at hb' ⊢; exact .inl hb')
  · rw [row_key, h4] at hne
    simp only [World.setCell, Array.getElem?_modify]
    rw [if_neg (fun e => hne (by rw [e]))]
  · obtain ⟨hl, h6⟩ := hr
    refine ⟨by rw [List.length_set]; exact hl, ?_⟩
    rcases h6 with ⟨rfl, rfl⟩ | ⟨g, cap, cur, rfl, hg0, hg, hc1, hc2, hcs, htk⟩
    · omega
    · simp only [Value.ownBlock, Option.some.injEq] at h4
      subst h4
      refine .inr ⟨_, cap, _, rfl, hg0, setCell_blk hg, hc1, hc2, by simp [hcs], ?_⟩
      rw [← htk, Array.toList_setIfInBounds, List.take_set]

/-- a store of a whole element of two cells -/
theorem St.storerow2 {u1 u2 : Value} [tk : TakeR v H e 2 m cs R] (hx : Opd F x (eptr v 2 k 0)) (hy : Opd F y (.agg #[u1, u2])) (hs : (P.info? t).map (·.size) = some 2) (h1 : u1.oneCell' = true) (h2 : u2.oneCell' = true)
    (hk : k < m) (h : St n F (Mm c (row v e 2 m ((cs.set (k * 2) u1).set (k * 2 + 1) u2) :: R)) (wpList P ops Q rest)) :
    St n F (Mm c H) (wpList P ops Q ({ dst := none, op := .store t x y, type := ty, pos := pos, after := after, guard := none } :: rest)) := by
  refine St.do_none (K := fun u' H' => H' = row v e 2 m ((cs.set (k * 2) u1).set (k * 2 + 1) u2) :: R) ?_ ?_
  · intro a w ρ ha hm
    have hm0 := hm.perm tk.perm
    obtain ⟨b, z1, p1, q1, c1, f1, hm1⟩ := row_set (off := 0) (u := u1) hm0 hk (by omega)
    obtain ⟨b', z2, p2, q2, c2, f2, hm2⟩ := row_set (off := 1) (u := u2) hm1 hk (by omega)
    rw [q1] at q2; cases q2
    rw [p1] at hx
    obtain ⟨i, hi, hsz⟩ := Option.map_eq_some_iff.1 hs
    refine ⟨.skip, (w.setCell ⟨b, k * 2 + 0, none⟩ u1).setCell ⟨b, k * 2 + 1, none⟩ u2, ρ, _, ?_, ⟨_, .inr ⟨rfl, rfl⟩, rfl⟩, hm2⟩
    simp only [Nat.add_zero] at hx c1 f1 c2 f2 ⊢
    simp [execOp, hx.eval ha, hy.eval ha, Instr.storeAt, Instr.sureAddr, storeVar, sizeOf, typeInfo, hi, hsz, cells_agg, storeCells, run_store P w _ u1 _ h1, run_store P _ _ u2 _ h2, c1, f1, c2, f2, Addr.add_zero', Addr.add_lit]
  · rintro _ _ rfl
    exact h

/-- an element: a slice value, the list that it reads as, a number -/
abbrev Gm (α : Type) := OneV × List α × Nat
def gR (α : Type) : Rp (Gm α) := ⟨2, by decide, fun x => [x.1.1, iv (x.2.2 : Nat)], fun _ => True, fun _ => rfl, fun x u h => by
  simp at h; rcases h with rfl | rfl
  · exact x.1.2
  · rfl⟩
abbrev gmv {α : Type} (x : Gm α) : Value := .agg #[x.1.1, iv (x.2.2 : Nat)]
instance {α : Type} (x : Gm α) : Cel (gR α) x [x.1.1, iv (x.2.2 : Nat)] := ⟨rfl⟩
/-- every element's slice reads as said -/
def gall {α : Type} (Rr : Rp α) (D : List (Gm α)) : Dat := ⟨fun ρ => ∀ x ∈ D, (sl Rr x.1.1 x.2.1).f ρ, fun ρ ρ' h k x hx => (sl Rr x.1.1 x.2.1).mono _ _ h (k x hx)⟩
theorem rowG_get {α : Type} {l : List (Gm α)} {k : Nat} {g : Gm α} (h : l[k]? = some g) : (rows (gR α) l)[k * 2]? = some g.1.1 ∧ (rows (gR α) l)[k * 2 + 1]? = some (iv (g.2.2 : Nat)) :=
  ⟨rows_get (gR α) l k 0 g h (show 0 < 2 by decide), rows_get (gR α) l k 1 g h (show 1 < 2 by decide)⟩
theorem rowG_set {α : Type} (g : Gm α) : ∀ (l : List (Gm α)) (k : Nat), ((rows (gR α) l).set (k * 2) g.1.1).set (k * 2 + 1) (iv (g.2.2 : Nat)) = rows (gR α) (l.set k g)
  | [], _ => by simp [rows]
  | y :: l, 0 => by simp [rows, gR]
  | y :: l, k + 1 => by
    have ih := rowG_set g l k
    have e : rows (gR α) (y :: l) = y.1.1 :: iv (y.2.2 : Nat) :: rows (gR α) l := rfl
    rw [e, show (k + 1) * 2 = (k * 2 + 1) + 1 by omega, List.set_cons_succ, List.set_cons_succ, List.set_cons_succ, List.set_cons_succ, ih]
    rfl
theorem Ev.ldG {α : Type} {l : List (Gm α)} {g : Gm α} {dd : TypeDesc} [hr : InR v H e 2 m (rows (gR α) l)] (hx : Opd F x (eptr v 2 k 0)) (hg : l[k]? = some g) (ht : P.underlying t = some dd) (hk1 : (match dd with | .struct _ | .array _ _ => True | _ => False))
    (hs : (P.info? t).map (·.size) = some 2) (hk : k < m) : Ev P n F (Mm c H) (.load t x) ty (gmv g) := Ev.ldrow2 hx ht hk1 hs hk (rowG_get hg).1 (rowG_get hg).2
theorem St.storeG {α : Type} {l : List (Gm α)} {g : Gm α} [tk : TakeR v H e 2 m (rows (gR α) l) R] (hx : Opd F x (eptr v 2 k 0)) (hy : Opd F y (gmv g)) (hs : (P.info? t).map (·.size) = some 2)
    (hk : k < m) (h : St n F (Mm c (row v e 2 m (rows (gR α) (l.set k g)) :: R)) (wpList P ops Q rest)) :
    St n F (Mm c H) (wpList P ops Q ({ dst := none, op := .store t x y, type := ty, pos := pos, after := after, guard := none } :: rest)) :=
  St.storerow2 hx hy hs g.1.2 rfl hk (by rw [rowG_set]; exact h)
/-- two elements at hand -/
theorem St.gget {α : Type} {Rr : Rp α} {D : List (Gm α)} {T : Act → World → Prop} (x y : Gm α) [hd : InD (gall Rr D) H] (hx : x ∈ D) (hy : y ∈ D)
    (k : St n F (Mm c (dat (sl Rr x.1.1 x.2.1) :: dat (sl Rr y.1.1 y.2.1) :: H)) T) : St n F (Mm c H) T :=
  St.openD (ι := Unit) (gall Rr D) (fun _ => [sl Rr x.1.1 x.2.1, sl Rr y.1.1 y.2.1]) (fun ρ h => ⟨(), fun e he => by
    simp only [List.mem_cons, List.not_mem_nil, or_false] at he
    rcases he with rfl | rfl
    · exact h x hx
    · exact h y hy⟩) fun _ => k
end
end Go.J

/-
  (YtgikcbfdonjggaaGreatDoorSymP)
  Plain facts of merging in place: swaps, rotations, sorted segments.
  Conditions: none.
-/
namespace Go.Proofs.YtgikcbfdonjggaaGreatDoor
set_option linter.unusedVariables false
variable {α : Type}

theorem get_swap {l : List α} {i j : Nat} {x y : α} (hi : l[i]? = some x) (hj : l[j]? = some y) (p : Nat) : ((l.set i y).set j x)[p]? = if p = j then some x else if p = i then some y else l[p]? := by
  have h1 := (List.getElem?_eq_some_iff.1 hi).1
  have h2 := (List.getElem?_eq_some_iff.1 hj).1
  rw [List.getElem?_set, List.getElem?_set]
  by_cases e : p = j
  · subst e; simp [h2]
  · rw [if_neg (fun h => e h.symm), if_neg e]
    by_cases e2 : p = i
    · subst e2; simp [h1]
    · rw [if_neg (fun h => e2 h.symm), if_neg e2]
theorem swap_perm {l : List α} {i j : Nat} {x y : α} (hi : l[i]? = some x) (hj : l[j]? = some y) : ((l.set i y).set j x).Perm l := by
  obtain ⟨h1, rfl⟩ := List.getElem?_eq_some_iff.1 hi
  obtain ⟨h2, rfl⟩ := List.getElem?_eq_some_iff.1 hj
  have h := Array.swap_perm (xs := l.toArray) (i := i) (j := j) (by simpa using h1) (by simpa using h2)
  have e : (l.toArray.swap i j (by simpa using h1) (by simpa using h2)).toList = (l.set i l[j]).set j l[i] := by
    simp [Array.swap_def]
  rw [← e]
  exact h.toList
/-- what lies where, the blocks [a, m) and [m, b) having changed places -/
def rotI (l : List α) (a m b p : Nat) : Option α := if a ≤ p ∧ p < a + (b - m) then l[p + (m - a)]? else if a + (b - m) ≤ p ∧ p < b then l[p - (b - m)]? else l[p]?
/-- the first k places of the blocks at a and b exchanged -/
def xchI (l : List α) (a b k p : Nat) : Option α := if a ≤ p ∧ p < a + k then l[p + (b - a)]? else if b ≤ p ∧ p < b + k then l[p - (b - a)]? else l[p]?
theorem xch_zero (l : List α) (a b p : Nat) : xchI l a b 0 p = l[p]? := by
  unfold xchI; rw [if_neg (by omega), if_neg (by omega)]
theorem xch_step {l l' : List α} {a b k : Nat} {x y : α} (hab : a + k < b) (h : ∀ p, l'[p]? = xchI l a b k p) (hx : l'[a + k]? = some x) (hy : l'[b + k]? = some y) (p : Nat) : ((l'.set (a + k) y).set (b + k) x)[p]? = xchI l a b (k + 1) p := by
  have ex : l[a + k]? = some x := by
    have := h (a + k); rw [hx] at this; unfold xchI at this; rw [if_neg (by omega), if_neg (by omega)] at this; exact this.symm
  have ey : l[b + k]? = some y := by
    have := h (b + k); rw [hy] at this; unfold xchI at this; rw [if_neg (by omega), if_neg (by omega)] at this; exact this.symm
  rw [get_swap hx hy, h p]
  unfold xchI
  by_cases e1 : p = b + k
  · rw [if_pos e1, if_neg (by omega), if_pos (by omega), show p - (b - a) = a + k by omega, ex]
  · rw [if_neg e1]
    by_cases e2 : p = a + k
    · rw [if_pos e2, if_pos (by omega), show p + (b - a) = b + k by omega, ey]
    · rw [if_neg e2]
      by_cases e3 : a ≤ p ∧ p < a + k
      · rw [if_pos e3, if_pos (by omega)]
      · rw [if_neg e3, if_neg (by omega : ¬ (a ≤ p ∧ p < a + (k + 1)))]
        by_cases e4 : b ≤ p ∧ p < b + k
        · rw [if_pos e4, if_pos (by omega)]
        · rw [if_neg e4, if_neg (by omega)]
/-- the longer block in front: its first j places are exchanged with the block behind -/
theorem rot_gt {l l' : List α} {m i j : Nat} (hi : i ≤ m) (hij : j < i) (h : ∀ p, l'[p]? = xchI l (m - i) m j p) (p : Nat) : rotI l' (m - i + j) m (m + j) p = rotI l (m - i) m (m + j) p := by
  unfold rotI
  rw [h, h, h]
  unfold xchI
  repeat' split
  all_goals first | omega | rfl | (congr 1; omega)
theorem rot_lt {l l' : List α} {m i j : Nat} (hi : i ≤ m) (hij : i < j) (h : ∀ p, l'[p]? = xchI l (m - i) (m + j - i) i p) (p : Nat) : rotI l' (m - i) m (m + j - i) p = rotI l (m - i) m (m + j) p := by
  unfold rotI
  rw [h, h, h]
  unfold xchI
  repeat' split
  all_goals first | omega | rfl | (congr 1; omega)
theorem rot_eq {l l' : List α} {m i : Nat} (hi : i ≤ m) (h : ∀ p, l'[p]? = xchI l (m - i) m i p) (p : Nat) : l'[p]? = rotI l (m - i) m (m + i) p := by
  rw [h]
  unfold rotI xchI
  repeat' split
  all_goals first | omega | rfl | (congr 1; omega)
/-- sorted from a as far as b -/
def SegS (le : α → α → Prop) (l : List α) (a b : Nat) : Prop := ∀ p q x y, a ≤ p → p < q → q < b → l[p]? = some x → l[q]? = some y → le x y
/-- nothing has changed but the order of what lies from a as far as b -/
def SegP (l l' : List α) (a b : Nat) : Prop := l'.Perm l ∧ ∀ p, p < a ∨ b ≤ p → l'[p]? = l[p]?
theorem SegP.refl (l : List α) (a b : Nat) : SegP l l a b := ⟨.refl _, fun _ _ => rfl⟩
theorem SegP.trans {l1 l2 l3 : List α} {a b : Nat} (h : SegP l1 l2 a b) (h' : SegP l2 l3 a b) : SegP l1 l3 a b := ⟨h'.1.trans h.1, fun p hp => (h'.2 p hp).trans (h.2 p hp)⟩
theorem SegP.wide {l l' : List α} {a b a' b' : Nat} (h : SegP l l' a b) (h1 : a' ≤ a) (h2 : b ≤ b') : SegP l l' a' b' := ⟨h.1, fun p hp => h.2 p (by omega)⟩
theorem SegP.len {l l' : List α} {a b : Nat} (h : SegP l l' a b) : l'.length = l.length := h.1.length_eq
theorem SegP.mem {l l' : List α} {a b : Nat} (h : SegP l l' a b) {p : Nat} {x : α} (h1 : a ≤ p) (h2 : p < b) (hx : l'[p]? = some x) : ∃ q, a ≤ q ∧ q < b ∧ l[q]? = some x := by
  have hab : a ≤ b := by omega
  have e0 : ∀ X : List α, X = X.take a ++ ((X.drop a).take (b - a) ++ X.drop b) := fun X => by
    rw [show X.drop b = (X.drop a).drop (b - a) by rw [List.drop_drop]; congr 1; omega, List.take_append_drop, List.take_append_drop]
  have e1 : l'.take a = l.take a := by
    refine List.ext_getElem? fun i => ?_
    rw [List.getElem?_take, List.getElem?_take]
    split
    · exact h.2 i (.inl (by assumption))
    · rfl
  have e2 : l'.drop b = l.drop b := by
    refine List.ext_getElem? fun i => ?_
    rw [List.getElem?_drop, List.getElem?_drop]
    exact h.2 _ (.inr (by omega))
  have hp := h.1
  rw [e0 l', e0 l, e1, e2, List.perm_append_left_iff, List.perm_append_right_iff] at hp
  have hm : x ∈ (l'.drop a).take (b - a) := by
    refine List.mem_of_getElem? (i := p - a) ?_
    rw [List.getElem?_take, if_pos (by omega), List.getElem?_drop, show a + (p - a) = p by omega]; exact hx
  obtain ⟨i, hi⟩ := List.mem_iff_getElem?.1 (hp.mem_iff.1 hm)
  rw [List.getElem?_take] at hi
  split at hi
  · rw [List.getElem?_drop] at hi
    exact ⟨a + i, by omega, by omega, hi⟩
  · cases hi
theorem rot_same {l : List α} {a m b p : Nat} (hp : p < a ∨ b ≤ p) (h1 : a ≤ m) (h2 : m ≤ b) : rotI l a m b p = l[p]? := by
  unfold rotI; rw [if_neg (by omega), if_neg (by omega)]
section order
variable {le : α → α → Prop}
theorem SegS.sub {l : List α} {a b a' b' : Nat} (h : SegS le l a b) (h1 : a ≤ a') (h2 : b' ≤ b) : SegS le l a' b' := fun p q x y hp hpq hq => h p q x y (by omega) hpq (by omega)
theorem SegS.eq {l l' : List α} {a b : Nat} (h : SegS le l a b) (he : ∀ p, a ≤ p → p < b → l'[p]? = l[p]?) : SegS le l' a b := fun p q x y hp hpq hq hx hy =>
  h p q x y hp hpq hq ((he p hp (by omega)) ▸ hx) ((he q (by omega) hq) ▸ hy)
theorem SegS.none {l : List α} {a b : Nat} (h : b ≤ a + 1) : SegS le l a b := fun p q x y hp hpq hq => by omega
/-- four blocks, the middle two having changed places: what lies in front of the new middle is nowhere above what lies behind -/
theorem merge_rot (htr : ∀ x y z, le x y → le y z → le x z) {l l1 : List α} {a m b s e : Nat} (hA : SegS le l a m) (hB : SegS le l m b) (h1 : a ≤ s) (h2 : s ≤ m) (h3 : m ≤ e) (h4 : e ≤ b)
    (hr : ∀ p, l1[p]? = rotI l s m e p)
    (hc1 : s = a ∨ e = b ∨ ∀ x y, l[s - 1]? = some x → l[e]? = some y → le x y) (hc2 : s = m ∨ e = m ∨ ∀ x y, l[e - 1]? = some x → l[s]? = some y → le x y) (hlen : b ≤ l.length) :
    SegS le l1 a s ∧ SegS le l1 s (s + (e - m)) ∧ SegS le l1 (s + (e - m)) e ∧ SegS le l1 e b ∧ ∀ p q x y, a ≤ p → p < s + (e - m) → s + (e - m) ≤ q → q < b → l1[p]? = some x → l1[q]? = some y → le x y := by
  have f1 : ∀ p, p < s → l1[p]? = l[p]? := fun p hp => by rw [hr]; exact rot_same (.inl hp) h2 h3
  have f2 : ∀ p, s ≤ p → p < s + (e - m) → l1[p]? = l[p + (m - s)]? := fun p hp hq => by rw [hr]; unfold rotI; rw [if_pos ⟨hp, hq⟩]
  have f3 : ∀ p, s + (e - m) ≤ p → p < e → l1[p]? = l[p - (e - m)]? := fun p hp hq => by rw [hr]; unfold rotI; rw [if_neg (by omega), if_pos ⟨hp, hq⟩]
  have f4 : ∀ p, e ≤ p → l1[p]? = l[p]? := fun p hp => by rw [hr]; exact rot_same (.inr hp) h2 h3
  have gS : ∀ k, k < l.length → ∃ z, l[k]? = some z := fun k hk => ⟨_, List.getElem?_eq_getElem hk⟩
  refine ⟨?_, ?_, ?_, ?_, ?_⟩
  · intro p q x y hp hpq hq hx hy
    rw [f1 p (by omega)] at hx; rw [f1 q (by omega)] at hy
    exact hA p q x y hp hpq (by omega) hx hy
  · intro p q x y hp hpq hq hx hy
    rw [f2 p hp (by omega)] at hx; rw [f2 q (by omega) hq] at hy
    exact hB _ _ x y (by omega) (by omega) (by omega) hx hy
  · intro p q x y hp hpq hq hx hy
    rw [f3 p hp (by omega)] at hx; rw [f3 q (by omega) hq] at hy
    exact hA _ _ x y (by omega) (by omega) (by omega) hx hy
  · intro p q x y hp hpq hq hx hy
    rw [f4 p hp] at hx; rw [f4 q (by omega)] at hy
    exact hB _ _ x y (by omega) (by omega) (by omega) hx hy
  · intro p q x y hp hp2 hq hq2 hx hy
    rcases Nat.lt_or_ge p s with c1 | c1
    · rw [f1 p c1] at hx
      rcases Nat.lt_or_ge q e with c2 | c2
      · rw [f3 q hq c2] at hy
        exact hA _ _ x y hp (by omega) (by omega) hx hy
      · rw [f4 q c2] at hy
        rcases hc1 with h | h | h
        · omega
        · omega
        · obtain ⟨u, hu⟩ := gS (s - 1) (by omega)
          obtain ⟨w, hw⟩ := gS e (by omega)
          have k1 := h u w hu hw
          have k2 : le x w := by
            rcases Nat.lt_or_ge p (s - 1) with c | c
            · exact htr _ _ _ (hA p (s - 1) x u hp c (by omega) hx hu) k1
            · obtain rfl : p = s - 1 := by omega
              rw [hu] at hx; cases hx; exact k1
          rcases Nat.lt_or_ge e q with c | c
          · exact htr _ _ _ k2 (hB e q w y (by omega) c hq2 hw hy)
          · obtain rfl : q = e := by omega
            rw [hw] at hy; cases hy; exact k2
    · rw [f2 p c1 hp2] at hx
      rcases Nat.lt_or_ge q e with c2 | c2
      · rw [f3 q hq c2] at hy
        rcases hc2 with h | h | h
        · omega
        · omega
        · obtain ⟨u, hu⟩ := gS (e - 1) (by omega)
          obtain ⟨w, hw⟩ := gS s (by omega)
          have k1 := h u w hu hw
          have k2 : le x w := by
            rcases Nat.lt_or_ge (p + (m - s)) (e - 1) with c | c
            · exact htr _ _ _ (hB _ (e - 1) x u (by omega) c (by omega) hx hu) k1
            · have : p + (m - s) = e - 1 := by omega
              rw [this, hu] at hx; cases hx; exact k1
          rcases Nat.lt_or_ge s (q - (e - m)) with c | c
          · exact htr _ _ _ k2 (hA s _ w y (by omega) c (by omega) hw hy)
          · have : q - (e - m) = s := by omega
            rw [this, hw] at hy; cases hy; exact k2
      · rw [f4 q c2] at hy
        exact hB _ _ x y (by omega) (by omega) hq2 hx hy
/-- the two halves joined -/
theorem halves {l1 l2 l3 : List α} {a M b : Nat} (hcr : ∀ p q x y, a ≤ p → p < M → M ≤ q → q < b → l1[p]? = some x → l1[q]? = some y → le x y)
    (h12 : SegP l1 l2 a M) (h2 : SegS le l2 a M) (h23 : SegP l2 l3 M b) (h3 : SegS le l3 M b) : SegS le l3 a b := by
  intro p q x y hp hpq hq hx hy
  rcases Nat.lt_or_ge q M with c | c
  · rw [h23.2 p (.inl (by omega))] at hx; rw [h23.2 q (.inl c)] at hy
    exact h2 p q x y hp hpq c hx hy
  · rcases Nat.lt_or_ge p M with c2 | c2
    · rw [h23.2 p (.inl c2)] at hx
      obtain ⟨p', k1, k2, k3⟩ := h12.mem hp c2 hx
      obtain ⟨q', k4, k5, k6⟩ := h23.mem c hq hy
      rw [h12.2 q' (.inr k4)] at k6
      exact hcr p' q' x y k1 k2 k4 k5 k3 k6
    · exact h3 p q x y c2 hpq hq hx hy
/-- the segment but for one place -/
def SegX (le : α → α → Prop) (l : List α) (a i j : Nat) : Prop := ∀ p q x y, a ≤ p → p < q → q ≤ i → q ≠ j → l[p]? = some x → l[q]? = some y → le x y
theorem segx_start {l : List α} {a i : Nat} (h : SegS le l a i) : SegX le l a i i := fun p q x y hp hpq hq hne => h p q x y hp hpq (by omega)
theorem segx_step {l : List α} {a i j : Nat} {x y : α} (h : SegX le l a i j) (hja : a < j) (hji : j ≤ i) (hx : l[j]? = some x) (hy : l[j - 1]? = some y) (hle : le x y) : SegX le ((l.set j y).set (j - 1) x) a i (j - 1) := by
  intro p q u w hp hpq hq hne hu hw
  rw [get_swap hx hy] at hu hw
  rw [if_neg (by omega)] at hw
  by_cases c1 : q = j
  · rw [if_pos c1] at hw; cases hw
    by_cases c2 : p = j - 1
    · rw [if_pos c2] at hu; cases hu; exact hle
    · rw [if_neg c2, if_neg (by omega)] at hu
      exact h p (j - 1) u _ hp (by omega) (by omega) (by omega) hu hy
  · rw [if_neg c1] at hw
    by_cases c2 : p = j - 1
    · rw [if_pos c2] at hu; cases hu
      exact h j q _ w (by omega) (by omega) hq c1 hx hw
    · rw [if_neg c2] at hu
      by_cases c3 : p = j
      · rw [if_pos c3] at hu; cases hu
        exact h (j - 1) q _ w (by omega) (by omega) hq c1 hy hw
      · rw [if_neg c3] at hu
        exact h p q u w hp hpq hq c1 hu hw
theorem segx_end (htr : ∀ x y z, le x y → le y z → le x z) {l : List α} {a i j : Nat} (h : SegX le l a i j) (hj : j = a ∨ ∀ x y, l[j]? = some x → l[j - 1]? = some y → le y x) (hl : j ≤ l.length) : SegS le l a (i + 1) := by
  intro p q x y hp hpq hq hx hy
  by_cases c : q = j
  · subst c
    rcases hj with h' | h'
    · omega
    · have hz : ∃ z, l[q - 1]? = some z := ⟨_, List.getElem?_eq_getElem (by omega)⟩
      obtain ⟨z, hz⟩ := hz
      have k := h' y z hy hz
      by_cases c2 : p = q - 1
      · subst c2; rw [hz] at hx; cases hx; exact k
      · exact htr _ _ _ (h p (q - 1) x z hp (by omega) (by omega) (by omega) hx hz) k
  · exact h p q x y hp hpq (by omega) c hx hy
/-- one element in front, put where it belongs -/
theorem merge_front (htr : ∀ x y z, le x y → le y z → le x z) {l l1 : List α} {a b e : Nat} (hB : SegS le l (a + 1) b) (h1 : a < e) (h2 : e ≤ b) (hr : ∀ p, l1[p]? = rotI l a (a + 1) e p)
    (hc1 : e = b ∨ ∀ x y, l[a]? = some x → l[e]? = some y → le x y) (hc2 : e = a + 1 ∨ ∀ x y, l[e - 1]? = some x → l[a]? = some y → le x y) (hlen : b ≤ l.length) : SegS le l1 a b := by
  obtain ⟨k1, k2, k3, k4, k5⟩ := merge_rot htr (SegS.none (by omega) : SegS le l a (a + 1)) hB (Nat.le_refl a) (by omega) (by omega) h2 hr (.inl rfl) (hc2.elim (fun h => .inr (.inl h)) fun h => .inr (.inr h)) hlen
  have hM : SegS le l1 (a + (e - (a + 1))) b := by
    intro p q x y hp hpq hq hx hy
    rcases Nat.lt_or_ge p e with c | c
    · obtain rfl : p = e - 1 := by omega
      have ex : l[a]? = some x := by
        rw [hr] at hx; unfold rotI at hx; rw [if_neg (by omega), if_pos (by omega), show e - 1 - (e - (a + 1)) = a by omega] at hx; exact hx
      have ey : l[q]? = some y := by rw [hr, rot_same (.inr (by omega)) (by omega) (by omega)] at hy; exact hy
      rcases hc1 with h | h
      · omega
      · have hz : ∃ z, l[e]? = some z := ⟨_, List.getElem?_eq_getElem (by omega)⟩
        obtain ⟨z, hz⟩ := hz
        have k := h x z ex hz
        by_cases c2 : q = e
        · subst c2; rw [hz] at ey; cases ey; exact k
        · exact htr _ _ _ k (hB e q z y (by omega) (by omega) hq hz ey)
    · exact k4 p q x y c hpq hq hx hy
  exact halves k5 (.refl ..) k2 (.refl ..) hM
/-- one element behind, put where it belongs -/
theorem merge_back (htr : ∀ x y z, le x y → le y z → le x z) {l l1 : List α} {a m s : Nat} (hA : SegS le l a m) (h1 : a ≤ s) (h2 : s ≤ m) (hr : ∀ p, l1[p]? = rotI l s m (m + 1) p)
    (hc1 : s = a ∨ ∀ x y, l[s - 1]? = some x → l[m]? = some y → le x y) (hc2 : s = m ∨ ∀ x y, l[m]? = some x → l[s]? = some y → le x y) (hlen : m + 1 ≤ l.length) : SegS le l1 a (m + 1) := by
  obtain ⟨k1, k2, k3, k4, k5⟩ := merge_rot htr hA (SegS.none (by omega) : SegS le l m (m + 1)) h1 h2 (by omega) (Nat.le_refl _) hr (.inr (.inl rfl)) (hc2.elim .inl fun h => .inr (.inr (by simpa using h))) hlen
  have e : s + (m + 1 - m) = s + 1 := by omega
  rw [e] at k2 k3 k5
  have hF : SegS le l1 a (s + 1) := by
    intro p q x y hp hpq hq hx hy
    rcases Nat.lt_or_ge q s with c | c
    · exact k1 p q x y hp hpq c hx hy
    · obtain rfl : q = s := by omega
      have ey : l[m]? = some y := by
        rw [hr] at hy; unfold rotI at hy; rw [if_pos (by omega), show q + (m - q) = m by omega] at hy; exact hy
      have ex : l[p]? = some x := by rw [hr, rot_same (.inl hpq) (by omega) (by omega)] at hx; exact hx
      rcases hc1 with h | h
      · omega
      · have hz : ∃ z, l[q - 1]? = some z := ⟨_, List.getElem?_eq_getElem (by omega)⟩
        obtain ⟨z, hz⟩ := hz
        have k := h z y hz ey
        by_cases c2 : p = q - 1
        · subst c2; rw [hz] at ex; cases ex; exact k
        · exact htr _ _ _ (hA p (q - 1) x z hp (by omega) (by omega) ex hz) k
  exact halves k5 (.refl ..) hF (.refl ..) k3
end order
end Go.Proofs.YtgikcbfdonjggaaGreatDoor

/-
  (YtgikcbfdonjggaaGreatDoorG1)
  Comparing lists of words, and grams.
  Conditions: none beyond the sizes.
-/
set_option maxRecDepth 20000
set_option linter.unusedSimpArgs false
set_option linter.unusedVariables false
namespace Go.Proofs.YtgikcbfdonjggaaGreatDoor
open Go Go.J

/-- what compareWords of the laws computes -/
def cww : List Str → List Str → Int
  | x :: a, y :: b => if Op.bytesLess x y then -1 else if Op.bytesLess y x then 1 else cww a b
  | a, b => (a.length : Int) - b.length
theorem cww_lt : ∀ {a b : List Str}, wlt a b = true → cww a b < 0
  | [], [], h => by cases h
  | [], _ :: _, _ => by simp only [cww, List.length_nil, List.length_cons]; omega
  | _ :: _, [], h => by cases h
  | x :: a, y :: b, h => by
    simp only [wlt, Bool.or_eq_true, Bool.and_eq_true, beq_iff_eq] at h
    rw [cww]
    rcases h with h | ⟨rfl, h⟩
    · rw [if_pos h]; decide
    · rw [slt_irrefl]; exact cww_lt h
theorem cww_drop {a b : List Str} {k : Nat} {x y : Str} (hx : a[k]? = some x) (hy : b[k]? = some y) : cww (a.drop k) (b.drop k) = if Op.bytesLess x y then -1 else if Op.bytesLess y x then 1 else cww (a.drop (k + 1)) (b.drop (k + 1)) := by
  rw [drop_of_some hx, drop_of_some hy, cww]
theorem cww_end {a b : List Str} {k : Nat} (h : a.length ≤ k ∨ b.length ≤ k) (ha : k ≤ a.length) (hb : k ≤ b.length) : cww (a.drop k) (b.drop k) = (a.length : Int) - b.length := by
  rcases h with h | h
  · rw [List.drop_of_length_le h, cww]
    · simp only [List.length_nil, List.length_drop]; omega
    · intro _ _ _ _ h1; cases h1
  · rw [List.drop_of_length_le h, cww]
    · simp only [List.length_nil, List.length_drop]; omega
    · intro _ _ _ _ _ h1; cases h1
/-- grams: the more come first; of as many, by their words -/
def cmG (x y : Gm Str) : Int := if y.2.2 < x.2.2 then -1 else if x.2.2 < y.2.2 then 1 else wcmp x.2.1 y.2.1
def leG (x y : Gm Str) : Prop := ¬ cmG y x < 0
theorem cmG_iff {x y : Gm Str} : cmG x y < 0 ↔ y.2.2 < x.2.2 ∨ (x.2.2 = y.2.2 ∧ wlt x.2.1 y.2.1 = true) := by
  unfold cmG
  by_cases h1 : y.2.2 < x.2.2
  · rw [if_pos h1]; exact ⟨fun _ => .inl h1, fun _ => by decide⟩
  · rw [if_neg h1]
    by_cases h2 : x.2.2 < y.2.2
    · rw [if_pos h2]; exact ⟨fun h => absurd h (by decide), fun h => by omega⟩
    · rw [if_neg h2, wcmp_lt]; exact ⟨fun h => .inr ⟨by omega, h⟩, fun h => h.elim (fun q => absurd q h1) fun q => q.2⟩
theorem leG_of_lt {x y : Gm Str} (h : cmG x y < 0) : leG x y := by
  unfold leG
  rw [cmG_iff] at h ⊢
  rintro (q | ⟨q1, q2⟩)
  · omega
  · rcases h with h | ⟨_, h⟩
    · omega
    · rw [wlt_asymm h] at q2; cases q2
theorem leG_trans (x y z : Gm Str) (h1 : leG x y) (h2 : leG y z) : leG x z := by
  unfold leG at *
  rw [cmG_iff] at *
  rintro (q | ⟨q1, q2⟩)
  · rcases Nat.lt_trichotomy x.2.2 y.2.2 with c | c | c
    · exact h1 (.inl c)
    · exact h2 (.inl (by omega))
    · exact h2 (.inl (by omega))
  · rcases Nat.lt_trichotomy x.2.2 y.2.2 with c | c | c
    · exact h1 (.inl c)
    · rcases wlt_tri y.2.1 x.2.1 with k | k | k
      · exact h1 (.inr ⟨c.symm, k⟩)
      · exact h2 (.inr ⟨by omega, by rw [k]; exact q2⟩)
      · exact h2 (.inr ⟨by omega, wlt_trans q2 k⟩)
    · exact h2 (.inl (by omega))
def icmp (x y : Int) : Int := if x < y then -1 else if y < x then 1 else 0
theorem cmG_eq (x y : Gm Str) : (if icmp y.2.2 x.2.2 ≠ 0 then icmp y.2.2 x.2.2 else wcmp x.2.1 y.2.1) = cmG x y := by
  unfold icmp cmG
  by_cases h1 : y.2.2 < x.2.2
  · rw [if_pos (by omega : (y.2.2 : Int) < x.2.2), if_pos h1]; rfl
  · rw [if_neg (by omega : ¬ (y.2.2 : Int) < x.2.2), if_neg h1]
    by_cases h2 : x.2.2 < y.2.2
    · rw [if_pos (by omega : (x.2.2 : Int) < y.2.2), if_pos h2]; rfl
    · rw [if_neg (by omega : ¬ (x.2.2 : Int) < y.2.2), if_neg h2]; rfl
/-- the first that is not zero -/
def orI : List Int → Int
  | [] => 0
  | x :: l => if x ≠ 0 then x else orI l
theorem orI_drop {l : List Int} {k : Nat} {x : Int} (hx : l[k]? = some x) : orI (l.drop k) = if x ≠ 0 then x else orI (l.drop (k + 1)) := by rw [drop_of_some hx]; rfl

theorem isNaNS3_spec (x : Str) : FnV Tryz.prog 88 #[sv x] [] (.bool false) := by
  refine FnV.body0 (args := [sv x]) 6 Tryz.func88 rfl Tryz.ntmps88 rfl (fun c => ?_)
  refine St.seq ?_
  refine St.rg ?_
  refine St.ev _ (Ev.assign (Opd.mk rfl)) rfl ?_
  refine St.nil ?_
  refine St.then_normal ?_
  refine St.seq ?_
  refine St.rg ?_
  refine St.ev _ (Ev.move (Opd.mk rfl)) rfl ?_
  refine St.ev _ (Ev.move (Opd.mk rfl)) rfl ?_
  refine St.ev _ (Ev.strne (Opd.mk rfl) (Opd.mk rfl)) rfl ?_
  refine St.ev _ (Ev.assign (Opd.mk rfl)) rfl ?_
  refine St.nil ?_
  refine St.then_normal ?_
  refine St.rett ?_
  refine St.rets [_] [] Tryz.results88 ⟨rfl, trivial⟩ ?_ (fun _ hw => hw.sub)
  exact be (by simp)

theorem CompareS_spec (x y : Str) : FnV Tryz.prog 56 #[sv x, sv y] [] (iv (scmp x y)) := by
  refine FnV.body0 (args := [sv x, sv y]) 20 Tryz.func56 rfl Tryz.ntmps56 rfl (fun c => ?_)
  refine St.seq ?_
  refine St.rg ?_
  refine St.ev _ (Ev.assign (Opd.mk rfl)) rfl ?_
  refine St.nil ?_
  refine St.then_normal ?_
  refine St.seq ?_
  refine St.rg ?_
  refine St.ev _ (Ev.move (Opd.mk rfl)) rfl ?_
  refine St.ev _ (Ev.call (isNaNS3_spec x) cb88 (Opds.cons (Opd.mk rfl) Opds.nil)) rfl ?_
  refine St.ev _ (Ev.assign (Opd.mk rfl)) rfl ?_
  refine St.nil ?_
  refine St.then_normal ?_
  refine St.seq ?_
  refine St.rg ?_
  refine St.ev _ (Ev.move (Opd.mk rfl)) rfl ?_
  refine St.ev _ (Ev.call (isNaNS3_spec y) cb88 (Opds.cons (Opd.mk rfl) Opds.nil)) rfl ?_
  refine St.ev _ (Ev.assign (Opd.mk rfl)) rfl ?_
  refine St.nil ?_
  refine St.then_normal ?_
  refine St.seq ?_
  refine St.seq ?_
  refine St.rg ?_
  refine St.ev _ (Ev.move (Opd.mk rfl)) rfl ?_
  refine St.nil ?_
  refine St.then_normal ?_
  refine St.condf _ rfl rfl ?_
  refine St.skip ?_
  refine St.then_normal ?_
  refine St.seq ?_
  refine St.seq ?_
  refine St.rg ?_
  refine St.ev _ (Ev.move (Opd.mk rfl)) rfl ?_
  refine St.nil ?_
  refine St.then_normal ?_
  refine St.condf _ rfl rfl ?_
  refine St.skip ?_
  refine St.then_normal ?_
  refine St.seq ?_
  refine St.seq ?_
  refine St.rg ?_
  refine St.ev _ (Ev.move (Opd.mk rfl)) rfl ?_
  refine St.ev _ (Ev.move (Opd.mk rfl)) rfl ?_
  refine St.ev _ (Ev.strlss (Opd.mk rfl) (Opd.mk rfl)) rfl ?_
  refine St.nil ?_
  refine St.then_normal ?_
  refine St.cond _ rfl (fun h16 => ?_) (fun h16 => ?_)
  · skip
    skip
    refine St.seq ?_
    refine St.rg ?_
    refine St.ev _ (Ev.assign (Opd.mk rfl)) rfl ?_
    refine St.nil ?_
    refine St.then_normal ?_
    refine St.rett ?_
    refine St.then_ret ?_
    refine St.rets [_] [] Tryz.results56 ⟨rfl, trivial⟩ ?_ (fun _ hw => hw.sub)
    exact ie (by unfold scmp; rw [if_pos h16])
  · skip
    skip
    refine St.skip ?_
    refine St.then_normal ?_
    refine St.seq ?_
    refine St.seq ?_
    refine St.rg ?_
    refine St.ev _ (Ev.move (Opd.mk rfl)) rfl ?_
    refine St.ev _ (Ev.move (Opd.mk rfl)) rfl ?_
    refine St.ev _ (Ev.strgtr (Opd.mk rfl) (Opd.mk rfl)) rfl ?_
    refine St.nil ?_
    refine St.then_normal ?_
    refine St.cond _ rfl (fun h19 => ?_) (fun h19 => ?_)
    · skip
      rw [sgt_iff] at h19
      refine St.seq ?_
      refine St.rg ?_
      refine St.ev _ (Ev.assign (Opd.mk rfl)) rfl ?_
      refine St.nil ?_
      refine St.then_normal ?_
      refine St.rett ?_
      refine St.then_ret ?_
      refine St.rets [_] [] Tryz.results56 ⟨rfl, trivial⟩ ?_ (fun _ hw => hw.sub)
      exact ie (by unfold scmp; rw [h16, h19]; rfl)
    · skip
      rw [sgt_iff] at h19
      refine St.skip ?_
      refine St.then_normal ?_
      refine St.seq ?_
      refine St.rg ?_
      refine St.ev _ (Ev.assign (Opd.mk rfl)) rfl ?_
      refine St.nil ?_
      refine St.then_normal ?_
      refine St.rett ?_
      refine St.rets [_] [] Tryz.results56 ⟨rfl, trivial⟩ ?_ (fun _ hw => hw.sub)
      exact ie (by unfold scmp; rw [h16, h19]; rfl)

theorem CompareW_spec (v0 v1 : Value) (a b : List Str) : FnV Tryz.prog 42 #[v0, v1] [sl strR v0 a, sl strR v1 b] (iv (wcmp a b)) := by
  refine FnV.body2 (args := [v0, v1]) 36 Tryz.func42 rfl Tryz.ntmps42 rfl (fun c => ?_)
  refine St.seq ?_
  refine St.wf v0 (fun hwf0 hlen0 => ?_)
  refine St.wf v1 (fun hwf1 hlen1 => ?_)
  refine St.rg ?_
  refine St.ev _ (Ev.assign (Opd.mk rfl)) rfl ?_
  refine St.nil ?_
  refine St.then_normal ?_
  refine St.seq ?_
  refine St.seq ?_
  refine St.rg ?_
  refine St.ev _ (Ev.move (Opd.mk rfl)) rfl ?_
  refine St.ev _ (Ev.lensl (Opd.mk rfl) Tryz.underlying23) rfl ?_
  refine St.ev _ (Ev.move (Opd.mk rfl)) rfl ?_
  refine St.nil ?_
  refine St.then_normal ?_
  refine St.block ?_
  refine St.loopS (ι := Nat) (fun k T => (11, iv k) :: T) (fun k => k ≤ a.length ∧ k ≤ b.length ∧ wcmp a b = wcmp (a.drop k) (b.drop k)) (fun k => a.length - k) 0 (Keep.cons 0 rfl (Keep.cons 1 rfl (Keep.cons 9 rfl (Keep.cons 10 rfl Keep.nil)))) ⟨Nat.zero_le _, Nat.zero_le _, rfl⟩ (by repeat (first | exact Sub.nil | refine Sub.cons (by first | rfl | exact congrArg (fun z => some (iv z)) (by first | omega | (dsimp only; omega)) | exact congrArg (fun z => some (Value.bool z)) (by first | assumption | exact Eq.symm (by assumption))) ?_)) ?_
  intro k hphi
  obtain ⟨hk, hk2, hv⟩ := hphi
  refine St.seq ?_
  refine St.rg ?_
  refine St.ev _ (Ev.lss (Opd.mk rfl) (Opd.mk rfl)) rfl ?_
  refine St.nil ?_
  refine St.then_normal ?_
  refine St.seq ?_
  refine St.cond _ rfl (fun h12 => ?_) (fun h12 => ?_)
  · skip
    try simp only [Bool.and_true, Bool.true_and, decide_eq_true_eq, decide_eq_false_iff_not, Bool.and_eq_true, Bool.or_eq_true, Bool.and_eq_false_iff, Bool.or_eq_false_iff, Bool.not_eq_true', Bool.not_eq_false', beq_iff_eq, beq_eq_false_iff_ne, Int.not_lt, Int.not_le] at h12
    obtain ⟨x, hx⟩ := some_of_lt (show k < a.length by omega)
    refine St.skip ?_
    refine St.then_normal ?_
    refine St.seq ?_
    refine St.block ?_
    refine St.seq ?_
    refine St.rg ?_
    refine St.ev _ (Ev.move (Opd.mk rfl)) rfl ?_
    refine St.ev _ (Ev.idxaddr (k := k) (Opd.mk rfl) (Opd.mk rfl) Tryz.underlying23 sz9 (by omega) (by omega)) rfl ?_
    refine St.ev _ (Ev.ld1 (Opd.mk rfl) hx Tryz.underlying9 trivial rfl) rfl ?_
    refine St.ev _ (Ev.assign (Opd.mk rfl)) rfl ?_
    refine St.ev _ (Ev.assign (Opd.mk rfl)) rfl ?_
    refine St.nil ?_
    refine St.then_normal ?_
    refine St.seq ?_
    refine St.seq ?_
    refine St.rg ?_
    refine St.ev _ (Ev.move (Opd.mk rfl)) rfl ?_
    refine St.ev _ (Ev.move (Opd.mk rfl)) rfl ?_
    refine St.ev _ (Ev.lensl (Opd.mk rfl) Tryz.underlying23) rfl ?_
    refine St.ev _ (Ev.geq (Opd.mk rfl) (Opd.mk rfl)) rfl ?_
    refine St.nil ?_
    refine St.then_normal ?_
    refine St.cond _ rfl (fun h19 => ?_) (fun h19 => ?_)
    · skip
      try simp only [Bool.and_true, Bool.true_and, decide_eq_true_eq, decide_eq_false_iff_not, Bool.and_eq_true, Bool.or_eq_true, Bool.and_eq_false_iff, Bool.or_eq_false_iff, Bool.not_eq_true', Bool.not_eq_false', beq_iff_eq, beq_eq_false_iff_ne, Int.not_lt, Int.not_le] at h19
      refine St.seq ?_
      refine St.rg ?_
      refine St.ev _ (Ev.assign (Opd.mk rfl)) rfl ?_
      refine St.nil ?_
      refine St.then_normal ?_
      refine St.rett ?_
      refine St.then_ret ?_
      refine St.in_ret ?_
      refine St.then_ret ?_
      refine St.then_ret ?_
      refine St.in_ret ?_
      refine St.then_ret ?_
      refine St.rets [_] [] Tryz.results42 ⟨rfl, trivial⟩ ?_ (fun _ hw => hw.sub)
      exact ie (by rw [hv, wcmp_end1 hx (by omega)])
    · skip
      try simp only [Bool.and_true, Bool.true_and, decide_eq_true_eq, decide_eq_false_iff_not, Bool.and_eq_true, Bool.or_eq_true, Bool.and_eq_false_iff, Bool.or_eq_false_iff, Bool.not_eq_true', Bool.not_eq_false', beq_iff_eq, beq_eq_false_iff_ne, Int.not_lt, Int.not_le] at h19
      obtain ⟨y, hy⟩ := some_of_lt (show k < b.length by omega)
      refine St.skip ?_
      refine St.then_normal ?_
      refine St.seq ?_
      refine St.rg ?_
      refine St.ev _ (Ev.move (Opd.mk rfl)) rfl ?_
      refine St.ev _ (Ev.move (Opd.mk rfl)) rfl ?_
      refine St.ev _ (Ev.idxaddr (k := k) (Opd.mk rfl) (Opd.mk rfl) Tryz.underlying23 sz9 (by omega) (by omega)) rfl ?_
      refine St.ev _ (Ev.ld1 (Opd.mk rfl) hy Tryz.underlying9 trivial rfl) rfl ?_
      refine St.ev _ (Ev.assign (Opd.mk rfl)) rfl ?_
      refine St.nil ?_
      refine St.then_normal ?_
      refine St.seq ?_
      refine St.rg ?_
      refine St.ev _ (Ev.move (Opd.mk rfl)) rfl ?_
      refine St.ev _ (Ev.move (Opd.mk rfl)) rfl ?_
      refine St.ev _ (Ev.call (CompareS_spec x y) cb56 (Opds.cons (Opd.mk rfl) (Opds.cons (Opd.mk rfl) Opds.nil))) rfl ?_
      refine St.ev _ (Ev.assign (Opd.mk rfl)) rfl ?_
      refine St.nil ?_
      refine St.then_normal ?_
      refine St.seq ?_
      refine St.rg ?_
      refine St.ev _ (Ev.move (Opd.mk rfl)) rfl ?_
      refine St.ev _ (Ev.neq (Opd.mk rfl) (Opd.mk rfl)) rfl ?_
      refine St.nil ?_
      refine St.then_normal ?_
      refine St.cond _ rfl (fun h28 => ?_) (fun h28 => ?_)
      · skip
        try simp only [Bool.and_true, Bool.true_and, decide_eq_true_eq, decide_eq_false_iff_not, Bool.and_eq_true, Bool.or_eq_true, Bool.and_eq_false_iff, Bool.or_eq_false_iff, Bool.not_eq_true', Bool.not_eq_false', beq_iff_eq, beq_eq_false_iff_ne, Int.not_lt, Int.not_le] at h28
        refine St.seq ?_
        refine St.rg ?_
        refine St.ev _ (Ev.move (Opd.mk rfl)) rfl ?_
        refine St.ev _ (Ev.assign (Opd.mk rfl)) rfl ?_
        refine St.nil ?_
        refine St.then_normal ?_
        refine St.rett ?_
        refine St.in_ret ?_
        refine St.then_ret ?_
        refine St.then_ret ?_
        refine St.in_ret ?_
        refine St.then_ret ?_
        refine St.rets [_] [] Tryz.results42 ⟨rfl, trivial⟩ ?_ (fun _ hw => hw.sub)
        exact ie (by rw [hv, wcmp_drop hx hy, if_pos h28])
      · skip
        try simp only [Bool.and_true, Bool.true_and, decide_eq_true_eq, decide_eq_false_iff_not, Bool.and_eq_true, Bool.or_eq_true, Bool.and_eq_false_iff, Bool.or_eq_false_iff, Bool.not_eq_true', Bool.not_eq_false', beq_iff_eq, beq_eq_false_iff_ne, Int.not_lt, Int.not_le] at h28
        refine St.skip ?_
        refine St.in_normal ?_
        refine St.then_normal ?_
        refine St.rg ?_
        refine St.ev _ (Ev.add (Opd.mk rfl) (Opd.mk rfl) (by omega)) rfl ?_
        refine St.ev _ (Ev.move (Opd.mk rfl)) rfl ?_
        refine St.nil ?_
        refine St.then_normal ?_
        refine St.againS (k + 1) ⟨by omega, by omega, by rw [hv, wcmp_drop hx hy, if_neg (by omega)]⟩ (by first | omega | (dsimp only; omega)) (by repeat (first | exact Sub.nil | refine Sub.cons (by first | rfl | exact congrArg (fun z => some (iv z)) (by first | omega | (dsimp only; omega)) | exact congrArg (fun z => some (Value.bool z)) (by first | assumption | exact Eq.symm (by assumption))) ?_)) (fun _ hw => hw.sub)
  · skip
    try simp only [Bool.and_true, Bool.true_and, decide_eq_true_eq, decide_eq_false_iff_not, Bool.and_eq_true, Bool.or_eq_true, Bool.and_eq_false_iff, Bool.or_eq_false_iff, Bool.not_eq_true', Bool.not_eq_false', beq_iff_eq, beq_eq_false_iff_ne, Int.not_lt, Int.not_le] at h12
    refine St.exit ?_
    refine St.then_exit ?_
    refine St.then_exit ?_
    refine St.in_hit ?_
    refine St.then_normal ?_
    refine St.seq ?_
    refine St.seq ?_
    refine St.rg ?_
    refine St.ev _ (Ev.move (Opd.mk rfl)) rfl ?_
    refine St.ev _ (Ev.lensl (Opd.mk rfl) Tryz.underlying23) rfl ?_
    refine St.ev _ (Ev.move (Opd.mk rfl)) rfl ?_
    refine St.ev _ (Ev.lensl (Opd.mk rfl) Tryz.underlying23) rfl ?_
    refine St.ev _ (Ev.lss (Opd.mk rfl) (Opd.mk rfl)) rfl ?_
    refine St.nil ?_
    refine St.then_normal ?_
    refine St.cond _ rfl (fun h35 => ?_) (fun h35 => ?_)
    · skip
      try simp only [Bool.and_true, Bool.true_and, decide_eq_true_eq, decide_eq_false_iff_not, Bool.and_eq_true, Bool.or_eq_true, Bool.and_eq_false_iff, Bool.or_eq_false_iff, Bool.not_eq_true', Bool.not_eq_false', beq_iff_eq, beq_eq_false_iff_ne, Int.not_lt, Int.not_le] at h35
      refine St.seq ?_
      refine St.rg ?_
      refine St.ev _ (Ev.assign (Opd.mk rfl)) rfl ?_
      refine St.nil ?_
      refine St.then_normal ?_
      refine St.rett ?_
      refine St.then_ret ?_
      refine St.rets [_] [] Tryz.results42 ⟨rfl, trivial⟩ ?_ (fun _ hw => hw.sub)
      exact ie (by rw [hv, wcmp_end2 (by omega) (by omega)])
    · skip
      try simp only [Bool.and_true, Bool.true_and, decide_eq_true_eq, decide_eq_false_iff_not, Bool.and_eq_true, Bool.or_eq_true, Bool.and_eq_false_iff, Bool.or_eq_false_iff, Bool.not_eq_true', Bool.not_eq_false', beq_iff_eq, beq_eq_false_iff_ne, Int.not_lt, Int.not_le] at h35
      refine St.skip ?_
      refine St.then_normal ?_
      refine St.seq ?_
      refine St.rg ?_
      refine St.ev _ (Ev.assign (Opd.mk rfl)) rfl ?_
      refine St.nil ?_
      refine St.then_normal ?_
      refine St.rett ?_
      refine St.rets [_] [] Tryz.results42 ⟨rfl, trivial⟩ ?_ (fun _ hw => hw.sub)
      exact ie (by rw [hv, wcmp_end0 (by omega) (by omega)])

theorem compareWords_spec (v0 v1 : Value) (a b : List Str) : FnV Tryz.prog 24 #[v0, v1] [sl strR v0 a, sl strR v1 b] (iv (cww a b)) := by
  refine FnV.body2 (args := [v0, v1]) 41 Tryz.func24 rfl Tryz.ntmps24 rfl (fun c => ?_)
  refine St.seq ?_
  refine St.wf v0 (fun hwf0 hlen0 => ?_)
  refine St.wf v1 (fun hwf1 hlen1 => ?_)
  refine St.rg ?_
  refine St.ev _ (Ev.assign (Opd.mk rfl)) rfl ?_
  refine St.nil ?_
  refine St.then_normal ?_
  refine St.seq ?_
  refine St.seq ?_
  refine St.rg ?_
  refine St.ev _ (Ev.assign (Opd.mk rfl)) rfl ?_
  refine St.nil ?_
  refine St.then_normal ?_
  refine St.block ?_
  refine St.loopS (ι := Nat) (fun k T => (5, iv k) :: T) (fun k => k ≤ a.length ∧ k ≤ b.length ∧ cww a b = cww (a.drop k) (b.drop k)) (fun k => a.length - k) 0 (Keep.cons 0 rfl (Keep.cons 1 rfl Keep.nil)) ⟨Nat.zero_le _, Nat.zero_le _, rfl⟩ (by repeat (first | exact Sub.nil | refine Sub.cons (by first | rfl | exact congrArg (fun z => some (iv z)) (by first | omega | (dsimp only; omega)) | exact congrArg (fun z => some (Value.bool z)) (by first | assumption | exact Eq.symm (by assumption))) ?_)) ?_
  intro k hphi
  obtain ⟨hk, hk2, hv⟩ := hphi
  refine St.seq ?_
  refine St.seq ?_
  refine St.rg ?_
  refine St.ev _ (Ev.move (Opd.mk rfl)) rfl ?_
  refine St.ev _ (Ev.move (Opd.mk rfl)) rfl ?_
  refine St.ev _ (Ev.lensl (Opd.mk rfl) Tryz.underlying23) rfl ?_
  refine St.ev _ (Ev.lss (Opd.mk rfl) (Opd.mk rfl)) rfl ?_
  refine St.ev _ (Ev.move (Opd.mk rfl)) rfl ?_
  refine St.gt _ rfl rfl (fun hg => Ev.move (Opd.mk rfl)) rfl ?_
  refine St.gt _ rfl rfl (fun hg => Ev.move (Opd.mk rfl)) rfl ?_
  refine St.gt _ rfl rfl (fun hg => Ev.lensl (Opd.gv rfl hg) Tryz.underlying23) rfl ?_
  refine St.gt _ rfl rfl (fun hg => Ev.lss (Opd.gv rfl hg) (Opd.gv rfl hg)) rfl ?_
  refine St.ev _ (Ev.and (Opd.mk rfl) (fun hp => Opd.gv rfl hp)) rfl ?_
  refine St.nil ?_
  refine St.then_normal ?_
  refine St.cond _ rfl (fun h15 => ?_) (fun h15 => ?_)
  · skip
    try simp only [Bool.and_true, Bool.true_and, decide_eq_true_eq, decide_eq_false_iff_not, Bool.and_eq_true, Bool.or_eq_true, Bool.and_eq_false_iff, Bool.or_eq_false_iff, Bool.not_eq_true', Bool.not_eq_false', beq_iff_eq, beq_eq_false_iff_ne, Int.not_lt, Int.not_le] at h15
    obtain ⟨x, hx⟩ := some_of_lt (show k < a.length by omega)
    obtain ⟨y, hy⟩ := some_of_lt (show k < b.length by omega)
    refine St.skip ?_
    refine St.then_normal ?_
    refine St.seq ?_
    refine St.block ?_
    refine St.seq ?_
    refine St.seq ?_
    refine St.rq mixed (by kernel_rfl) (Mm.drawn _ _) ?_
    refine Sq.ev _ (Ev.move (Opd.mk rfl)) rfl ?_
    refine Sq.ev _ (Ev.move (Opd.mk rfl)) rfl ?_
    refine Sq.ev _ (Ev.idxaddr  (Opd.mk rfl) (Opd.mk rfl) Tryz.underlying23 sz9 rfl (by omega)) rfl ?_
    refine Sq.ev _ (Ev.ld1 (Opd.mk rfl) hx Tryz.underlying9 trivial rfl) rfl ?_
    refine Sq.ev _ (Ev.move (Opd.mk rfl)) rfl ?_
    refine Sq.ev _ (Ev.move (Opd.mk rfl)) rfl ?_
    refine Sq.ev _ (Ev.idxaddr  (Opd.mk rfl) (Opd.mk rfl) Tryz.underlying23 sz9 rfl (by omega)) rfl ?_
    refine Sq.ev _ (Ev.ld1 (Opd.mk rfl) hy Tryz.underlying9 trivial rfl) rfl ?_
    refine Sq.ev _ (Ev.strlss (Opd.mk rfl) (Opd.mk rfl)) rfl ?_
    refine Sq.nil ?_
    refine St.then_normal ?_
    refine St.cond _ rfl (fun h26 => ?_) (fun h26 => ?_)
    · skip
      skip
      refine St.seq ?_
      refine St.rg ?_
      refine St.ev _ (Ev.assign (Opd.mk rfl)) rfl ?_
      refine St.nil ?_
      refine St.then_normal ?_
      refine St.rett ?_
      refine St.then_ret ?_
      refine St.in_ret ?_
      refine St.then_ret ?_
      refine St.then_ret ?_
      refine St.in_ret ?_
      refine St.then_ret ?_
      refine St.rets [_] [] Tryz.results24 ⟨rfl, trivial⟩ ?_ (fun _ hw => hw.sub)
      exact ie (by rw [hv, cww_drop hx hy, if_pos h26])
    · skip
      skip
      refine St.skip ?_
      refine St.then_normal ?_
      refine St.seq ?_
      refine St.rq mixed (by kernel_rfl) (Mm.drawn _ _) ?_
      refine Sq.ev _ (Ev.move (Opd.mk rfl)) rfl ?_
      refine Sq.ev _ (Ev.move (Opd.mk rfl)) rfl ?_
      refine Sq.ev _ (Ev.idxaddr  (Opd.mk rfl) (Opd.mk rfl) Tryz.underlying23 sz9 rfl (by omega)) rfl ?_
      refine Sq.ev _ (Ev.ld1 (Opd.mk rfl) hx Tryz.underlying9 trivial rfl) rfl ?_
      refine Sq.ev _ (Ev.move (Opd.mk rfl)) rfl ?_
      refine Sq.ev _ (Ev.move (Opd.mk rfl)) rfl ?_
      refine Sq.ev _ (Ev.idxaddr  (Opd.mk rfl) (Opd.mk rfl) Tryz.underlying23 sz9 rfl (by omega)) rfl ?_
      refine Sq.ev _ (Ev.ld1 (Opd.mk rfl) hy Tryz.underlying9 trivial rfl) rfl ?_
      refine Sq.ev _ (Ev.strgtr (Opd.mk rfl) (Opd.mk rfl)) rfl ?_
      refine Sq.nil ?_
      refine St.then_normal ?_
      refine St.cond _ rfl (fun h35 => ?_) (fun h35 => ?_)
      · skip
        rw [sgt_iff] at h35
        refine St.seq ?_
        refine St.rg ?_
        refine St.ev _ (Ev.assign (Opd.mk rfl)) rfl ?_
        refine St.nil ?_
        refine St.then_normal ?_
        refine St.rett ?_
        refine St.in_ret ?_
        refine St.then_ret ?_
        refine St.then_ret ?_
        refine St.in_ret ?_
        refine St.then_ret ?_
        refine St.rets [_] [] Tryz.results24 ⟨rfl, trivial⟩ ?_ (fun _ hw => hw.sub)
        exact ie (by rw [hv, cww_drop hx hy, h26, h35]; rfl)
      · skip
        rw [sgt_iff] at h35
        refine St.skip ?_
        refine St.in_normal ?_
        refine St.then_normal ?_
        refine St.rg ?_
        refine St.ev _ (Ev.move (Opd.mk rfl)) rfl ?_
        refine St.ev _ (Ev.add (Opd.mk rfl) (Opd.mk rfl) (by omega)) rfl ?_
        refine St.ev _ (Ev.assign (Opd.mk rfl)) rfl ?_
        refine St.nil ?_
        refine St.then_normal ?_
        refine St.againS (k + 1) ⟨by omega, by omega, by rw [hv, cww_drop hx hy, h26, h35]; rfl⟩ (by first | omega | (dsimp only; omega)) (by repeat (first | exact Sub.nil | refine Sub.cons (by first | rfl | exact congrArg (fun z => some (iv z)) (by first | omega | (dsimp only; omega)) | exact congrArg (fun z => some (Value.bool z)) (by first | assumption | exact Eq.symm (by assumption))) ?_)) (fun _ hw => hw.sub)
  · skip
    try simp only [Bool.and_true, Bool.true_and, decide_eq_true_eq, decide_eq_false_iff_not, Bool.and_eq_true, Bool.or_eq_true, Bool.and_eq_false_iff, Bool.or_eq_false_iff, Bool.not_eq_true', Bool.not_eq_false', beq_iff_eq, beq_eq_false_iff_ne, Int.not_lt, Int.not_le] at h15
    refine St.exit ?_
    refine St.then_exit ?_
    refine St.then_exit ?_
    refine St.in_hit ?_
    refine St.then_normal ?_
    refine St.seq ?_
    refine St.rg ?_
    refine St.ev _ (Ev.move (Opd.mk rfl)) rfl ?_
    refine St.ev _ (Ev.lensl (Opd.mk rfl) Tryz.underlying23) rfl ?_
    refine St.ev _ (Ev.move (Opd.mk rfl)) rfl ?_
    refine St.ev _ (Ev.lensl (Opd.mk rfl) Tryz.underlying23) rfl ?_
    refine St.ev _ (Ev.sub (Opd.mk rfl) (Opd.mk rfl) (by omega)) rfl ?_
    refine St.ev _ (Ev.assign (Opd.mk rfl)) rfl ?_
    refine St.nil ?_
    refine St.then_normal ?_
    refine St.rett ?_
    refine St.rets [_] [] Tryz.results24 ⟨rfl, trivial⟩ ?_ (fun _ hw => hw.sub)
    exact ie (by rw [hv, cww_end (by omega) hk hk2])

theorem isNaNI_spec (x : Int) : FnV Tryz.prog 55 #[iv x] [] (.bool false) := by
  refine FnV.body0 (args := [iv x]) 6 Tryz.func55 rfl Tryz.ntmps55 rfl (fun c => ?_)
  refine St.seq ?_
  refine St.rg ?_
  refine St.ev _ (Ev.assign (Opd.mk rfl)) rfl ?_
  refine St.nil ?_
  refine St.then_normal ?_
  refine St.seq ?_
  refine St.rg ?_
  refine St.ev _ (Ev.move (Opd.mk rfl)) rfl ?_
  refine St.ev _ (Ev.move (Opd.mk rfl)) rfl ?_
  refine St.ev _ (Ev.neq (Opd.mk rfl) (Opd.mk rfl)) rfl ?_
  refine St.ev _ (Ev.assign (Opd.mk rfl)) rfl ?_
  refine St.nil ?_
  refine St.then_normal ?_
  refine St.rett ?_
  refine St.rets [_] [] Tryz.results55 ⟨rfl, trivial⟩ ?_ (fun _ hw => hw.sub)
  exact be (by simp)

theorem CompareI_spec (x y : Int) : FnV Tryz.prog 41 #[iv x, iv y] [] (iv (icmp x y)) := by
  refine FnV.body0 (args := [iv x, iv y]) 20 Tryz.func41 rfl Tryz.ntmps41 rfl (fun c => ?_)
  refine St.seq ?_
  refine St.rg ?_
  refine St.ev _ (Ev.assign (Opd.mk rfl)) rfl ?_
  refine St.nil ?_
  refine St.then_normal ?_
  refine St.seq ?_
  refine St.rg ?_
  refine St.ev _ (Ev.move (Opd.mk rfl)) rfl ?_
  refine St.ev _ (Ev.call (isNaNI_spec x) cb55 (Opds.cons (Opd.mk rfl) Opds.nil)) rfl ?_
  refine St.ev _ (Ev.assign (Opd.mk rfl)) rfl ?_
  refine St.nil ?_
  refine St.then_normal ?_
  refine St.seq ?_
  refine St.rg ?_
  refine St.ev _ (Ev.move (Opd.mk rfl)) rfl ?_
  refine St.ev _ (Ev.call (isNaNI_spec y) cb55 (Opds.cons (Opd.mk rfl) Opds.nil)) rfl ?_
  refine St.ev _ (Ev.assign (Opd.mk rfl)) rfl ?_
  refine St.nil ?_
  refine St.then_normal ?_
  refine St.seq ?_
  refine St.seq ?_
  refine St.rg ?_
  refine St.ev _ (Ev.move (Opd.mk rfl)) rfl ?_
  refine St.nil ?_
  refine St.then_normal ?_
  refine St.condf _ rfl rfl ?_
  refine St.skip ?_
  refine St.then_normal ?_
  refine St.seq ?_
  refine St.seq ?_
  refine St.rg ?_
  refine St.ev _ (Ev.move (Opd.mk rfl)) rfl ?_
  refine St.nil ?_
  refine St.then_normal ?_
  refine St.condf _ rfl rfl ?_
  refine St.skip ?_
  refine St.then_normal ?_
  refine St.seq ?_
  refine St.seq ?_
  refine St.rg ?_
  refine St.ev _ (Ev.move (Opd.mk rfl)) rfl ?_
  refine St.ev _ (Ev.move (Opd.mk rfl)) rfl ?_
  refine St.ev _ (Ev.lss (Opd.mk rfl) (Opd.mk rfl)) rfl ?_
  refine St.nil ?_
  refine St.then_normal ?_
  refine St.cond _ rfl (fun h16 => ?_) (fun h16 => ?_)
  · skip
    try simp only [Bool.and_true, Bool.true_and, decide_eq_true_eq, decide_eq_false_iff_not, Bool.and_eq_true, Bool.or_eq_true, Bool.and_eq_false_iff, Bool.or_eq_false_iff, Bool.not_eq_true', Bool.not_eq_false', beq_iff_eq, beq_eq_false_iff_ne, Int.not_lt, Int.not_le] at h16
    refine St.seq ?_
    refine St.rg ?_
    refine St.ev _ (Ev.assign (Opd.mk rfl)) rfl ?_
    refine St.nil ?_
    refine St.then_normal ?_
    refine St.rett ?_
    refine St.then_ret ?_
    refine St.rets [_] [] Tryz.results41 ⟨rfl, trivial⟩ ?_ (fun _ hw => hw.sub)
    exact ie (by unfold icmp; rw [if_pos h16])
  · skip
    try simp only [Bool.and_true, Bool.true_and, decide_eq_true_eq, decide_eq_false_iff_not, Bool.and_eq_true, Bool.or_eq_true, Bool.and_eq_false_iff, Bool.or_eq_false_iff, Bool.not_eq_true', Bool.not_eq_false', beq_iff_eq, beq_eq_false_iff_ne, Int.not_lt, Int.not_le] at h16
    refine St.skip ?_
    refine St.then_normal ?_
    refine St.seq ?_
    refine St.seq ?_
    refine St.rg ?_
    refine St.ev _ (Ev.move (Opd.mk rfl)) rfl ?_
    refine St.ev _ (Ev.move (Opd.mk rfl)) rfl ?_
    refine St.ev _ (Ev.gtr (Opd.mk rfl) (Opd.mk rfl)) rfl ?_
    refine St.nil ?_
    refine St.then_normal ?_
    refine St.cond _ rfl (fun h19 => ?_) (fun h19 => ?_)
    · skip
      try simp only [Bool.and_true, Bool.true_and, decide_eq_true_eq, decide_eq_false_iff_not, Bool.and_eq_true, Bool.or_eq_true, Bool.and_eq_false_iff, Bool.or_eq_false_iff, Bool.not_eq_true', Bool.not_eq_false', beq_iff_eq, beq_eq_false_iff_ne, Int.not_lt, Int.not_le] at h19
      refine St.seq ?_
      refine St.rg ?_
      refine St.ev _ (Ev.assign (Opd.mk rfl)) rfl ?_
      refine St.nil ?_
      refine St.then_normal ?_
      refine St.rett ?_
      refine St.then_ret ?_
      refine St.rets [_] [] Tryz.results41 ⟨rfl, trivial⟩ ?_ (fun _ hw => hw.sub)
      exact ie (by unfold icmp; rw [if_neg (by omega), if_pos (by omega)])
    · skip
      try simp only [Bool.and_true, Bool.true_and, decide_eq_true_eq, decide_eq_false_iff_not, Bool.and_eq_true, Bool.or_eq_true, Bool.and_eq_false_iff, Bool.or_eq_false_iff, Bool.not_eq_true', Bool.not_eq_false', beq_iff_eq, beq_eq_false_iff_ne, Int.not_lt, Int.not_le] at h19
      refine St.skip ?_
      refine St.then_normal ?_
      refine St.seq ?_
      refine St.rg ?_
      refine St.ev _ (Ev.assign (Opd.mk rfl)) rfl ?_
      refine St.nil ?_
      refine St.then_normal ?_
      refine St.rett ?_
      refine St.rets [_] [] Tryz.results41 ⟨rfl, trivial⟩ ?_ (fun _ hw => hw.sub)
      exact ie (by unfold icmp; rw [if_neg (by omega), if_neg (by omega)])

theorem OrI_spec (v : Value) (xs : List Int) : FnV Tryz.prog 40 #[v] [sl intR v xs] (iv (orI xs)) := by
  refine FnV.body1 (args := [v]) 18 Tryz.func40 rfl Tryz.ntmps40 rfl (fun c => ?_)
  refine St.seq ?_
  refine St.wf v (fun hwf hlen => ?_)
  refine St.rg ?_
  refine St.ev _ (Ev.assign (Opd.mk rfl)) rfl ?_
  refine St.nil ?_
  refine St.then_normal ?_
  refine St.seq ?_
  refine St.rg ?_
  refine St.ev _ (Ev.assign (Opd.mk rfl)) rfl ?_
  refine St.nil ?_
  refine St.then_normal ?_
  refine St.seq ?_
  refine St.seq ?_
  refine St.rg ?_
  refine St.ev _ (Ev.move (Opd.mk rfl)) rfl ?_
  refine St.ev _ (Ev.lensl (Opd.mk rfl) Tryz.underlying25) rfl ?_
  refine St.ev _ (Ev.move (Opd.mk rfl)) rfl ?_
  refine St.nil ?_
  refine St.then_normal ?_
  refine St.block ?_
  refine St.loopS (ι := Nat) (fun k T => (8, iv k) :: T) (fun k => k ≤ xs.length ∧ orI xs = orI (xs.drop k)) (fun k => xs.length - k) 0 (Keep.cons 3 rfl (Keep.cons 6 rfl (Keep.cons 7 rfl Keep.nil))) ⟨Nat.zero_le _, rfl⟩ (by repeat (first | exact Sub.nil | refine Sub.cons (by first | rfl | exact congrArg (fun z => some (iv z)) (by first | omega | (dsimp only; omega)) | exact congrArg (fun z => some (Value.bool z)) (by first | assumption | exact Eq.symm (by assumption))) ?_)) ?_
  intro k hphi
  obtain ⟨hk, hv⟩ := hphi
  refine St.seq ?_
  refine St.rg ?_
  refine St.ev _ (Ev.lss (Opd.mk rfl) (Opd.mk rfl)) rfl ?_
  refine St.nil ?_
  refine St.then_normal ?_
  refine St.seq ?_
  refine St.cond _ rfl (fun h9 => ?_) (fun h9 => ?_)
  · skip
    try simp only [Bool.and_true, Bool.true_and, decide_eq_true_eq, decide_eq_false_iff_not, Bool.and_eq_true, Bool.or_eq_true, Bool.and_eq_false_iff, Bool.or_eq_false_iff, Bool.not_eq_true', Bool.not_eq_false', beq_iff_eq, beq_eq_false_iff_ne, Int.not_lt, Int.not_le] at h9
    obtain ⟨x, hx⟩ := some_of_lt (show k < xs.length by omega)
    refine St.skip ?_
    refine St.then_normal ?_
    refine St.seq ?_
    refine St.block ?_
    refine St.seq ?_
    refine St.rg ?_
    refine St.ev _ (Ev.idxaddr (k := k) (Opd.mk rfl) (Opd.mk rfl) Tryz.underlying25 sz3 (by omega) (by omega)) rfl ?_
    refine St.ev _ (Ev.ld1 (Opd.mk rfl) hx Tryz.underlying3 trivial rfl) rfl ?_
    refine St.ev _ (Ev.assign (Opd.mk rfl)) rfl ?_
    refine St.nil ?_
    refine St.then_normal ?_
    refine St.seq ?_
    refine St.rg ?_
    refine St.ev _ (Ev.move (Opd.mk rfl)) rfl ?_
    refine St.ev _ (Ev.move (Opd.mk rfl)) rfl ?_
    refine St.ev _ (Ev.neq (Opd.mk rfl) (Opd.mk rfl)) rfl ?_
    refine St.nil ?_
    refine St.then_normal ?_
    refine St.cond _ rfl (fun h14 => ?_) (fun h14 => ?_)
    · skip
      try simp only [Bool.and_true, Bool.true_and, decide_eq_true_eq, decide_eq_false_iff_not, Bool.and_eq_true, Bool.or_eq_true, Bool.and_eq_false_iff, Bool.or_eq_false_iff, Bool.not_eq_true', Bool.not_eq_false', beq_iff_eq, beq_eq_false_iff_ne, Int.not_lt, Int.not_le] at h14
      refine St.seq ?_
      refine St.rg ?_
      refine St.ev _ (Ev.move (Opd.mk rfl)) rfl ?_
      refine St.ev _ (Ev.assign (Opd.mk rfl)) rfl ?_
      refine St.nil ?_
      refine St.then_normal ?_
      refine St.rett ?_
      refine St.in_ret ?_
      refine St.then_ret ?_
      refine St.then_ret ?_
      refine St.in_ret ?_
      refine St.then_ret ?_
      refine St.rets [_] [] Tryz.results40 ⟨rfl, trivial⟩ ?_ (fun _ hw => hw.sub)
      exact ie (by rw [hv, orI_drop hx, if_pos h14])
    · skip
      try simp only [Bool.and_true, Bool.true_and, decide_eq_true_eq, decide_eq_false_iff_not, Bool.and_eq_true, Bool.or_eq_true, Bool.and_eq_false_iff, Bool.or_eq_false_iff, Bool.not_eq_true', Bool.not_eq_false', beq_iff_eq, beq_eq_false_iff_ne, Int.not_lt, Int.not_le] at h14
      refine St.skip ?_
      refine St.in_normal ?_
      refine St.then_normal ?_
      refine St.rg ?_
      refine St.ev _ (Ev.add (Opd.mk rfl) (Opd.mk rfl) (by omega)) rfl ?_
      refine St.ev _ (Ev.move (Opd.mk rfl)) rfl ?_
      refine St.nil ?_
      refine St.then_normal ?_
      refine St.againS (k + 1) ⟨by omega, by rw [hv, orI_drop hx, if_neg (by omega)]⟩ (by first | omega | (dsimp only; omega)) (by repeat (first | exact Sub.nil | refine Sub.cons (by first | rfl | exact congrArg (fun z => some (iv z)) (by first | omega | (dsimp only; omega)) | exact congrArg (fun z => some (Value.bool z)) (by first | assumption | exact Eq.symm (by assumption))) ?_)) (fun _ hw => hw.sub)
  · skip
    try simp only [Bool.and_true, Bool.true_and, decide_eq_true_eq, decide_eq_false_iff_not, Bool.and_eq_true, Bool.or_eq_true, Bool.and_eq_false_iff, Bool.or_eq_false_iff, Bool.not_eq_true', Bool.not_eq_false', beq_iff_eq, beq_eq_false_iff_ne, Int.not_lt, Int.not_le] at h9
    refine St.exit ?_
    refine St.then_exit ?_
    refine St.then_exit ?_
    refine St.in_hit ?_
    refine St.then_normal ?_
    refine St.seq ?_
    refine St.rg ?_
    refine St.ev _ (Ev.move (Opd.mk rfl)) rfl ?_
    refine St.ev _ (Ev.assign (Opd.mk rfl)) rfl ?_
    refine St.nil ?_
    refine St.then_normal ?_
    refine St.rett ?_
    refine St.rets [_] [] Tryz.results40 ⟨rfl, trivial⟩ ?_ (fun _ hw => hw.sub)
    exact ie (by rw [hv, List.drop_of_length_le (by omega)]; rfl)

theorem icw (x y : Gm Str) : ∀ z ∈ [icmp (y.2.2 : Nat) (x.2.2 : Nat), wcmp x.2.1 y.2.1], intR.wf z := by
  intro z hz
  simp only [List.mem_cons, List.not_mem_nil, or_false] at hz
  rcases hz with rfl | rfl
  · show i64ok _; unfold icmp; split
    · unfold i64ok; decide
    · split <;> (unfold i64ok; decide)
  · show i64ok _; rcases wcmp_cases x.2.1 y.2.1 with ⟨_, e⟩ | ⟨_, e⟩ | ⟨_, e⟩ <;> rw [e] <;> (unfold i64ok; decide)

theorem Gm_spec (x y : Gm Str) : FnV Tryz.prog 39 #[gmv x, gmv y] [sl strR x.1.1 x.2.1, sl strR y.1.1 y.2.1] (iv (cmG x y)) := by
  refine FnV.body2 (args := [gmv x, gmv y]) 17 Tryz.func39 rfl Tryz.ntmps39 rfl (fun c => ?_)
  refine St.seq ?_
  refine St.rg ?_
  refine St.boxA (Opd.mk rfl) rfl (fun b2 => ?_)
  refine St.boxA (Opd.mk rfl) rfl (fun b3 => ?_)
  refine St.ev _ (Ev.assign (Opd.mk rfl)) rfl ?_
  refine St.nil ?_
  refine St.then_normal ?_
  refine St.seq ?_
  refine St.parL [] mixed ?_
  refine SW.defer 0 (by repeat (first | refine NP.then ?_ | refine NP.inBlock ?_ | exact NP.body)) (by kernel_rfl) rfl (fun R => Ev.fldb0 (Opd.mk rfl) fo58_1) (by kernel_rfl) rfl ?_
  refine SW.defer 1 (by repeat (first | refine NP.then ?_ | refine NP.inBlock ?_ | exact NP.body)) (by kernel_rfl) rfl (fun R => Ev.ldb (Opd.mk rfl) Tryz.underlying3 trivial (by rfl)) (by kernel_rfl) rfl ?_
  refine SW.defer 2 (by repeat (first | refine NP.then ?_ | refine NP.inBlock ?_ | exact NP.body)) (by kernel_rfl) rfl (fun R => Ev.fldb0 (Opd.mk rfl) fo58_1) (by kernel_rfl) rfl ?_
  refine SW.defer 3 (by repeat (first | refine NP.then ?_ | refine NP.inBlock ?_ | exact NP.body)) (by kernel_rfl) rfl (fun R => Ev.ldb (Opd.mk rfl) Tryz.underlying3 trivial (by rfl)) (by kernel_rfl) rfl ?_
  refine SW.defer 4 (by repeat (first | refine NP.then ?_ | refine NP.inBlock ?_ | exact NP.body)) (by kernel_rfl) rfl (fun R => Ev.call (CompareI_spec (y.2.2 : Nat) (x.2.2 : Nat)) cb41 (Opds.cons (Opd.mk rfl) (Opds.cons (Opd.mk rfl) Opds.nil))) (by kernel_rfl) rfl ?_
  refine SW.defer 5 (by repeat (first | refine NP.then ?_ | refine NP.inBlock ?_ | exact NP.body)) (by kernel_rfl) rfl (fun R => Ev.fldb0 (Opd.mk rfl) fo58_0) (by kernel_rfl) rfl ?_
  refine SW.defer 6 (by repeat (first | refine NP.then ?_ | refine NP.inBlock ?_ | exact NP.body)) (by kernel_rfl) rfl (fun R => Ev.ldb (Opd.mk rfl) Tryz.underlying23 trivial (by rfl)) (by kernel_rfl) rfl ?_
  refine SW.defer 7 (by repeat (first | refine NP.then ?_ | refine NP.inBlock ?_ | exact NP.body)) (by kernel_rfl) rfl (fun R => Ev.fldb0 (Opd.mk rfl) fo58_0) (by kernel_rfl) rfl ?_
  refine SW.defer 8 (by repeat (first | refine NP.then ?_ | refine NP.inBlock ?_ | exact NP.body)) (by kernel_rfl) rfl (fun R => Ev.ldb (Opd.mk rfl) Tryz.underlying23 trivial (by rfl)) (by kernel_rfl) rfl ?_
  refine SW.defer 9 (by repeat (first | refine NP.then ?_ | refine NP.inBlock ?_ | exact NP.body)) (by kernel_rfl) rfl (fun R => Ev.call (CompareW_spec x.1.1 y.1.1 x.2.1 y.2.1) cb42 (Opds.cons (Opd.mk rfl) (Opds.cons (Opd.mk rfl) Opds.nil))) (by kernel_rfl) rfl ?_
  refine SW.turn1 (i := 10) (by kernel_rfl) rfl ?_
  refine St.buildSl (xs := [(Operand.tmp 9), (Operand.tmp 14)]) (ps := [(0, (Operand.tmp 9)), (1, (Operand.tmp 14))]) rfl (Opds.cons (Opd.mk rfl) (Opds.cons (Opd.mk rfl) Opds.nil)) Tryz.underlying25 sz3 zv3 rfl rfl (by simp [Value.cells]) rfl rfl (fun b15 => ?_)
  refine St.publish (.slice (some ⟨b15, 0, none⟩) 2 2) intR [icmp (y.2.2 : Nat) (x.2.2 : Nat), wcmp x.2.1 y.2.1] rfl rfl (icw x y) ?_
  refine St.nil ?_
  refine St.then_normal ?_
  refine SW.go ?_
  refine SW.turn1 (i := 11) (by kernel_rfl) rfl ?_
  refine St.ev _ (Ev.call (OrI_spec (.slice (some ⟨b15, 0, none⟩) 2 2) [icmp (y.2.2 : Nat) (x.2.2 : Nat), wcmp x.2.1 y.2.1]) cb40 (Opds.cons (Opd.mk rfl) Opds.nil)) rfl ?_
  refine St.nil ?_
  refine St.then_normal ?_
  refine SW.go ?_
  refine SW.defer 12 (by repeat (first | refine NP.then ?_ | refine NP.inBlock ?_ | exact NP.body)) (by kernel_rfl) rfl (fun R => Ev.assign (Opd.mk rfl)) (by kernel_rfl) rfl ?_
  refine SW.done (by kernel_rfl) ?_
  refine St.then_normal ?_
  refine St.rett ?_
  refine St.rets [_] [] Tryz.results39 ⟨rfl, trivial⟩ ?_ (fun _ hw => hw.sub)
  exact ie (by rw [← cmG_eq]; unfold orI; split <;> simp_all [orI])

end Go.Proofs.YtgikcbfdonjggaaGreatDoor

/-
  (YtgikcbfdonjggaaGreatDoorG2)
  The library's stable sort, at grams: swaps, rotations, insertion.
  Conditions: few elements.
-/
set_option maxRecDepth 20000
set_option linter.unusedSimpArgs false
set_option linter.unusedVariables false
namespace Go.Proofs.YtgikcbfdonjggaaGreatDoor
open Go Go.J

theorem segp_swap {α : Type} {l L : List α} {a b i j : Nat} {x y : α} (h : SegP l L a b) (hi : L[i]? = some x) (hj : L[j]? = some y) (h1 : a ≤ i) (h2 : i < b) (h3 : a ≤ j) (h4 : j < b) : SegP l ((L.set i y).set j x) a b :=
  ⟨(swap_perm hi hj).trans h.1, fun p hp => by rw [get_swap hi hj, if_neg (by omega), if_neg (by omega)]; exact h.2 p hp⟩
theorem Gm_clo (x y : Gm Str) : FnV Tryz.prog 39 ([gmv x, gmv y] ++ ([] : List Value)).toArray [sl strR x.1.1 x.2.1, sl strR y.1.1 y.2.1] (iv (cmG x y)) := Gm_spec x y
theorem dvd_step {d s a : Nat} (h1 : d ∣ s) (h2 : d ∣ a) (h : s < a) : s + d ≤ a := by
  obtain ⟨x, rfl⟩ := h1
  obtain ⟨y, rfl⟩ := h2
  have h3 : x < y := Nat.lt_of_mul_lt_mul_left h
  have h4 : d * (x + 1) ≤ d * y := Nat.mul_le_mul_left _ h3
  rw [Nat.mul_add, Nat.mul_one] at h4
  exact h4

theorem swapRange_spec (v : Value) (M a b n : Nat) (l : List (Gm Str)) (hlen : l.length = M) (hM : M ≤ 1000000) (hab : a + n ≤ b) (hb : b + n ≤ M) : FnH Tryz.prog 117 #[v, iv (a : Nat), iv (b : Nat), iv (n : Nat), .func (.func 39) #[] #[]] [row v 58 2 M (rows (gR Str) l)] (fun u H' => ∃ l', u = .tuple #[] ∧ l'.Perm l ∧ (∀ p, l'[p]? = xchI l a b n p) ∧ H' = [row v 58 2 M (rows (gR Str) l')]) := by
  refine FnH.body (args := [v, iv (a : Nat), iv (b : Nat), iv (n : Nat), .func (.func 39) #[] #[]]) 38 Tryz.func117 rfl Tryz.ntmps117 rfl (fun c => ?_)
  refine St.seq ?_
  refine St.rg ?_
  refine St.ev _ (Ev.assign (Opd.mk rfl)) rfl ?_
  refine St.nil ?_
  refine St.then_normal ?_
  refine St.block ?_
  refine St.loopH2 (ι := Nat) (κ := List (Gm Str)) (fun k L T => (10, iv k) :: T) (fun k L => [row v 58 2 M (rows (gR Str) L)]) (fun k L => k ≤ n ∧ L.Perm l ∧ ∀ p, L[p]? = xchI l a b k p) (fun k L => n - k) 0 l (Keep.cons 0 rfl (Keep.cons 1 rfl (Keep.cons 2 rfl (Keep.cons 3 rfl Keep.nil)))) ⟨Nat.zero_le _, .refl _, fun p => (xch_zero ..).symm⟩ (by repeat (first | exact Sub.nil | refine Sub.cons (by first | rfl | exact congrArg (fun z => some (iv z)) (by first | omega | (dsimp only; omega)) | exact congrArg (fun z => some (Value.bool z)) (by first | assumption | exact Eq.symm (by assumption))) ?_)) (fun _ hw => hw.sub) ?_
  rintro k L ⟨hk, hp, hx0⟩
  refine St.seq ?_
  refine St.seq ?_
  refine St.rg ?_
  refine St.ev _ (Ev.move (Opd.mk rfl)) rfl ?_
  refine St.ev _ (Ev.move (Opd.mk rfl)) rfl ?_
  refine St.ev _ (Ev.lss (Opd.mk rfl) (Opd.mk rfl)) rfl ?_
  refine St.nil ?_
  refine St.then_normal ?_
  refine St.cond _ rfl (fun h13 => ?_) (fun h13 => ?_)
  · skip
    try simp only [Bool.and_true, Bool.true_and, decide_eq_true_eq, decide_eq_false_iff_not, Bool.and_eq_true, Bool.or_eq_true, Bool.and_eq_false_iff, Bool.or_eq_false_iff, Bool.not_eq_true', Bool.not_eq_false', beq_iff_eq, beq_eq_false_iff_ne, Int.not_lt, Int.not_le] at h13
    have hll := hp.length_eq
    obtain ⟨x, hx⟩ := some_of_lt (show a + k < L.length by omega)
    obtain ⟨y, hy⟩ := some_of_lt (show b + k < L.length by omega)
    refine St.rowShape v (by omega) (fun bs cs hsh => ?_)
    refine St.skip ?_
    refine St.then_normal ?_
    refine St.seq ?_
    refine St.block ?_
    refine St.parL [row v 58 2 M (rows (gR Str) L)] mixed ?_
    refine SW.defer 0 (by repeat (first | refine NP.then ?_ | refine NP.inBlock ?_ | exact NP.body)) (by kernel_rfl) rfl (fun R => Ev.move (Opd.mk rfl)) (by kernel_rfl) rfl ?_
    refine SW.defer 1 (by repeat (first | refine NP.then ?_ | refine NP.inBlock ?_ | exact NP.body)) (by kernel_rfl) rfl (fun R => Ev.move (Opd.mk rfl)) (by kernel_rfl) rfl ?_
    refine SW.defer 2 (by repeat (first | refine NP.then ?_ | refine NP.inBlock ?_ | exact NP.body)) (by kernel_rfl) rfl (fun R => Ev.move (Opd.mk rfl)) (by kernel_rfl) rfl ?_
    refine SW.defer 3 (by repeat (first | refine NP.then ?_ | refine NP.inBlock ?_ | exact NP.body)) (by kernel_rfl) rfl (fun R => Ev.add (Opd.mk rfl) (Opd.mk rfl) (by omega)) (by kernel_rfl) rfl ?_
    refine SW.defer 4 (by repeat (first | refine NP.then ?_ | refine NP.inBlock ?_ | exact NP.body)) (by kernel_rfl) rfl (fun R => Ev.move (Opd.mk rfl)) (by kernel_rfl) rfl ?_
    refine SW.defer 5 (by repeat (first | refine NP.then ?_ | refine NP.inBlock ?_ | exact NP.body)) (by kernel_rfl) rfl (fun R => Ev.move (Opd.mk rfl)) (by kernel_rfl) rfl ?_
    refine SW.defer 6 (by repeat (first | refine NP.then ?_ | refine NP.inBlock ?_ | exact NP.body)) (by kernel_rfl) rfl (fun R => Ev.move (Opd.mk rfl)) (by kernel_rfl) rfl ?_
    refine SW.defer 7 (by repeat (first | refine NP.then ?_ | refine NP.inBlock ?_ | exact NP.body)) (by kernel_rfl) rfl (fun R => Ev.add (Opd.mk rfl) (Opd.mk rfl) (by omega)) (by kernel_rfl) rfl ?_
    refine SW.defer 8 (by repeat (first | refine NP.then ?_ | refine NP.inBlock ?_ | exact NP.body)) (by kernel_rfl) rfl (fun R => Ev.move (Opd.mk rfl)) (by kernel_rfl) rfl ?_
    refine SW.defer 9 (by repeat (first | refine NP.then ?_ | refine NP.inBlock ?_ | exact NP.body)) (by kernel_rfl) rfl (fun R => Ev.move (Opd.mk rfl)) (by kernel_rfl) rfl ?_
    refine SW.defer 10 (by repeat (first | refine NP.then ?_ | refine NP.inBlock ?_ | exact NP.body)) (by kernel_rfl) rfl (fun R => Ev.move (Opd.mk rfl)) (by kernel_rfl) rfl ?_
    refine SW.defer 11 (by repeat (first | refine NP.then ?_ | refine NP.inBlock ?_ | exact NP.body)) (by kernel_rfl) rfl (fun R => Ev.add (Opd.mk rfl) (Opd.mk rfl) (by omega)) (by kernel_rfl) rfl ?_
    refine SW.defer 12 (by repeat (first | refine NP.then ?_ | refine NP.inBlock ?_ | exact NP.body)) (by kernel_rfl) rfl (fun R => Ev.idxv (k := (b + k)) hsh (Opd.mk rfl) (Opd.mk rfl) Tryz.underlying54 sz58 (by omega) (by omega)) (by kernel_rfl) rfl ?_
    refine SW.defer 14 (by repeat (first | refine NP.then ?_ | refine NP.inBlock ?_ | exact NP.body)) (by kernel_rfl) rfl (fun R => Ev.move (Opd.mk rfl)) (by kernel_rfl) rfl ?_
    refine SW.defer 15 (by repeat (first | refine NP.then ?_ | refine NP.inBlock ?_ | exact NP.body)) (by kernel_rfl) rfl (fun R => Ev.move (Opd.mk rfl)) (by kernel_rfl) rfl ?_
    refine SW.defer 16 (by repeat (first | refine NP.then ?_ | refine NP.inBlock ?_ | exact NP.body)) (by kernel_rfl) rfl (fun R => Ev.move (Opd.mk rfl)) (by kernel_rfl) rfl ?_
    refine SW.defer 17 (by repeat (first | refine NP.then ?_ | refine NP.inBlock ?_ | exact NP.body)) (by kernel_rfl) rfl (fun R => Ev.add (Opd.mk rfl) (Opd.mk rfl) (by omega)) (by kernel_rfl) rfl ?_
    refine SW.defer 18 (by repeat (first | refine NP.then ?_ | refine NP.inBlock ?_ | exact NP.body)) (by kernel_rfl) rfl (fun R => Ev.idxv (k := (a + k)) hsh (Opd.mk rfl) (Opd.mk rfl) Tryz.underlying54 sz58 (by omega) (by omega)) (by kernel_rfl) rfl ?_
    refine SW.turn2 (i := 13) (j := 19) (by kernel_rfl) rfl rfl ?_ ?_
    · skip
      refine St.ev _ (Ev.ldG (Opd.mk rfl) hy Tryz.underlying58 trivial sz58 (by omega)) rfl ?_
      refine St.nil ?_
      refine St.then_normal ?_
      refine SW.go ?_
      refine SW.turn1 (i := 19) (by kernel_rfl) rfl ?_
      refine St.ev _ (Ev.ldG (Opd.mk rfl) hx Tryz.underlying58 trivial sz58 (by omega)) rfl ?_
      refine St.nil ?_
      refine St.then_normal ?_
      refine SW.go ?_
      refine SW.defer 20 (by repeat (first | refine NP.then ?_ | refine NP.inBlock ?_ | exact NP.body)) (by kernel_rfl) rfl (fun R => Ev.idxv (k := (a + k)) hsh (Opd.mk rfl) (Opd.mk rfl) Tryz.underlying54 sz58 (by omega) (by omega)) (by kernel_rfl) rfl ?_
      refine SW.turn1 (i := 21) (by kernel_rfl) rfl ?_
      refine St.storeG (Opd.mk rfl) (Opd.mk rfl) sz58 (by omega) ?_
      refine St.nil ?_
      refine St.then_normal ?_
      refine SW.go ?_
      refine SW.defer 22 (by repeat (first | refine NP.then ?_ | refine NP.inBlock ?_ | exact NP.body)) (by kernel_rfl) rfl (fun R => Ev.idxv (k := (b + k)) hsh (Opd.mk rfl) (Opd.mk rfl) Tryz.underlying54 sz58 (by omega) (by omega)) (by kernel_rfl) rfl ?_
      refine SW.turn1 (i := 23) (by kernel_rfl) rfl ?_
      refine St.storeG (Opd.mk rfl) (Opd.mk rfl) sz58 (by omega) ?_
      refine St.nil ?_
      refine St.then_normal ?_
      refine SW.go ?_
      refine SW.done (by kernel_rfl) ?_
      refine St.in_normal ?_
      refine St.then_normal ?_
      refine St.rg ?_
      refine St.ev _ (Ev.move (Opd.mk rfl)) rfl ?_
      refine St.ev _ (Ev.add (Opd.mk rfl) (Opd.mk rfl) (by omega)) rfl ?_
      refine St.ev _ (Ev.assign (Opd.mk rfl)) rfl ?_
      refine St.nil ?_
      refine St.then_normal ?_
      refine St.againH2 (k + 1) ((L.set (a + k) y).set (b + k) x) ⟨by omega, (swap_perm hx hy).trans hp, xch_step (by omega) hx0 hx hy⟩ (by first | omega | (dsimp only; omega)) (by repeat (first | exact Sub.nil | refine Sub.cons (by first | rfl | exact congrArg (fun z => some (iv z)) (by first | omega | (dsimp only; omega)) | exact congrArg (fun z => some (Value.bool z)) (by first | assumption | exact Eq.symm (by assumption))) ?_)) (fun _ hw => hw.sub)
    · skip
      refine St.ev _ (Ev.ldG (Opd.mk rfl) hx Tryz.underlying58 trivial sz58 (by omega)) rfl ?_
      refine St.nil ?_
      refine St.then_normal ?_
      refine SW.go ?_
      refine SW.turn1 (i := 13) (by kernel_rfl) rfl ?_
      refine St.ev _ (Ev.ldG (Opd.mk rfl) hy Tryz.underlying58 trivial sz58 (by omega)) rfl ?_
      refine St.nil ?_
      refine St.then_normal ?_
      refine SW.go ?_
      refine SW.defer 20 (by repeat (first | refine NP.then ?_ | refine NP.inBlock ?_ | exact NP.body)) (by kernel_rfl) rfl (fun R => Ev.idxv (k := (a + k)) hsh (Opd.mk rfl) (Opd.mk rfl) Tryz.underlying54 sz58 (by omega) (by omega)) (by kernel_rfl) rfl ?_
      refine SW.turn1 (i := 21) (by kernel_rfl) rfl ?_
      refine St.storeG (Opd.mk rfl) (Opd.mk rfl) sz58 (by omega) ?_
      refine St.nil ?_
      refine St.then_normal ?_
      refine SW.go ?_
      refine SW.defer 22 (by repeat (first | refine NP.then ?_ | refine NP.inBlock ?_ | exact NP.body)) (by kernel_rfl) rfl (fun R => Ev.idxv (k := (b + k)) hsh (Opd.mk rfl) (Opd.mk rfl) Tryz.underlying54 sz58 (by omega) (by omega)) (by kernel_rfl) rfl ?_
      refine SW.turn1 (i := 23) (by kernel_rfl) rfl ?_
      refine St.storeG (Opd.mk rfl) (Opd.mk rfl) sz58 (by omega) ?_
      refine St.nil ?_
      refine St.then_normal ?_
      refine SW.go ?_
      refine SW.done (by kernel_rfl) ?_
      refine St.in_normal ?_
      refine St.then_normal ?_
      refine St.rg ?_
      refine St.ev _ (Ev.move (Opd.mk rfl)) rfl ?_
      refine St.ev _ (Ev.add (Opd.mk rfl) (Opd.mk rfl) (by omega)) rfl ?_
      refine St.ev _ (Ev.assign (Opd.mk rfl)) rfl ?_
      refine St.nil ?_
      refine St.then_normal ?_
      refine St.againH2 (k + 1) ((L.set (a + k) y).set (b + k) x) ⟨by omega, (swap_perm hx hy).trans hp, xch_step (by omega) hx0 hx hy⟩ (by first | omega | (dsimp only; omega)) (by repeat (first | exact Sub.nil | refine Sub.cons (by first | rfl | exact congrArg (fun z => some (iv z)) (by first | omega | (dsimp only; omega)) | exact congrArg (fun z => some (Value.bool z)) (by first | assumption | exact Eq.symm (by assumption))) ?_)) (fun _ hw => hw.sub)
  · skip
    try simp only [Bool.and_true, Bool.true_and, decide_eq_true_eq, decide_eq_false_iff_not, Bool.and_eq_true, Bool.or_eq_true, Bool.and_eq_false_iff, Bool.or_eq_false_iff, Bool.not_eq_true', Bool.not_eq_false', beq_iff_eq, beq_eq_false_iff_ne, Int.not_lt, Int.not_le] at h13
    obtain rfl : k = n := by omega
    refine St.exit ?_
    refine St.then_exit ?_
    refine St.then_exit ?_
    refine St.in_hit ?_
    refine St.rets_normal ?_
    refine St.rets [] [row v 58 2 M (rows (gR Str) L)] Tryz.results117 trivial ?_ (fun _ hw => hw.sub)
    exact ⟨L, rfl, hp, hx0, rfl⟩

theorem rotate_spec (v : Value) (M a m b : Nat) (l : List (Gm Str)) (hlen : l.length = M) (hM : M ≤ 1000000) (ham : a < m) (hmb : m < b) (hb : b ≤ M) : FnH Tryz.prog 101 #[v, iv (a : Nat), iv (m : Nat), iv (b : Nat), .func (.func 39) #[] #[]] [row v 58 2 M (rows (gR Str) l)] (fun u H' => ∃ l', u = .tuple #[] ∧ l'.Perm l ∧ (∀ p, l'[p]? = rotI l a m b p) ∧ H' = [row v 58 2 M (rows (gR Str) l')]) := by
  refine FnH.body (args := [v, iv (a : Nat), iv (m : Nat), iv (b : Nat), .func (.func 39) #[] #[]]) 58 Tryz.func101 rfl Tryz.ntmps101 rfl (fun c => ?_)
  refine St.seq ?_
  refine St.rg ?_
  refine St.ev _ (Ev.move (Opd.mk rfl)) rfl ?_
  refine St.ev _ (Ev.move (Opd.mk rfl)) rfl ?_
  refine St.ev _ (Ev.sub (Opd.mk rfl) (Opd.mk rfl) (by omega)) rfl ?_
  refine St.slot 14 (iv ((m - a : Nat) : Int)) rfl (congrArg (fun z : Int => iv z) (by omega)) ?_
  refine St.ev _ (Ev.assign (Opd.mk rfl)) rfl ?_
  refine St.nil ?_
  refine St.then_normal ?_
  refine St.seq ?_
  refine St.rg ?_
  refine St.ev _ (Ev.move (Opd.mk rfl)) rfl ?_
  refine St.ev _ (Ev.move (Opd.mk rfl)) rfl ?_
  refine St.ev _ (Ev.sub (Opd.mk rfl) (Opd.mk rfl) (by omega)) rfl ?_
  refine St.slot 17 (iv ((b - m : Nat) : Int)) rfl (congrArg (fun z : Int => iv z) (by omega)) ?_
  refine St.ev _ (Ev.assign (Opd.mk rfl)) rfl ?_
  refine St.nil ?_
  refine St.then_normal ?_
  refine St.seq ?_
  refine St.block ?_
  refine St.loopH (ι := (Nat × Nat) × List (Gm Str)) (fun x T => (10, iv x.1.1) :: (11, iv x.1.2) :: T) (fun x => [row v 58 2 M (rows (gR Str) x.2)]) (fun x => 0 < x.1.1 ∧ 0 < x.1.2 ∧ x.1.1 ≤ m ∧ m + x.1.2 ≤ M ∧ x.2.Perm l ∧ ∀ p, rotI x.2 (m - x.1.1) m (m + x.1.2) p = rotI l a m b p) (fun x => x.1.1 + x.1.2) ((m - a, b - m), l) (Keep.cons 0 rfl (Keep.cons 2 rfl (Keep.cons 4 rfl Keep.nil))) ⟨by show 0 < m - a; omega, by show 0 < b - m; omega, by show m - a ≤ m; omega, by show m + (b - m) ≤ M; omega, .refl _, fun p => by show rotI l (m - (m - a)) m (m + (b - m)) p = _; rw [show m - (m - a) = a by omega, show m + (b - m) = b by omega]⟩ (by repeat (first | exact Sub.nil | refine Sub.cons (by first | rfl | exact congrArg (fun z => some (iv z)) (by first | omega | (dsimp only; omega)) | exact congrArg (fun z => some (Value.bool z)) (by first | assumption | exact Eq.symm (by assumption))) ?_)) (fun _ hw => hw.sub) ?_
  rintro ⟨⟨i, j⟩, L⟩ ⟨hi, hj, him, hjM, hp, hr⟩
  dsimp only at hi hj him hjM hp hr ⊢
  have hll := hp.length_eq
  refine St.seq ?_
  refine St.seq ?_
  refine St.rg ?_
  refine St.ev _ (Ev.move (Opd.mk rfl)) rfl ?_
  refine St.ev _ (Ev.move (Opd.mk rfl)) rfl ?_
  refine St.ev _ (Ev.neq (Opd.mk rfl) (Opd.mk rfl)) rfl ?_
  refine St.nil ?_
  refine St.then_normal ?_
  refine St.cond _ rfl (fun h20 => ?_) (fun h20 => ?_)
  · skip
    try simp only [Bool.and_true, Bool.true_and, decide_eq_true_eq, decide_eq_false_iff_not, Bool.and_eq_true, Bool.or_eq_true, Bool.and_eq_false_iff, Bool.or_eq_false_iff, Bool.not_eq_true', Bool.not_eq_false', beq_iff_eq, beq_eq_false_iff_ne, Int.not_lt, Int.not_le] at h20
    refine St.skip ?_
    refine St.then_normal ?_
    refine St.block ?_
    refine St.seq ?_
    refine St.rg ?_
    refine St.ev _ (Ev.move (Opd.mk rfl)) rfl ?_
    refine St.ev _ (Ev.move (Opd.mk rfl)) rfl ?_
    refine St.ev _ (Ev.gtr (Opd.mk rfl) (Opd.mk rfl)) rfl ?_
    refine St.nil ?_
    refine St.then_normal ?_
    refine St.cond _ rfl (fun h23 => ?_) (fun h23 => ?_)
    · skip
      try simp only [Bool.and_true, Bool.true_and, decide_eq_true_eq, decide_eq_false_iff_not, Bool.and_eq_true, Bool.or_eq_true, Bool.and_eq_false_iff, Bool.or_eq_false_iff, Bool.not_eq_true', Bool.not_eq_false', beq_iff_eq, beq_eq_false_iff_ne, Int.not_lt, Int.not_le] at h23
      refine St.seq ?_
      refine St.rg ?_
      refine St.ev _ (Ev.move (Opd.mk rfl)) rfl ?_
      refine St.ev _ (Ev.move (Opd.mk rfl)) rfl ?_
      refine St.ev _ (Ev.move (Opd.mk rfl)) rfl ?_
      refine St.ev _ (Ev.sub (Opd.mk rfl) (Opd.mk rfl) (by omega)) rfl ?_
      refine St.slot 27 (iv ((m - i : Nat) : Int)) rfl (congrArg (fun z : Int => iv z) (by omega)) ?_
      refine St.ev _ (Ev.move (Opd.mk rfl)) rfl ?_
      refine St.ev _ (Ev.move (Opd.mk rfl)) rfl ?_
      refine St.ev _ (Ev.move (Opd.mk rfl)) rfl ?_
      refine St.call (swapRange_spec v M (m - i) m j L (by omega) hM (by omega) (by omega)) cb117 (Opds.cons (Opd.mk rfl) (Opds.cons (Opd.mk rfl) (Opds.cons (Opd.mk rfl) (Opds.cons (Opd.mk rfl) (Opds.cons (Opd.mk rfl) Opds.nil))))) rfl ?_
      rintro v31 _ ⟨L2, rfl, hp2, hx2, rfl⟩
      refine St.app1 ?_
      refine St.nil ?_
      refine St.then_normal ?_
      refine St.rg ?_
      refine St.ev _ (Ev.move (Opd.mk rfl)) rfl ?_
      refine St.ev _ (Ev.move (Opd.mk rfl)) rfl ?_
      refine St.ev _ (Ev.sub (Opd.mk rfl) (Opd.mk rfl) (by omega)) rfl ?_
      refine St.slot 34 (iv ((i - j : Nat) : Int)) rfl (congrArg (fun z : Int => iv z) (by omega)) ?_
      refine St.ev _ (Ev.assign (Opd.mk rfl)) rfl ?_
      refine St.nil ?_
      refine St.in_normal ?_
      refine St.then_normal ?_
      refine St.againH ((i - j, j), L2) ⟨by show 0 < i - j; omega, hj, by show i - j ≤ m; omega, hjM, hp2.trans hp, fun p => by show rotI L2 (m - (i - j)) m (m + j) p = _; rw [show m - (i - j) = m - i + j by omega, rot_gt him (by omega) hx2]; exact hr p⟩ (by show i - j + j < i + j; omega) (by repeat (first | exact Sub.nil | refine Sub.cons (by first | rfl | exact congrArg (fun z => some (iv z)) (by first | omega | (dsimp only; omega)) | exact congrArg (fun z => some (Value.bool z)) (by first | assumption | exact Eq.symm (by assumption))) ?_)) (fun _ hw => hw.sub)
    · skip
      try simp only [Bool.and_true, Bool.true_and, decide_eq_true_eq, decide_eq_false_iff_not, Bool.and_eq_true, Bool.or_eq_true, Bool.and_eq_false_iff, Bool.or_eq_false_iff, Bool.not_eq_true', Bool.not_eq_false', beq_iff_eq, beq_eq_false_iff_ne, Int.not_lt, Int.not_le] at h23
      refine St.seq ?_
      refine St.rg ?_
      refine St.ev _ (Ev.move (Opd.mk rfl)) rfl ?_
      refine St.ev _ (Ev.move (Opd.mk rfl)) rfl ?_
      refine St.ev _ (Ev.move (Opd.mk rfl)) rfl ?_
      refine St.ev _ (Ev.sub (Opd.mk rfl) (Opd.mk rfl) (by omega)) rfl ?_
      refine St.slot 38 (iv ((m - i : Nat) : Int)) rfl (congrArg (fun z : Int => iv z) (by omega)) ?_
      refine St.ev _ (Ev.move (Opd.mk rfl)) rfl ?_
      refine St.ev _ (Ev.move (Opd.mk rfl)) rfl ?_
      refine St.ev _ (Ev.add (Opd.mk rfl) (Opd.mk rfl) (by omega)) rfl ?_
      refine St.ev _ (Ev.move (Opd.mk rfl)) rfl ?_
      refine St.ev _ (Ev.sub (Opd.mk rfl) (Opd.mk rfl) (by omega)) rfl ?_
      refine St.slot 43 (iv ((m + j - i : Nat) : Int)) rfl (congrArg (fun z : Int => iv z) (by omega)) ?_
      refine St.ev _ (Ev.move (Opd.mk rfl)) rfl ?_
      refine St.ev _ (Ev.move (Opd.mk rfl)) rfl ?_
      refine St.call (swapRange_spec v M (m - i) (m + j - i) i L (by omega) hM (by omega) (by omega)) cb117 (Opds.cons (Opd.mk rfl) (Opds.cons (Opd.mk rfl) (Opds.cons (Opd.mk rfl) (Opds.cons (Opd.mk rfl) (Opds.cons (Opd.mk rfl) Opds.nil))))) rfl ?_
      rintro v46 _ ⟨L2, rfl, hp2, hx2, rfl⟩
      refine St.app1 ?_
      refine St.nil ?_
      refine St.then_normal ?_
      refine St.rg ?_
      refine St.ev _ (Ev.move (Opd.mk rfl)) rfl ?_
      refine St.ev _ (Ev.move (Opd.mk rfl)) rfl ?_
      refine St.ev _ (Ev.sub (Opd.mk rfl) (Opd.mk rfl) (by omega)) rfl ?_
      refine St.slot 49 (iv ((j - i : Nat) : Int)) rfl (congrArg (fun z : Int => iv z) (by omega)) ?_
      refine St.ev _ (Ev.assign (Opd.mk rfl)) rfl ?_
      refine St.nil ?_
      refine St.in_normal ?_
      refine St.then_normal ?_
      refine St.againH ((i, j - i), L2) ⟨hi, by show 0 < j - i; omega, him, by show m + (j - i) ≤ M; omega, hp2.trans hp, fun p => by show rotI L2 (m - i) m (m + (j - i)) p = _; rw [show m + (j - i) = m + j - i by omega, rot_lt him (by omega) hx2]; exact hr p⟩ (by show i + (j - i) < i + j; omega) (by repeat (first | exact Sub.nil | refine Sub.cons (by first | rfl | exact congrArg (fun z => some (iv z)) (by first | omega | (dsimp only; omega)) | exact congrArg (fun z => some (Value.bool z)) (by first | assumption | exact Eq.symm (by assumption))) ?_)) (fun _ hw => hw.sub)
  · skip
    try simp only [Bool.and_true, Bool.true_and, decide_eq_true_eq, decide_eq_false_iff_not, Bool.and_eq_true, Bool.or_eq_true, Bool.and_eq_false_iff, Bool.or_eq_false_iff, Bool.not_eq_true', Bool.not_eq_false', beq_iff_eq, beq_eq_false_iff_ne, Int.not_lt, Int.not_le] at h20
    obtain rfl : i = j := by omega
    refine St.exit ?_
    refine St.then_exit ?_
    refine St.then_exit ?_
    refine St.in_hit ?_
    refine St.then_normal ?_
    refine St.rg ?_
    refine St.ev _ (Ev.move (Opd.mk rfl)) rfl ?_
    refine St.ev _ (Ev.move (Opd.mk rfl)) rfl ?_
    refine St.ev _ (Ev.move (Opd.mk rfl)) rfl ?_
    refine St.ev _ (Ev.sub (Opd.mk rfl) (Opd.mk rfl) (by omega)) rfl ?_
    refine St.slot 53 (iv ((m - i : Nat) : Int)) rfl (congrArg (fun z : Int => iv z) (by omega)) ?_
    refine St.ev _ (Ev.move (Opd.mk rfl)) rfl ?_
    refine St.ev _ (Ev.move (Opd.mk rfl)) rfl ?_
    refine St.ev _ (Ev.move (Opd.mk rfl)) rfl ?_
    refine St.call (swapRange_spec v M (m - i) m i L (by omega) hM (by omega) (by omega)) cb117 (Opds.cons (Opd.mk rfl) (Opds.cons (Opd.mk rfl) (Opds.cons (Opd.mk rfl) (Opds.cons (Opd.mk rfl) (Opds.cons (Opd.mk rfl) Opds.nil))))) rfl ?_
    rintro v57 _ ⟨L2, rfl, hp2, hx2, rfl⟩
    refine St.app1 ?_
    refine St.nil ?_
    refine St.rets_normal ?_
    refine St.rets [] [row v 58 2 M (rows (gR Str) L2)] Tryz.results101 trivial ?_ (fun _ hw => hw.sub)
    exact ⟨L2, rfl, hp2.trans hp, fun p => by rw [rot_eq him hx2]; exact hr p, rfl⟩

theorem insertion_spec (D : List (Gm Str)) (v : Value) (M a b : Nat) (l : List (Gm Str)) (hlen : l.length = M) (hM : M ≤ 1000000) (hD : ∀ x ∈ l, x ∈ D) (hab : a ≤ b) (hb : b ≤ M) : FnH Tryz.prog 86 #[v, iv (a : Nat), iv (b : Nat), .func (.func 39) #[] #[]] [row v 58 2 M (rows (gR Str) l), dat (gall strR D)] (fun u H' => ∃ l', u = .tuple #[] ∧ SegP l l' a b ∧ SegS leG l' a b ∧ H' = [row v 58 2 M (rows (gR Str) l'), dat (gall strR D)]) := by
  refine FnH.body (args := [v, iv (a : Nat), iv (b : Nat), .func (.func 39) #[] #[]]) 53 Tryz.func86 rfl Tryz.ntmps86 rfl (fun c => ?_)
  refine St.seq ?_
  refine St.rg ?_
  refine St.ev _ (Ev.move (Opd.mk rfl)) rfl ?_
  refine St.ev _ (Ev.add (Opd.mk rfl) (Opd.mk rfl) (by omega)) rfl ?_
  refine St.ev _ (Ev.assign (Opd.mk rfl)) rfl ?_
  refine St.nil ?_
  refine St.then_normal ?_
  refine St.block ?_
  refine St.loopH2 (ι := Nat) (κ := List (Gm Str)) (fun i L T => (8, iv i) :: T) (fun i L => [row v 58 2 M (rows (gR Str) L), dat (gall strR D)]) (fun i L => a + 1 ≤ i ∧ SegP l L a b ∧ SegS leG L a i) (fun i L => b - i) (a + 1) l (Keep.cons 0 rfl (Keep.cons 1 rfl (Keep.cons 2 rfl (Keep.cons 3 rfl Keep.nil)))) ⟨Nat.le_refl _, .refl .., SegS.none (by omega)⟩ (by repeat (first | exact Sub.nil | refine Sub.cons (by first | rfl | exact congrArg (fun z => some (iv z)) (by first | omega | (dsimp only; omega)) | exact congrArg (fun z => some (Value.bool z)) (by first | assumption | exact Eq.symm (by assumption))) ?_)) (fun _ hw => hw.sub) ?_
  rintro i L ⟨hai, hsp, hss⟩
  have hll := hsp.len
  refine St.seq ?_
  refine St.seq ?_
  refine St.rg ?_
  refine St.ev _ (Ev.move (Opd.mk rfl)) rfl ?_
  refine St.ev _ (Ev.move (Opd.mk rfl)) rfl ?_
  refine St.ev _ (Ev.lss (Opd.mk rfl) (Opd.mk rfl)) rfl ?_
  refine St.nil ?_
  refine St.then_normal ?_
  refine St.cond _ rfl (fun h14 => ?_) (fun h14 => ?_)
  · skip
    try simp only [Bool.and_true, Bool.true_and, decide_eq_true_eq, decide_eq_false_iff_not, Bool.and_eq_true, Bool.or_eq_true, Bool.and_eq_false_iff, Bool.or_eq_false_iff, Bool.not_eq_true', Bool.not_eq_false', beq_iff_eq, beq_eq_false_iff_ne, Int.not_lt, Int.not_le] at h14
    have hib : i < b := by omega
    refine St.skip ?_
    refine St.then_normal ?_
    refine St.seq ?_
    refine St.block ?_
    refine St.seq ?_
    refine St.rg ?_
    refine St.ev _ (Ev.move (Opd.mk rfl)) rfl ?_
    refine St.ev _ (Ev.assign (Opd.mk rfl)) rfl ?_
    refine St.nil ?_
    refine St.then_normal ?_
    refine St.block ?_
    refine St.loopH2 (ι := Nat) (κ := List (Gm Str)) (fun j L2 T => (9, iv j) :: T) (fun j L2 => [row v 58 2 M (rows (gR Str) L2), dat (gall strR D)]) (fun j L2 => a ≤ j ∧ j ≤ i ∧ SegP l L2 a b ∧ SegX leG L2 a i j) (fun j L2 => j) i L (Keep.cons 0 rfl (Keep.cons 1 rfl (Keep.cons 2 rfl (Keep.cons 3 rfl (Keep.cons 8 rfl Keep.nil))))) ⟨by omega, Nat.le_refl _, hsp, segx_start hss⟩ (by repeat (first | exact Sub.nil | refine Sub.cons (by first | rfl | exact congrArg (fun z => some (iv z)) (by first | omega | (dsimp only; omega)) | exact congrArg (fun z => some (Value.bool z)) (by first | assumption | exact Eq.symm (by assumption))) ?_)) (fun _ hw => hw.sub) ?_
    rintro j L2 ⟨haj, hji, hsp2, hsx⟩
    have hll2 := hsp2.len
    obtain ⟨x, hx⟩ := some_of_lt (show j < L2.length by omega)
    obtain ⟨y, hy⟩ := some_of_lt (show j - 1 < L2.length by omega)
    have hxD := hD x (hsp2.1.mem_iff.1 (List.mem_of_getElem? hx))
    have hyD := hD y (hsp2.1.mem_iff.1 (List.mem_of_getElem? hy))
    refine St.gget (Rr := strR) (D := D) x y hxD hyD ?_
    refine St.rowShape v (by omega) (fun bs cs hsh => ?_)
    refine St.seq ?_
    refine St.seq ?_
    refine St.rq mixed (by kernel_rfl) (Mm.drawn _ _) ?_
    refine Sq.ev _ (Ev.move (Opd.mk rfl)) rfl ?_
    refine Sq.ev _ (Ev.move (Opd.mk rfl)) rfl ?_
    refine Sq.ev _ (Ev.gtr (Opd.mk rfl) (Opd.mk rfl)) rfl ?_
    refine Sq.ev _ (Ev.move (Opd.mk rfl)) rfl ?_
    refine Sq.gt _ rfl rfl (fun hg => Ev.move (Opd.mk rfl)) rfl ?_
    refine Sq.gt _ rfl rfl (fun hg => Ev.move (Opd.mk rfl)) rfl ?_
    refine Sq.gt _ rfl rfl (fun hg => Ev.move (Opd.mk rfl)) rfl ?_
    refine Sq.gt _ rfl rfl (fun hg => Ev.idxaddrrow (k := j) (Opd.gv rfl hg) (Opd.gv rfl hg) Tryz.underlying54 sz58 (by first | omega | (simp only [Bool.and_true, Bool.true_and, decide_eq_true_eq, decide_eq_false_iff_not, Bool.and_eq_true, Bool.or_eq_true, Bool.and_eq_false_iff, Bool.or_eq_false_iff, Bool.not_eq_true', Bool.not_eq_false', beq_iff_eq, beq_eq_false_iff_ne, Int.not_lt, Int.not_le] at hg; omega)) (by omega)) rfl ?_
    refine Sq.gt _ rfl rfl (fun hg => Ev.ldG (Opd.gv rfl hg) hx Tryz.underlying58 trivial sz58 (by omega)) rfl ?_
    refine Sq.gt _ rfl rfl (fun hg => Ev.move (Opd.mk rfl)) rfl ?_
    refine Sq.gt _ rfl rfl (fun hg => Ev.move (Opd.mk rfl)) rfl ?_
    refine Sq.gt _ rfl rfl (fun hg => Ev.sub (Opd.gv rfl hg) (Opd.mk rfl) (by first | omega | (simp only [Bool.and_true, Bool.true_and, decide_eq_true_eq, decide_eq_false_iff_not, Bool.and_eq_true, Bool.or_eq_true, Bool.and_eq_false_iff, Bool.or_eq_false_iff, Bool.not_eq_true', Bool.not_eq_false', beq_iff_eq, beq_eq_false_iff_ne, Int.not_lt, Int.not_le] at hg; omega))) rfl ?_
    refine Sq.gt _ rfl rfl (fun hg => Ev.idxaddrrow (k := (j - 1)) (Opd.gv rfl hg) (Opd.gv rfl hg) Tryz.underlying54 sz58 (by first | omega | (simp only [Bool.and_true, Bool.true_and, decide_eq_true_eq, decide_eq_false_iff_not, Bool.and_eq_true, Bool.or_eq_true, Bool.and_eq_false_iff, Bool.or_eq_false_iff, Bool.not_eq_true', Bool.not_eq_false', beq_iff_eq, beq_eq_false_iff_ne, Int.not_lt, Int.not_le] at hg; omega)) (by first | omega | (simp only [Bool.and_true, Bool.true_and, decide_eq_true_eq, decide_eq_false_iff_not, Bool.and_eq_true, Bool.or_eq_true, Bool.and_eq_false_iff, Bool.or_eq_false_iff, Bool.not_eq_true', Bool.not_eq_false', beq_iff_eq, beq_eq_false_iff_ne, Int.not_lt, Int.not_le] at hg; omega))) rfl ?_
    refine Sq.gt _ rfl rfl (fun hg => Ev.ldG (Opd.gv rfl hg) hy Tryz.underlying58 trivial sz58 (by omega)) rfl ?_
    refine Sq.gt _ rfl rfl (fun hg => Ev.callc (Gm_clo x y) cb39 (Opd.gv rfl hg) (Opds.cons (Opd.gv rfl hg) (Opds.cons (Opd.gv rfl hg) Opds.nil))) rfl ?_
    refine Sq.gt _ rfl rfl (fun hg => Ev.lss (Opd.gv rfl hg) (Opd.mk rfl)) rfl ?_
    refine Sq.ev _ (Ev.and (Opd.mk rfl) (fun hp => Opd.gv rfl hp)) rfl ?_
    refine Sq.nil ?_
    refine St.then_normal ?_
    refine St.cond _ rfl (fun h34 => ?_) (fun h34 => ?_)
    · skip
      try simp only [Bool.and_true, Bool.true_and, decide_eq_true_eq, decide_eq_false_iff_not, Bool.and_eq_true, Bool.or_eq_true, Bool.and_eq_false_iff, Bool.or_eq_false_iff, Bool.not_eq_true', Bool.not_eq_false', beq_iff_eq, beq_eq_false_iff_ne, Int.not_lt, Int.not_le] at h34
      refine St.skip ?_
      refine St.then_normal ?_
      refine St.seq ?_
      refine St.block ?_
      refine St.parL [row v 58 2 M (rows (gR Str) L2)] mixed ?_
      refine SW.defer 0 (by repeat (first | refine NP.then ?_ | refine NP.inBlock ?_ | exact NP.body)) (by kernel_rfl) rfl (fun R => Ev.move (Opd.mk rfl)) (by kernel_rfl) rfl ?_
      refine SW.defer 1 (by repeat (first | refine NP.then ?_ | refine NP.inBlock ?_ | exact NP.body)) (by kernel_rfl) rfl (fun R => Ev.move (Opd.mk rfl)) (by kernel_rfl) rfl ?_
      refine SW.defer 2 (by repeat (first | refine NP.then ?_ | refine NP.inBlock ?_ | exact NP.body)) (by kernel_rfl) rfl (fun R => Ev.move (Opd.mk rfl)) (by kernel_rfl) rfl ?_
      refine SW.defer 3 (by repeat (first | refine NP.then ?_ | refine NP.inBlock ?_ | exact NP.body)) (by kernel_rfl) rfl (fun R => Ev.move (Opd.mk rfl)) (by kernel_rfl) rfl ?_
      refine SW.defer 4 (by repeat (first | refine NP.then ?_ | refine NP.inBlock ?_ | exact NP.body)) (by kernel_rfl) rfl (fun R => Ev.sub (Opd.mk rfl) (Opd.mk rfl) (by omega)) (by kernel_rfl) rfl ?_
      refine SW.defer 5 (by repeat (first | refine NP.then ?_ | refine NP.inBlock ?_ | exact NP.body)) (by kernel_rfl) rfl (fun R => Ev.move (Opd.mk rfl)) (by kernel_rfl) rfl ?_
      refine SW.defer 6 (by repeat (first | refine NP.then ?_ | refine NP.inBlock ?_ | exact NP.body)) (by kernel_rfl) rfl (fun R => Ev.move (Opd.mk rfl)) (by kernel_rfl) rfl ?_
      refine SW.defer 7 (by repeat (first | refine NP.then ?_ | refine NP.inBlock ?_ | exact NP.body)) (by kernel_rfl) rfl (fun R => Ev.sub (Opd.mk rfl) (Opd.mk rfl) (by omega)) (by kernel_rfl) rfl ?_
      refine SW.defer 8 (by repeat (first | refine NP.then ?_ | refine NP.inBlock ?_ | exact NP.body)) (by kernel_rfl) rfl (fun R => Ev.idxv (k := (j - 1)) hsh (Opd.mk rfl) (Opd.mk rfl) Tryz.underlying54 sz58 (by omega) (by omega)) (by kernel_rfl) rfl ?_
      refine SW.defer 10 (by repeat (first | refine NP.then ?_ | refine NP.inBlock ?_ | exact NP.body)) (by kernel_rfl) rfl (fun R => Ev.move (Opd.mk rfl)) (by kernel_rfl) rfl ?_
      refine SW.defer 11 (by repeat (first | refine NP.then ?_ | refine NP.inBlock ?_ | exact NP.body)) (by kernel_rfl) rfl (fun R => Ev.move (Opd.mk rfl)) (by kernel_rfl) rfl ?_
      refine SW.defer 12 (by repeat (first | refine NP.then ?_ | refine NP.inBlock ?_ | exact NP.body)) (by kernel_rfl) rfl (fun R => Ev.idxv (k := j) hsh (Opd.mk rfl) (Opd.mk rfl) Tryz.underlying54 sz58 (by omega) (by omega)) (by kernel_rfl) rfl ?_
      refine SW.turn2 (i := 9) (j := 13) (by kernel_rfl) rfl rfl ?_ ?_
      · skip
        refine St.ev _ (Ev.ldG (Opd.mk rfl) hy Tryz.underlying58 trivial sz58 (by omega)) rfl ?_
        refine St.nil ?_
        refine St.then_normal ?_
        refine SW.go ?_
        refine SW.turn1 (i := 13) (by kernel_rfl) rfl ?_
        refine St.ev _ (Ev.ldG (Opd.mk rfl) hx Tryz.underlying58 trivial sz58 (by omega)) rfl ?_
        refine St.nil ?_
        refine St.then_normal ?_
        refine SW.go ?_
        refine SW.defer 14 (by repeat (first | refine NP.then ?_ | refine NP.inBlock ?_ | exact NP.body)) (by kernel_rfl) rfl (fun R => Ev.idxv (k := j) hsh (Opd.mk rfl) (Opd.mk rfl) Tryz.underlying54 sz58 (by omega) (by omega)) (by kernel_rfl) rfl ?_
        refine SW.turn1 (i := 15) (by kernel_rfl) rfl ?_
        refine St.storeG (Opd.mk rfl) (Opd.mk rfl) sz58 (by omega) ?_
        refine St.nil ?_
        refine St.then_normal ?_
        refine SW.go ?_
        refine SW.defer 16 (by repeat (first | refine NP.then ?_ | refine NP.inBlock ?_ | exact NP.body)) (by kernel_rfl) rfl (fun R => Ev.idxv (k := (j - 1)) hsh (Opd.mk rfl) (Opd.mk rfl) Tryz.underlying54 sz58 (by omega) (by omega)) (by kernel_rfl) rfl ?_
        refine SW.turn1 (i := 17) (by kernel_rfl) rfl ?_
        refine St.storeG (Opd.mk rfl) (Opd.mk rfl) sz58 (by omega) ?_
        refine St.nil ?_
        refine St.then_normal ?_
        refine SW.go ?_
        refine SW.done (by kernel_rfl) ?_
        refine St.in_normal ?_
        refine St.then_normal ?_
        refine St.rg ?_
        refine St.ev _ (Ev.move (Opd.mk rfl)) rfl ?_
        refine St.ev _ (Ev.sub (Opd.mk rfl) (Opd.mk rfl) (by omega)) rfl ?_
        refine St.slot 36 (iv ((j - 1 : Nat) : Int)) rfl (congrArg (fun z : Int => iv z) (by omega)) ?_
        refine St.ev _ (Ev.assign (Opd.mk rfl)) rfl ?_
        refine St.nil ?_
        refine St.then_normal ?_
        refine St.againH2 (j - 1) ((L2.set j y).set (j - 1) x) ⟨by omega, by omega, segp_swap hsp2 hx hy (by omega) (by omega) (by omega) (by omega), segx_step hsx (by omega) hji hx hy (leG_of_lt h34.2)⟩ (by omega) (by repeat (first | exact Sub.nil | refine Sub.cons (by first | rfl | exact congrArg (fun z => some (iv z)) (by first | omega | (dsimp only; omega)) | exact congrArg (fun z => some (Value.bool z)) (by first | assumption | exact Eq.symm (by assumption))) ?_)) (fun _ hw => hw.sub)
      · skip
        refine St.ev _ (Ev.ldG (Opd.mk rfl) hx Tryz.underlying58 trivial sz58 (by omega)) rfl ?_
        refine St.nil ?_
        refine St.then_normal ?_
        refine SW.go ?_
        refine SW.turn1 (i := 9) (by kernel_rfl) rfl ?_
        refine St.ev _ (Ev.ldG (Opd.mk rfl) hy Tryz.underlying58 trivial sz58 (by omega)) rfl ?_
        refine St.nil ?_
        refine St.then_normal ?_
        refine SW.go ?_
        refine SW.defer 14 (by repeat (first | refine NP.then ?_ | refine NP.inBlock ?_ | exact NP.body)) (by kernel_rfl) rfl (fun R => Ev.idxv (k := j) hsh (Opd.mk rfl) (Opd.mk rfl) Tryz.underlying54 sz58 (by omega) (by omega)) (by kernel_rfl) rfl ?_
        refine SW.turn1 (i := 15) (by kernel_rfl) rfl ?_
        refine St.storeG (Opd.mk rfl) (Opd.mk rfl) sz58 (by omega) ?_
        refine St.nil ?_
        refine St.then_normal ?_
        refine SW.go ?_
        refine SW.defer 16 (by repeat (first | refine NP.then ?_ | refine NP.inBlock ?_ | exact NP.body)) (by kernel_rfl) rfl (fun R => Ev.idxv (k := (j - 1)) hsh (Opd.mk rfl) (Opd.mk rfl) Tryz.underlying54 sz58 (by omega) (by omega)) (by kernel_rfl) rfl ?_
        refine SW.turn1 (i := 17) (by kernel_rfl) rfl ?_
        refine St.storeG (Opd.mk rfl) (Opd.mk rfl) sz58 (by omega) ?_
        refine St.nil ?_
        refine St.then_normal ?_
        refine SW.go ?_
        refine SW.done (by kernel_rfl) ?_
        refine St.in_normal ?_
        refine St.then_normal ?_
        refine St.rg ?_
        refine St.ev _ (Ev.move (Opd.mk rfl)) rfl ?_
        refine St.ev _ (Ev.sub (Opd.mk rfl) (Opd.mk rfl) (by omega)) rfl ?_
        refine St.slot 36 (iv ((j - 1 : Nat) : Int)) rfl (congrArg (fun z : Int => iv z) (by omega)) ?_
        refine St.ev _ (Ev.assign (Opd.mk rfl)) rfl ?_
        refine St.nil ?_
        refine St.then_normal ?_
        refine St.againH2 (j - 1) ((L2.set j y).set (j - 1) x) ⟨by omega, by omega, segp_swap hsp2 hx hy (by omega) (by omega) (by omega) (by omega), segx_step hsx (by omega) hji hx hy (leG_of_lt h34.2)⟩ (by omega) (by repeat (first | exact Sub.nil | refine Sub.cons (by first | rfl | exact congrArg (fun z => some (iv z)) (by first | omega | (dsimp only; omega)) | exact congrArg (fun z => some (Value.bool z)) (by first | assumption | exact Eq.symm (by assumption))) ?_)) (fun _ hw => hw.sub)
    · skip
      try simp only [Bool.and_true, Bool.true_and, decide_eq_true_eq, decide_eq_false_iff_not, Bool.and_eq_true, Bool.or_eq_true, Bool.and_eq_false_iff, Bool.or_eq_false_iff, Bool.not_eq_true', Bool.not_eq_false', beq_iff_eq, beq_eq_false_iff_ne, Int.not_lt, Int.not_le] at h34
      have hend : j = a ∨ ∀ u w, L2[j]? = some u → L2[j - 1]? = some w → leG w u := by
        rcases Nat.eq_or_lt_of_le haj with q | q
        · exact .inl q.symm
        · refine .inr fun u w hu hw => ?_
          rw [hx] at hu; rw [hy] at hw; cases hu; cases hw
          unfold leG; omega
      refine St.exit ?_
      refine St.then_exit ?_
      refine St.then_exit ?_
      refine St.in_hit ?_
      refine St.in_normal ?_
      refine St.then_normal ?_
      refine St.rg ?_
      refine St.ev _ (Ev.move (Opd.mk rfl)) rfl ?_
      refine St.ev _ (Ev.add (Opd.mk rfl) (Opd.mk rfl) (by omega)) rfl ?_
      refine St.ev _ (Ev.assign (Opd.mk rfl)) rfl ?_
      refine St.nil ?_
      refine St.then_normal ?_
      refine St.againH2 (i + 1) L2 ⟨by omega, hsp2, segx_end leG_trans hsx (hend) (by omega)⟩ (by first | omega | (dsimp only; omega)) (by repeat (first | exact Sub.nil | refine Sub.cons (by first | rfl | exact congrArg (fun z => some (iv z)) (by first | omega | (dsimp only; omega)) | exact congrArg (fun z => some (Value.bool z)) (by first | assumption | exact Eq.symm (by assumption))) ?_)) (fun _ hw => hw.sub)
  · skip
    try simp only [Bool.and_true, Bool.true_and, decide_eq_true_eq, decide_eq_false_iff_not, Bool.and_eq_true, Bool.or_eq_true, Bool.and_eq_false_iff, Bool.or_eq_false_iff, Bool.not_eq_true', Bool.not_eq_false', beq_iff_eq, beq_eq_false_iff_ne, Int.not_lt, Int.not_le] at h14
    have hfin : SegS leG L a b := hss.sub (Nat.le_refl _) (by omega)
    refine St.exit ?_
    refine St.then_exit ?_
    refine St.then_exit ?_
    refine St.in_hit ?_
    refine St.rets_normal ?_
    refine St.rets [] [row v 58 2 M (rows (gR Str) L), dat (gall strR D)] Tryz.results86 trivial ?_ (fun _ hw => hw.sub)
    exact ⟨L, rfl, hsp, hfin, rfl⟩

end Go.Proofs.YtgikcbfdonjggaaGreatDoor
