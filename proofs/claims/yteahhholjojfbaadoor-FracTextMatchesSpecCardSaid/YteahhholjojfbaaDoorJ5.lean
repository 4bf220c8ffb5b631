/-
  Loops and joins that keep what the frame knows; slices that the call makes, appends to, reads, writes.
  Conditions: none; everything holds of any program.
-/
import Derived.Test.YteahhholjojfbaaDoorJ4
namespace Go.J
open Go

/-- these slots of the frame, as they are -/
def Keep : Fr → Fr → Prop
  | F, F0 => Sub F0 F
theorem Keep.nil {F : Fr} : Keep F [] := trivial
theorem Keep.cons {F F0 : Fr} (k : Nat) {v : Value} (h : look F k = some v) (h' : Keep F F0) : Keep F ((k, v) :: F0) := ⟨h, h'⟩

section
variable {P : Program} {n : Nat} {F F0 : Fr} {A : World → Prop} {c : Ctx} {H R : List Ent} {ty : TypeId} {x y z : Operand} {v : Value} {Q : Exit → Act → World → Prop} {ops : Array Oper} {rest : List Oper}
  {d : Nat} {pos : String} {after : Array Edge} {t e : TypeId}

/-- what a round hands on -/
def Again {ι : Type} (n : Nat) (G : ι → Fr → Fr) (F0 : Fr) (φ : ι → Prop) (μ : ι → Nat) (c : Ctx) (Hf : ι → List Ent) (k : Nat) (a : Act) (w : World) : Prop :=
  ∃ y, μ y < k ∧ Has n a (G y F0) ∧ φ y ∧ Mm c (Hf y) w
/-- what the ways through a piece come to -/
def Met {ι : Type} (n : Nat) (G : ι → Fr → Fr) (F0 : Fr) (φ : ι → Prop) (c : Ctx) (Hf : ι → List Ent) (a : Act) (w : World) : Prop :=
  ∃ y, Has n a (G y F0) ∧ φ y ∧ Mm c (Hf y) w

/-- a loop with its own entries at each head -/
theorem St.loopH {ι : Type} {body : Code} (G : ι → Fr → Fr) (Hf : ι → List Ent) (φ : ι → Prop) (μ : ι → Nat) (x₀ : ι) (_hk : Keep F F0) (h0 : φ x₀) (hF : Sub (G x₀ F0) F) (hH : ∀ w, Mm c H w → Mm c (Hf x₀) w)
    (round : ∀ x, φ x → St n (G x F0) (Mm c (Hf x)) (body.wp P (Exit.then (Again n G F0 φ μ c Hf (μ x)) Q))) :
    St n F (Mm c H) ((Code.loop body).wp P Q) := by
  refine St.loop (fun x => G x F0) (fun x w => φ x ∧ Mm c (Hf x) w) μ x₀ hF (fun w hw => ⟨h0, hH w hw⟩) fun x => ?_
  exact St.and fun hx => round x hx

theorem St.againH {ι : Type} {G : ι → Fr → Fr} {Hf : ι → List Ent} {φ : ι → Prop} {μ : ι → Nat} {k : Nat} (y : ι) (hφ : φ y) (hm : μ y < k) (hF : Sub (G y F0) F) (hA : ∀ w, Mm c H w → Mm c (Hf y) w) :
    St n F (Mm c H) (Again n G F0 φ μ c Hf k) :=
  fun _ w ha hw => ⟨y, hm, ha.sub hF, hφ, hA w hw⟩

/-- a loop that leaves what is owned as it is at each head -/
theorem St.loopS {ι : Type} {body : Code} (G : ι → Fr → Fr) (φ : ι → Prop) (μ : ι → Nat) (x₀ : ι) (hk : Keep F F0) (h0 : φ x₀) (hF : Sub (G x₀ F0) F)
    (round : ∀ x, φ x → St n (G x F0) (Mm c H) (body.wp P (Exit.then (Again n G F0 φ μ c (fun _ => H) (μ x)) Q))) :
    St n F (Mm c H) ((Code.loop body).wp P Q) := St.loopH G (fun _ => H) φ μ x₀ hk h0 hF (fun _ hw => hw) round

theorem St.againS {ι : Type} {G : ι → Fr → Fr} {φ : ι → Prop} {μ : ι → Nat} {k : Nat} {H' : List Ent} (y : ι) (hφ : φ y) (hm : μ y < k) (hF : Sub (G y F0) F) (hA : ∀ w, Mm c H w → Mm c H' w) :
    St n F (Mm c H) (Again n G F0 φ μ c (fun _ => H') k) := St.againH y hφ hm hF hA

/-- the same, with a value that each round makes anew -/
def Again2 {ι κ : Type} (n : Nat) (G : ι → κ → Fr → Fr) (F0 : Fr) (φ : ι → κ → Prop) (μ : ι → κ → Nat) (c : Ctx) (Hf : ι → κ → List Ent) (k : Nat) (a : Act) (w : World) : Prop :=
  ∃ y z, μ y z < k ∧ Has n a (G y z F0) ∧ φ y z ∧ Mm c (Hf y z) w
theorem St.loopH2 {ι κ : Type} {body : Code} (G : ι → κ → Fr → Fr) (Hf : ι → κ → List Ent) (φ : ι → κ → Prop) (μ : ι → κ → Nat) (x₀ : ι) (z₀ : κ) (_hk : Keep F F0) (h0 : φ x₀ z₀) (hF : Sub (G x₀ z₀ F0) F) (hH : ∀ w, Mm c H w → Mm c (Hf x₀ z₀) w)
    (round : ∀ x z, φ x z → St n (G x z F0) (Mm c (Hf x z)) (body.wp P (Exit.then (Again2 n G F0 φ μ c Hf (μ x z)) Q))) :
    St n F (Mm c H) ((Code.loop body).wp P Q) := by
  refine St.loop (ι := ι × κ) (fun x => G x.1 x.2 F0) (fun x w => φ x.1 x.2 ∧ Mm c (Hf x.1 x.2) w) (fun x => μ x.1 x.2) (x₀, z₀) hF (fun w hw => ⟨h0, hH w hw⟩) fun x => ?_
  refine St.and fun hx => fun a w ha hw => wp_mono (round x.1 x.2 hx a w ha hw) ?_
  intro ex a' w' hq
  cases ex with
  | normal => obtain ⟨y, z, h1, h2, h3, h4⟩ := hq; exact ⟨(y, z), h1, h2, h3, h4⟩
  | exit id => exact hq
  | goto l => exact hq
  | ret => exact hq
  | panic ch => exact hq
  | outgrown => exact hq
theorem St.againH2 {ι κ : Type} {G : ι → κ → Fr → Fr} {Hf : ι → κ → List Ent} {φ : ι → κ → Prop} {μ : ι → κ → Nat} {k : Nat} (y : ι) (z : κ) (hφ : φ y z) (hm : μ y z < k) (hF : Sub (G y z F0) F) (hA : ∀ w, Mm c H w → Mm c (Hf y z) w) :
    St n F (Mm c H) (Again2 n G F0 φ μ c Hf k) :=
  fun _ w ha hw => ⟨y, z, hm, ha.sub hF, hφ, hA w hw⟩

/-- the ways through a piece meet again -/
theorem St.join {ι : Type} {p q : Code} (G : ι → Fr → Fr) (Hf : ι → List Ent) (φ : ι → Prop) (_hk : Keep F F0)
    (h1 : St n F (Mm c H) (p.wp P (Exit.then (Met n G F0 φ c Hf) Q))) (h2 : ∀ y, φ y → St n (G y F0) (Mm c (Hf y)) (q.wp P Q)) :
    St n F (Mm c H) ((Code.seq p q).wp P Q) := by
  intro a w ha hw
  refine wp_seq (wp_mono (h1 a w ha hw) ?_)
  intro ex a' w' hq
  cases ex with
  | normal => obtain ⟨y, h3, h4, h5⟩ := hq; exact h2 y h4 a' w' h3 h5
  | exit id => exact hq
  | goto l => exact hq
  | ret => exact hq
  | panic ch => exact hq
  | outgrown => exact hq

theorem St.met {ι : Type} {G : ι → Fr → Fr} {Hf : ι → List Ent} {φ : ι → Prop} (y : ι) (hφ : φ y) (hF : Sub (G y F0) F) (hA : ∀ w, Mm c H w → Mm c (Hf y) w) :
    St n F (Mm c H) (Met n G F0 φ c Hf) :=
  fun _ w ha hw => ⟨y, ha.sub hF, hφ, hA w hw⟩

/-- what the data's own form gives -/
theorem St.wf {α : Type} {Rr : Rp α} {xs : List α} {T : Act → World → Prop} (v : Value) [hd : InS v H α Rr xs] (h : (∀ x ∈ xs, Rr.wf x) → xs.length ≤ 9223372036854775807 → St n F (Mm c H) T) : St n F (Mm c H) T := by
  intro a w ha hw
  obtain ⟨ρ, hm⟩ := hw.out
  obtain ⟨ad, cap, _, h2, h3, h4, _⟩ := hm.sl hd
  exact h h4 (by simp only [maxLen] at h3; omega) a w ha hw

/-- the form of a slice's value -/
theorem St.shape {α : Type} {Rr : Rp α} {xs : List α} {T : Act → World → Prop} (v : Value) [hd : InS v H α Rr xs] (h : ∀ ad cap, v = .slice ad xs.length cap → (ad = none → xs = []) → St n F (Mm c H) T) : St n F (Mm c H) T := by
  intro a w ha hw
  obtain ⟨ρ, hm⟩ := hw.out
  obtain ⟨ad, cap, h1, _, _, _, h5⟩ := hm.sl hd
  refine h ad cap h1 (fun h0 => ?_) a w ha hw
  rcases h5 with h5 | ⟨b, off, C, e, fr, h6, _⟩
  · exact h5
  · rw [h0] at h6; cases h6

/-- an empty row -/
theorem St.nilrow {T : Act → World → Prop} (e : TypeId) (size : Nat) (h : St n F (Mm c (row (.slice none 0 0) e size 0 [] :: H)) T) : St n F (Mm c H) T := by
  refine h.weak fun w hw => ?_
  obtain ⟨ρ, hm⟩ := hw.out
  exact Mm.mk (hm.new1 rfl rfl rfl (Nat.le_refl _) (fun _ _ => rfl) (row_ok.2 (World.ownsRow_nil _ _ _ _)) (fun b hb => by rw [row_key] at hb; simp [Value.ownBlock] at hb))

theorem run_equalIn_bool (k : Nat) {p q : Bool} {w : World} (ht : P.underlying t = some .bool) : (Op.equalIn (k + 1) t (.bool p) (.bool q)).run P w = .ok (p == q) w := by
  simp only [Op.equalIn, Sem.run_bind, run_underlying ht, Result.andThen_ok, Sem.run_pure]
theorem run_equal_bool {p q : Bool} {w : World} (ht : P.underlying t = some .bool) : (Op.equal t (.bool p) (.bool q)).run P w = .ok (p == q) w := by
  have := run_equalIn_bool (P := P) (w := w) 9999 (p := p) (q := q) ht
  unfold Op.equal Op.maxDepth
  exact this
theorem Ev.booleql {p q : Bool} {u : TypeId} (hx : Opd F x (.bool p)) (hy : Opd F y (.bool q)) (ht : P.underlying t = some .bool) : Ev P n F A (.binOp .eql t x y u) ty (.bool (p == q)) := .of_run fun a w ha _ => by
  simp only [execOp, hx.eval ha, hy.eval ha, eqGuard_at_bool, binOp, Sem.run_bind, Sem.run_pure, Result.andThen_ok, run_equal_bool ht]
theorem Ev.boolneq {p q : Bool} {u : TypeId} (hx : Opd F x (.bool p)) (hy : Opd F y (.bool q)) (ht : P.underlying t = some .bool) : Ev P n F A (.binOp .neq t x y u) ty (.bool (!(p == q))) := .of_run fun a w ha _ => by
  simp only [execOp, hx.eval ha, hy.eval ha, eqGuard_at_bool, binOp, Sem.run_bind, Sem.run_pure, Result.andThen_ok, run_equal_bool ht]

section rows
variable {size m k : Nat} {cs : List Value}
theorem MmR.row {H : List Ent} {ρ : Ro} {w : World} (h : MmR c H ρ w) (hr : InR v H e size m cs) : w.ownsRow 0 e size v m cs := row_ok.1 (h.ents _ hr.mem)

theorem Ev.lenrow {e' : TypeId} [hr : InR v H e size m cs] (hx : Opd F x v) (ht : P.underlying t = some (.slice e')) :
    Ev P n F (Mm c H) (.call { callee := .builtin .len, args := #[x], argTypes := #[t] }) ty (iv m) := .of_run fun a w ha hw => by
  obtain ⟨ρ, hm⟩ := hw.out
  rcases (hm.row hr).2 with ⟨rfl, rfl⟩ | ⟨g, cap, cur, rfl, _⟩
  · simp [execOp, resolve, invoke, builtin, hx.eval ha, Builtin.len_, run_underlying ht, goInt]
  · simp [execOp, resolve, invoke, builtin, hx.eval ha, Builtin.len_, run_underlying ht, goInt]

theorem Ev.idxaddrrow {i : Int} {kd : IntKind} [hr : InR v H e size m cs] (hx : Opd F x v) (hy : Opd F y (.int kd i)) (ht : P.underlying t = some (.slice e)) (hs : (P.info? e).map (·.size) = some size)
    (hi : i = k) (hk : k < m) : Ev P n F (Mm c H) (.indexAddr t x y) ty (eptr v size k 0) := .of_run fun a w ha hw => by
  obtain ⟨ρ, hm⟩ := hw.out
  rcases (hm.row hr).2 with ⟨rfl, rfl⟩ | ⟨g, cap, cur, rfl, _⟩
  · omega
  · obtain ⟨inf, hinf, hsz⟩ := Option.map_eq_some_iff.1 hs
    subst hi
    simp [execOp, hx.eval ha, hy.eval ha, Instr.indexAt, asIntOf, run_underlying ht, sizeOf, typeInfo, hinf, hsz, hk, eptr_slice, Addr.add_lit]

theorem row_cell {w : World} (h : w.ownsRow 0 e size v m cs) {k off : Nat} {u : Value} (hk : k < m) (hu : cs[k * size + off]? = some u) :
    ∃ b, eptr v size k off = .pointer (some ⟨b, k * size + off, none⟩) ∧ w.cell? ⟨b, k * size + off, none⟩ = some u ∧ v.ownBlock = some b ∧ w.frozen? ⟨b, k * size + off, none⟩ = false := by
  obtain ⟨hl, h2⟩ := h
  rcases h2 with ⟨rfl, rfl⟩ | ⟨g, cap, cur, rfl, _, hg, hc1, hc2, hcs, htk⟩
  · omega
  · refine ⟨g, by rw [eptr_slice]; simp, ?_, rfl, by simp [World.frozen?, hg]⟩
    rw [cell?_of_blk hg]
    rw [← htk] at hu
    have hlt := (List.getElem?_eq_some_iff.1 hu).1
    rw [List.getElem?_take] at hu
    split at hu
    · simpa using hu
    · simp at hu

theorem Ev.ldrow {off : Nat} {dd : TypeDesc} {u : Value} [hr : InR v H e size m cs] (hx : Opd F x (eptr v size k off)) (ht : P.underlying t = some dd) (hk1 : (match dd with | .struct _ | .array _ _ => False | _ => True))
    (hk : k < m) (hu : cs[k * size + off]? = some u) : Ev P n F (Mm c H) (.load t x) ty u := .of_run fun a w ha hw => by
  obtain ⟨ρ, hm⟩ := hw.out
  obtain ⟨b, h1, h2, _⟩ := row_cell (hm.row hr) hk hu
  rw [h1] at hx
  simp [execOp, hx.eval ha, Instr.loadAt, Instr.sureAddr, run_loadVar_one ht hk1 h2]

theorem Ev.fldrow {off o i : Nat} {s : TypeId} [hr : InR v H e size m cs] (hx : Opd F x (eptr v size k off)) (hk : k < m) (ho : fieldOff P s i = some o) : Ev P n F (Mm c H) (.fieldAddr s x i) ty (eptr v size k (off + o)) := .of_run fun a w ha hw => by
  obtain ⟨ρ, hm⟩ := hw.out
  rcases (hm.row hr).2 with ⟨rfl, rfl⟩ | ⟨g, cap, cur, rfl, _⟩
  · omega
  · rw [eptr_slice] at hx
    simp [execOp, hx.eval ha, run_fieldAt ho, eptr_slice, Addr.add_lit, Nat.add_assoc]

/-- a store of one cell into a row of the call's own -/
theorem St.storerow {off : Nat} {u : Value} [tk : TakeR v H e size m cs R] (hx : Opd F x (eptr v size k off)) (hy : Opd F y u) (hs : (P.info? t).map (·.size) = some 1) (h1 : u.oneCell' = true)
    (hk : k < m) (hoff : off < size) (h : St n F (Mm c (row v e size m (cs.set (k * size + off) u) :: R)) (wpList P ops Q rest)) :
    St n F (Mm c H) (wpList P ops Q ({ dst := none, op := .store t x y, type := ty, pos := pos, after := after, guard := none } :: rest)) := by
  refine St.do_none (K := fun u' H' => H' = row v e size m (cs.set (k * size + off) u) :: R) ?_ ?_
  · intro a w ρ ha hm
    have hm' := hm.perm tk.perm
    have hr := row_ok.1 (hm'.ents _ (List.mem_cons_self ..))
    have hlt : k * size + off < cs.length := by
      rw [hr.1]
      have : (k + 1) * size ≤ m * size := Nat.mul_le_mul_right _ hk
      rw [Nat.add_mul] at this; omega
    obtain ⟨b, h2, h3, h4, h5⟩ := row_cell hr hk (List.getElem?_eq_getElem hlt)
    rw [h2] at hx
    obtain ⟨i, hi, hsz⟩ := Option.map_eq_some_iff.1 hs
    refine ⟨.skip, w.setCell ⟨b, k * size + off, none⟩ u, ρ, _, ?_, ⟨_, .inr ⟨rfl, rfl⟩, rfl⟩, ?_⟩
    · simp [execOp, hx.eval ha, hy.eval ha, Instr.storeAt, Instr.sureAddr, storeVar, sizeOf, typeInfo, hi, hsz, cells_one h1, storeCells, run_store P w _ u _ h1, h3, h5, Addr.add_zero']
    · refine hm'.alter rfl rfl rfl (by simp) (fun j hj hne => ?_) (row_ok.2 ?_) (fun b' hb' => by rw [row_key] at hb' ⊢; exact .inl hb')
      · rw [row_key, h4] at hne
        simp only [World.setCell, Array.getElem?_modify]
        rw [if_neg (fun e => hne (by rw [e]))]
      · obtain ⟨hl, h6⟩ := hr
        refine ⟨by rw [List.length_set]; exact hl, ?_⟩
        rcases h6 with ⟨rfl, rfl⟩ | ⟨g, cap, cur, rfl, hg0, hg, hc1, hc2, hcs, htk⟩
        · omega
        · simp only [Value.ownBlock, Option.some.injEq] at h4
          subst h4
          refine .inr ⟨_, cap, _, rfl, hg0, setCell_blk hg, hc1, hc2, by simp [hcs], ?_⟩
          rw [← htk, Array.toList_setIfInBounds, List.take_set]
  · rintro _ _ rfl
    exact h

theorem zeros_of {i : TypeInfo} {zv : Value} {by_ : Nat} (hs : (P.info? e).map (·.size) = some size) (hz : (P.info? e).bind (·.zero) = some zv) (hb : (P.info? e).map (·.bytes) = some by_) (hi : P.info? e = some i) : i.size = size ∧ i.zero = some zv ∧ i.bytes = by_ := by
  rw [hi] at hs hz hb
  exact ⟨by simpa using hs, by simpa using hz, by simpa using hb⟩

theorem run_append_at {w : World} {i : TypeInfo} {zv : Value} {by_ : Nat} (t ty e : TypeId) (ht : P.underlying t = some (.slice e)) (hi : P.info? e = some i) (hz : i.zero = some zv) (hsize : i.size = size) (hby : i.bytes = by_) (hzs : zv.cells.size = size) (hsz : 0 < size)
    (v : Value) (m : Nat) (cs : List Value) (hown : w.ownsRow 0 e size v m cs) (a : Addr) (k cc : Nat) (news : List Value) (hl : news.length = k * size) (hnews : ∀ j u, news[j]? = some u → w.cell? (a.add j) = some u) (h1 : ∀ u ∈ news, u.oneCell' = true)
    (h63 : m + k ≤ maxLen) (hbytes : (m + k) * by_ ≤ 140737488355328) :
    ∃ v' w', (Builtin.append_ #[t, t] ty #[v, .slice (some a) k cc]).run P w = .ok v' w' ∧ w'.ownsRow 0 e size v' (m + k) (cs ++ news) ∧ w.grownBy w' v.ownBlock ∧
      (v' = .slice none 0 0 ↔ v = .slice none 0 0 ∧ k = 0) ∧ ∀ b, v'.ownBlock = some b → v.ownBlock = some b ∨ w.heap.size ≤ b := by
  subst hsize
  subst hby
  obtain ⟨v', w', hr, h2, h3, h4⟩ := run_append_own (P := P) w 0 t ty e i zv i.size i.bytes ht hi hz rfl rfl hzs hsz v m cs hown a k cc news hl hnews h1 h63 hbytes (Nat.zero_le _)
  refine ⟨v', w', hr, h2, h3, h4, ?_⟩
  rcases hown.2 with ⟨rfl, rfl⟩ | ⟨g, cap, cur, rfl, hbg, hg, hnc, hcm, hcs, htake⟩
  · obtain ⟨v'', w'', hr', h2', _⟩ := run_append_own (P := P) w w.heap.size t ty e i zv i.size i.bytes ht hi hz rfl rfl hzs hsz (.slice none 0 0) 0 cs ⟨hown.1, .inl ⟨rfl, rfl⟩⟩ a k cc news hl hnews h1 h63 hbytes (Nat.le_refl _)
    rw [hr] at hr'
    simp only [Result.ok.injEq] at hr'
    obtain ⟨rfl, rfl⟩ := hr'
    intro b hb
    rcases h2'.2 with ⟨rfl, _⟩ | ⟨g, cap, cur, rfl, hbg, _⟩
    · simp [Value.ownBlock] at hb
    · simp only [Value.ownBlock, Option.some.injEq] at hb
      subst hb
      exact .inr hbg
  · by_cases hroom : m + k ≤ cap
    · have hfit : m * i.size + news.length ≤ cur.size := by rw [hl, hcs, ← Nat.add_mul]; exact Nat.mul_le_mul_right _ hroom
      have hr' := run_append_room (P := P) w t ty e i ht hi g m cap cur hg a k cc news hl hnews h1 hroom hfit
      rw [hr] at hr'
      simp only [Result.ok.injEq] at hr'
      obtain ⟨rfl, rfl⟩ := hr'
      exact fun b hb => .inl hb
    · have holds : ∀ j u, cs[j]? = some u → w.cell? ((⟨g, 0, none⟩ : Addr).add j) = some u := hown.cells (g := g) rfl
      have hr' := run_append_grow (P := P) w t ty e i zv ht hi hz ⟨g, 0, none⟩ m cap cs hown.1 holds a k cc news hl hnews (by omega) (by simp only [maxLen] at h63; omega) (growslice_fits (by omega) hbytes)
      rw [hr] at hr'
      simp only [Result.ok.injEq] at hr'
      obtain ⟨rfl, rfl⟩ := hr'
      intro b hb
      simp only [Value.ownBlock, Option.some.injEq] at hb
      exact .inr (by omega)

/-- append of a row that the call has just built -/
theorem St.appendRow {v2 : Value} {m2 : Nat} {news : List Value} {R1 : List Ent} {zv : Value} {by_ : Nat} [t2 : TakeR v2 H e size m2 news R1] [t1 : TakeR v R1 e size m cs R]
    (hx : Opd F x v) (hy : Opd F y v2) (ht : P.underlying t = some (.slice e)) (hs : (P.info? e).map (·.size) = some size) (hz : (P.info? e).bind (·.zero) = some zv) (hb : (P.info? e).map (·.bytes) = some by_)
    (hone : ∀ u ∈ news, u.oneCell' = true) (hlen : m + m2 ≤ 9223372036854775807) (hroom : (m + m2) * by_ ≤ 140737488355328) (hzs : zv.cells.size = size) (hpos : Nat.ble 1 size = true) (hne : Nat.ble 1 m2 = true) (hd : Nat.ble (d + 1) n = true)
    (h : ∀ v', (v' = .slice none 0 0 ↔ v = .slice none 0 0 ∧ m2 = 0) → St n ((d, v') :: F) (Mm c (row v' e size (m + m2) (cs ++ news) :: R)) (wpList P ops Q rest)) :
    St n F (Mm c H) (wpList P ops Q ({ dst := some d, op := .call { callee := .builtin .append, args := #[x, y], argTypes := #[t, t] }, type := ty, pos := pos, after := after, guard := none } :: rest)) := by
  refine St.do_ (K := fun v' H' => (v' = .slice none 0 0 ↔ v = .slice none 0 0 ∧ m2 = 0) ∧ H' = row v' e size (m + m2) (cs ++ news) :: R) ?_ hd ?_
  · intro a w ρ ha hm
    have hm1 := hm.perm t2.perm
    have hr2 := row_ok.1 (hm1.ents _ (List.mem_cons_self ..))
    have hm2 := hm1.drop.perm t1.perm
    have hr := row_ok.1 (hm2.ents _ (List.mem_cons_self ..))
    have hne' := Nat.le_of_ble_eq_true hne
    obtain ⟨i, hi, hsz⟩ := Option.map_eq_some_iff.1 hs
    obtain ⟨q1, q2, q3⟩ := zeros_of hs hz hb hi
    rcases hr2.2 with ⟨_, rfl⟩ | ⟨g2, cap2, cur2, rfl, _, hg2, hc1, hc2, hcs2, htk2⟩
    · omega
    · obtain ⟨v', w', hrun, how, hgr, hnil, hob⟩ := run_append_at (P := P) (w := w) t ty e ht hi q2 q1 q3 hzs (Nat.le_of_ble_eq_true hpos) v m cs hr ⟨g2, 0, none⟩ m2 cap2 news hr2.1
        (fun j u hj => by
          rw [Addr.add_lit, Nat.zero_add, cell?_of_blk hg2]
          rw [← htk2, List.getElem?_take] at hj
          split at hj
          · simpa using hj
          · simp at hj) hone (by unfold maxLen; omega) hroom
      refine ⟨.value v', w', ρ, _, ?_, ⟨_, .inl rfl, hnil, rfl⟩, ?_⟩
      · simp [execOp, resolve, invoke, builtin, hx.eval ha, hy.eval ha, hrun]
      · refine hm2.alter hgr.os hgr.tape hgr.output hgr.size (fun j hj hne => ?_) (row_ok.2 how) (fun b' hb' => ?_)
        · rw [row_key] at hne; exact hgr.block j hj (fun e => hne e.symm)
        · rw [row_key] at hb' ⊢; exact hob b' hb'
  · rintro _ _ ⟨h1, rfl⟩
    exact h _ h1

/-- append of data: 'append(xs, ys...)' -/
theorem St.appendSl {α : Type} {Rr : Rp α} {xs : List α} {v2 : Value} {zv : Value} {by_ : Nat} [t2 : InS v2 H α Rr xs] [t1 : TakeR v H e Rr.size m cs R]
    (hx : Opd F x v) (hy : Opd F y v2) (ht : P.underlying t = some (.slice e)) (hs : (P.info? e).map (·.size) = some Rr.size) (hz : (P.info? e).bind (·.zero) = some zv) (hb : (P.info? e).map (·.bytes) = some by_)
    (hone : ∀ u ∈ rows Rr xs, u.oneCell' = true) (hlen : m + xs.length ≤ 9223372036854775807) (hroom : (m + xs.length) * by_ ≤ 140737488355328) (hzs : zv.cells.size = Rr.size) (hpos : Nat.ble 1 Rr.size = true) (_hne : True) (hd : Nat.ble (d + 1) n = true)
    (h : ∀ v', (v' = .slice none 0 0 ↔ v = .slice none 0 0 ∧ xs.length = 0) ∨ xs = [] → St n ((d, v') :: F) (Mm c (row v' e Rr.size (m + xs.length) (cs ++ rows Rr xs) :: R)) (wpList P ops Q rest)) :
    St n F (Mm c H) (wpList P ops Q ({ dst := some d, op := .call { callee := .builtin .append, args := #[x, y], argTypes := #[t, t] }, type := ty, pos := pos, after := after, guard := none } :: rest)) := by
  refine St.do_ (K := fun v' H' => ((v' = .slice none 0 0 ↔ v = .slice none 0 0 ∧ xs.length = 0) ∨ xs = []) ∧ H' = row v' e Rr.size (m + xs.length) (cs ++ rows Rr xs) :: R) ?_ hd ?_
  · intro a w ρ ha hm
    obtain ⟨ad, cap, rfl, _, _, _, h5⟩ := hm.sl t2
    have hm2 := hm.perm t1.perm
    have hr := row_ok.1 (hm2.ents _ (List.mem_cons_self ..))
    obtain ⟨i, hi, hsz⟩ := Option.map_eq_some_iff.1 hs
    obtain ⟨q1, q2, q3⟩ := zeros_of hs hz hb hi
    cases hx0 : xs with
    | nil =>
      subst hx0
      have hrun : (Builtin.append_ #[t, t] ty #[v, .slice ad ([] : List α).length cap]).run P w = .ok v w := by
        rcases hr.2 with ⟨rfl, rfl⟩ | ⟨g, cap', cur, rfl, _, hg, hc1, _⟩
        · cases ad <;> simp [Builtin.append_, run_underlying ht, sizeOf, typeInfo, hi, Builtin.lenOf, Builtin.firstCells, loadCells, loadCellsFrom]
        · cases ad <;> simp [Builtin.append_, run_underlying ht, sizeOf, typeInfo, hi, Builtin.lenOf, Builtin.firstCells, loadCells, loadCellsFrom, hc1, storeCells]
      refine ⟨.value v, w, ρ, _, ?_, ⟨_, .inl rfl, .inr rfl, rfl⟩, ?_⟩
      · simp only [execOp, resolve, invoke, builtin, hx.eval ha, hy.eval ha, List.map_toArray, List.map_cons, List.map_nil, Sem.run_bind, Sem.run_pure, Result.andThen_ok]
        rw [hrun]; rfl
      · simpa [rows] using hm2
    | cons x0 xs0 =>
      rcases h5 with h5 | ⟨b, off, C, e', fr, rfl, h6, h7⟩
      · rw [h5] at hx0; cases hx0
      · rw [← hx0]
        obtain ⟨v', w', hrun, how, hgr, hnil, hob⟩ := run_append_at (P := P) (w := w) t ty e ht hi q2 q1 q3 hzs (Nat.le_of_ble_eq_true hpos) v m cs hr ⟨b, off, none⟩ xs.length cap (rows Rr xs) (rows_length Rr xs)
          (fun j u hj => by
            rw [Addr.add_lit, cell?_of_blk (hm.fits _ _ h6)]
            exact h7 j u hj) hone (by unfold maxLen; omega) hroom
        refine ⟨.value v', w', ρ, _, ?_, ⟨_, .inl rfl, .inl hnil, rfl⟩, ?_⟩
        · simp [execOp, resolve, invoke, builtin, hx.eval ha, hy.eval ha, hrun]
        · refine hm2.alter hgr.os hgr.tape hgr.output hgr.size (fun j hj hne => ?_) (row_ok.2 how) (fun b' hb' => ?_)
          · rw [row_key] at hne; exact hgr.block j hj (fun e => hne e.symm)
          · rw [row_key] at hb' ⊢; exact hob b' hb'
  · rintro _ _ ⟨h1, rfl⟩
    exact h _ h1

theorem rows_one {α : Type} (Rr : Rp α) (xs : List α) : ∀ u ∈ rows Rr xs, u.oneCell' = true := by
  intro u hu
  simp only [rows, List.mem_flatMap] at hu
  obtain ⟨x, _, hx⟩ := hu
  exact Rr.one x u hx

/-- 'make([]T, m)' of elements of one cell -/
theorem St.makeSl {zv : Value} {by_ : Nat} {i j : Int} {kl kc : IntKind} {m : Nat} (hx : Opd F x (.int kl i)) (hy : Opd F y (.int kc j)) (ht : P.underlying t = some (.slice e)) (hs : (P.info? e).map (·.size) = some 1) (hz : (P.info? e).bind (·.zero) = some zv) (hb : (P.info? e).map (·.bytes) = some by_)
    (hm : i = m) (hm2 : j = m) (hroom : by_ * m ≤ 281474976710656 ∧ m ≤ 9223372036854775807) (h1 : zv.cells = #[zv]) (hd : Nat.ble (d + 1) n = true)
    (h : ∀ b, St n ((d, .slice (some ⟨b, 0, none⟩) m m) :: F) (Mm c (row (.slice (some ⟨b, 0, none⟩) m m) e 1 m (List.replicate m zv) :: H)) (wpList P ops Q rest)) :
    St n F (Mm c H) (wpList P ops Q ({ dst := some d, op := .makeSlice t x y, type := ty, pos := pos, after := after, guard := none } :: rest)) := by
  subst hm hm2
  refine St.do_ (K := fun u H' => ∃ b, u = .slice (some ⟨b, 0, none⟩) m m ∧ H' = row (.slice (some ⟨b, 0, none⟩) m m) e 1 m (List.replicate m zv) :: H) ?_ hd ?_
  · intro a w ρ ha hmm
    obtain ⟨i, hi, hsz⟩ := Option.map_eq_some_iff.1 hs
    obtain ⟨q1, q2, q3⟩ := zeros_of hs hz hb hi
    have hrun := run_make (P := P) w t e i zv ht hi q2 kl kc m m (by omega) (by omega) (by rw [q3, ← Int.natCast_mul]; exact Int.ofNat_le.2 hroom.1) (by omega)
    have hcells : madeCells zv.cells (m * i.size) = (List.replicate m zv).toArray := by
      rw [q1, h1]
      apply Array.ext
      · simp [madeCells]
      · intro k hk1 hk2
        simp [madeCells, Nat.mod_one]
    simp only [Int.toNat_natCast, hcells] at hrun
    refine ⟨.value (.slice (some ⟨w.heap.size, 0, none⟩) m m), w.alloc (.cells (List.replicate m zv).toArray e), ρ, _, ?_, ⟨_, .inl rfl, _, rfl, rfl⟩, ?_⟩
    · simp [execOp, hx.eval ha, hy.eval ha, hrun]
    · refine hmm.new1 rfl rfl rfl (by simp) (fun k hk => RowKit.Below.heap_alloc w _ k hk) (row_ok.2 ⟨by simp, .inr ⟨w.heap.size, m, _, rfl, Nat.zero_le _, heap_alloc_new w _, Nat.le_refl _, by unfold maxLen; omega, by simp, by simp⟩⟩) ?_
      intro b hb; rw [row_key] at hb; simp [Value.ownBlock] at hb; omega
  · rintro _ _ ⟨b, rfl, rfl⟩
    exact h b

/-- a row is handed on as data: it is read only from here on -/
theorem MmR.publish {α : Type} (Rr : Rp α) (xs : List α) {H : List Ent} {ρ : Ro} {w : World} (h : MmR c (J.row v e Rr.size m cs :: H) ρ w) (hcs : cs = rows Rr xs) (hm : m = xs.length) (hwf : ∀ x ∈ xs, Rr.wf x) : Mm c (J.dat (J.sl Rr v xs) :: H) w := by
  subst hcs hm
  have hr := row_ok.1 (h.ents _ (List.mem_cons_self ..))
  rcases hr.2 with ⟨rfl, h0⟩ | ⟨g, cap, cur, rfl, _, hg, hc1, hc2, hcs, htk⟩
  · have hx : xs = [] := List.eq_nil_of_length_eq_zero h0
    subst hx
    exact Mm.mk (h.drop.fact _ ⟨none, 0, rfl, Nat.le_refl _, by unfold maxLen; omega, fun x hx => by simp at hx, .inl rfl⟩)
  · have hkey : (J.row (Value.slice (some ⟨g, 0, none⟩) xs.length cap) e Rr.size xs.length (rows Rr xs)).key = some g := by rw [row_key]; rfl
    have hown := h.own _ (List.mem_cons_self ..) g hkey
    have hgl : g < w.heap.size := (Array.getElem?_eq_some_iff.1 hg).1
    have hd0 := List.pairwise_cons.1 h.dis
    refine Mm.mk (ρ := fun k => if k = g then some (.cells cur e (0, 0)) else ρ k) ?_
    have hle : Ro.le ρ (fun k => if k = g then some (.cells cur e (0, 0)) else ρ k) := by
      intro k o hk
      by_cases e1 : k = g
      · subst e1; rw [hown.1] at hk; cases hk
      · simp only [e1, if_false]; exact hk
    refine MmR.fact ⟨h.os, h.tape, h.output, h.size, h.old, ?_, Ro.le_trans h.le hle, ?_, ?_, ?_, hd0.2⟩ _ ?_
    · intro k o hk
      by_cases e1 : k = g
      · subst e1; simp only [if_true, Option.some.injEq] at hk; subst hk; exact hg
      · simp only [e1, if_false] at hk; exact h.fits k o hk
    · intro k hk hM
      by_cases e1 : k = g
      · subst e1
        rcases hown.2 with h2 | h2
        · omega
        · exact absurd h2 hM
      · simp only [e1, if_false]; exact h.new k hk hM
    · intro E hE
      exact E.loc hle (fun _ _ => rfl) (h.ents E (List.mem_cons_of_mem _ hE))
    · intro E hE b hb
      have h1 := h.own E (List.mem_cons_of_mem _ hE) b hb
      refine ⟨?_, h1.2⟩
      by_cases e1 : b = g
      · subst e1; exact absurd hb (hd0.1 E hE _ hkey)
      · simp only [e1, if_false]; exact h1.1
    · refine ⟨some ⟨g, 0, none⟩, cap, rfl, hc1, hc2, hwf, ?_⟩
      refine .inr ⟨g, 0, cur, e, (0, 0), rfl, by simp, fun j u hj => ?_⟩
      rw [← htk, List.getElem?_take] at hj
      split at hj
      · simpa using hj
      · simp at hj

theorem St.publish {α : Type} {T : Act → World → Prop} (v : Value) (Rr : Rp α) (xs : List α) [tk : TakeR v H e Rr.size m cs R] (hcs : cs = rows Rr xs) (hm : m = xs.length) (hwf : ∀ x ∈ xs, Rr.wf x)
    (h : St n F (Mm c (dat (sl Rr v xs) :: R)) T) : St n F (Mm c H) T :=
  h.weak fun _ hw => let ⟨_, k⟩ := hw.out; (k.perm tk.perm).publish Rr xs hcs hm hwf

end rows
end
end Go.J
