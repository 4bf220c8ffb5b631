/-
  Calls that are lent what the caller owns; captured variables as data; parts of slices.
  Conditions: none; everything holds of any program.
-/
import Derived.Test.YteahhholjojfbaaDoorJ6
namespace Go.J
open Go

/-- the variable in block b holds v -/
def cel (b : Nat) (v : Value) : Dat where
  f ρ := ∃ C e fr, ρ b = some (.cells C e fr) ∧ C[0]? = some v
  mono ρ ρ' h := by
    rintro ⟨C, e, fr, h1, h2⟩
    exact ⟨C, e, fr, h _ _ h1, h2⟩

class InCel (b : Nat) (H : List Ent) (v : outParam Value) : Prop where
  mem : dat (cel b v) ∈ H
instance (priority := high) InCel.here (b : Nat) (v : Value) (H : List Ent) : InCel b (dat (cel b v) :: H) v := ⟨List.mem_cons_self ..⟩
instance InCel.there (b : Nat) (v : Value) (E : Ent) (H : List Ent) [h : InCel b H v] : InCel b (E :: H) v := ⟨List.mem_cons_of_mem _ h.mem⟩

instance InDs.map (ds : List Dat) : InDs ds (ds.map dat) := ⟨fun _ h => List.mem_map_of_mem h⟩
instance (priority := low) InDs.lift (ds : List Dat) (E : Ent) (H : List Ent) [h : InDs ds H] : InDs ds (E :: H) := ⟨fun d hd => List.mem_cons_of_mem _ (h.mem d hd)⟩

/-- the whole memory as it is -/
def all (w : World) : Ro := fun k => w.heap[k]?
theorem MmR.le_all {c : Ctx} {H : List Ent} {ρ : Ro} {w : World} (h : MmR c H ρ w) : Ro.le ρ (J.all w) := fun k o hk => h.fits k o hk

/-- what a callee may read: facts, and what the caller owns -/
def Lent (c : Ctx) (H : List Ent) (ds : List Dat) : Prop := ∀ ρ w, MmR c H ρ w → ∀ d ∈ ds, d.f (J.all w)

section
variable {c : Ctx} {H R : List Ent} {ds : List Dat} {v : Value}
theorem Lent.nil : Lent c H [] := fun _ _ _ _ h => by simp at h
theorem Lent.dat {d : Dat} (h : Lent c H ds) [hd : InD d H] : Lent c H (d :: ds) := fun ρ w hm d' hd' => by
  rcases List.mem_cons.1 hd' with rfl | hd'
  · exact d'.mono _ _ hm.le_all (hm.dat hd)
  · exact h ρ w hm d' hd'
theorem Lent.alld [hd : InDs ds H] : Lent c H ds := fun ρ w hm d hd' => d.mono _ _ hm.le_all (dat_ok.1 (hm.ents _ (hd.mem d hd')))
theorem sl_of_row {α : Type} {Rr : Rp α} {xs : List α} {e : TypeId} {m : Nat} {cs : List Value} {w : World} (h : w.ownsRow 0 e Rr.size v m cs) (hcs : cs = rows Rr xs) (hm : m = xs.length) (hwf : ∀ x ∈ xs, Rr.wf x) : (sl Rr v xs).f (J.all w) := by
  subst hcs hm
  rcases h.2 with ⟨rfl, h0⟩ | ⟨g, cap, cur, rfl, _, hg, hc1, hc2, hcs, htk⟩
  · have hx : xs = [] := List.eq_nil_of_length_eq_zero h0
    subst hx
    exact ⟨none, 0, rfl, Nat.le_refl _, by unfold maxLen; omega, fun x hx => by simp at hx, .inl rfl⟩
  · refine ⟨some ⟨g, 0, none⟩, cap, rfl, hc1, hc2, hwf, .inr ⟨g, 0, cur, e, (0, 0), rfl, hg, fun j u hj => ?_⟩⟩
    rw [← htk, List.getElem?_take] at hj
    split at hj
    · simpa using hj
    · simp at hj
theorem Lent.row {α : Type} {Rr : Rp α} {xs : List α} {e : TypeId} {size m : Nat} {cs : List Value} (h : Lent c H ds) [hr : InR v H e size m cs] (hsz : size = Rr.size) (hcs : cs = rows Rr xs) (hm : m = xs.length) (hwf : ∀ x ∈ xs, Rr.wf x) : Lent c H (sl Rr v xs :: ds) := fun ρ w hmm d' hd' => by
  subst hsz
  rcases List.mem_cons.1 hd' with rfl | hd'
  · exact sl_of_row (hmm.row hr) hcs hm hwf
  · exact h ρ w hmm d' hd'
theorem Lent.blk {b : Nat} {u : Value} {e : TypeId} {fr : Nat × Nat} {L : List Value} (h : Lent c H ds) [hb : InB b H (.cells (u :: L).toArray e fr)] : Lent c H (cel b u :: ds) := fun ρ w hmm d' hd' => by
  rcases List.mem_cons.1 hd' with rfl | hd'
  · exact ⟨_, e, fr, blk_ok.1 (hmm.ents _ hb.mem), by simp⟩
  · exact h ρ w hmm d' hd'

/-- an entry that does not hang on what is read only -/
def Solid (H : List Ent) : Prop := ∀ E ∈ H, ∀ ρ ρ' w, E.ok ρ w → E.ok ρ' w
theorem Solid.nil : Solid [] := fun _ h => by simp at h
theorem Solid.row {H : List Ent} {e : TypeId} {size m : Nat} {cs : List Value} (h : Solid H) : Solid (J.row v e size m cs :: H) := fun E hE ρ ρ' w k => by
  rcases List.mem_cons.1 hE with rfl | hE
  · exact row_ok.2 (row_ok.1 k)
  · exact h E hE ρ ρ' w k
theorem Solid.blk {H : List Ent} {b : Nat} {o : Obj} (h : Solid H) : Solid (J.blk b o :: H) := fun E hE ρ ρ' w k => by
  rcases List.mem_cons.1 hE with rfl | hE
  · exact blk_ok.2 (blk_ok.1 k)
  · exact h E hE ρ ρ' w k

theorem owns_dats (ds : List Dat) (b : Nat) : ¬ owns (ds.map dat) b := by
  rintro ⟨E, hE, hb⟩
  obtain ⟨d, _, rfl⟩ := List.mem_map.1 hE
  rw [dat_key] at hb; cases hb

/-- a call over data alone, that is lent what the caller owns -/
theorem Mm.lend {P : Program} {f : FuncId} {args : Array Value} {post : Value → List Ent → Prop} (hc : FnH P f args (ds.map J.dat) post) (hl : Lent c H ds) (hs : ∀ v H', post v H' → Solid H') {w : World} (hm : Mm c H w) :
    Calls P f args w fun e w' => ∃ v H', e = .returned v ∧ post v H' ∧ Mm c (H' ++ H) w' := by
  obtain ⟨ρ, hm⟩ := hm.out
  have st : Start (ds.map J.dat) (J.all w) w :=
    ⟨rfl, rfl, rfl, Nat.le_refl _, fun _ _ _ => rfl, fun _ _ h => h, Ro.le_refl _, fun _ _ _ => rfl, fun E hE => by
        obtain ⟨d, hd, rfl⟩ := List.mem_map.1 hE
        exact dat_ok.2 (hl ρ w hm d hd),
      (fun E hE b hb => by
        obtain ⟨d, hd, rfl⟩ := List.mem_map.1 hE
        rw [dat_key] at hb; cases hb),
      by
        refine List.pairwise_map.2 (List.Pairwise.imp_of_mem (R := fun _ _ => True) ?_ (List.pairwise_of_forall fun _ _ => trivial))
        intro d d' _ _ _ b hb
        rw [dat_key] at hb; cases hb⟩
  refine (hc w (J.all w) st).mono ?_
  rintro e w' ⟨v, H', he, hp, hm'⟩
  obtain ⟨ρ', hm'⟩ := hm'.out
  refine ⟨v, H', he, hp, ?_⟩
  have hold : ∀ k, k < w.heap.size → w'.heap[k]? = w.heap[k]? := fun k hk => hm'.old k hk (owns_dats ds k)
  have hnew : ∀ E ∈ H', ∀ b, E.key = some b → w.heap.size ≤ b := fun E hE b hb => by
    rcases (hm'.own E hE b hb).2 with h1 | h1
    · exact h1
    · exact absurd h1 (owns_dats ds b)
  refine Mm.mk (ρ := ρ) ?_
  have h0 : MmR c ([] ++ H) ρ w := hm
  refine MmR.step h0 ⟨hm'.os, hm'.tape, hm'.output, hm'.size, fun k hk _ => hold k hk, fun k o hk => ?_, Ro.le_refl _, fun _ _ _ => rfl, fun E hE => hs v H' hp E hE ρ' ρ w' (hm'.ents E hE), ?_, hm'.dis⟩
  · rw [hold k (hm.rlt hk)]; exact hm.fits k o hk
  · intro E hE b hb
    refine ⟨?_, .inl (hnew E hE b hb)⟩
    cases hr : ρ b with
    | none => rfl
    | some o => have h1 := hm.rlt hr; have h2 := hnew E hE b hb; omega
end

section
variable {P : Program} {n : Nat} {F : Fr} {A : World → Prop} {c : Ctx} {H R : List Ent} {ty : TypeId} {x y z : Operand} {v : Value} {Q : Exit → Act → World → Prop} {ops : Array Oper} {rest : List Oper}
  {d : Nat} {pos : String} {after : Array Edge} {t e : TypeId}

theorem Ev.ldcel {b : Nat} {u : Value} {dd : TypeDesc} [hc : InCel b H u] (hx : Opd F x (.pointer (some ⟨b, 0, none⟩))) (ht : P.underlying t = some dd) (hk1 : (match dd with | .struct _ | .array _ _ => False | _ => True)) :
    Ev P n F (Mm c H) (.load t x) ty u := .of_run fun a w ha hw => by
  obtain ⟨ρ, hm⟩ := hw.out
  obtain ⟨C, e, fr, h1, h2⟩ := dat_ok.1 (hm.ents _ hc.mem)
  simp [execOp, hx.eval ha, Instr.loadAt, Instr.sureAddr, run_loadVar_one ht hk1 ((cell?_of_blk (hm.fits _ _ h1)).trans h2)]

/-- a call that is lent what the caller owns -/
theorem Ev.callL {f : FuncId} {xs : List Operand} {ats : Array TypeId} {vs : List Value} {ds : List Dat} (hc : FnV P f vs.toArray ds v) (hcb : Callable P f) (hx : Opds F xs vs) (hl : Lent c H ds) :
    Ev P n F (Mm c H) (.call { callee := .value (.func f), args := xs.toArray, argTypes := ats }) ty v := by
  intro a w ha hw
  rw [exec_call (caps := []) hcb (Opds.cons (Opd.mk rfl) hx) ha w]
  simp only [List.append_nil, Oper.quietUpon, true_and]
  refine (Mm.lend (post := fun u H' => u = v ∧ H' = []) (fun w ρ hs => (hc w ρ hs).mono fun e w' ⟨u, H', h1, h2, h3⟩ => ⟨u, [], h1, ⟨h2, rfl⟩, ?_⟩) hl (fun _ _ h => by rw [h.2]; exact Solid.nil) hw).mono ?_
  · obtain ⟨ρ', h3⟩ := h3.out
    exact Mm.mk (MmR.left (L := []) h3)
  · rintro e w' ⟨u, H', rfl, ⟨rfl, rfl⟩, hm⟩
    exact ⟨rfl, hm⟩

theorem Ev.callcL {f : FuncId} {xs : List Operand} {ats : Array TypeId} {vs caps : List Value} {ds : List Dat} (hc : FnV P f (vs ++ caps).toArray ds v) (hcb : Callable P f) (hf : Opd F x (.func (.func f) #[] caps.toArray)) (hx : Opds F xs vs) (hl : Lent c H ds) :
    Ev P n F (Mm c H) (.call { callee := .value x, args := xs.toArray, argTypes := ats }) ty v := by
  intro a w ha hw
  rw [exec_call hcb (Opds.cons hf hx) ha w]
  simp only [Oper.quietUpon, true_and]
  refine (Mm.lend (post := fun u H' => u = v ∧ H' = []) (fun w ρ hs => (hc w ρ hs).mono fun e w' ⟨u, H', h1, h2, h3⟩ => ⟨u, [], h1, ⟨h2, rfl⟩, ?_⟩) hl (fun _ _ h => by rw [h.2]; exact Solid.nil) hw).mono ?_
  · obtain ⟨ρ', h3⟩ := h3.out
    exact Mm.mk (MmR.left (L := []) h3)
  · rintro e w' ⟨u, H', rfl, ⟨rfl, rfl⟩, hm⟩
    exact ⟨rfl, hm⟩

/-- a call with new memory for its result, that is lent what the caller owns -/
theorem St.callL {f : FuncId} {xs : List Operand} {ats : Array TypeId} {vs : List Value} {ds : List Dat} {post : Value → List Ent → Prop} (hc : FnH P f vs.toArray (ds.map dat) post) (hcb : Callable P f) (hx : Opds F xs vs) (hl : Lent c H ds) (hs : ∀ v H', post v H' → Solid H') (hd : Nat.ble (d + 1) n = true)
    (h : ∀ v H', post v H' → St n ((d, v) :: F) (Mm c (H' ++ H)) (wpList P ops Q rest)) :
    St n F (Mm c H) (wpList P ops Q ({ dst := some d, op := .call { callee := .value (.func f), args := xs.toArray, argTypes := ats }, type := ty, pos := pos, after := after, guard := none } :: rest)) := by
  intro a w ha hw
  refine wpList_wp rfl (exec_call_wp (caps := []) hcb (Opds.cons (Opd.mk rfl) hx) ha w ?_)
  simp only [List.append_nil]
  refine (Mm.lend hc hl hs hw).mono ?_
  rintro e w' ⟨u, H', rfl, hp, hm⟩
  exact ⟨u, rfl, h u H' hp _ w' (ha.put (Nat.le_of_ble_eq_true hd) u) hm⟩

/-- a part of a slice: its value -/
@[irreducible] def slv (v : Value) (size l h : Nat) : Value :=
  match v with
  | .slice a _ cap => .slice (if cap = l then a else a.map (·.add (l * size))) (h - l) (cap - l)
  | _ => undef
theorem slv_slice (a : Option Addr) (m cap size l h : Nat) : slv (.slice a m cap) size l h = .slice (if cap = l then a else a.map (·.add (l * size))) (h - l) (cap - l) := by unfold slv; rfl

theorem sl_part {α : Type} {Rr : Rp α} {xs : List α} {l h : Nat} {ρ : Ro} (hs : (sl Rr v xs).f ρ) (hl : l ≤ h) (hh : h ≤ xs.length) : (sl Rr (slv v Rr.size l h) ((xs.drop l).take (h - l))).f ρ := by
  obtain ⟨a, cap, rfl, h2, h3, h4, h5⟩ := hs
  have hlen : ((xs.drop l).take (h - l)).length = h - l := by simp; omega
  refine ⟨if cap = l then a else a.map (·.add (l * Rr.size)), cap - l, by rw [slv_slice, hlen], by omega, by omega, fun x hx => h4 x (List.mem_of_mem_drop (List.mem_of_mem_take hx)), ?_⟩
  by_cases h0 : (xs.drop l).take (h - l) = []
  · exact .inl h0
  · right
    have hlt : l < h := by
      rcases Nat.lt_or_ge l h with h6 | h6
      · exact h6
      · exact absurd (by rw [show h - l = 0 by omega]; rfl) h0
    have hcl : cap ≠ l := by omega
    rcases h5 with rfl | ⟨b, off, C, e, fr, rfl, h6, h7⟩
    · simp at hh; omega
    · refine ⟨b, off + l * Rr.size, C, e, fr, by rw [if_neg hcl]; simp [Addr.add_lit], h6, fun j u hj => ?_⟩
      rw [Nat.add_assoc]
      apply h7
      -- the cells of the part are the cells of the whole, from there on
      have key : ∀ (ys : List α) (l : Nat), l ≤ ys.length → rows Rr ys = rows Rr (ys.take l) ++ rows Rr (ys.drop l) := fun ys l _ => by
        unfold rows; rw [← List.flatMap_append, List.take_append_drop]
      have k1 := key xs l (by omega)
      have k2 := key (xs.drop l) (h - l) (by simp; omega)
      have e1 : (xs.take l).length = l := by simp; omega
      rw [k1, List.getElem?_append_right (by rw [rows_length, e1]; omega), rows_length, k2]
      rw [e1, show l * Rr.size + j - l * Rr.size = j by omega]
      have hjl := (List.getElem?_eq_some_iff.1 hj).1
      rw [List.getElem?_append_left hjl]
      exact hj

theorem St.part {α : Type} {Rr : Rp α} {xs : List α} {T : Act → World → Prop} (v : Value) (l h : Nat) [hd : InS v H α Rr xs] (hl : l ≤ h) (hh : h ≤ xs.length)
    (k : St n F (Mm c (dat (sl Rr (slv v Rr.size l h) ((xs.drop l).take (h - l))) :: H)) T) : St n F (Mm c H) T :=
  St.fact _ (fun _ _ hm => sl_part (hm.sl hd) hl hh) k

/-- 'x[l:h]' of a slice of data -/
theorem Ev.slicesl {α : Type} {Rr : Rp α} {xs : List α} {i j : Int} {l h : Nat} {ki kj : IntKind} {lo hi : Operand} [hd : InS v H α Rr xs] (hx : Opd F x v) (hlo : Opd F lo (.int ki i)) (hhi : Opd F hi (.int kj j)) (ht : P.underlying t = some (.slice e)) (hs : (P.info? e).map (·.size) = some Rr.size)
    (hi' : i = l) (hj : j = h) (hl : l ≤ h) (hh : h ≤ xs.length) : Ev P n F (Mm c H) (.slice t x (some lo) (some hi) none) ty (slv v Rr.size l h) := .of_run fun a w ha hw => by
  obtain ⟨ρ, hm⟩ := hw.out
  obtain ⟨ad, cap, rfl, h2, _⟩ := hm.sl hd
  obtain ⟨inf, hinf, hsz⟩ := Option.map_eq_some_iff.1 hs
  subst hi' hj
  have b1 : (0 : Int) ≤ (h : Int) ∧ (h : Int) ≤ (cap : Int) := by omega
  have b2 : (0 : Int) ≤ (l : Int) ∧ (l : Int) ≤ (h : Int) := by omega
  simp only [execOp, hx.eval ha, hlo.eval ha, hhi.eval ha, Option.map_some, Option.map_none, Instr.sliceAt, Instr.slice, Instr.sliceBounds, Instr.sliceBound, asIntOf, Sem.run_bind, run_underlying ht, Result.andThen_ok, Sem.run_pure, b1, b2, and_self, if_true, Int.toNat_natCast, sizeOf, typeInfo, run_program, hinf, hsz, slv_slice]

/-- 'x[:h]' -/
theorem Ev.slicesl_h {α : Type} {Rr : Rp α} {xs : List α} {j : Int} {h : Nat} {kj : IntKind} {hi : Operand} [hd : InS v H α Rr xs] (hx : Opd F x v) (hhi : Opd F hi (.int kj j)) (ht : P.underlying t = some (.slice e)) (hs : (P.info? e).map (·.size) = some Rr.size)
    (hj : j = h) (hh : h ≤ xs.length) : Ev P n F (Mm c H) (.slice t x none (some hi) none) ty (slv v Rr.size 0 h) := .of_run fun a w ha hw => by
  obtain ⟨ρ, hm⟩ := hw.out
  obtain ⟨ad, cap, rfl, h2, _⟩ := hm.sl hd
  obtain ⟨inf, hinf, hsz⟩ := Option.map_eq_some_iff.1 hs
  subst hj
  have b1 : (0 : Int) ≤ (h : Int) ∧ (h : Int) ≤ (cap : Int) := by omega
  simp only [execOp, hx.eval ha, hhi.eval ha, Option.map_some, Option.map_none, Instr.sliceAt, Instr.slice, Instr.sliceBounds, Instr.sliceBound, asIntOf, Sem.run_bind, run_underlying ht, Result.andThen_ok, Sem.run_pure, b1, and_self, if_true, Int.toNat_natCast, sizeOf, typeInfo, run_program, hinf, hsz, slv_slice]

/-- 'x[l:]' -/
theorem Ev.slicesl_l {α : Type} {Rr : Rp α} {xs : List α} {i : Int} {l : Nat} {ki : IntKind} {lo : Operand} [hd : InS v H α Rr xs] (hx : Opd F x v) (hlo : Opd F lo (.int ki i)) (ht : P.underlying t = some (.slice e)) (hs : (P.info? e).map (·.size) = some Rr.size)
    (hi' : i = l) (hl : l ≤ xs.length) : Ev P n F (Mm c H) (.slice t x (some lo) none none) ty (slv v Rr.size l xs.length) := .of_run fun a w ha hw => by
  obtain ⟨ρ, hm⟩ := hw.out
  obtain ⟨ad, cap, rfl, h2, _⟩ := hm.sl hd
  obtain ⟨inf, hinf, hsz⟩ := Option.map_eq_some_iff.1 hs
  subst hi'
  have b2 : (0 : Int) ≤ (l : Int) ∧ (l : Int) ≤ (xs.length : Int) := by omega
  simp only [execOp, hx.eval ha, hlo.eval ha, Option.map_some, Option.map_none, Instr.sliceAt, Instr.slice, Instr.sliceBounds, Instr.sliceBound, asIntOf, Sem.run_bind, run_underlying ht, Result.andThen_ok, Sem.run_pure, b2, and_self, if_true, Int.toNat_natCast, sizeOf, typeInfo, run_program, hinf, hsz, slv_slice]

def isNil : Value → Bool
  | .slice none _ _ => true
  | _ => false
theorem run_equalIn_slnil (k : Nat) {ad : Option Addr} {m cap : Nat} {w : World} (ht : P.underlying t = some (.slice e)) : (Op.equalIn (k + 1) t (.slice ad m cap) (.slice none 0 0)).run P w = .ok (isNil (.slice ad m cap)) w := by
  cases ad <;> simp [Op.equalIn, run_underlying ht, isNil]
theorem Ev.slnil {ad : Option Addr} {m cap : Nat} {u : TypeId} (hx : Opd F x (.slice ad m cap)) (ht : P.underlying t = some (.slice e)) : Ev P n F A (.binOp .eql t x (.const (.slice none 0 0)) u) ty (.bool (isNil (.slice ad m cap))) := .of_run fun a w ha _ => by
  have h1 := run_equalIn_slnil (P := P) (w := w) 9999 (ad := ad) (m := m) (cap := cap) ht
  have h2 : a.eval (.const (.slice none 0 0)) = .slice none 0 0 := rfl
  simp only [execOp, hx.eval ha, h2, eqGuard_at_slice, binOp, Sem.run_bind, Sem.run_pure, Result.andThen_ok]
  unfold Op.equal Op.maxDepth
  rw [h1]
  rfl

/-- a row's content, said otherwise -/
theorem St.rowEq {size m : Nat} {cs cs' : List Value} {T : Act → World → Prop} (v : Value) [tk : TakeR v H e size m cs R] (h : cs = cs') (k : St n F (Mm c (row v e size m cs' :: R)) T) : St n F (Mm c H) T := by
  subst h
  exact k.weak fun _ hw => let ⟨_, q⟩ := hw.out; Mm.mk (q.perm tk.perm)
theorem St.rowEqN {size m m' : Nat} {cs cs' : List Value} {T : Act → World → Prop} (v : Value) [tk : TakeR v H e size m cs R] (hm : m = m') (h : cs = cs') (k : St n F (Mm c (row v e size m' cs' :: R)) T) : St n F (Mm c H) T := by
  subst h hm
  exact k.weak fun _ hw => let ⟨_, q⟩ := hw.out; Mm.mk (q.perm tk.perm)
theorem rows_set1 {α : Type} {Rr : Rp α} (h1 : Rr.size = 1) {u : Value} {x : α} (hx : Rr.cells x = [u]) : ∀ (xs : List α) (k : Nat), (rows Rr xs).set k u = rows Rr (xs.set k x)
  | [], _ => by simp [rows]
  | y :: xs, 0 => by
    have := Rr.len y
    rw [h1] at this
    obtain ⟨v, hv⟩ : ∃ v, Rr.cells y = [v] := by
      match hc : Rr.cells y, this with
      | [v], _ => exact ⟨v, rfl⟩
    simp [rows, hv, hx]
  | y :: xs, k + 1 => by
    have := Rr.len y
    rw [h1] at this
    obtain ⟨v, hv⟩ : ∃ v, Rr.cells y = [v] := by
      match hc : Rr.cells y, this with
      | [v], _ => exact ⟨v, rfl⟩
    have ih := rows_set1 h1 hx xs k
    simp only [rows, List.flatMap_cons, hv, List.singleton_append, List.set_cons_succ] at ih ⊢
    rw [ih]
theorem rows_snoc {α : Type} (Rr : Rp α) (xs : List α) (x : α) : rows Rr (xs ++ [x]) = rows Rr xs ++ Rr.cells x := by simp [rows]
theorem rows_replicate {α : Type} {Rr : Rp α} {u : Value} {x : α} (hx : Rr.cells x = [u]) (m : Nat) : rows Rr (List.replicate m x) = List.replicate m u := by
  induction m with
  | zero => rfl
  | succ m ih => simp only [List.replicate_succ, rows, List.flatMap_cons, hx, List.singleton_append] at ih ⊢; rw [ih]
end
end Go.J
