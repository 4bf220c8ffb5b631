/-
  Calls that own a part of memory and are lent the rest; tests that part a region; rows that are cut; variables that are read only from here on.
  Conditions: none; everything holds of any program.
-/
import Derived.Test.YteahhholjojfbaaDoorJ7
namespace Go.J
open Go

instance (priority := high) TakeL.self (L : List Ent) : TakeL L L [] := ⟨by simp⟩
instance (priority := low) TakeL.skip (L : List Ent) (E : Ent) (H R : List Ent) [h : TakeL L H R] : TakeL L (E :: H) (E :: R) := ⟨(h.perm.cons E).trans List.perm_middle.symm⟩

open Classical in
/-- the memory as it is, but for what these entries own -/
noncomputable def allBut (L : List Ent) (w : World) : Ro := fun k => if owns L k then none else w.heap[k]?

/-- what a callee that owns L may read besides: out of the rest, R -/
def LentO (c : Ctx) (L R : List Ent) (ds : List Dat) : Prop := ∀ ρ w, MmR c (L ++ R) ρ w → ∀ d ∈ ds, d.f (allBut L w)

section
variable {c : Ctx} {L R : List Ent} {ds : List Dat} {v : Value}
theorem MmR.le_but {ρ : Ro} {w : World} (h : MmR c (L ++ R) ρ w) : Ro.le ρ (allBut L w) := fun k o hk => by
  unfold allBut
  rw [if_neg]
  · exact h.fits k o hk
  · rintro ⟨E, hE, hb⟩
    have := (h.own E (List.mem_append_left _ hE) k hb).1
    rw [hk] at this; cases this
theorem allBut_of {ρ : Ro} {w : World} (h : MmR c (L ++ R) ρ w) {E : Ent} (hE : E ∈ R) {b : Nat} (hb : E.key = some b) : allBut L w b = w.heap[b]? := by
  unfold allBut
  rw [if_neg]
  rintro ⟨E', hE', hb'⟩
  exact (List.pairwise_append.1 h.dis).2.2 E' hE' E hE b hb' hb
theorem LentO.nil : LentO c L R [] := fun _ _ _ _ h => by simp at h
theorem LentO.dat {d : Dat} (h : LentO c L R ds) [hd : InD d R] : LentO c L R (d :: ds) := fun ρ w hm d' hd' => by
  rcases List.mem_cons.1 hd' with rfl | hd'
  · exact d'.mono _ _ hm.le_but (dat_ok.1 (hm.ents _ (List.mem_append_right _ hd.mem)))
  · exact h ρ w hm d' hd'
theorem LentO.alld [hd : InDs ds R] : LentO c L R ds := fun ρ w hm d hd' => d.mono _ _ hm.le_but (dat_ok.1 (hm.ents _ (List.mem_append_right _ (hd.mem d hd'))))
theorem LentO.row {α : Type} {Rr : Rp α} {xs : List α} {e : TypeId} {size m : Nat} {cs : List Value} (h : LentO c L R ds) [hr : InR v R e size m cs] (hsz : size = Rr.size) (hcs : cs = rows Rr xs) (hm : m = xs.length) (hwf : ∀ x ∈ xs, Rr.wf x) : LentO c L R (sl Rr v xs :: ds) := fun ρ w hmm d' hd' => by
  subst hsz
  rcases List.mem_cons.1 hd' with rfl | hd'
  · have hrow := row_ok.1 (hmm.ents _ (List.mem_append_right _ hr.mem))
    obtain ⟨a, cap, h1, h2, h3, h4, h5⟩ := sl_of_row (w := w) hrow hcs hm hwf
    refine ⟨a, cap, h1, h2, h3, h4, ?_⟩
    rcases h5 with h5 | ⟨b, off, C, e', fr, rfl, h6, h7⟩
    · exact .inl h5
    · refine .inr ⟨b, off, C, e', fr, rfl, ?_, h7⟩
      rw [allBut_of hmm hr.mem (b := b) (by rw [row_key, h1]; rfl)]
      exact h6
  · exact h ρ w hmm d' hd'
theorem LentO.blk {b : Nat} {u : Value} {e : TypeId} {fr : Nat × Nat} {l : List Value} (h : LentO c L R ds) [hb : InB b R (.cells (u :: l).toArray e fr)] : LentO c L R (cel b u :: ds) := fun ρ w hmm d' hd' => by
  rcases List.mem_cons.1 hd' with rfl | hd'
  · refine ⟨(u :: l).toArray, e, fr, ?_, rfl⟩
    rw [allBut_of hmm hb.mem (b := b) (blk_key _ _)]
    exact blk_ok.1 (hmm.ents _ (List.mem_append_right _ hb.mem))
  · exact h ρ w hmm d' hd'

/-- a call that owns L and is lent data out of the rest -/
theorem Mm.lendO {P : Program} {f : FuncId} {args : Array Value} {post : Value → List Ent → Prop} (hc : FnH P f args (ds.map J.dat ++ L) post) (hl : LentO c L R ds) (hsL : Solid L) (hs : ∀ v H', post v H' → Solid H') {w : World} (hm : Mm c (L ++ R) w) :
    Calls P f args w fun e w' => ∃ v H', e = .returned v ∧ post v H' ∧ Mm c (H' ++ R) w' := by
  obtain ⟨ρ, hm⟩ := hm.out
  have hown : ∀ b, owns (ds.map J.dat ++ L) b ↔ owns L b := fun b => by
    constructor
    · rintro ⟨E, hE, hb⟩
      rcases List.mem_append.1 hE with hE | hE
      · exact absurd ⟨E, hE, hb⟩ (owns_dats ds b)
      · exact ⟨E, hE, hb⟩
    · rintro ⟨E, hE, hb⟩; exact ⟨E, List.mem_append_right _ hE, hb⟩
  have st : Start (ds.map J.dat ++ L) (allBut L w) w := by
    refine ⟨rfl, rfl, rfl, Nat.le_refl _, fun _ _ _ => rfl, fun k o hk => ?_, Ro.le_refl _, fun _ _ _ => rfl, fun E hE => ?_, fun E hE b hb => ?_, ?_⟩
    · unfold allBut at hk
      split at hk
      · cases hk
      · exact hk
    · rcases List.mem_append.1 hE with hE | hE
      · obtain ⟨d, hd, rfl⟩ := List.mem_map.1 hE
        exact dat_ok.2 (hl ρ w hm d hd)
      · exact hsL E hE ρ _ w (hm.ents E (List.mem_append_left _ hE))
    · have hb' : owns L b := (hown b).1 ⟨E, hE, hb⟩
      exact ⟨by unfold allBut; rw [if_pos hb'], .inr ((hown b).2 hb')⟩
    · refine List.pairwise_append.2 ⟨?_, (List.pairwise_append.1 hm.dis).1, ?_⟩
      · refine List.pairwise_map.2 (List.Pairwise.imp_of_mem (R := fun _ _ => True) ?_ (List.pairwise_of_forall fun _ _ => trivial))
        intro d d' _ _ _ b hb
        rw [dat_key] at hb; cases hb
      · intro E hE E' _ b hb
        obtain ⟨d, _, rfl⟩ := List.mem_map.1 hE
        rw [dat_key] at hb; cases hb
  refine (hc w (allBut L w) st).mono ?_
  rintro e w' ⟨v, H', he, hp, hm'⟩
  obtain ⟨ρ', hm'⟩ := hm'.out
  refine ⟨v, H', he, hp, ?_⟩
  have hold : ∀ k, k < w.heap.size → ¬ owns L k → w'.heap[k]? = w.heap[k]? := fun k hk h => hm'.old k hk (fun h' => h ((hown k).1 h'))
  refine Mm.mk (ρ := ρ) ?_
  refine MmR.step hm ⟨hm'.os, hm'.tape, hm'.output, hm'.size, fun k hk h => hold k hk h, fun k o hk => ?_, Ro.le_refl _, fun _ _ _ => rfl, fun E hE => hs v H' hp E hE ρ' ρ w' (hm'.ents E hE), ?_, hm'.dis⟩
  · rw [hold k (hm.rlt hk)]
    · exact hm.fits k o hk
    · rintro ⟨E, hE, hb⟩
      have := (hm.own E (List.mem_append_left _ hE) k hb).1
      rw [hk] at this; cases this
  · intro E hE b hb
    rcases (hm'.own E hE b hb).2 with h1 | h1
    · refine ⟨?_, .inl h1⟩
      cases hr : ρ b with
      | none => rfl
      | some o => have h2 := hm.rlt hr; simp only at h1; omega
    · have hL := (hown b).1 h1
      obtain ⟨E', hE', hb'⟩ := hL
      exact ⟨(hm.own E' (List.mem_append_left _ hE') b hb').1, .inr ⟨E', hE', hb'⟩⟩
end

section
variable {P : Program} {n : Nat} {F : Fr} {A : World → Prop} {c : Ctx} {H R : List Ent} {ty : TypeId} {x y z : Operand} {v : Value} {Q : Exit → Act → World → Prop} {ops : Array Oper} {rest : List Oper}
  {d : Nat} {pos : String} {after : Array Edge} {t e : TypeId}

/-- a call of a function value that owns L -/
theorem St.callcO {f : FuncId} {xs : List Operand} {ats : Array TypeId} {vs caps : List Value} {ds : List Dat} {L R : List Ent} {post : Value → List Ent → Prop} (hc : FnH P f (vs ++ caps).toArray (ds.map dat ++ L) post) (hcb : Callable P f) (hf : Opd F x (.func (.func f) #[] caps.toArray)) (hx : Opds F xs vs) [tk : TakeL L H R]
    (hl : LentO c L R ds) (hsL : Solid L) (hs : ∀ v H', post v H' → Solid H') (hd : Nat.ble (d + 1) n = true)
    (h : ∀ v H', post v H' → St n ((d, v) :: F) (Mm c (H' ++ R)) (wpList P ops Q rest)) :
    St n F (Mm c H) (wpList P ops Q ({ dst := some d, op := .call { callee := .value x, args := xs.toArray, argTypes := ats }, type := ty, pos := pos, after := after, guard := none } :: rest)) := by
  intro a w ha hw
  refine wpList_wp rfl (exec_call_wp hcb (Opds.cons hf hx) ha w ?_)
  refine (Mm.lendO hc hl hsL hs (hw.take (L := L))).mono ?_
  rintro e w' ⟨u, H', rfl, hp, hm⟩
  exact ⟨u, rfl, h u H' hp _ w' (ha.put (Nat.le_of_ble_eq_true hd) u) hm⟩

theorem St.callO {f : FuncId} {xs : List Operand} {ats : Array TypeId} {vs : List Value} {ds : List Dat} {L R : List Ent} {post : Value → List Ent → Prop} (hc : FnH P f vs.toArray (ds.map dat ++ L) post) (hcb : Callable P f) (hx : Opds F xs vs) [tk : TakeL L H R]
    (hl : LentO c L R ds) (hsL : Solid L) (hs : ∀ v H', post v H' → Solid H') (hd : Nat.ble (d + 1) n = true)
    (h : ∀ v H', post v H' → St n ((d, v) :: F) (Mm c (H' ++ R)) (wpList P ops Q rest)) :
    St n F (Mm c H) (wpList P ops Q ({ dst := some d, op := .call { callee := .value (.func f), args := xs.toArray, argTypes := ats }, type := ty, pos := pos, after := after, guard := none } :: rest)) := by
  intro a w ha hw
  refine wpList_wp rfl (exec_call_wp (caps := []) hcb (Opds.cons (Opd.mk rfl) hx) ha w ?_)
  simp only [List.append_nil]
  refine (Mm.lendO hc hl hsL hs (hw.take (L := L))).mono ?_
  rintro e w' ⟨u, H', rfl, hp, hm⟩
  exact ⟨u, rfl, h u H' hp _ w' (ha.put (Nat.le_of_ble_eq_true hd) u) hm⟩

/-- the two values of a slot's Bool, one by one -/
theorem St.split {T : Act → World → Prop} (k : Nat) (b : Bool) (hk : look F k = some (.bool b)) (ht : b = true → St n ((k, .bool true) :: F) A T) (hf : b = false → St n ((k, .bool false) :: F) A T) : St n F A T := by
  intro a w ha hw
  have key : ∀ u, u = Value.bool b → Has n a ((k, u) :: F) := fun u hu => ⟨ha.size, ha.defers, fun t v hv => by
    simp only [look] at hv
    cases hb : Nat.beq t k with
    | true =>
      have e : t = k := Nat.eq_of_beq_eq_true hb
      subst e
      simp only [hb, cond_true, Option.some.injEq] at hv
      subst hv
      rw [hu]; exact ha.slot _ _ hk
    | false => simp only [hb, cond_false] at hv; exact ha.slot _ _ hv⟩
  cases hb : b with
  | true => exact ht hb a w (key _ (by rw [hb])) hw
  | false => exact hf hb a w (key _ (by rw [hb])) hw

/-- a guarded operation that is not wanted -/
theorem St.skipg {j dj : Nat} {want : Bool} {op : Op} (hj : (ops[j]?).bind (·.dst) = some dj) (hl : look F dj = some (.bool (!want))) (hd : Nat.ble (d + 1) n = true)
    (h : St n ((d, undef) :: F) A (wpList P ops Q rest)) : St n F A (wpList P ops Q ({ dst := some d, op := op, type := ty, pos := pos, after := after, guard := some (j, want) } :: rest)) := by
  intro a w ha hw
  have hwt := wanted_of (l := ops) (c := false) (o := { dst := some d, op := op, type := ty, pos := pos, after := after, guard := some (j, want) }) rfl hj (ha.slot _ _ hl) ⟨(fun h => by cases h), fun _ => .inl rfl⟩
  simp only [wpList, hwt]
  exact h _ w (ha.put (Nat.le_of_ble_eq_true hd) undef) hw
/-- the same where its guard itself was not wanted -/
theorem St.skipu {j dj : Nat} {want : Bool} {op : Op} (hj : (ops[j]?).bind (·.dst) = some dj) (hl : look F dj = some undef) (hd : Nat.ble (d + 1) n = true)
    (h : St n ((d, undef) :: F) A (wpList P ops Q rest)) : St n F A (wpList P ops Q ({ dst := some d, op := op, type := ty, pos := pos, after := after, guard := some (j, want) } :: rest)) := by
  intro a w ha hw
  have hwt := wanted_of (l := ops) (c := false) (o := { dst := some d, op := op, type := ty, pos := pos, after := after, guard := some (j, want) }) rfl hj (ha.slot _ _ hl) ⟨(fun h => by cases h), fun _ => .inr rfl⟩
  simp only [wpList, hwt]
  exact h _ w (ha.put (Nat.le_of_ble_eq_true hd) undef) hw
/-- a guarded operation that is wanted -/
theorem St.takeg {j dj : Nat} {want : Bool} {op : Op} {dd : Option Tmp} (hj : (ops[j]?).bind (·.dst) = some dj) (hl : look F dj = some (.bool want))
    (h : St n F A (wpList P ops Q ({ dst := dd, op := op, type := ty, pos := pos, after := after, guard := none } :: rest))) :
    St n F A (wpList P ops Q ({ dst := dd, op := op, type := ty, pos := pos, after := after, guard := some (j, want) } :: rest)) := by
  intro a w ha hw
  have hwt := wanted_of (l := ops) (c := true) (o := { dst := dd, op := op, type := ty, pos := pos, after := after, guard := some (j, want) }) rfl hj (ha.slot _ _ hl) ⟨fun _ => rfl, (fun h => by cases h)⟩
  have h1 := h a w ha hw
  simp only [wpList, hwt, if_true]
  simp only [wpList, Region.wanted, if_true] at h1
  rcases h1 with h1 | ⟨h1, h2⟩
  · left
    unfold Oper.wp Oper.upon at h1 ⊢
    rw [execOp_bare] at h1 ⊢
    exact h1
  · right
    refine ⟨?_, h2⟩
    unfold Oper.asks at h1 ⊢
    rw [execOp_bare] at h1 ⊢
    exact h1

section rows
variable {size m : Nat} {cs : List Value}
/-- the value of a row is a value of one cell -/
theorem St.rowOne {T : Act → World → Prop} (v : Value) [hr : InR v H e size m cs] (h : v.oneCell' = true → cs.length = m * size → St n F (Mm c H) T) : St n F (Mm c H) T := by
  intro a w ha hw
  obtain ⟨ρ, hm⟩ := hw.out
  have h1 := hm.row hr
  refine h ?_ h1.1 a w ha hw
  rcases h1.2 with ⟨rfl, _⟩ | ⟨g, cap, cur, rfl, _⟩ <;> rfl

/-- 'x[:h]' of a row of the call's own: the value -/
theorem Ev.slicerow_h {j : Int} {h : Nat} {kj : IntKind} {hi : Operand} [hr : InR v H e size m cs] (hx : Opd F x v) (hhi : Opd F hi (.int kj j)) (ht : P.underlying t = some (.slice e)) (hs : (P.info? e).map (·.size) = some size)
    (hj : j = h) (hh : h ≤ m) : Ev P n F (Mm c H) (.slice t x none (some hi) none) ty (slv v size 0 h) := .of_run fun a w ha hw => by
  obtain ⟨ρ, hm⟩ := hw.out
  obtain ⟨inf, hinf, hsz⟩ := Option.map_eq_some_iff.1 hs
  subst hj
  rcases (hm.row hr).2 with ⟨rfl, rfl⟩ | ⟨g, cap, cur, rfl, _, _, hc1, _⟩
  · have b1 : (0 : Int) ≤ (h : Int) ∧ (h : Int) ≤ ((0 : Nat) : Int) := by omega
    simp only [execOp, hx.eval ha, hhi.eval ha, Option.map_some, Option.map_none, Instr.sliceAt, Instr.slice, Instr.sliceBounds, Instr.sliceBound, asIntOf, Sem.run_bind, run_underlying ht, Result.andThen_ok, Sem.run_pure, b1, and_self, if_true, Int.toNat_natCast, sizeOf, typeInfo, run_program, hinf, hsz, slv_slice]
  · have b1 : (0 : Int) ≤ (h : Int) ∧ (h : Int) ≤ (cap : Int) := by omega
    simp only [execOp, hx.eval ha, hhi.eval ha, Option.map_some, Option.map_none, Instr.sliceAt, Instr.slice, Instr.sliceBounds, Instr.sliceBound, asIntOf, Sem.run_bind, run_underlying ht, Result.andThen_ok, Sem.run_pure, b1, and_self, if_true, Int.toNat_natCast, sizeOf, typeInfo, run_program, hinf, hsz, slv_slice]

/-- the row goes by its first h elements -/
theorem St.rowCut {T : Act → World → Prop} (v : Value) (h : Nat) [tk : TakeR v H e size m cs R] (hh : h ≤ m) (k : St n F (Mm c (row (slv v size 0 h) e size h (cs.take (h * size)) :: R)) T) : St n F (Mm c H) T := by
  refine k.weak fun w hw => ?_
  obtain ⟨ρ, hm⟩ := hw.out
  have hm := hm.perm tk.perm
  have hr := row_ok.1 (hm.ents _ (List.mem_cons_self ..))
  have hlen : (cs.take (h * size)).length = h * size := by
    rw [List.length_take, hr.1]
    exact Nat.min_eq_left (Nat.mul_le_mul_right _ hh)
  rcases hr.2 with ⟨rfl, rfl⟩ | ⟨g, cap, cur, rfl, h0, hg, hc1, hc2, hcs, htk⟩
  · have : h = 0 := by omega
    subst this
    refine Mm.mk (hm.alter rfl rfl rfl (Nat.le_refl _) (fun _ _ _ => rfl) (row_ok.2 ⟨hlen, .inl ⟨?_, rfl⟩⟩) (fun b hb => ?_))
    · rw [slv_slice]; simp
    · rw [row_key, slv_slice] at hb; simp [Value.ownBlock] at hb
  · have e1 : slv (.slice (some ⟨g, 0, none⟩) m cap) size 0 h = .slice (some ⟨g, 0, none⟩) h cap := by
      rw [slv_slice]
      simp [Addr.add_zero']
    rw [e1]
    refine Mm.mk (hm.alter rfl rfl rfl (Nat.le_refl _) (fun _ _ _ => rfl) (row_ok.2 ⟨hlen, .inr ⟨g, cap, cur, rfl, h0, hg, by omega, hc2, hcs, ?_⟩⟩) (fun b hb => ?_))
    · rw [← htk, List.take_take, Nat.min_eq_left (Nat.mul_le_mul_right _ hh)]
    · rw [row_key] at hb ⊢; exact .inl hb
end rows

/-- a variable is read only from here on -/
theorem St.publishB {T : Act → World → Prop} (b : Nat) {u : Value} {L : List Value} [tk : TakeB b H (.cells (u :: L).toArray e (0, 0)) R] (h : St n F (Mm c (dat (cel b u) :: R)) T) : St n F (Mm c H) T := by
  refine h.weak fun w hw => ?_
  obtain ⟨ρ, hm⟩ := hw.out
  have hm := hm.perm tk.perm
  have hg := blk_ok.1 (hm.ents _ (List.mem_cons_self ..))
  have hown := hm.own _ (List.mem_cons_self ..) b (blk_key _ _)
  have hgl : b < w.heap.size := (Array.getElem?_eq_some_iff.1 hg).1
  have hd0 := List.pairwise_cons.1 hm.dis
  refine Mm.mk (ρ := fun k => if k = b then some (.cells (u :: L).toArray e (0, 0)) else ρ k) ?_
  have hle : Ro.le ρ (fun k => if k = b then some (.cells (u :: L).toArray e (0, 0)) else ρ k) := by
    intro k o hk
    by_cases e1 : k = b
    · subst e1; rw [hown.1] at hk; cases hk
    · simp only [e1, if_false]; exact hk
  refine MmR.fact ⟨hm.os, hm.tape, hm.output, hm.size, hm.old, ?_, Ro.le_trans hm.le hle, ?_, ?_, ?_, hd0.2⟩ _ ?_
  · intro k o hk
    by_cases e1 : k = b
    · subst e1; simp only [if_true, Option.some.injEq] at hk; subst hk; exact hg
    · simp only [e1, if_false] at hk; exact hm.fits k o hk
  · intro k hk hM
    by_cases e1 : k = b
    · subst e1
      rcases hown.2 with h2 | h2
      · omega
      · exact absurd h2 hM
    · simp only [e1, if_false]; exact hm.new k hk hM
  · intro E hE
    exact E.loc hle (fun _ _ => rfl) (hm.ents E (List.mem_cons_of_mem _ hE))
  · intro E hE b' hb
    have h1 := hm.own E (List.mem_cons_of_mem _ hE) b' hb
    refine ⟨?_, h1.2⟩
    by_cases e1 : b' = b
    · subst e1; exact absurd hb (hd0.1 E hE _ (blk_key _ _))
    · simp only [e1, if_false]; exact h1.1
  · exact ⟨(u :: L).toArray, e, (0, 0), by simp, by simp⟩
end
end Go.J
