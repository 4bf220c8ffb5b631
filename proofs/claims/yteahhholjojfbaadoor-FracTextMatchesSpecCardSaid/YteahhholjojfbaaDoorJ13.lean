/-
  Regions that draw their order: operations that keep to what nobody touches may be taken as done at once, in whatever order; only those that change the memory are followed order by order.
  Conditions: none; everything holds of any program. No panic leaves the region's surroundings.
-/
import Derived.Test.YteahhholjojfbaaDoorJ11
namespace Go.J
open Go

section
variable {ι : Type} {P : Program} {C : ι → World → Prop} {ops : Array Oper} {Q : Exit → Act → World → Prop}

/-- whatever order is picked from here on: for all worlds of a class, with the class going along -/
def WR (P : Program) (C : ι → World → Prop) (ops : Array Oper) (Q : Exit → Act → World → Prop) : Nat → Array Bool → Act → ι → Prop
  | 0, listed, a, r => Region.ready .any ops listed = [] ∧ ∀ w, C r w → Q .normal a w
  | fuel + 1, listed, a, r => (Region.ready .any ops listed = [] → ∀ w, C r w → Q .normal a w) ∧
      ∀ i ∈ Region.ready .any ops listed, ∀ w, C r w → wpOp P ops Q i (fun a' w' => ∃ r', C r' w' ∧ WR P C ops Q fuel (listed.setIfInBounds i true) a' r') a w

theorem WR.any : ∀ (fuel : Nat) (listed : Array Bool) (a : Act) (r : ι) (w : World), C r w → WR P C ops Q fuel listed a r → wpAny P .any ops Q fuel listed a w
  | 0, _, _, _, _, hw, h => ⟨h.1, h.2 _ hw⟩
  | fuel + 1, _, _, _, _, hw, h => ⟨fun h0 => h.1 h0 _ hw, fun i hi => wpOp_mono (fun a' w' ⟨r', hr, hk⟩ => WR.any fuel _ a' r' w' hr hk) (h.2 i hi _ hw)⟩

/-- the operation yields v, or is not wanted, whatever the world of whatever class -/
def YS (P : Program) (C : ι → World → Prop) (ops : Array Oper) (o : Oper) (v : Value) (a : Act) : Prop :=
  (Region.wanted o (yielded ops a.tmps) = true ∧ ∀ r w, C r w → o.quietAt P a (C r) w v) ∨ (Region.wanted o (yielded ops a.tmps) = false ∧ v = undef)

theorem YS.of_same {o : Oper} {v : Value} {a a' : Act} (hy : YS P C ops o v a) (he : execOp a'.eval o = execOp a.eval o)
    (hw : Region.wanted o (yielded ops a'.tmps) = Region.wanted o (yielded ops a.tmps)) : YS P C ops o v a' := by
  unfold YS Oper.quietAt at *
  rw [he, hw]
  exact hy

theorem YS.self {i : Nat} {o : Oper} {v : Value} {a : Act} (hi : ops[i]? = some o) (hy : YS P C ops o v a) {K : Act → World → Prop} {r : ι} {w : World} (hw : C r w) (h : ∀ w', C r w' → K (a.put o.dst v) w') : wpOp P ops Q i K a w := by
  have h1 : YieldsIn P ops (C r) o v a := hy.imp (fun ⟨h1, h2⟩ => ⟨h1, h2 r⟩) id
  exact wpOp_of_qOp hw (K := fun a' => a' = a.put o.dst v) (fun a' w' hw' e => by rw [e]; exact h w' hw') (h1.qOp hi rfl)

theorem wpOp_putS {j : Nat} {oi oj : Oper} {v : Value} (hj : ops[j]? = some oj) (hap : oi.apart ops oj = true)
    (hsi : ∀ cs b, oi.op ≠ .select cs b) (hsj : ∀ cs b, oj.op ≠ .select cs b) (hQ : NP Q) {K : Act → World → Prop} {a : Act} {w : World}
    (hy : YS P C ops oi v a) (h : wpOp P ops Q j K (a.put oi.dst v) w) :
    wpOp P ops Q j (fun a' w' => YS P C ops oi v a' ∧ K (a'.put oi.dst v) w') a w := by
  obtain ⟨h1, h2, h3⟩ := Oper.apart_spec hap
  have keep : ∀ u, YS P C ops oi v (a.put oj.dst u) := fun u => hy.of_same (execOp_put (ops := ops) oi hsi a oj.dst u h3) (wanted_put oi a oj.dst u h3)
  have put_defers : ∀ (d : Deferred) (u : Value), ({ a with defers := d :: a.defers } : Act).put oj.dst u = { (a.put oj.dst u) with defers := d :: a.defers } := fun d u => by
    cases oj.dst <;> rfl
  unfold wpOp at *
  simp only [hj] at *
  rw [wanted_put oj a oi.dst v h1] at h
  split
  · rename_i hw
    simp only [hw, if_true] at h
    rcases h with h | ⟨h, hl⟩
    · left
      unfold Oper.wp at *
      rw [execOp_put oj hsj a oi.dst v h1] at h
      generalize (execOp a.eval oj).run P w = r at *
      cases r with
      | ok nx w' =>
        cases nx <;> simp only [Oper.upon] at h ⊢
        case value u => exact ⟨keep u, by rw [← Act.put_comm a v u h2]; exact h⟩
        case skip => exact ⟨keep _, by rw [← Act.put_comm a v undef h2]; exact h⟩
        case defer d =>
          refine ⟨?_, ?_⟩
          · rw [put_defers]; exact (keep undef).of_same rfl rfl
          · have e : ({ (a.put oi.dst v) with defers := d :: (a.put oi.dst v).defers } : Act).put oj.dst undef = (({ a with defers := d :: a.defers } : Act).put oj.dst undef).put oi.dst v := by
              have := Act.put_comm ({ a with defers := d :: a.defers } : Act) v undef h2
              rw [← this]
              cases oi.dst <;> rfl
            rw [← e]; exact h
        case enter f args =>
          refine Calls.mono h fun e w'' he => ?_
          cases e with
          | returned u => exact ⟨keep u, by rw [← Act.put_comm a v u h2]; exact he⟩
          | panicked c => exact (hQ _ _ _ he).elim
          | outgrown => exact he
        case row rw_ args => exact Rows.mono h fun u w'' he => ⟨keep u, by rw [← Act.put_comm a v u h2]; exact he⟩
        all_goals exact h
      | halt x w' =>
        cases x <;> simp only [Oper.upon] at h ⊢
        all_goals first | exact (hQ _ _ _ h).elim | exact h
    · right
      refine ⟨?_, hl⟩
      unfold Oper.asks at *
      rw [execOp_put oj hsj a oi.dst v h1] at h
      exact h
  · rename_i hw
    simp only [hw] at h
    exact ⟨keep _, by rw [← Act.put_comm a v undef h2]; exact h⟩

theorem WR.first {i : Nat} {oi : Oper} {v : Value} (hi : ops[i]? = some oi) (hQ : NP Q) (hsel : ∀ (j : Nat) (o : Oper) cs b, ops[j]? = some o → o.op ≠ .select cs b) :
    ∀ (fuel : Nat) (listed : Array Bool) (a : Act) (r : ι),
      (∀ j oj, ops[j]? = some oj → j ≠ i → listed.getD j true = false → (∀ e ∈ oj.after, Region.binds .any e = true → e.on ≠ i) → oi.apart ops oj = true) →
      i ∈ Region.ready .any ops listed → YS P C ops oi v a →
      WR P C ops Q fuel (listed.setIfInBounds i true) (a.put oi.dst v) r → WR P C ops Q (fuel + 1) listed a r := by
  intro fuel
  induction fuel with
  | zero =>
    intro listed a r _ hr hy H
    refine ⟨fun h => (by rw [h] at hr; cases hr), fun j hj w hw => ?_⟩
    by_cases hji : j = i
    · subst hji; exact hy.self hi hw fun w' hw' => ⟨r, hw', H⟩
    · have := ready_mono hj hji
      rw [H.1] at this
      cases this
  | succ fuel ih =>
    intro listed a r hfree hr hy H
    refine ⟨fun h => (by rw [h] at hr; cases hr), fun j hj w hw => ?_⟩
    by_cases hji : j = i
    · subst hji; exact hy.self hi hw fun w' hw' => ⟨r, hw', H⟩
    · have h1 := H.2 j (ready_mono hj hji) w hw
      obtain ⟨hjun, oj, hoj, hall⟩ := mem_ready.1 hj
      have hnot : ∀ e ∈ oj.after, Region.binds .any e = true → e.on ≠ i := fun e he hb heq => by
        have h1 := hall e he hb
        have h0 := (mem_ready.1 hr).1
        rw [heq] at h1
        rcases Nat.lt_or_ge i listed.size with h' | h'
        · simp [h'] at h0 h1; rw [h0] at h1; cases h1
        · simp [Array.getElem?_eq_none h'] at h1
      have h2 := wpOp_putS hoj (hfree j oj hoj hji hjun hnot) (fun cs b => hsel i oi cs b hi) (fun cs b => hsel j oj cs b hoj) hQ hy h1
      have hfree' : ∀ k ok, ops[k]? = some ok → k ≠ i → (listed.setIfInBounds j true).getD k true = false →
          (∀ e ∈ ok.after, Region.binds .any e = true → e.on ≠ i) → oi.apart ops ok = true := fun k ok hk hki hun hno => by
        refine hfree k ok hk hki ?_ hno
        by_cases hjk : j = k
        · subst hjk; exact hjun
        · rw [getD_set_ne true hjk] at hun; exact hun
      refine wpOp_mono (fun a' w' h3 => ?_) h2
      obtain ⟨h3, r', h4, h5⟩ := h3
      refine ⟨r', h4, ih (listed.setIfInBounds j true) a' r' hfree' (ready_mono hr (Ne.symm hji)) h3 ?_⟩
      rw [Array.setIfInBounds_comm _ _ hji]
      exact h5
end

/-- these blocks are taken out -/
class TakeT (bs : List Nat) (H : List Ent) (r R : outParam (List Ent)) : Prop where
  perm : H.Perm (R ++ r)
instance TakeT.nil (H : List Ent) : TakeT [] H [] H := ⟨by simp⟩
instance TakeT.cons (b : Nat) (bs : List Nat) (H H1 r R : List Ent) (o : Obj) [h : TakeB b H o H1] [k : TakeT bs H1 r R] : TakeT (b :: bs) H (blk b o :: r) R :=
  ⟨(h.perm.trans (k.perm.cons _)).trans List.perm_middle.symm⟩

section app
instance (priority := low) InD.app (d : Dat) (L R : List Ent) [h : InD d L] : InD d (L ++ R) := ⟨List.mem_append_left _ h.mem⟩
instance (priority := low) InDs.app (ds : List Dat) (L R : List Ent) [h : InDs ds L] : InDs ds (L ++ R) := ⟨fun d hd => List.mem_append_left _ (h.mem d hd)⟩
instance (priority := low) InB.app (b : Nat) (o : Obj) (L R : List Ent) [h : InB b L o] : InB b (L ++ R) o := ⟨List.mem_append_left _ h.mem⟩
instance (priority := low) InS.app {α : Type} (v : Value) (Rr : Rp α) (xs : List α) (L R : List Ent) [h : InS v L α Rr xs] : InS v (L ++ R) α Rr xs := ⟨List.mem_append_left _ h.mem⟩
instance (priority := low) InCel.app (b : Nat) (v : Value) (L R : List Ent) [h : InCel b L v] : InCel b (L ++ R) v := ⟨List.mem_append_left _ h.mem⟩
instance (priority := low) InW.app {α : Type} (vs : List OneV) (Rr : Rp α) (xss : List (List α)) (L R : List Ent) [h : InW vs L α Rr xss] : InW vs (L ++ R) α Rr xss := ⟨List.mem_append_left _ h.mem⟩
instance (priority := low) InR.app (v : Value) (e : TypeId) (size n : Nat) (cs : List Value) (L R : List Ent) [h : InR v L e size n cs] : InR v (L ++ R) e size n cs := ⟨List.mem_append_left _ h.mem⟩
end app

/-- the region's rest: Fp is what nobody touches, r what changes -/
def SW (P : Program) (ops : Array Oper) (Q : Exit → Act → World → Prop) (n : Nat) (F : Fr) (c : Ctx) (Fp r : List Ent) (f : Nat) (listed : Array Bool) : Prop :=
  ∀ a, Has n a F → WR P (fun R => Mm c (Fp ++ R)) ops Q f listed a r
/-- what an operation that changes the memory leads to -/
def KW (P : Program) (ops : Array Oper) (Q : Exit → Act → World → Prop) (n : Nat) (c : Ctx) (Fp : List Ent) (f : Nat) (listed : Array Bool) (a : Act) (w : World) : Prop :=
  ∃ F r, Has n a F ∧ Mm c (Fp ++ r) w ∧ SW P ops Q n F c Fp r f listed

section
variable {P : Program} {ops : Array Oper} {Q : Exit → Act → World → Prop} {n : Nat} {F : Fr} {c : Ctx} {H Fp r r' C' : List Ent} {f : Nat} {listed : Array Bool}

theorem St.par {id : Nat} {l : List Oper} (bs : List Nat) [tk : TakeT bs H r Fp] (hm : P.follows .mixedOrders = true)
    (h : SW P l.toArray Q n F c Fp r l.length (Array.replicate l.length false)) : St n F (Mm c H) ((Code.region id l.toArray true).wp P Q) := by
  intro a w ha hw
  refine wp_region_any hm ?_
  have h1 := h a ha
  have h2 : Mm c (Fp ++ r) { w with drawn := w.drawn + 1 } := by
    obtain ⟨ρ, k⟩ := ((Mm.drawn c H) w hw).out
    exact Mm.mk (k.perm tk.perm)
  simpa using WR.any (C := fun R => Mm c (Fp ++ R)) l.length _ a r _ h2 h1

theorem SW.done (hr : Region.ready .any ops listed = []) [ap : App Fp r C'] (h : St n F (Mm c C') (Q .normal)) : SW P ops Q n F c Fp r f listed := by
  intro a ha
  have h1 : ∀ w, Mm c (Fp ++ r) w → Q .normal a w := fun w hw => h a w ha (by rw [← ap.eq]; exact hw)
  cases f with
  | zero => exact ⟨hr, h1⟩
  | succ f => exact ⟨fun _ => h1, fun i hi => by rw [hr] at hi; cases hi⟩

theorem SW.perm {F' : Fr} (hF : Sub F F') (hp : ∀ w, Mm c (Fp ++ r') w → Mm c (Fp ++ r) w) (h : SW P ops Q n F c Fp r (f + 1) listed) : SW P ops Q n F' c Fp r' (f + 1) listed := by
  intro a ha
  have h1 := h a (ha.sub hF)
  exact ⟨fun h0 w hw => h1.1 h0 w (hp w hw), fun i hi w hw => h1.2 i hi w (hp w hw)⟩

theorem SW.turn {F' : Fr} [tk : TakeL Fp H r'] (hF : Sub F' F) (h : SW P ops Q n F' c Fp r' f listed) : St n F (Mm c H) (KW P ops Q n c Fp f listed) :=
  fun _ _ ha hw => ⟨F', r', ha.sub hF, hw.take, h⟩
theorem SW.go [tk : TakeL Fp H r'] (h : SW P ops Q n F c Fp r' f listed) : St n F (Mm c H) (KW P ops Q n c Fp f listed) :=
  fun _ _ ha hw => ⟨F, r', ha, hw.take, h⟩

theorem SW.each [ap : App Fp r C'] (hne : Region.ready .any ops listed ≠ []) (h : ∀ i ∈ Region.ready .any ops listed, St n F (Mm c C') (wpOp P ops Q i (KW P ops Q n c Fp f (listed.setIfInBounds i true)))) : SW P ops Q n F c Fp r (f + 1) listed := by
  intro a ha
  refine ⟨fun h0 => absurd h0 hne, fun i hi w hw => ?_⟩
  refine wpOp_mono ?_ (h i hi a w ha (by rw [← ap.eq]; exact hw))
  rintro a' w' ⟨F', r', h1, h2, h3⟩
  exact ⟨r', h2, h3 a' h1⟩
theorem SW.turn1 {i : Nat} {o : Oper} [ap : App Fp r C'] (hr : Region.ready .any ops listed = [i]) (ho : ops[i]? = some o)
    (h : St n F (Mm c C') (wpList P ops (Exit.then (KW P ops Q n c Fp f (listed.setIfInBounds i true)) Q) [o])) : SW P ops Q n F c Fp r (f + 1) listed :=
  SW.each (by rw [hr]; simp) (by rw [hr]; intro k hk; rw [List.mem_singleton.1 hk]; exact St.one ho h)
theorem SW.turn2 {i j : Nat} {o o' : Oper} [ap : App Fp r C'] (hr : Region.ready .any ops listed = [i, j]) (ho : ops[i]? = some o) (ho' : ops[j]? = some o')
    (h : St n F (Mm c C') (wpList P ops (Exit.then (KW P ops Q n c Fp f (listed.setIfInBounds i true)) Q) [o]))
    (h' : St n F (Mm c C') (wpList P ops (Exit.then (KW P ops Q n c Fp f (listed.setIfInBounds j true)) Q) [o'])) : SW P ops Q n F c Fp r (f + 1) listed :=
  SW.each (by rw [hr]; simp) (by
    rw [hr]; intro k hk
    simp only [List.mem_cons, List.not_mem_nil, or_false] at hk
    rcases hk with rfl | rfl
    · exact St.one ho h
    · exact St.one ho' h')
theorem SW.turn3 {i j k : Nat} {o o' o'' : Oper} [ap : App Fp r C'] (hr : Region.ready .any ops listed = [i, j, k]) (ho : ops[i]? = some o) (ho' : ops[j]? = some o') (ho'' : ops[k]? = some o'')
    (h : St n F (Mm c C') (wpList P ops (Exit.then (KW P ops Q n c Fp f (listed.setIfInBounds i true)) Q) [o]))
    (h' : St n F (Mm c C') (wpList P ops (Exit.then (KW P ops Q n c Fp f (listed.setIfInBounds j true)) Q) [o']))
    (h'' : St n F (Mm c C') (wpList P ops (Exit.then (KW P ops Q n c Fp f (listed.setIfInBounds k true)) Q) [o''])) : SW P ops Q n F c Fp r (f + 1) listed :=
  SW.each (by rw [hr]; simp) (by
    rw [hr]; intro m hm
    simp only [List.mem_cons, List.not_mem_nil, or_false] at hm
    rcases hm with rfl | rfl | rfl
    · exact St.one ho h
    · exact St.one ho' h'
    · exact St.one ho'' h'')

section
variable {d : Nat} {op : Op} {ty : TypeId} {pos : String} {after : Array Edge} {v : Value}
theorem SW.defer (i : Nat) (hQ : NP Q) (hs : Region.noSelect ops = true) (hi : ops[i]? = some { dst := some d, op := op, type := ty, pos := pos, after := after, guard := none }) (hev : ∀ R, Ev P n F (Mm c (Fp ++ R)) op ty v)
    (hr : ((Region.ready .any ops listed).contains i && Region.free .any ops listed i) = true) (hd : Nat.ble (d + 1) n = true)
    (h : SW P ops Q n ((d, v) :: F) c Fp r f (listed.setIfInBounds i true)) : SW P ops Q n F c Fp r (f + 1) listed := by
  intro a ha
  simp only [Bool.and_eq_true] at hr
  refine WR.first (v := v) hi hQ (Region.noSelect_spec hs) f listed a r (Region.free_spec hi hr.2) (by simpa using hr.1) ?_ (h _ (ha.put (Nat.le_of_ble_eq_true hd) v))
  exact .inl ⟨rfl, fun R w hw => (hev R).quietAt ha hw⟩
theorem SW.deferg (i : Nat) {j dj : Nat} {want : Bool} {u : Value} (cd : Bool) (hQ : NP Q) (hs : Region.noSelect ops = true) (hi : ops[i]? = some { dst := some d, op := op, type := ty, pos := pos, after := after, guard := some (j, want) })
    (hj : (ops[j]?).bind (·.dst) = some dj) (hl : look F dj = some u) (hu : (cd = true → u = .bool want) ∧ (cd = false → u = .bool (!want) ∨ u = undef))
    (hev : ∀ R, cd = true → Ev P n F (Mm c (Fp ++ R)) op ty v)
    (hr : ((Region.ready .any ops listed).contains i && Region.free .any ops listed i) = true) (hd : Nat.ble (d + 1) n = true)
    (h : SW P ops Q n ((d, gv cd v) :: F) c Fp r f (listed.setIfInBounds i true)) : SW P ops Q n F c Fp r (f + 1) listed := by
  intro a ha
  simp only [Bool.and_eq_true] at hr
  have hwt := wanted_of (l := ops) (o := { dst := some d, op := op, type := ty, pos := pos, after := after, guard := some (j, want) }) rfl hj (ha.slot _ _ hl) hu
  refine WR.first (v := gv cd v) hi hQ (Region.noSelect_spec hs) f listed a r (Region.free_spec hi hr.2) (by simpa using hr.1) ?_ (h _ (ha.put (Nat.le_of_ble_eq_true hd) _))
  cases hc : cd with
  | true =>
    rw [hc] at hwt
    rw [gv_true rfl]
    exact .inl ⟨hwt, fun R w hw => (hev R hc).quietAt ha hw⟩
  | false =>
    rw [hc] at hwt
    rw [gv_false rfl]
    exact .inr ⟨hwt, rfl⟩
end
section
variable {d : Nat} {op : Op} {ty : TypeId} {pos : String} {after : Array Edge} {dj : Nat} {j : Nat} (i : Nat) (v : Value)
theorem SW.gt {g : Bool} (hQ : NP Q) (hs : Region.noSelect ops = true) (hi : ops[i]? = some { dst := some d, op := op, type := ty, pos := pos, after := after, guard := some (j, true) }) (hj : (ops[j]?).bind (·.dst) = some dj) (hl : look F dj = some (.bool g))
    (hev : ∀ R, g = true → Ev P n F (Mm c (Fp ++ R)) op ty v) (hr : ((Region.ready .any ops listed).contains i && Region.free .any ops listed i) = true) (hd : Nat.ble (d + 1) n = true)
    (h : SW P ops Q n ((d, J.gv g v) :: F) c Fp r f (listed.setIfInBounds i true)) : SW P ops Q n F c Fp r (f + 1) listed := SW.deferg i g hQ hs hi hj hl (gu_t g) hev hr hd h
theorem SW.gf {g : Bool} (hQ : NP Q) (hs : Region.noSelect ops = true) (hi : ops[i]? = some { dst := some d, op := op, type := ty, pos := pos, after := after, guard := some (j, false) }) (hj : (ops[j]?).bind (·.dst) = some dj) (hl : look F dj = some (.bool g))
    (hev : ∀ R, (!g) = true → Ev P n F (Mm c (Fp ++ R)) op ty v) (hr : ((Region.ready .any ops listed).contains i && Region.free .any ops listed i) = true) (hd : Nat.ble (d + 1) n = true)
    (h : SW P ops Q n ((d, J.gv (!g) v) :: F) c Fp r f (listed.setIfInBounds i true)) : SW P ops Q n F c Fp r (f + 1) listed := SW.deferg i (!g) hQ hs hi hj hl (gu_f g) hev hr hd h
theorem SW.gct {cc g : Bool} (hQ : NP Q) (hs : Region.noSelect ops = true) (hi : ops[i]? = some { dst := some d, op := op, type := ty, pos := pos, after := after, guard := some (j, true) }) (hj : (ops[j]?).bind (·.dst) = some dj) (hl : look F dj = some (J.gv cc (.bool g)))
    (hev : ∀ R, (cc && g) = true → Ev P n F (Mm c (Fp ++ R)) op ty v) (hr : ((Region.ready .any ops listed).contains i && Region.free .any ops listed i) = true) (hd : Nat.ble (d + 1) n = true)
    (h : SW P ops Q n ((d, J.gv (cc && g) v) :: F) c Fp r f (listed.setIfInBounds i true)) : SW P ops Q n F c Fp r (f + 1) listed := SW.deferg i (cc && g) hQ hs hi hj hl (gu_ct cc g) hev hr hd h
theorem SW.gcf {cc g : Bool} (hQ : NP Q) (hs : Region.noSelect ops = true) (hi : ops[i]? = some { dst := some d, op := op, type := ty, pos := pos, after := after, guard := some (j, false) }) (hj : (ops[j]?).bind (·.dst) = some dj) (hl : look F dj = some (J.gv cc (.bool g)))
    (hev : ∀ R, (cc && !g) = true → Ev P n F (Mm c (Fp ++ R)) op ty v) (hr : ((Region.ready .any ops listed).contains i && Region.free .any ops listed i) = true) (hd : Nat.ble (d + 1) n = true)
    (h : SW P ops Q n ((d, J.gv (cc && !g) v) :: F) c Fp r f (listed.setIfInBounds i true)) : SW P ops Q n F c Fp r (f + 1) listed := SW.deferg i (cc && !g) hQ hs hi hj hl (gu_cf cc g) hev hr hd h
end
theorem SW.slot (k : Nat) {v : Value} (v' : Value) (hk : look F k = some v) (h : v = v') (hT : SW P ops Q n ((k, v') :: F) c Fp r f listed) : SW P ops Q n F c Fp r f listed := by
  subst h
  refine fun a ha => hT a ⟨ha.size, ha.defers, fun t u hu => ?_⟩
  simp only [look] at hu
  cases hb : Nat.beq t k with
  | true =>
    have e := Nat.eq_of_beq_eq_true hb
    subst e
    simp only [hb, cond_true, Option.some.injEq] at hu
    subst hu
    exact ha.slot _ _ hk
  | false =>
    simp only [hb, cond_false] at hu
    exact ha.slot _ _ hu
theorem Has.swap {a : Act} {k1 k2 : Nat} {v1 v2 : Value} (hne : Nat.beq k1 k2 = false) (h : Has n a ((k1, v1) :: (k2, v2) :: F)) : Has n a ((k2, v2) :: (k1, v1) :: F) := by
  refine ⟨h.size, h.defers, fun t u hu => h.slot t u ?_⟩
  simp only [look] at hu ⊢
  cases hb : Nat.beq t k1 with
  | true =>
    have e := Nat.eq_of_beq_eq_true hb
    subst e
    simp only [hne, cond_false, hb, cond_true] at hu ⊢
    exact hu
  | false =>
    simp only [hb, cond_false] at hu ⊢
    exact hu
/-- two blocks are laid, in either order -/
theorem SW.alloc2 (i j : Nat) {di dj ti tj tyi tyj : Nat} {pi pj : String} {ai aj : Array Edge} {Zi Zj : Array Value} (hr : Region.ready .any ops listed = [i, j])
    (hi : ops[i]? = some { dst := some di, op := .alloc ti, type := tyi, pos := pi, after := ai, guard := none }) (hj : ops[j]? = some { dst := some dj, op := .alloc tj, type := tyj, pos := pj, after := aj, guard := none })
    (hr1 : Region.ready .any ops (listed.setIfInBounds i true) = [j]) (hr2 : Region.ready .any ops (listed.setIfInBounds j true) = [i])
    (hzi : (P.info? ti).bind (fun i => i.zero.map Value.cells) = some Zi) (hzj : (P.info? tj).bind (fun i => i.zero.map Value.cells) = some Zj) (hdi : Nat.ble (di + 1) n = true) (hdj : Nat.ble (dj + 1) n = true) (hne : Nat.beq di dj = false)
    (h : ∀ b b', SW P ops Q n ((dj, .pointer (some ⟨b', 0, none⟩)) :: (di, .pointer (some ⟨b, 0, none⟩)) :: F) c Fp (blk b' (.cells Zj tj (0, 0)) :: blk b (.cells Zi ti (0, 0)) :: r) f ((listed.setIfInBounds i true).setIfInBounds j true)) :
    SW P ops Q n F c Fp r (f + 2) listed := by
  have hij : i ≠ j := by
    rintro rfl
    rw [hi] at hj
    have h9 := congrArg (fun o : Option Oper => o.bind (·.dst)) hj
    simp only [Option.bind_some, Option.some.injEq] at h9
    rw [h9] at hne
    simp at hne
  have hp : ∀ {w : World} {E : Ent} {r : List Ent}, Mm c (E :: (Fp ++ r)) w → Mm c (Fp ++ E :: r) w := fun hw => by
    obtain ⟨ρ, k⟩ := hw.out
    exact Mm.mk (k.perm List.perm_middle.symm)
  haveI app : ∀ r, App Fp r (Fp ++ r) := fun r => ⟨rfl⟩
  refine SW.turn2 hr hi hj ?_ ?_
  · refine St.alloc hzi hdi (fun b => St.nil (St.then_normal fun a w ha hw => ⟨_, blk b (.cells Zi ti (0, 0)) :: r, ha, hp hw, ?_⟩))
    refine SW.turn1 hr1 hj (St.alloc hzj hdj (fun b' => St.nil (St.then_normal fun a w ha hw => ⟨_, _, ha, hp hw, h b b'⟩)))
  · refine St.alloc hzj hdj (fun b' => St.nil (St.then_normal fun a w ha hw => ⟨_, blk b' (.cells Zj tj (0, 0)) :: r, ha, hp hw, ?_⟩))
    refine SW.turn1 hr2 hi (St.alloc hzi hdi (fun b => St.nil (St.then_normal fun a w ha hw => ⟨_, blk b' (.cells Zj tj (0, 0)) :: blk b (.cells Zi ti (0, 0)) :: r, Has.swap hne ha, ?_, ?_⟩)))
    · have h2 := hp hw
      obtain ⟨ρ, k⟩ := h2.out
      exact Mm.mk (k.perm (List.Perm.append_left Fp (List.Perm.swap ..)))
    · rw [Array.setIfInBounds_comm _ _ (Ne.symm hij)]
      exact h b b'
end
/-- a field of a struct value -/
theorem Ev.field1 {P : Program} {n : Nat} {F : Fr} {A : World → Prop} {ty t : TypeId} {x : Operand} {xs : Array Value} {fs : Array Field} {fd : Field} {i : Nat} {v : Value} (hx : Opd F x (.agg xs)) (ht : P.underlying t = some (.struct fs)) (hf : fs[i]? = some fd)
    (hk : (match P.underlying fd.type with | some (.struct _) | some (.array _ _) | none => false | _ => true) = true) (hv : xs[fd.offset]? = some v) : Ev P n F A (.field t x i) ty v := .of_run fun a w ha _ => by
  simp [execOp, hx.eval ha, Instr.field, run_underlying ht, hf, asAgg, part_one hk hv]
end Go.J
