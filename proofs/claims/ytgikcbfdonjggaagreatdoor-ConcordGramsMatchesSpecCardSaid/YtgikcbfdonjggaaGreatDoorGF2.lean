/-
  Several texts in one: YtgikcbfdonjggaaGreatDoorJ13, YtgikcbfdonjggaaGreatDoorJ21, YtgikcbfdonjggaaGreatDoorJ22, YtgikcbfdonjggaaGreatDoorJU, YtgikcbfdonjggaaGreatDoorJP, YtgikcbfdonjggaaGreatDoorWordP, YtgikcbfdonjggaaGreatDoorOrdP, YtgikcbfdonjggaaGreatDoorOrdQ, YtgikcbfdonjggaaGreatDoorOrdR, YtgikcbfdonjggaaGreatDoorFracP, YtgikcbfdonjggaaGreatDoorJ12, YtgikcbfdonjggaaGreatDoorJ20, YtgikcbfdonjggaaGreatDoorFactsC, YtgikcbfdonjggaaGreatDoorC1, YtgikcbfdonjggaaGreatDoorWordK, YtgikcbfdonjggaaGreatDoorWordK2, YtgikcbfdonjggaaGreatDoorLay3, YtgikcbfdonjggaaGreatDoorFactsW, YtgikcbfdonjggaaGreatDoorWordW, YtgikcbfdonjggaaGreatDoorStrO.
  Conditions: none.
-/
import Derived.Test.YtgikcbfdonjggaaGreatDoorGF1
import Derived.MapKept
import Derived.Carry
import Derived.Lib.LaidU8
import Derived.LaidMore
import Derived.Lay
import Derived.OpenShut
import Derived.Stop.Joined
import Derived.Deep.DeepHandedRow
import Derived.Lib.ValidU
import Derived.Lib.RuneCount
import Derived.Lib.IndexAny
import Derived.Lib.TrimUEq
import Derived.Lib.Mul64
import Derived.Shelf.Spec.BitsCarry
import Derived.Laws.IdiomStrings
import Derived.Stop.IfaceNil
import Derived.Below
import Derived.Test.YtgikcbfdonjggaaGreatDoorChecked
import Derived.Shelf.Strings.IndexAnyAll
import Derived.Lib.OthersKept
import Derived.Shelf.Small.Utf8
import Derived.Laws.RangeAny
import Derived.Laws.Cover4
import Derived.Scope
import Derived.Handy
import Derived.Shelf.RegionOpen
import Derived.Shelf.RegionOpenPlain
import Derived.Shelf.Utf8.RuneCount
import Derived.Shelf.Unicode.ValidAny
/-
  (YtgikcbfdonjggaaGreatDoorJ13)
  Regions that draw their order: operations that keep to what nobody touches may be taken as done at once, in whatever order; only those that change the memory are followed order by order.
  Conditions: none; everything holds of any program. No panic leaves the region's surroundings.
-/
namespace Go.J
open Go

section
variable {ι : Type} {P : Program} {C : ι → World → Prop} {ops : Array Oper} {Q : Exit → Act → World → Prop}

/-- whatever order is picked from here on: for all worlds of a class, with the class going along -/
def WR (P : Program) (C : ι → World → Prop) (ops : Array Oper) (Q : Exit → Act → World → Prop) : Nat → Array Bool → Act → ι → Prop
  | 0, listed, a, r => Region.ready .any ops listed = [] ∧ ∀ w, C r w → Q .normal a w
  | fuel + 1, listed, a, r => (Region.ready .any ops listed = [] → ∀ w, C r w → Q .normal a w) ∧
      ∀ i ∈ Region.ready .any ops listed, ∀ w, C r w → wpOp P ops Q i (fun a' w' => ∃ r', C r' w' ∧ WR P C ops Q fuel (listed.setIfInBounds i true) a' r') a w

theorem WR.any : ∀ (fuel : Nat) (listed : Array Bool) (a : Act) (r : ι) (w : World), C r w → WR P C ops Q fuel listed a r → wpAny P .any ops Q fuel listed a w
  | 0, _, _, _, _, hw, h => ⟨h.1, h.2 _ hw⟩
  | fuel + 1, _, _, _, _, hw, h => ⟨fun h0 => h.1 h0 _ hw, fun i hi => wpOp_mono (fun a' w' ⟨r', hr, hk⟩ => WR.any fuel _ a' r' w' hr hk) (h.2 i hi _ hw)⟩

/-- the operation yields v, or is not wanted, whatever the world of whatever class -/
def YS (P : Program) (C : ι → World → Prop) (ops : Array Oper) (o : Oper) (v : Value) (a : Act) : Prop :=
  (Region.wanted o (yielded ops a.tmps) = true ∧ ∀ r w, C r w → o.quietAt P a (C r) w v) ∨ (Region.wanted o (yielded ops a.tmps) = false ∧ v = undef)

theorem YS.of_same {o : Oper} {v : Value} {a a' : Act} (hy : YS P C ops o v a) (he : execOp a'.eval o = execOp a.eval o)
    (hw : Region.wanted o (yielded ops a'.tmps) = Region.wanted o (yielded ops a.tmps)) : YS P C ops o v a' := by
  unfold YS Oper.quietAt at *
  rw [he, hw]
  exact hy

theorem YS.self {i : Nat} {o : Oper} {v : Value} {a : Act} (hi : ops[i]? = some o) (hy : YS P C ops o v a) {K : Act → World → Prop} {r : ι} {w : World} (hw : C r w) (h : ∀ w', C r w' → K (a.put o.dst v) w') : wpOp P ops Q i K a w := by
  have h1 : YieldsIn P ops (C r) o v a := hy.imp (fun ⟨h1, h2⟩ => ⟨h1, h2 r⟩) id
  exact wpOp_of_qOp hw (K := fun a' => a' = a.put o.dst v) (fun a' w' hw' e => by rw [e]; exact h w' hw') (h1.qOp hi rfl)

theorem wpOp_putS {j : Nat} {oi oj : Oper} {v : Value} (hj : ops[j]? = some oj) (hap : oi.apart ops oj = true)
    (hsi : ∀ cs b, oi.op ≠ .select cs b) (hsj : ∀ cs b, oj.op ≠ .select cs b) (hQ : NP Q) {K : Act → World → Prop} {a : Act} {w : World}
    (hy : YS P C ops oi v a) (h : wpOp P ops Q j K (a.put oi.dst v) w) :
    wpOp P ops Q j (fun a' w' => YS P C ops oi v a' ∧ K (a'.put oi.dst v) w') a w := by
  obtain ⟨h1, h2, h3⟩ := Oper.apart_spec hap
  have keep : ∀ u, YS P C ops oi v (a.put oj.dst u) := fun u => hy.of_same (execOp_put (ops := ops) oi hsi a oj.dst u h3) (wanted_put oi a oj.dst u h3)
  have put_defers : ∀ (d : Deferred) (u : Value), ({ a with defers := d :: a.defers } : Act).put oj.dst u = { (a.put oj.dst u) with defers := d :: a.defers } := fun d u => by
    cases oj.dst <;> rfl
  unfold wpOp at *
  simp only [hj] at *
  rw [wanted_put oj a oi.dst v h1] at h
  split
  · rename_i hw
    simp only [hw, if_true] at h
    rcases h with h | ⟨h, hl⟩
    · left
      unfold Oper.wp at *
      rw [execOp_put oj hsj a oi.dst v h1] at h
      generalize (execOp a.eval oj).run P w = r at *
      cases r with
      | ok nx w' =>
        cases nx <;> simp only [Oper.upon] at h ⊢
        case value u => exact ⟨keep u, by rw [← Act.put_comm a v u h2]; exact h⟩
        case skip => exact ⟨keep _, by rw [← Act.put_comm a v undef h2]; exact h⟩
        case defer d =>
          refine ⟨?_, ?_⟩
          · rw [put_defers]; exact (keep undef).of_same rfl rfl
          · have e : ({ (a.put oi.dst v) with defers := d :: (a.put oi.dst v).defers } : Act).put oj.dst undef = (({ a with defers := d :: a.defers } : Act).put oj.dst undef).put oi.dst v := by
              have := Act.put_comm ({ a with defers := d :: a.defers } : Act) v undef h2
              rw [← this]
              cases oi.dst <;> rfl
            rw [← e]; exact h
        case enter f args =>
          refine Calls.mono h fun e w'' he => ?_
          cases e with
          | returned u => exact ⟨keep u, by rw [← Act.put_comm a v u h2]; exact he⟩
          | panicked c => exact (hQ _ _ _ he).elim
          | outgrown => exact he
        case row rw_ args => exact Rows.mono h fun u w'' he => ⟨keep u, by rw [← Act.put_comm a v u h2]; exact he⟩
        all_goals exact h
      | halt x w' =>
        cases x <;> simp only [Oper.upon] at h ⊢
        all_goals first | exact (hQ _ _ _ h).elim | exact h
    · right
      refine ⟨?_, hl⟩
      unfold Oper.asks at *
      rw [execOp_put oj hsj a oi.dst v h1] at h
      exact h
  · rename_i hw
    simp only [hw] at h
    exact ⟨keep _, by rw [← Act.put_comm a v undef h2]; exact h⟩

theorem WR.first {i : Nat} {oi : Oper} {v : Value} (hi : ops[i]? = some oi) (hQ : NP Q) (hsel : ∀ (j : Nat) (o : Oper) cs b, ops[j]? = some o → o.op ≠ .select cs b) :
    ∀ (fuel : Nat) (listed : Array Bool) (a : Act) (r : ι),
      (∀ j oj, ops[j]? = some oj → j ≠ i → listed.getD j true = false → (∀ e ∈ oj.after, Region.binds .any e = true → e.on ≠ i) → oi.apart ops oj = true) →
      i ∈ Region.ready .any ops listed → YS P C ops oi v a →
      WR P C ops Q fuel (listed.setIfInBounds i true) (a.put oi.dst v) r → WR P C ops Q (fuel + 1) listed a r := by
  intro fuel
  induction fuel with
  | zero =>
    intro listed a r _ hr hy H
    refine ⟨fun h => (by rw [h] at hr; cases hr), fun j hj w hw => ?_⟩
    by_cases hji : j = i
    · subst hji; exact hy.self hi hw fun w' hw' => ⟨r, hw', H⟩
    · have := ready_mono hj hji
      rw [H.1] at this
      cases this
  | succ fuel ih =>
    intro listed a r hfree hr hy H
    refine ⟨fun h => (by rw [h] at hr; cases hr), fun j hj w hw => ?_⟩
    by_cases hji : j = i
    · subst hji; exact hy.self hi hw fun w' hw' => ⟨r, hw', H⟩
    · have h1 := H.2 j (ready_mono hj hji) w hw
      obtain ⟨hjun, oj, hoj, hall⟩ := mem_ready.1 hj
      have hnot : ∀ e ∈ oj.after, Region.binds .any e = true → e.on ≠ i := fun e he hb heq => by
        have h1 := hall e he hb
        have h0 := (mem_ready.1 hr).1
        rw [heq] at h1
        rcases Nat.lt_or_ge i listed.size with h' | h'
        · simp [h'] at h0 h1; rw [h0] at h1; cases h1
        · simp [Array.getElem?_eq_none h'] at h1
      have h2 := wpOp_putS hoj (hfree j oj hoj hji hjun hnot) (fun cs b => hsel i oi cs b hi) (fun cs b => hsel j oj cs b hoj) hQ hy h1
      have hfree' : ∀ k ok, ops[k]? = some ok → k ≠ i → (listed.setIfInBounds j true).getD k true = false →
          (∀ e ∈ ok.after, Region.binds .any e = true → e.on ≠ i) → oi.apart ops ok = true := fun k ok hk hki hun hno => by
        refine hfree k ok hk hki ?_ hno
        by_cases hjk : j = k
        · subst hjk; exact hjun
        · rw [getD_set_ne true hjk] at hun; exact hun
      refine wpOp_mono (fun a' w' h3 => ?_) h2
      obtain ⟨h3, r', h4, h5⟩ := h3
      refine ⟨r', h4, ih (listed.setIfInBounds j true) a' r' hfree' (ready_mono hr (Ne.symm hji)) h3 ?_⟩
      rw [Array.setIfInBounds_comm _ _ hji]
      exact h5
end

/-- these blocks are taken out -/
class TakeT (bs : List Nat) (H : List Ent) (r R : outParam (List Ent)) : Prop where
  perm : H.Perm (R ++ r)
instance TakeT.nil (H : List Ent) : TakeT [] H [] H := ⟨by simp⟩
instance TakeT.cons (b : Nat) (bs : List Nat) (H H1 r R : List Ent) (o : Obj) [h : TakeB b H o H1] [k : TakeT bs H1 r R] : TakeT (b :: bs) H (blk b o :: r) R :=
  ⟨(h.perm.trans (k.perm.cons _)).trans List.perm_middle.symm⟩

section app
instance (priority := low) InD.app (d : Dat) (L R : List Ent) [h : InD d L] : InD d (L ++ R) := ⟨List.mem_append_left _ h.mem⟩
instance (priority := low) InDs.app (ds : List Dat) (L R : List Ent) [h : InDs ds L] : InDs ds (L ++ R) := ⟨fun d hd => List.mem_append_left _ (h.mem d hd)⟩
instance (priority := low) InB.app (b : Nat) (o : Obj) (L R : List Ent) [h : InB b L o] : InB b (L ++ R) o := ⟨List.mem_append_left _ h.mem⟩
instance (priority := low) InS.app {α : Type} (v : Value) (Rr : Rp α) (xs : List α) (L R : List Ent) [h : InS v L α Rr xs] : InS v (L ++ R) α Rr xs := ⟨List.mem_append_left _ h.mem⟩
instance (priority := low) InCel.app (b : Nat) (v : Value) (L R : List Ent) [h : InCel b L v] : InCel b (L ++ R) v := ⟨List.mem_append_left _ h.mem⟩
instance (priority := low) InW.app {α : Type} (vs : List OneV) (Rr : Rp α) (xss : List (List α)) (L R : List Ent) [h : InW vs L α Rr xss] : InW vs (L ++ R) α Rr xss := ⟨List.mem_append_left _ h.mem⟩
instance (priority := low) InR.app (v : Value) (e : TypeId) (size n : Nat) (cs : List Value) (L R : List Ent) [h : InR v L e size n cs] : InR v (L ++ R) e size n cs := ⟨List.mem_append_left _ h.mem⟩
end app

/-- the region's rest: Fp is what nobody touches, r what changes -/
def SW (P : Program) (ops : Array Oper) (Q : Exit → Act → World → Prop) (n : Nat) (F : Fr) (c : Ctx) (Fp r : List Ent) (f : Nat) (listed : Array Bool) : Prop :=
  ∀ a, Has n a F → WR P (fun R => Mm c (Fp ++ R)) ops Q f listed a r
/-- what an operation that changes the memory leads to -/
def KW (P : Program) (ops : Array Oper) (Q : Exit → Act → World → Prop) (n : Nat) (c : Ctx) (Fp : List Ent) (f : Nat) (listed : Array Bool) (a : Act) (w : World) : Prop :=
  ∃ F r, Has n a F ∧ Mm c (Fp ++ r) w ∧ SW P ops Q n F c Fp r f listed

section
variable {P : Program} {ops : Array Oper} {Q : Exit → Act → World → Prop} {n : Nat} {F : Fr} {c : Ctx} {H Fp r r' C' : List Ent} {f : Nat} {listed : Array Bool}

theorem St.par {id : Nat} {l : List Oper} (bs : List Nat) [tk : TakeT bs H r Fp] (hm : P.follows .mixedOrders = true)
    (h : SW P l.toArray Q n F c Fp r l.length (Array.replicate l.length false)) : St n F (Mm c H) ((Code.region id l.toArray true).wp P Q) := by
  intro a w ha hw
  refine wp_region_any hm ?_
  have h1 := h a ha
  have h2 : Mm c (Fp ++ r) { w with drawn := w.drawn + 1 } := by
    obtain ⟨ρ, k⟩ := ((Mm.drawn c H) w hw).out
    exact Mm.mk (k.perm tk.perm)
  simpa using WR.any (C := fun R => Mm c (Fp ++ R)) l.length _ a r _ h2 h1

theorem SW.done (hr : Region.ready .any ops listed = []) [ap : App Fp r C'] (h : St n F (Mm c C') (Q .normal)) : SW P ops Q n F c Fp r f listed := by
  intro a ha
  have h1 : ∀ w, Mm c (Fp ++ r) w → Q .normal a w := fun w hw => h a w ha (by rw [← ap.eq]; exact hw)
  cases f with
  | zero => exact ⟨hr, h1⟩
  | succ f => exact ⟨fun _ => h1, fun i hi => by rw [hr] at hi; cases hi⟩

theorem SW.perm {F' : Fr} (hF : Sub F F') (hp : ∀ w, Mm c (Fp ++ r') w → Mm c (Fp ++ r) w) (h : SW P ops Q n F c Fp r (f + 1) listed) : SW P ops Q n F' c Fp r' (f + 1) listed := by
  intro a ha
  have h1 := h a (ha.sub hF)
  exact ⟨fun h0 w hw => h1.1 h0 w (hp w hw), fun i hi w hw => h1.2 i hi w (hp w hw)⟩

theorem SW.turn {F' : Fr} [tk : TakeL Fp H r'] (hF : Sub F' F) (h : SW P ops Q n F' c Fp r' f listed) : St n F (Mm c H) (KW P ops Q n c Fp f listed) :=
  fun _ _ ha hw => ⟨F', r', ha.sub hF, hw.take, h⟩
theorem SW.go [tk : TakeL Fp H r'] (h : SW P ops Q n F c Fp r' f listed) : St n F (Mm c H) (KW P ops Q n c Fp f listed) :=
  fun _ _ ha hw => ⟨F, r', ha, hw.take, h⟩

theorem SW.each [ap : App Fp r C'] (hne : Region.ready .any ops listed ≠ []) (h : ∀ i ∈ Region.ready .any ops listed, St n F (Mm c C') (wpOp P ops Q i (KW P ops Q n c Fp f (listed.setIfInBounds i true)))) : SW P ops Q n F c Fp r (f + 1) listed := by
  intro a ha
  refine ⟨fun h0 => absurd h0 hne, fun i hi w hw => ?_⟩
  refine wpOp_mono ?_ (h i hi a w ha (by rw [← ap.eq]; exact hw))
  rintro a' w' ⟨F', r', h1, h2, h3⟩
  exact ⟨r', h2, h3 a' h1⟩
theorem SW.turn1 {i : Nat} {o : Oper} [ap : App Fp r C'] (hr : Region.ready .any ops listed = [i]) (ho : ops[i]? = some o)
    (h : St n F (Mm c C') (wpList P ops (Exit.then (KW P ops Q n c Fp f (listed.setIfInBounds i true)) Q) [o])) : SW P ops Q n F c Fp r (f + 1) listed :=
  SW.each (by rw [hr]; simp) (by rw [hr]; intro k hk; rw [List.mem_singleton.1 hk]; exact St.one ho h)
theorem SW.turn2 {i j : Nat} {o o' : Oper} [ap : App Fp r C'] (hr : Region.ready .any ops listed = [i, j]) (ho : ops[i]? = some o) (ho' : ops[j]? = some o')
    (h : St n F (Mm c C') (wpList P ops (Exit.then (KW P ops Q n c Fp f (listed.setIfInBounds i true)) Q) [o]))
    (h' : St n F (Mm c C') (wpList P ops (Exit.then (KW P ops Q n c Fp f (listed.setIfInBounds j true)) Q) [o'])) : SW P ops Q n F c Fp r (f + 1) listed :=
  SW.each (by rw [hr]; simp) (by
    rw [hr]; intro k hk
    simp only [List.mem_cons, List.not_mem_nil, or_false] at hk
    rcases hk with rfl | rfl
    · exact St.one ho h
    · exact St.one ho' h')
theorem SW.turn3 {i j k : Nat} {o o' o'' : Oper} [ap : App Fp r C'] (hr : Region.ready .any ops listed = [i, j, k]) (ho : ops[i]? = some o) (ho' : ops[j]? = some o') (ho'' : ops[k]? = some o'')
    (h : St n F (Mm c C') (wpList P ops (Exit.then (KW P ops Q n c Fp f (listed.setIfInBounds i true)) Q) [o]))
    (h' : St n F (Mm c C') (wpList P ops (Exit.then (KW P ops Q n c Fp f (listed.setIfInBounds j true)) Q) [o']))
    (h'' : St n F (Mm c C') (wpList P ops (Exit.then (KW P ops Q n c Fp f (listed.setIfInBounds k true)) Q) [o''])) : SW P ops Q n F c Fp r (f + 1) listed :=
  SW.each (by rw [hr]; simp) (by
    rw [hr]; intro m hm
    simp only [List.mem_cons, List.not_mem_nil, or_false] at hm
    rcases hm with rfl | rfl | rfl
    · exact St.one ho h
    · exact St.one ho' h'
    · exact St.one ho'' h'')

section
variable {d : Nat} {op : Op} {ty : TypeId} {pos : String} {after : Array Edge} {v : Value}
theorem SW.defer (i : Nat) (hQ : NP Q) (hs : Region.noSelect ops = true) (hi : ops[i]? = some { dst := some d, op := op, type := ty, pos := pos, after := after, guard := none }) (hev : ∀ R, Ev P n F (Mm c (Fp ++ R)) op ty v)
    (hr : ((Region.ready .any ops listed).contains i && Region.free .any ops listed i) = true) (hd : Nat.ble (d + 1) n = true)
    (h : SW P ops Q n ((d, v) :: F) c Fp r f (listed.setIfInBounds i true)) : SW P ops Q n F c Fp r (f + 1) listed := by
  intro a ha
  simp only [Bool.and_eq_true] at hr
  refine WR.first (v := v) hi hQ (Region.noSelect_spec hs) f listed a r (Region.free_spec hi hr.2) (by simpa using hr.1) ?_ (h _ (ha.put (Nat.le_of_ble_eq_true hd) v))
  exact .inl ⟨rfl, fun R w hw => (hev R).quietAt ha hw⟩
theorem SW.deferg (i : Nat) {j dj : Nat} {want : Bool} {u : Value} (cd : Bool) (hQ : NP Q) (hs : Region.noSelect ops = true) (hi : ops[i]? = some { dst := some d, op := op, type := ty, pos := pos, after := after, guard := some (j, want) })
    (hj : (ops[j]?).bind (·.dst) = some dj) (hl : look F dj = some u) (hu : (cd = true → u = .bool want) ∧ (cd = false → u = .bool (!want) ∨ u = undef))
    (hev : ∀ R, cd = true → Ev P n F (Mm c (Fp ++ R)) op ty v)
    (hr : ((Region.ready .any ops listed).contains i && Region.free .any ops listed i) = true) (hd : Nat.ble (d + 1) n = true)
    (h : SW P ops Q n ((d, gv cd v) :: F) c Fp r f (listed.setIfInBounds i true)) : SW P ops Q n F c Fp r (f + 1) listed := by
  intro a ha
  simp only [Bool.and_eq_true] at hr
  have hwt := wanted_of (l := ops) (o := { dst := some d, op := op, type := ty, pos := pos, after := after, guard := some (j, want) }) rfl hj (ha.slot _ _ hl) hu
  refine WR.first (v := gv cd v) hi hQ (Region.noSelect_spec hs) f listed a r (Region.free_spec hi hr.2) (by simpa using hr.1) ?_ (h _ (ha.put (Nat.le_of_ble_eq_true hd) _))
  cases hc : cd with
  | true =>
    rw [hc] at hwt
    rw [gv_true rfl]
    exact .inl ⟨hwt, fun R w hw => (hev R hc).quietAt ha hw⟩
  | false =>
    rw [hc] at hwt
    rw [gv_false rfl]
    exact .inr ⟨hwt, rfl⟩
end
section
variable {d : Nat} {op : Op} {ty : TypeId} {pos : String} {after : Array Edge} {dj : Nat} {j : Nat} (i : Nat) (v : Value)
theorem SW.gt {g : Bool} (hQ : NP Q) (hs : Region.noSelect ops = true) (hi : ops[i]? = some { dst := some d, op := op, type := ty, pos := pos, after := after, guard := some (j, true) }) (hj : (ops[j]?).bind (·.dst) = some dj) (hl : look F dj = some (.bool g))
    (hev : ∀ R, g = true → Ev P n F (Mm c (Fp ++ R)) op ty v) (hr : ((Region.ready .any ops listed).contains i && Region.free .any ops listed i) = true) (hd : Nat.ble (d + 1) n = true)
    (h : SW P ops Q n ((d, J.gv g v) :: F) c Fp r f (listed.setIfInBounds i true)) : SW P ops Q n F c Fp r (f + 1) listed := SW.deferg i g hQ hs hi hj hl (gu_t g) hev hr hd h
theorem SW.gf {g : Bool} (hQ : NP Q) (hs : Region.noSelect ops = true) (hi : ops[i]? = some { dst := some d, op := op, type := ty, pos := pos, after := after, guard := some (j, false) }) (hj : (ops[j]?).bind (·.dst) = some dj) (hl : look F dj = some (.bool g))
    (hev : ∀ R, (!g) = true → Ev P n F (Mm c (Fp ++ R)) op ty v) (hr : ((Region.ready .any ops listed).contains i && Region.free .any ops listed i) = true) (hd : Nat.ble (d + 1) n = true)
    (h : SW P ops Q n ((d, J.gv (!g) v) :: F) c Fp r f (listed.setIfInBounds i true)) : SW P ops Q n F c Fp r (f + 1) listed := SW.deferg i (!g) hQ hs hi hj hl (gu_f g) hev hr hd h
theorem SW.gct {cc g : Bool} (hQ : NP Q) (hs : Region.noSelect ops = true) (hi : ops[i]? = some { dst := some d, op := op, type := ty, pos := pos, after := after, guard := some (j, true) }) (hj : (ops[j]?).bind (·.dst) = some dj) (hl : look F dj = some (J.gv cc (.bool g)))
    (hev : ∀ R, (cc && g) = true → Ev P n F (Mm c (Fp ++ R)) op ty v) (hr : ((Region.ready .any ops listed).contains i && Region.free .any ops listed i) = true) (hd : Nat.ble (d + 1) n = true)
    (h : SW P ops Q n ((d, J.gv (cc && g) v) :: F) c Fp r f (listed.setIfInBounds i true)) : SW P ops Q n F c Fp r (f + 1) listed := SW.deferg i (cc && g) hQ hs hi hj hl (gu_ct cc g) hev hr hd h
theorem SW.gcf {cc g : Bool} (hQ : NP Q) (hs : Region.noSelect ops = true) (hi : ops[i]? = some { dst := some d, op := op, type := ty, pos := pos, after := after, guard := some (j, false) }) (hj : (ops[j]?).bind (·.dst) = some dj) (hl : look F dj = some (J.gv cc (.bool g)))
    (hev : ∀ R, (cc && !g) = true → Ev P n F (Mm c (Fp ++ R)) op ty v) (hr : ((Region.ready .any ops listed).contains i && Region.free .any ops listed i) = true) (hd : Nat.ble (d + 1) n = true)
    (h : SW P ops Q n ((d, J.gv (cc && !g) v) :: F) c Fp r f (listed.setIfInBounds i true)) : SW P ops Q n F c Fp r (f + 1) listed := SW.deferg i (cc && !g) hQ hs hi hj hl (gu_cf cc g) hev hr hd h
end
theorem SW.slot (k : Nat) {v : Value} (v' : Value) (hk : look F k = some v) (h : v = v') (hT : SW P ops Q n ((k, v') :: F) c Fp r f listed) : SW P ops Q n F c Fp r f listed := by
  subst h
  refine fun a ha => hT a ⟨ha.size, ha.defers, fun t u hu => ?_⟩
  simp only [look] at hu
  cases hb : Nat.beq t k with
  | true =>
    have e := Nat.eq_of_beq_eq_true hb
    subst e
    simp only [hb, cond_true, Option.some.injEq] at hu
    subst hu
    exact ha.slot _ _ hk
  | false =>
    simp only [hb, cond_false] at hu
    exact ha.slot _ _ hu
theorem Has.swap {a : Act} {k1 k2 : Nat} {v1 v2 : Value} (hne : Nat.beq k1 k2 = false) (h : Has n a ((k1, v1) :: (k2, v2) :: F)) : Has n a ((k2, v2) :: (k1, v1) :: F) := by
  refine ⟨h.size, h.defers, fun t u hu => h.slot t u ?_⟩
  simp only [look] at hu ⊢
  cases hb : Nat.beq t k1 with
  | true =>
    have e := Nat.eq_of_beq_eq_true hb
    subst e
    simp only [hne, cond_false, hb, cond_true] at hu ⊢
    exact hu
  | false =>
    simp only [hb, cond_false] at hu ⊢
    exact hu
/-- two blocks are laid, in either order -/
theorem SW.alloc2 (i j : Nat) {di dj ti tj tyi tyj : Nat} {pi pj : String} {ai aj : Array Edge} {Zi Zj : Array Value} (hr : Region.ready .any ops listed = [i, j])
    (hi : ops[i]? = some { dst := some di, op := .alloc ti, type := tyi, pos := pi, after := ai, guard := none }) (hj : ops[j]? = some { dst := some dj, op := .alloc tj, type := tyj, pos := pj, after := aj, guard := none })
    (hr1 : Region.ready .any ops (listed.setIfInBounds i true) = [j]) (hr2 : Region.ready .any ops (listed.setIfInBounds j true) = [i])
    (hzi : (P.info? ti).bind (fun i => i.zero.map Value.cells) = some Zi) (hzj : (P.info? tj).bind (fun i => i.zero.map Value.cells) = some Zj) (hdi : Nat.ble (di + 1) n = true) (hdj : Nat.ble (dj + 1) n = true) (hne : Nat.beq di dj = false)
    (h : ∀ b b', SW P ops Q n ((dj, .pointer (some ⟨b', 0, none⟩)) :: (di, .pointer (some ⟨b, 0, none⟩)) :: F) c Fp (blk b' (.cells Zj tj (0, 0)) :: blk b (.cells Zi ti (0, 0)) :: r) f ((listed.setIfInBounds i true).setIfInBounds j true)) :
    SW P ops Q n F c Fp r (f + 2) listed := by
  have hij : i ≠ j := by
    rintro rfl
    rw [hi] at hj
    have h9 := congrArg (fun o : Option Oper => o.bind (·.dst)) hj
    simp only [Option.bind_some, Option.some.injEq] at h9
    rw [h9] at hne
    simp at hne
  have hp : ∀ {w : World} {E : Ent} {r : List Ent}, Mm c (E :: (Fp ++ r)) w → Mm c (Fp ++ E :: r) w := fun hw => by
    obtain ⟨ρ, k⟩ := hw.out
    exact Mm.mk (k.perm List.perm_middle.symm)
  haveI app : ∀ r, App Fp r (Fp ++ r) := fun r => ⟨rfl⟩
  refine SW.turn2 hr hi hj ?_ ?_
  · refine St.alloc hzi hdi (fun b => St.nil (St.then_normal fun a w ha hw => ⟨_, blk b (.cells Zi ti (0, 0)) :: r, ha, hp hw, ?_⟩))
    refine SW.turn1 hr1 hj (St.alloc hzj hdj (fun b' => St.nil (St.then_normal fun a w ha hw => ⟨_, _, ha, hp hw, h b b'⟩)))
  · refine St.alloc hzj hdj (fun b' => St.nil (St.then_normal fun a w ha hw => ⟨_, blk b' (.cells Zj tj (0, 0)) :: r, ha, hp hw, ?_⟩))
    refine SW.turn1 hr2 hi (St.alloc hzi hdi (fun b => St.nil (St.then_normal fun a w ha hw => ⟨_, blk b' (.cells Zj tj (0, 0)) :: blk b (.cells Zi ti (0, 0)) :: r, Has.swap hne ha, ?_, ?_⟩)))
    · have h2 := hp hw
      obtain ⟨ρ, k⟩ := h2.out
      exact Mm.mk (k.perm (List.Perm.append_left Fp (List.Perm.swap ..)))
    · rw [Array.setIfInBounds_comm _ _ (Ne.symm hij)]
      exact h b b'
end
/-- a field of a struct value -/
theorem Ev.field1 {P : Program} {n : Nat} {F : Fr} {A : World → Prop} {ty t : TypeId} {x : Operand} {xs : Array Value} {fs : Array Field} {fd : Field} {i : Nat} {v : Value} (hx : Opd F x (.agg xs)) (ht : P.underlying t = some (.struct fs)) (hf : fs[i]? = some fd)
    (hk : (match P.underlying fd.type with | some (.struct _) | some (.array _ _) | none => false | _ => true) = true) (hv : xs[fd.offset]? = some v) : Ev P n F A (.field t x i) ty v := .of_run fun a w ha _ => by
  simp [execOp, hx.eval ha, Instr.field, run_underlying ht, hf, asAgg, part_one hk hv]
theorem FnV.body5 {P : Program} {f : FuncId} {fn : Func} {cd : Code} {args : List Value} {u : Value} {d1 d2 d3 d4 d5 : Dat} (n : Nat)
    (hf : P.funcs[f]? = some fn) (hb : fn.body = some cd) (hn : fn.ntmps = n) (hargs : Nat.ble args.length n = true)
    (h : ∀ c : Ctx, St n (argF 0 args) (Mm c [dat d1, dat d2, dat d3, dat d4, dat d5]) (cd.wp P (bodyPost P fn fun e w' => ∃ v H', e = .returned v ∧ v = u ∧ Mm c H' w'))) : FnV P f args.toArray [d1, d2, d3, d4, d5] u := FnH.body n hf hb hn hargs h
end Go.J

/-
  (YtgikcbfdonjggaaGreatDoorJ21)
  Maps of the call's own: the block holds the entries in the order in which they came; what a look-up yields, what a store makes of it.
  Conditions: keys are whole numbers or texts; none is taken out.
-/
namespace Go.J
open Go

/-- keys of a map -/
structure MK (κ : Type) where
  enc : κ → Value
  kd : TypeDesc
  same : ∀ a b : κ, ∀ [DecidableEq κ], Instr.sameNow kd (enc a) (enc b) = some (decide (a = b))
  key : ∀ a, MapKept.IsKey kd (enc a)
  bits : ∀ a, Instr.sameBits 10000 (enc a) (enc a) = true

def mkInt : MK Int := ⟨fun i => iv i, .int .i64, fun a b _ => by simp only [Instr.sameNow, if_true, Option.some.injEq]; rw [Bool.eq_iff_iff]; simp, fun a => by simp [MapKept.IsKey], fun a => by simp [Instr.sameBits]⟩
def mkStr : MK Str := ⟨fun s => sv s, .string, fun a b _ => by
    simp only [Instr.sameNow, Option.some.injEq]; rw [Bool.eq_iff_iff, MapKept.bytes_beq]; simp, fun a => by simp [MapKept.IsKey], fun a => by simp only [Instr.sameBits]; exact (MapKept.bytes_beq _ _).2 rfl⟩

section assoc
variable {κ : Type} [DecidableEq κ]
/-- what stands under a key -/
def mget : List (κ × Value) → κ → Option Value
  | [], _ => none
  | p :: l, k => if k = p.1 then some p.2 else mget l k
/-- a value laid under a key -/
def mset : List (κ × Value) → κ → Value → List (κ × Value)
  | [], k, v => [(k, v)]
  | p :: l, k, v => if k = p.1 then (k, v) :: l else p :: mset l k v
theorem mget_set (l : List (κ × Value)) (k : κ) (v : Value) (k' : κ) : mget (mset l k v) k' = if k' = k then some v else mget l k' := by
  induction l with
  | nil => simp [mset, mget]
  | cons p l ih =>
    unfold mset
    by_cases h : k = p.1
    · rw [if_pos h]
      simp only [mget]
      by_cases h2 : k' = k
      · rw [if_pos h2, if_pos h2]
      · rw [if_neg h2, if_neg h2, if_neg (by rw [← h]; exact h2)]
    · rw [if_neg h]
      simp only [mget, ih]
      by_cases h2 : k' = p.1
      · rw [if_pos h2, if_pos h2, if_neg (fun e => h (by rw [← e, h2]))]
      · rw [if_neg h2, if_neg h2]
theorem mset_length (l : List (κ × Value)) (k : κ) (v : Value) : (mset l k v).length ≤ l.length + 1 := by
  induction l with
  | nil => simp [mset]
  | cons p l ih =>
    unfold mset
    split
    · simp
    · simp only [List.length_cons]; omega
end assoc

section
variable {κ : Type} [DecidableEq κ]
/-- the entries from place i on -/
def ments (K : MK κ) : List (κ × Value) → Nat → List MapEntry
  | [], _ => []
  | p :: l, i => ⟨K.enc p.1, p.2, i⟩ :: ments K l (i + 1)
def mobj (K : MK κ) (l : List (κ × Value)) : Obj := .map (ments K l 0).toArray l.length
omit [DecidableEq κ] in
theorem ments_length (K : MK κ) : ∀ (l : List (κ × Value)) (i : Nat), (ments K l i).length = l.length
  | [], _ => rfl
  | p :: l, i => by simp [ments, ments_length K l]
/-- the place of a key -/
def mat : List (κ × Value) → κ → Nat → Option (Nat × Value)
  | [], _, _ => none
  | p :: l, k, i => if k = p.1 then some (i, p.2) else mat l k (i + 1)
theorem mat_get (l : List (κ × Value)) (k : κ) (i : Nat) : (mat l k i).map (·.2) = mget l k := by
  induction l generalizing i with
  | nil => rfl
  | cons p l ih => simp only [mat, mget]; split
                   · rfl
                   · exact ih _
theorem findNow_ments (K : MK κ) (k : κ) : ∀ (l : List (κ × Value)) (i c : Nat), Instr.findNow K.kd (K.enc k) (ments K l i) c = some (mat l k c)
  | [], i, c => rfl
  | p :: l, i, c => by
    simp only [ments, Instr.findNow, K.same k p.1, mat]
    by_cases h : k = p.1
    · simp [h]
    · simp only [h, decide_false, if_false]
      exact findNow_ments K k l _ _
omit [DecidableEq κ] in
theorem ments_snoc (K : MK κ) (k : κ) (v : Value) : ∀ (l : List (κ × Value)) (i : Nat), ments K (l ++ [(k, v)]) i = ments K l i ++ [⟨K.enc k, v, i + l.length⟩]
  | [], i => by simp [ments]
  | p :: l, i => by simp only [List.cons_append, ments, ments_snoc K k v l (i + 1), List.length_cons]; congr 4; omega
theorem mset_none {l : List (κ × Value)} {k : κ} {v : Value} {c : Nat} (h : mat l k c = none) : mset l k v = l ++ [(k, v)] := by
  induction l generalizing c with
  | nil => rfl
  | cons p l ih =>
    simp only [mat] at h
    split at h
    · cases h
    · rename_i h1; unfold mset; rw [if_neg h1, ih h]; rfl
theorem mset_some {K : MK κ} {k : κ} {v u : Value} : ∀ {l : List (κ × Value)} {c j : Nat} (i : Nat), mat l k c = some (j, u) → c ≤ j ∧ j - c < l.length ∧ ((ments K l i)[j - c]?).map (·.key) = some (K.enc k) ∧
    ments K (mset l k v) i = (ments K l i).modify (j - c) (fun e => { e with key := K.enc k, val := v }) ∧ (mset l k v).length = l.length
  | [], c, j, i, h => by cases h
  | p :: l, c, j, i, h => by
    simp only [mat] at h
    split at h
    · rename_i h1
      simp only [Option.some.injEq, Prod.mk.injEq] at h
      obtain ⟨rfl, rfl⟩ := h
      unfold mset
      rw [if_pos h1]
      subst h1
      simp [ments]
    · rename_i h1
      obtain ⟨q1, q2, q3, q4, q5⟩ := mset_some (K := K) (v := v) (i + 1) h
      have e : j - c = (j - (c + 1)) + 1 := by omega
      unfold mset
      rw [if_neg h1]
      refine ⟨by omega, by simp only [List.length_cons]; omega, ?_, ?_, by simp [q5]⟩
      · rw [e]; simpa [ments] using q3
      · rw [e]; simp only [ments, List.modify_succ_cons, q4]

variable {P : Program} {n : Nat} {F : Fr} {A : World → Prop} {c : Ctx} {H R : List Ent} {ty t kt et : TypeId} {x y z : Operand} {v : Value} {Q : Exit → Act → World → Prop} {ops : Array Oper} {rest : List Oper} {d : Nat} {pos : String} {after : Array Edge}

/-- the map's block is at hand -/
class InM (b : Nat) (H : List Ent) (κ : outParam Type) (K : outParam (MK κ)) (l : outParam (List (κ × Value))) : Prop where
  mem : blk b (mobj K l) ∈ H
instance (priority := high) InM.here {κ : Type} (b : Nat) (K : MK κ) (l : List (κ × Value)) (H : List Ent) : InM b (blk b (mobj K l) :: H) κ K l := ⟨List.mem_cons_self ..⟩
instance InM.there {κ : Type} (b : Nat) (K : MK κ) (l : List (κ × Value)) (E : Ent) (H : List Ent) [h : InM b H κ K l] : InM b (E :: H) κ K l := ⟨List.mem_cons_of_mem _ h.mem⟩
instance (priority := low) InM.app {κ : Type} (b : Nat) (K : MK κ) (l : List (κ × Value)) (L R : List Ent) [h : InM b L κ K l] : InM b (L ++ R) κ K l := ⟨List.mem_append_left _ h.mem⟩
class TakeM (b : Nat) (H : List Ent) (κ : outParam Type) (K : outParam (MK κ)) (l : outParam (List (κ × Value))) (R : outParam (List Ent)) : Prop where
  perm : H.Perm (blk b (mobj K l) :: R)
instance (priority := high) TakeM.here {κ : Type} (b : Nat) (K : MK κ) (l : List (κ × Value)) (H : List Ent) : TakeM b (blk b (mobj K l) :: H) κ K l H := ⟨.refl _⟩
instance TakeM.there {κ : Type} (b : Nat) (K : MK κ) (l : List (κ × Value)) (E : Ent) (H R : List Ent) [h : TakeM b H κ K l R] : TakeM b (E :: H) κ K l (E :: R) := ⟨(h.perm.cons E).trans (.swap ..)⟩
/-- the map that reads as l, in what is read only -/
def mpd {κ : Type} (K : MK κ) (b : Nat) (l : List (κ × Value)) : Dat := ⟨fun ρ => ρ b = some (mobj K l), fun _ _ h k => h _ _ k⟩
class InMd (b : Nat) (H : List Ent) (κ : outParam Type) (K : outParam (MK κ)) (l : outParam (List (κ × Value))) : Prop where
  mem : dat (mpd K b l) ∈ H
instance (priority := high) InMd.here {κ : Type} (b : Nat) (K : MK κ) (l : List (κ × Value)) (H : List Ent) : InMd b (dat (mpd K b l) :: H) κ K l := ⟨List.mem_cons_self ..⟩
instance InMd.there {κ : Type} (b : Nat) (K : MK κ) (l : List (κ × Value)) (E : Ent) (H : List Ent) [h : InMd b H κ K l] : InMd b (E :: H) κ K l := ⟨List.mem_cons_of_mem _ h.mem⟩

omit [DecidableEq κ] in
/-- 'map[K]V{}' -/
theorem St.makeMap (K : MK κ) (hd : Nat.ble (d + 1) n = true) (h : ∀ b, St n ((d, .map (some b)) :: F) (Mm c (blk b (mobj K []) :: H)) (wpList P ops Q rest)) :
    St n F (Mm c H) (wpList P ops Q ({ dst := some d, op := .makeMap t none, type := ty, pos := pos, after := after, guard := none } :: rest)) := by
  refine St.do_ (K := fun u H' => ∃ b, u = .map (some b) ∧ H' = blk b (mobj K []) :: H) ?_ hd ?_
  · intro a w ρ ha hm
    refine ⟨.value (.map (some w.heap.size)), w.alloc (.map #[] 0), ρ, _, ?_, ⟨_, .inl rfl, _, rfl, rfl⟩, hm.alloc _⟩
    simp [execOp, RowKit.run_makeMap]
  · rintro _ _ ⟨b, rfl, rfl⟩
    exact h b

theorem run_zero {zv : Value} {w : World} (hz : (P.info? et).bind (·.zero) = some zv) : (zeroValue et).run P w = .ok zv w := by
  obtain ⟨i, hi, hzi⟩ := Option.bind_eq_some_iff.1 hz
  simp [zeroValue, typeInfo, hi, hzi]

theorem run_lookup (K : MK κ) {l : List (κ × Value)} {b : Nat} {k : κ} {zv : Value} {w : World} (ok : Bool) (ht : P.underlying t = some (.map kt et)) (hk : P.underlying kt = some K.kd) (hz : (P.info? et).bind (·.zero) = some zv) (hb : w.heap[b]? = some (mobj K l)) :
    (Instr.lookup t (.map (some b)) (K.enc k) ok).run P w = .ok (if ok then .tuple #[(mget l k).getD zv, .bool (mget l k).isSome] else (mget l k).getD zv) w := by
  have h1 := MapKept.run_findKey (w := w) hk (findNow_ments K k l 0 0)
  have h2 := run_zero (P := P) (w := w) hz
  have h3 := MapKept.run_getObj_map (P := P) hb
  have h4 := MapKept.run_checkKey (w := w) hk (K.key k) (ments K l 0).toArray.isEmpty 9999
  simp only [Instr.lookup, Sem.run_bind, run_underlying ht, Result.andThen_ok, h3, Sem.run_pure, h4, h1, ← mat_get l k 0]
  cases hm : mat l k 0 with
  | none => simp [h2]
  | some p => simp

theorem Ev.lookup (K : MK κ) {l : List (κ × Value)} {b : Nat} {k : κ} {zv : Value} [hb : InM b H κ K l] (hx : Opd F x (.map (some b))) (hy : Opd F y (K.enc k)) (ht : P.underlying t = some (.map kt et)) (hk : P.underlying kt = some K.kd) (hz : (P.info? et).bind (·.zero) = some zv) :
    Ev P n F (Mm c H) (.lookup t x y false) ty ((mget l k).getD zv) := .of_run fun a w ha hw => by
  obtain ⟨ρ, hm⟩ := hw.out
  have := run_lookup (P := P) K (k := k) false ht hk hz (blk_ok.1 (hm.ents _ hb.mem))
  simp [execOp, hx.eval ha, hy.eval ha, this]
theorem Ev.lookup2 (K : MK κ) {l : List (κ × Value)} {b : Nat} {k : κ} {zv : Value} [hb : InM b H κ K l] (hx : Opd F x (.map (some b))) (hy : Opd F y (K.enc k)) (ht : P.underlying t = some (.map kt et)) (hk : P.underlying kt = some K.kd) (hz : (P.info? et).bind (·.zero) = some zv) :
    Ev P n F (Mm c H) (.lookup t x y true) ty (.tuple #[(mget l k).getD zv, .bool (mget l k).isSome]) := .of_run fun a w ha hw => by
  obtain ⟨ρ, hm⟩ := hw.out
  have := run_lookup (P := P) K (k := k) true ht hk hz (blk_ok.1 (hm.ents _ hb.mem))
  simp [execOp, hx.eval ha, hy.eval ha, this]
theorem Ev.lookupd (K : MK κ) {l : List (κ × Value)} {b : Nat} {k : κ} {zv : Value} [hb : InMd b H κ K l] (hx : Opd F x (.map (some b))) (hy : Opd F y (K.enc k)) (ht : P.underlying t = some (.map kt et)) (hk : P.underlying kt = some K.kd) (hz : (P.info? et).bind (·.zero) = some zv) :
    Ev P n F (Mm c H) (.lookup t x y false) ty ((mget l k).getD zv) := .of_run fun a w ha hw => by
  obtain ⟨ρ, hm⟩ := hw.out
  have := run_lookup (P := P) K (k := k) false ht hk hz (hm.fits _ _ (dat_ok.1 (hm.ents _ hb.mem)))
  simp [execOp, hx.eval ha, hy.eval ha, this]

omit [DecidableEq κ] in
theorem keyStays (K : MK κ) (k : κ) (w : World) : (Instr.keyThatStays (K.enc k) (K.enc k)).run P w = .ok (K.enc k) w := by
  simp [Instr.keyThatStays, K.bits k]

theorem run_mapUpdate (K : MK κ) {l : List (κ × Value)} {b : Nat} {k : κ} {w : World} (ht : P.underlying t = some (.map kt et)) (hk : P.underlying kt = some K.kd) (hb : w.heap[b]? = some (mobj K l)) :
    (Instr.mapUpdate t (.map (some b)) (K.enc k) v).run P w = .ok () { w with heap := w.heap.setIfInBounds b (mobj K (mset l k v)) } := by
  have h1 := MapKept.run_findKey (w := w) hk (findNow_ments K k l 0 0)
  have h3 := MapKept.run_getObj_map (P := P) hb
  have h4 := MapKept.run_checkKey (w := w) hk (K.key k) false 9999
  simp only [Instr.mapUpdate, Sem.run_bind, run_underlying ht, Result.andThen_ok, h3, h4, h1]
  cases hm : mat l k 0 with
  | none =>
    have e : mobj K (mset l k v) = .map ((ments K l 0).toArray.push { key := K.enc k, val := v, born := l.length }) (l.length + 1) := by
      rw [mset_none hm]
      simp [mobj, ments_snoc]
    rw [e]
    exact MapKept.run_setObj_map (P := P) _ hb
  | some p =>
    obtain ⟨j, u⟩ := p
    obtain ⟨_, q2, q3, q4, q5⟩ := mset_some (K := K) (v := v) 0 hm
    have e : mobj K (mset l k v) = .map ((ments K l 0).toArray.modify j fun e => { e with key := K.enc k, val := v }) l.length := by
      unfold mobj
      rw [q4, q5]
      simp
    rw [e]
    have q3' : (((ments K l 0).toArray[j]?).map (·.key)).getD (K.enc k) = K.enc k := by
      simp only [Nat.sub_zero] at q3
      simp [q3]
    simp only [q3', Sem.run_bind, keyStays, Result.andThen_ok]
    exact MapKept.run_setObj_map (P := P) _ hb

/-- 'm[k] = v' -/
theorem St.mapUpdate (K : MK κ) {l : List (κ × Value)} {b : Nat} {k : κ} [tk : TakeM b H κ K l R] (hx : Opd F x (.map (some b))) (hy : Opd F y (K.enc k)) (hz : Opd F z v) (ht : P.underlying t = some (.map kt et)) (hk : P.underlying kt = some K.kd)
    (h : St n F (Mm c (blk b (mobj K (mset l k v)) :: R)) (wpList P ops Q rest)) :
    St n F (Mm c H) (wpList P ops Q ({ dst := none, op := .mapUpdate t x y z, type := ty, pos := pos, after := after, guard := none } :: rest)) := by
  refine St.do_none (K := fun u H' => H' = blk b (mobj K (mset l k v)) :: R) ?_ ?_
  · intro a w ρ ha hm
    have hm' := hm.perm tk.perm
    have hb := blk_ok.1 (hm'.ents _ (List.mem_cons_self ..))
    have hr := run_mapUpdate (P := P) K (k := k) (v := v) ht hk hb
    refine ⟨.skip, { w with heap := w.heap.setIfInBounds b (mobj K (mset l k v)) }, ρ, _, ?_, ⟨_, .inr ⟨rfl, rfl⟩, rfl⟩, ?_⟩
    · simp [execOp, hx.eval ha, hy.eval ha, hz.eval ha, hr]
    · have hs := MapKept.heap_set (o' := mobj K (mset l k v)) hb
      refine hm'.alter rfl ⟨rfl, Nat.le_refl _⟩ rfl (by simp) (fun j hj hne => ?_) (blk_ok.2 hs.1) (fun b' hb' => by rw [blk_key] at hb' ⊢; exact .inl hb')
      rw [blk_key] at hne
      exact hs.2 j (fun e => hne (by rw [e]))
  · rintro _ _ rfl
    exact h
omit [DecidableEq κ] in
/-- the map is read only from here on -/
theorem St.publishM {T : Act → World → Prop} (b : Nat) {K : MK κ} {l : List (κ × Value)} [tk : TakeM b H κ K l R] (h : St n F (Mm c (dat (mpd K b l) :: R)) T) : St n F (Mm c H) T := h.weak fun w hw => by
  obtain ⟨ρ, hm0⟩ := hw.out
  have hm := hm0.perm tk.perm
  have hg := blk_ok.1 (hm.ents _ (List.mem_cons_self ..))
  have hown := hm.own _ (List.mem_cons_self ..) b (blk_key _ _)
  have hd0 := List.pairwise_cons.1 hm.dis
  have hle : Ro.le ρ (fun k => if k = b then some (mobj K l) else ρ k) := by
    intro k o hk
    by_cases e1 : k = b
    · subst e1; rw [hown.1] at hk; cases hk
    · simp only [e1, if_false]; exact hk
  refine Mm.mk (ρ := fun k => if k = b then some (mobj K l) else ρ k) ?_
  refine MmR.fact ⟨hm.os, hm.tape, hm.output, hm.size, hm.old, ?_, Ro.le_trans hm.le hle, ?_, ?_, ?_, hd0.2⟩ _ ?_
  · intro k o hk
    by_cases e1 : k = b
    · subst e1; simp only [if_true, Option.some.injEq] at hk; subst hk; exact hg
    · simp only [e1, if_false] at hk; exact hm.fits k o hk
  · intro k hk hM
    by_cases e1 : k = b
    · subst e1
      rcases hown.2 with h2 | h2
      · omega
      · exact absurd h2 hM
    · simp only [e1, if_false]; exact hm.new k hk hM
  · intro E hE
    exact E.loc hle (fun _ _ => rfl) (hm.ents E (List.mem_cons_of_mem _ hE))
  · intro E hE b' hb'
    have h1 := hm.own E (List.mem_cons_of_mem _ hE) b' hb'
    refine ⟨?_, h1.2⟩
    by_cases e1 : b' = b
    · subst e1; exact absurd hb' (hd0.1 E hE _ (blk_key _ _))
    · simp only [e1, if_false]; exact h1.1
  · show (if b = b then some (mobj K l) else ρ b) = some (mobj K l)
    rw [if_pos rfl]
end
end Go.J

/-
  (YtgikcbfdonjggaaGreatDoorJ22)
  Facts that say that there is something: opened and made; slices of slices in one fact.
  Conditions: none; everything holds of any program.
-/
namespace Go.J
open Go
section
variable {n : Nat} {F : Fr} {c : Ctx} {H R : List Ent} {T : Act → World → Prop}
theorem St.openD {ι : Sort _} (d : Dat) [hd : InD d H] (L : ι → List Dat) (h : ∀ ρ, d.f ρ → ∃ x, ∀ e ∈ L x, e.f ρ) (k : ∀ x, St n F (Mm c ((L x).map dat ++ H)) T) : St n F (Mm c H) T := by
  intro a w ha hw
  obtain ⟨ρ, hm⟩ := hw.out
  obtain ⟨x, hx⟩ := h ρ (dat_ok.1 (hm.ents _ hd.mem))
  exact k x a w ha (Mm.mk (hm.dats (L x) hx))
theorem St.mkD (d : Dat) (L : List Dat) [hd : InDs L H] (h : ∀ ρ, (∀ e ∈ L, e.f ρ) → d.f ρ) (k : St n F (Mm c (dat d :: H)) T) : St n F (Mm c H) T :=
  St.fact d (fun ρ w hm => h ρ fun e he => dat_ok.1 (hm.ents _ (hd.mem e he))) k

/-- slices of slices in one fact -/
def nsl {α : Type} (Rr : Rp α) (v : Value) (l : List (List α)) : Dat := ⟨fun ρ => ∃ vs : List OneV, vs.length = l.length ∧ (sl valR v vs).f ρ ∧ (ptw Rr vs l).f ρ,
  fun ρ ρ' h ⟨vs, h1, h2, h3⟩ => ⟨vs, h1, (sl valR v vs).mono _ _ h h2, (ptw Rr vs l).mono _ _ h h3⟩⟩
/-- it is at hand -/
class InNs (v : Value) (H : List Ent) (α : outParam Type) (R : outParam (Rp α)) (xs : outParam (List (List α))) : Prop where
  mem : dat (nsl R v xs) ∈ H
instance (priority := high) InNs.here {α : Type} (v : Value) (R : Rp α) (xs : List (List α)) (H : List Ent) : InNs v (dat (nsl R v xs) :: H) α R xs := ⟨List.mem_cons_self ..⟩
instance InNs.there {α : Type} (v : Value) (R : Rp α) (xs : List (List α)) (E : Ent) (H : List Ent) [h : InNs v H α R xs] : InNs v (E :: H) α R xs := ⟨List.mem_cons_of_mem _ h.mem⟩
theorem St.openNs {α : Type} {Rr : Rp α} {l : List (List α)} (v : Value) [hd : InNs v H α Rr l] (k : ∀ vs : List OneV, vs.length = l.length → St n F (Mm c (dat (sl valR v vs) :: dat (J.ptw Rr vs l) :: H)) T) : St n F (Mm c H) T := by
  intro a w ha hw
  obtain ⟨ρ, hm⟩ := hw.out
  obtain ⟨vs, h1, h2, h3⟩ := dat_ok.1 (hm.ents _ hd.mem)
  exact k vs h1 a w ha (Mm.mk ((hm.fact _ h3).fact _ h2))
theorem St.mkNs {α : Type} {Rr : Rp α} {l : List (List α)} (v : Value) {vs : List OneV} [h1 : InD (sl valR v vs) H] [h2 : InD (J.ptw Rr vs l) H] (hl : vs.length = l.length) (k : St n F (Mm c (dat (nsl Rr v l) :: H)) T) : St n F (Mm c H) T :=
  St.fact (nsl Rr v l) (fun ρ w hm => ⟨vs, hl, dat_ok.1 (hm.ents _ h1.mem), dat_ok.1 (hm.ents _ h2.mem)⟩) k
theorem ptw_snoc {α : Type} {Rr : Rp α} {vs : List OneV} {xss : List (List α)} {u : OneV} {x : List α} {ρ : Ro} (h : (J.ptw Rr vs xss).f ρ) (hu : (sl Rr u.1 x).f ρ) (hl : vs.length = xss.length) : (J.ptw Rr (vs ++ [u]) (xss ++ [x])).f ρ := by
  intro i u' l' h1 h2
  rcases Nat.lt_or_ge i vs.length with hi | hi
  · rw [List.getElem?_append_left hi] at h1
    rw [List.getElem?_append_left (by omega)] at h2
    exact h i u' l' h1 h2
  · rw [List.getElem?_append_right hi] at h1
    rw [List.getElem?_append_right (by omega)] at h2
    have hi0 : i - vs.length = 0 := by
      have := (List.getElem?_eq_some_iff.1 h1).1
      simp at this; omega
    rw [hi0] at h1
    rw [show i - xss.length = 0 by omega] at h2
    simp only [List.getElem?_cons_zero, Option.some.injEq] at h1 h2
    subst h1 h2
    exact hu
theorem St.ptwSnoc {α : Type} {Rr : Rp α} (vs : List OneV) (u : OneV) {x : List α} {xss : List (List α)} [h1 : InW vs H α Rr xss] [h2 : InS u.1 H α Rr x] (hl : vs.length = xss.length) (k : St n F (Mm c (dat (J.ptw Rr (vs ++ [u]) (xss ++ [x])) :: H)) T) : St n F (Mm c H) T :=
  St.fact _ (fun ρ w hm => ptw_snoc (dat_ok.1 (hm.ents _ h1.mem)) (dat_ok.1 (hm.ents _ h2.mem)) hl) k
theorem St.rowEqS {size size' m m' : Nat} {cs cs' : List Value} {e : TypeId} (v : Value) [tk : TakeR v H e size m cs R] (hs : size = size') (hm : m = m') (h : cs = cs') (k : St n F (Mm c (row v e size' m' cs' :: R)) T) : St n F (Mm c H) T := by
  subst hs
  exact St.rowEqN v hm h k
theorem len_snoc {α : Type} {xs : List α} {x : α} : xs.length + 1 = (xs ++ [x]).length := by rw [List.length_append]; rfl
theorem St.ptwWf {α : Type} {Rr : Rp α} (vs : List OneV) {xss : List (List α)} [h1 : InW vs H α Rr xss] (hl : vs.length = xss.length) (k : (∀ xs ∈ xss, ∀ x ∈ xs, Rr.wf x) → St n F (Mm c H) T) : St n F (Mm c H) T := by
  intro a w ha hw
  obtain ⟨ρ, hm⟩ := hw.out
  refine k (fun xs hxs x hx => ?_) a w ha hw
  obtain ⟨i, hi, he⟩ := List.mem_iff_getElem.1 hxs
  have hv : i < vs.length := by omega
  obtain ⟨_, _, _, _, _, h4, _⟩ := dat_ok.1 (hm.ents _ h1.mem) i vs[i] xs (List.getElem?_eq_getElem hv) (by rw [List.getElem?_eq_getElem hi, he])
  exact h4 x hx
theorem St.ptwNil {α : Type} (Rr : Rp α) (k : St n F (Mm c (dat (J.ptw Rr [] []) :: H)) T) : St n F (Mm c H) T :=
  St.fact _ (fun _ _ _ => show (J.ptw Rr [] []).f _ from fun i u l hu => by simp at hu) k
theorem St.slNil {α : Type} (Rr : Rp α) (k : St n F (Mm c (dat (sl Rr (.slice none 0 0) []) :: H)) T) : St n F (Mm c H) T := St.fact _ (fun _ _ _ => sl_nil Rr _) k
end
section
variable {P : Program} {Q : Exit → Act → World → Prop} {n : Nat} {F : Fr} {c : Ctx} {H Fp : List Ent}
theorem SW.split {ops : Array Oper} {r : List Ent} {f : Nat} {listed : Array Bool} (k : Nat) (b : Bool) (hk : look F k = some (.bool b)) (ht : b = true → SW P ops Q n ((k, .bool true) :: F) c Fp r f listed) (hf : b = false → SW P ops Q n ((k, .bool false) :: F) c Fp r f listed) : SW P ops Q n F c Fp r f listed := by
  cases b with
  | true => exact SW.slot k (.bool true) hk rfl (ht rfl)
  | false => exact SW.slot k (.bool false) hk rfl (hf rfl)
/-- a region that draws its order: these entries change in it -/
theorem St.parL {id : Nat} {l : List Oper} (L : List Ent) [tk : TakeL L H Fp] (hm : P.follows .mixedOrders = true)
    (h : SW P l.toArray Q n F c Fp L l.length (Array.replicate l.length false)) : St n F (Mm c H) ((Code.region id l.toArray true).wp P Q) := by
  intro a w ha hw
  refine wp_region_any hm ?_
  have h1 := h a ha
  have h2 : Mm c (Fp ++ L) { w with drawn := w.drawn + 1 } := by
    obtain ⟨ρ, k⟩ := ((Mm.drawn c H) w hw).out
    exact Mm.mk (k.perm (tk.perm.trans List.perm_append_comm))
  simpa using WR.any (C := fun R => Mm c (Fp ++ R)) l.length _ a L _ h2 h1
end
theorem rows_valR_snoc (vs : List OneV) (u : OneV) : rows valR vs ++ [u.1] = rows valR (vs ++ [u]) := by rw [rows_snoc]; rfl
end Go.J

/-
  (YtgikcbfdonjggaaGreatDoorJU)
  From a contract over data to a law's statement: slices of slices as arguments; the tables of runes as a row lists them.
  Conditions: none; everything holds of any program.
-/
namespace Go.J
open Go Go.ChangeShapes Go.WideShapes Go.ChangeAt Go.RowKit Go.Deep
section
variable {H : Type} {enc : TypeId × Value → H} {P : Program} {W : World} {α : Type}
/-- a slice with what it reads as -/
def nestR (Rr : Rp α) (W : World) : Rp (OneV × List α) := ⟨1, by decide, fun x => [x.1.1], fun x => (sl Rr x.1.1 x.2).f (J.all W), fun _ => rfl, fun x u h => by simp at h; subst h; exact x.1.2⟩
theorem nsl_open (Rr : Rp α) {t e ee : TypeId} {v : Value} {d : DataW H} {p : List MemPlace} {base0 : Nat} (ht : P.underlying t = some (.slice e)) (hc : P.cellsOf e = 1) (he : P.underlying e = some (.slice ee)) (hce : P.cellsOf ee = Rr.size)
    (hel : ∀ (n : Nat) (cs : List Value) (y : DataW H × List MemPlace), cs.length = Rr.size → DataW.trod enc P W 0 (fun _ => true) true n ee cs = some y → wok (y.1.weights P ee) = true → ∃ x : α, cs = Rr.cells x ∧ Rr.wf x)
    (hv : Value.okWide P W .any base0 t v) (hwt : wok (d.weights P t) = true) (h : DataW.Trod enc P W 0 (fun _ => true) true t v d p) : ∃ xs : List (List α), (nsl Rr v xs).f (J.all W) ∧ ((d = .nil ∧ xs = []) ∨ ∃ es sp, d = .slice es sp ∧ es.length = xs.length) := by
  obtain ⟨xs, h1, h2⟩ := sl_open (nestR Rr W) ht hc (fun n cs y _ hy hw => by
    obtain ⟨v, xs, e1, e2, e3, _⟩ := sl_openC Rr he hce hel hw (d := y.1) (p := y.2) hy
    exact ⟨(⟨v, e2⟩, xs), e1, e3⟩) hv hwt h
  have hrows : ∀ l : List (OneV × List α), rows (nestR Rr W) l = rows valR (l.map Prod.fst) := by
    intro l
    induction l with
    | nil => rfl
    | cons x l ih => simp only [rows, List.flatMap_cons, List.map_cons] at ih ⊢; rw [ih]; rfl
  refine ⟨xs.map Prod.snd, ⟨xs.map Prod.fst, by simp, ?_, ?_⟩, ?_⟩
  · obtain ⟨a, cap, g1, g2, g3, g4, g5⟩ := h1
    refine ⟨a, cap, by rw [List.length_map]; exact g1, by rw [List.length_map]; exact g2, g3, fun _ _ => trivial, ?_⟩
    rcases g5 with rfl | ⟨b, off, C, e', fr, q1, q2, q3⟩
    · exact .inl rfl
    · exact .inr ⟨b, off, C, e', fr, q1, q2, fun j u hj => q3 j u (by rw [hrows]; exact hj)⟩
  · obtain ⟨a, cap, _, _, _, g4, _⟩ := h1
    intro i u l hu hl
    rw [List.getElem?_map] at hu hl
    cases hx : xs[i]? with
    | none => rw [hx] at hu; cases hu
    | some x =>
      rw [hx] at hu hl
      simp only [Option.map_some, Option.some.injEq] at hu hl
      subst hu hl
      exact g4 x (List.mem_of_getElem? hx)
  · rcases h2 with ⟨q, rfl⟩ | ⟨es, sp, q, hl⟩
    · exact .inl ⟨q, rfl⟩
    · exact .inr ⟨es, sp, q, by rw [List.length_map]; exact hl⟩
end
/-- the tables of utf8, as a row lists them -/
theorem utf8Tabs_of {P : Program} {W : World} {g3 g4 T3 T4 T5 TS : Nat} {fs : Array Field} (n3 : P.globalNamed "unicode/utf8.first" = some g3) (n4 : P.globalNamed "unicode/utf8.acceptRanges" = some g4)
    (y3 : (P.globals[g3]?).map (·.type) = some T3) (y4 : (P.globals[g4]?).map (·.type) = some T4) (t3 : P.underlying T3 = some (.array 256 T5)) (t5 : P.underlying T5 = some (.int .u8)) (t4 : P.underlying T4 = some (.array 16 TS)) (ts : P.underlying TS = some (.struct fs))
    (hf : ∀ (i : Nat) (f : Field), fs[i]? = some f → P.underlying f.type = some (.int .u8) ∧ f.offset = i ∧ P.cellsOf f.type = 1) (hfs : fs.size = 2) (c5 : P.cellsOf T5 = 1) (c3 : P.cellsOf T3 = 256) (cs : P.cellsOf TS = 2)
    {l : List (String × DataW Unit)} (h : laidMetH P l W) (hp : (laidMetH P l W) = laidMet P l W) (m3 : ("unicode/utf8.first", Lib.firstData) ∈ l) (m4 : ("unicode/utf8.acceptRanges", Lib.acceptData) ∈ l) : Lib.Utf8Tabs g3 g4 W := by
  rw [hp] at h
  have h3 := Lib.laidMet.reads h m3
  have h4 := Lib.laidMet.reads h m4
  refine ⟨fun c hc => ?_, fun i hi => ?_⟩
  · obtain ⟨g, t, cs, fuel, p, hg, hty, hvar, hd⟩ := h3
    obtain rfl := Option.some.inj (n3.symm.trans hg)
    obtain rfl := Option.some.inj (y3.symm.trans hty)
    have hcs := Lib.cells_of_tab t3 t5 c5 c3 hd
    have := World.var?_cell hg hvar c
    rw [this, ← Array.getElem?_toList, hcs]
    simp [Lib.firstTab, hc]
  · obtain ⟨g, t, cells, fuel, p, hg, hty, hvar, hd⟩ := h4
    obtain rfl := Option.some.inj (n4.symm.trans hg)
    obtain rfl := Option.some.inj (y4.symm.trans hty)
    obtain ⟨fuel', d, q, hdi, he⟩ := Lib.array_elem t4 hd i hi
    simp only [List.getElem?_map, List.getElem?_range hi, Option.map_some, Option.some.injEq] at hdi
    subst hdi
    rw [cs] at he
    have hcs := Lib.ints_of_struct ts hf (by rw [cs, hfs]) he
    have e0 := congrArg (·[0]?) hcs
    have e1 := congrArg (·[1]?) hcs
    simp only [List.getElem?_take, List.getElem?_drop] at e0 e1
    constructor
    · rw [World.var?_cell hg hvar (2 * i), ← Array.getElem?_toList]
      simpa [Nat.mul_comm] using e0
    · rw [World.var?_cell hg hvar (2 * i + 1), ← Array.getElem?_toList]
      simpa [Nat.mul_comm] using e1
theorem cell_ext {W w : World} (h : ∀ (k : Nat) (o : Obj), W.heap[k]? = some o → w.heap[k]? = some o) {g o : Nat} {v : Value} (hc : W.cell? ⟨g, o, none⟩ = some v) : w.cell? ⟨g, o, none⟩ = some v := by
  obtain ⟨_, C, e, fr, hb, hv⟩ := blk_of_cell hc
  rw [cell?_of_blk (h _ _ hb)]; exact hv
theorem utf8Tabs_ext {W w : World} {g3 g4 : Nat} (h : Lib.Utf8Tabs g3 g4 W) (hw : ∀ (k : Nat) (o : Obj), W.heap[k]? = some o → w.heap[k]? = some o) : Lib.Utf8Tabs g3 g4 w :=
  ⟨fun c hc => cell_ext hw (h.1 c hc), fun i hi => ⟨cell_ext hw (h.2 i hi).1, cell_ext hw (h.2 i hi).2⟩⟩
end Go.J

/-
  (YtgikcbfdonjggaaGreatDoorJP)
  Plain facts on lists, for the laws: no program stands here.
  Conditions: none.
-/
namespace Go.J
open Go

section
variable {α : Type}
theorem take_of_some' {s : List α} {k : Nat} {x : α} (h : s[k]? = some x) : s.take (k + 1) = s.take k ++ [x] := by
  obtain ⟨hl, rfl⟩ := List.getElem?_eq_some_iff.1 h
  exact List.take_succ_eq_append_getElem hl
theorem all_take_succ {p : α → Bool} {s : List α} {k : Nat} {d : α} (h : (s.take k).all p = true) (hk : p (s.getD k d) = true) : (s.take (k + 1)).all p = true := by
  by_cases hl : k < s.length
  · rw [List.take_succ_eq_append_getElem hl, List.all_append, h]
    rw [List.getD_eq_getElem?_getD, List.getElem?_eq_getElem hl] at hk
    simpa using hk
  · rw [List.take_of_length_le (by omega)]; rwa [List.take_of_length_le (by omega)] at h
theorem all_take_some {p : α → Bool} {s : List α} {k : Nat} {x : α} (h : (s.take k).all p = true) (hx : s[k]? = some x) (hk : p x = true) : (s.take (k + 1)).all p = true := by
  obtain ⟨hl, rfl⟩ := List.getElem?_eq_some_iff.1 hx
  rw [List.take_succ_eq_append_getElem hl, List.all_append, h]
  simpa using hk
theorem any_take_step {f : α → Bool} {s : List α} {k : Nat} {x : α} {b : Bool} (hx : s[k]? = some x) (h : f x = b) : (s.take (k + 1)).any f = ((s.take k).any f || b) := by
  rw [take_of_some' hx, List.any_append]; simp [h]
theorem any_take_t {f : α → Bool} {s : List α} {k : Nat} {x : α} (hx : s[k]? = some x) (h : f x = true) : (s.take (k + 1)).any f = true := by rw [any_take_step hx h, Bool.or_true]
theorem any_take_f {f : α → Bool} {s : List α} {k : Nat} {x : α} (hx : s[k]? = some x) (h : f x = false) : (s.take (k + 1)).any f = (s.take k).any f := by rw [any_take_step hx h, Bool.or_false]
theorem any_of_some {f : α → Bool} {s : List α} {k : Nat} {x : α} (hx : s[k]? = some x) (h : f x = true) : s.any f = true := List.any_eq_true.2 ⟨x, List.mem_of_getElem? hx, h⟩
theorem any_none {f : α → Bool} {s : List α} {k : Nat} (h : (s.take k).all (fun x => !f x) = true) (hk : s.length ≤ k) : s.any f = false := by
  rw [List.take_of_length_le hk] at h
  rw [List.any_eq_false]
  intro x hx
  have := List.all_eq_true.1 h x hx
  simpa using this
theorem all_false_of {p : α → Bool} {s : List α} {k : Nat} {d : α} (hk : k < s.length) (h : p (s.getD k d) = false) : s.all p = false := by
  rw [List.getD_eq_getElem?_getD, List.getElem?_eq_getElem hk] at h
  rw [List.all_eq_false]
  exact ⟨s[k], List.getElem_mem hk, by simpa using h⟩
theorem all_of_take {p : α → Bool} {s : List α} {k : Nat} (h : (s.take k).all p = true) (hk : s.length ≤ k) : s.all p = true := by rwa [List.take_of_length_le hk] at h
theorem some_of_lt {s : List α} {k : Nat} (h : k < s.length) : ∃ x, s[k]? = some x := ⟨_, List.getElem?_eq_getElem h⟩
theorem drop_of_some {s : List α} {k : Nat} {x : α} (h : s[k]? = some x) : s.drop k = x :: s.drop (k + 1) := by
  obtain ⟨hl, rfl⟩ := List.getElem?_eq_some_iff.1 h
  exact List.drop_eq_getElem_cons hl
theorem lt_of_some {s : List α} {k : Nat} {x : α} (h : s[k]? = some x) : k < s.length := (List.getElem?_eq_some_iff.1 h).1
theorem take_of_some {s : List α} {k : Nat} {x : α} (h : s[k]? = some x) : s.take (k + 1) = s.take k ++ [x] := by
  obtain ⟨hl, rfl⟩ := List.getElem?_eq_some_iff.1 h
  exact List.take_succ_eq_append_getElem hl
theorem getD_of_some {s : List α} {k : Nat} {x d : α} (h : s[k]? = some x) : s.getD k d = x := by rw [List.getD_eq_getElem?_getD, h]; rfl
end

theorem be {a b : Bool} (h : a = b) : ret1 [Value.bool a] = .bool b := by rw [h]; rfl
theorem ie {a b : Int} (h : a = b) : ret1 [iv a] = iv b := by rw [h]; rfl
theorem all_range_succ {f : Nat → Bool} {k : Nat} (h : (List.range k).all f = true) (hk : f k = true) : (List.range (k + 1)).all f = true := by
  rw [List.range_succ, List.all_append, h]; simp [hk]
theorem all_range_false {f : Nat → Bool} {k m : Nat} (hk : k < m) (h : f k = false) : (List.range m).all f = false := by
  rw [List.all_eq_false]; exact ⟨k, List.mem_range.2 hk, by simp [h]⟩
theorem all_range_iff {f : Nat → Bool} {m : Nat} : (List.range m).all f = true ↔ ∀ k, k < m → f k = true := by
  rw [List.all_eq_true]; exact ⟨fun h k hk => h k (List.mem_range.2 hk), fun h k hk => h k (List.mem_range.1 hk)⟩

/-- the first place where p holds, or -1 -/
def ix {β : Type} (p : β → Bool) (l : List β) : Int := match l.findIdx? p with | some i => (i : Int) | none => -1
theorem ix_found {β : Type} {p : β → Bool} {l : List β} {k : Nat} {x : β} (h : (l.take k).all (fun y => !p y) = true) (hx : l[k]? = some x) (hp : p x = true) : ix p l = k := by
  obtain ⟨hl, rfl⟩ := List.getElem?_eq_some_iff.1 hx
  have : l.findIdx? p = some k := by
    rw [List.findIdx?_eq_some_iff_getElem]
    refine ⟨hl, hp, fun j hj => ?_⟩
    rw [List.all_eq_true] at h
    have h1 := h l[j] (by rw [List.mem_take_iff_getElem]; exact ⟨j, by omega, rfl⟩)
    simpa using h1
  simp only [ix, this]
theorem ix_none {β : Type} {p : β → Bool} {l : List β} {k : Nat} (h : (l.take k).all (fun y => !p y) = true) (hk : l.length ≤ k) : ix p l = -1 := by
  rw [List.take_of_length_le hk, List.all_eq_true] at h
  have : l.findIdx? p = none := by
    rw [List.findIdx?_eq_none_iff]
    intro x hx
    simpa using h x hx
  simp only [ix, this]
theorem ix_cases {β : Type} (p : β → Bool) (l : List β) : (ix p l = -1 ∧ ∀ x ∈ l, p x = false) ∨ ∃ (k : Nat) (x : β), l[k]? = some x ∧ p x = true ∧ ix p l = k ∧ ∀ (j : Nat) (y : β), j < k → l[j]? = some y → p y = false := by
  unfold ix
  cases h : l.findIdx? p with
  | none => left; exact ⟨rfl, by simpa using List.findIdx?_eq_none_iff.1 h⟩
  | some k =>
    right
    obtain ⟨hl, hp, hj⟩ := List.findIdx?_eq_some_iff_getElem.1 h
    refine ⟨k, l[k], List.getElem?_eq_getElem hl, hp, rfl, fun j y hjk hy => ?_⟩
    obtain ⟨hl2, rfl⟩ := List.getElem?_eq_some_iff.1 hy
    simpa using hj j hjk
theorem ix_nonneg {β : Type} (p : β → Bool) (l : List β) : decide (0 ≤ ix p l) = l.any p := by
  rcases ix_cases p l with ⟨h1, h2⟩ | ⟨k, x, h1, h2, h3, _⟩
  · rw [h1]; symm; simp [List.any_eq_false]; exact h2
  · rw [h3]
    have : l.any p = true := List.any_eq_true.2 ⟨x, List.mem_of_getElem? h1, h2⟩
    rw [this]; simp

/-- a fault's value -/
def fv (f : Int × Int) : Value := .agg #[iv f.1, iv f.2]

theorem fe {a b : Int} {f : Int × Int} (h : f = (a, b)) : ret1 [.agg #[iv a, iv b]] = fv f := by rw [h]; rfl

def low (c : UInt8) : Bool := decide ((97 : Int) ≤ c.toNat) && decide ((c.toNat : Int) ≤ 122)
def digit (c : UInt8) : Bool := decide ((48 : Int) ≤ c.toNat) && decide ((c.toNat : Int) ≤ 57)
def nameRest (c : UInt8) : Bool := low c || digit c || decide ((c.toNat : Int) = 95) || decide ((c.toNat : Int) = 45)
/-- a name: 1 to 30 letters, the first one small, then also digits, _ and - -/
def isName (s : Str) : Bool := decide (0 < s.length) && decide (s.length ≤ 30) && low (s.getD 0 0) && s.all nameRest
theorem isName_len {s : Str} (h : isName s = true) : 0 < s.length ∧ s.length ≤ 30 := by
  simp only [isName, Bool.and_eq_true, decide_eq_true_eq] at h
  exact ⟨h.1.1.1, h.1.1.2⟩
theorem isName_bad1 {s : Str} (h : ((s.length : Int) = 0 ∨ 30 < (s.length : Int)) ∨ ((s.getD 0 0).toNat : Int) < 97 ∨ 122 < ((s.getD 0 0).toNat : Int)) : isName s = false := by
  simp only [isName, low, Bool.and_eq_false_iff, decide_eq_false_iff_not]
  left; omega
theorem isName_bad2 {s : Str} {k : Nat} (hk : k < s.length) (h : nameRest (s.getD k 0) = false) : isName s = false := by
  simp only [isName, all_false_of hk h, Bool.and_false]
theorem isName_good {s : Str} (h0 : 0 < s.length) (h1 : s.length ≤ 30) (h2 : low (s.getD 0 0) = true) (h : s.all nameRest = true) : isName s = true := by
  simp only [isName, h2, h, Bool.and_true, Bool.and_eq_true, decide_eq_true_eq]
  exact ⟨h0, h1⟩
end Go.J

/-
  (YtgikcbfdonjggaaGreatDoorWordP)
  Words: read byte by byte, and by the decoder of runes: plain facts, no program stands here.
  Conditions: none.
-/
namespace Go.J
open Go Go.Lib
def seps : Str := [32, 9, 10, 40, 41, 91, 93, 44, 59]
def isSep (b : UInt8) : Bool := seps.contains b
theorem isSep_iff {b : UInt8} : isSep b = true ↔ b.toNat = 32 ∨ b.toNat = 9 ∨ b.toNat = 10 ∨ b.toNat = 40 ∨ b.toNat = 41 ∨ b.toNat = 91 ∨ b.toNat = 93 ∨ b.toNat = 44 ∨ b.toNat = 59 := by
  unfold isSep seps
  simp only [List.contains_cons, List.contains_nil, Bool.or_false, Bool.or_eq_true, beq_iff_eq, ← UInt8.toNat_inj]
  exact Iff.rfl
theorem isSep_high {b : UInt8} (h : 128 ≤ b.toNat) : isSep b = false := by
  cases hb : isSep b with
  | false => rfl
  | true => have := isSep_iff.1 hb; omega
/-- how many bytes follow a first byte; the bounds of the first of them -/
def more (b : Nat) : Nat := if 194 ≤ b ∧ b ≤ 223 then 1 else if 224 ≤ b ∧ b ≤ 239 then 2 else if 240 ≤ b ∧ b ≤ 244 then 3 else 0
def loB (b : Nat) : Nat := if b = 224 then 160 else if b = 240 then 144 else 128
def hiB (b : Nat) : Nat := if b = 237 then 159 else if b = 244 then 143 else 191
def bt (s : Str) (i : Nat) : Nat := (s.getD i 0).toNat
def badLead (b : Nat) : Bool := decide (128 ≤ b ∧ more b = 0)
def contOk (s : Str) (p k : Nat) : Bool := decide (p + 1 + k < s.length ∧ (if k = 0 then loB (bt s p) else 128) ≤ bt s (p + 1 + k) ∧ bt s (p + 1 + k) ≤ (if k = 0 then hiB (bt s p) else 191))
/-- the letter at a place: how many bytes it has, if it may stand in a word -/
def wst (s : Str) (p : Nat) : Option Nat :=
  if isSep (s.getD p 0) then none else if badLead (bt s p) then none else if (List.range (more (bt s p))).all (contOk s p) then some (more (bt s p) + 1) else none
theorem bt_lt (s : Str) (i : Nat) : bt s i < 256 := (s.getD i 0).toNat_lt
theorem decode_bt (s : Str) (p : Nat) : decodeL (s.drop p) = decodeN (s.length - p) (bt s p) (bt s (p + 1)) (bt s (p + 2)) (bt s (p + 3)) := by
  rw [decodeL_N, List.length_drop, getD_dropU, getD_dropU, getD_dropU, getD_dropU, Nat.add_zero]
  rfl
/-- two, three, four bytes that make a letter -/
def C2 (n b0 b1 : Nat) : Prop := 194 ≤ b0 ∧ b0 ≤ 223 ∧ 1 < n ∧ 128 ≤ b1 ∧ b1 ≤ 191
def C3 (n b0 b1 b2 : Nat) : Prop := 224 ≤ b0 ∧ b0 ≤ 239 ∧ 1 < n ∧ 128 ≤ b1 ∧ b1 ≤ 191 ∧ (b0 = 224 → 160 ≤ b1) ∧ (b0 = 237 → b1 ≤ 159) ∧ 2 < n ∧ 128 ≤ b2 ∧ b2 ≤ 191
def C4 (n b0 b1 b2 b3 : Nat) : Prop := 240 ≤ b0 ∧ b0 ≤ 244 ∧ 1 < n ∧ 128 ≤ b1 ∧ b1 ≤ 191 ∧ (b0 = 240 → 144 ≤ b1) ∧ (b0 = 244 → b1 ≤ 143) ∧ 2 < n ∧ 128 ≤ b2 ∧ b2 ≤ 191 ∧ 3 < n ∧ 128 ≤ b3 ∧ b3 ≤ 191
theorem decN_spec {n b0 b1 b2 b3 : Nat} (h0 : b0 < 256) (h1 : b1 < 256) (h2 : b2 < 256) (h3 : b3 < 256) :
    (b0 < 128 ∧ decodeN n b0 b1 b2 b3 = (b0, 1)) ∨ (128 ≤ b0 ∧ ¬ C2 n b0 b1 ∧ ¬ C3 n b0 b1 b2 ∧ ¬ C4 n b0 b1 b2 b3 ∧ decodeN n b0 b1 b2 b3 = (65533, 1)) ∨
    (C2 n b0 b1 ∧ ∃ r, 128 ≤ r ∧ decodeN n b0 b1 b2 b3 = (r, 2)) ∨ (C3 n b0 b1 b2 ∧ ∃ r, 128 ≤ r ∧ decodeN n b0 b1 b2 b3 = (r, 3)) ∨ (C4 n b0 b1 b2 b3 ∧ ∃ r, 128 ≤ r ∧ decodeN n b0 b1 b2 b3 = (r, 4)) := by
  unfold C2 C3 C4 decodeN
  by_cases q0 : b0 < 128
  · rw [if_pos q0]; exact .inl ⟨q0, rfl⟩
  · rw [if_neg q0]
    right
    by_cases q1 : b0 / 32 = 6 ∧ (1 < n ∧ b1 / 64 = 2)
    · rw [if_pos q1]
      by_cases q2 : b0 % 32 * 64 + b1 % 64 ≥ 128
      · rw [if_pos q2]; exact .inr (.inl ⟨by omega, _, q2, rfl⟩)
      · rw [if_neg q2]; exact .inl ⟨by omega, by omega, by omega, by omega, rfl⟩
    · rw [if_neg q1]
      by_cases q3 : b0 / 16 = 14 ∧ (1 < n ∧ b1 / 64 = 2) ∧ (2 < n ∧ b2 / 64 = 2)
      · rw [if_pos q3]
        by_cases q4 : b0 % 16 * 4096 + b1 % 64 * 64 + b2 % 64 ≥ 2048 ∧ (b0 % 16 * 4096 + b1 % 64 * 64 + b2 % 64 < 55296 ∨ (57344 ≤ b0 % 16 * 4096 + b1 % 64 * 64 + b2 % 64 ∧ b0 % 16 * 4096 + b1 % 64 * 64 + b2 % 64 ≤ 1114111))
        · rw [if_pos q4]; exact .inr (.inr (.inl ⟨by omega, _, by omega, rfl⟩))
        · rw [if_neg q4]; exact .inl ⟨by omega, by omega, by omega, by omega, rfl⟩
      · rw [if_neg q3]
        by_cases q5 : b0 / 8 = 30 ∧ (1 < n ∧ b1 / 64 = 2) ∧ (2 < n ∧ b2 / 64 = 2) ∧ (3 < n ∧ b3 / 64 = 2)
        · rw [if_pos q5]
          by_cases q6 : b0 % 8 * 262144 + b1 % 64 * 4096 + b2 % 64 * 64 + b3 % 64 ≥ 65536 ∧ (b0 % 8 * 262144 + b1 % 64 * 4096 + b2 % 64 * 64 + b3 % 64 < 55296 ∨ (57344 ≤ b0 % 8 * 262144 + b1 % 64 * 4096 + b2 % 64 * 64 + b3 % 64 ∧ b0 % 8 * 262144 + b1 % 64 * 4096 + b2 % 64 * 64 + b3 % 64 ≤ 1114111))
          · rw [if_pos q6]; exact .inr (.inr (.inr ⟨by omega, _, by omega, rfl⟩))
          · rw [if_neg q6]; exact .inl ⟨by omega, by omega, by omega, by omega, rfl⟩
        · rw [if_neg q5]; exact .inl ⟨by omega, by omega, by omega, by omega, rfl⟩
theorem loB_spec (b : Nat) : (b = 224 ∧ loB b = 160) ∨ (b = 240 ∧ loB b = 144) ∨ (b ≠ 224 ∧ b ≠ 240 ∧ loB b = 128) := by
  unfold loB; split
  · exact .inl ⟨by assumption, rfl⟩
  · split
    · exact .inr (.inl ⟨by assumption, rfl⟩)
    · exact .inr (.inr ⟨by assumption, by assumption, rfl⟩)
theorem hiB_spec (b : Nat) : (b = 237 ∧ hiB b = 159) ∨ (b = 244 ∧ hiB b = 143) ∨ (b ≠ 237 ∧ b ≠ 244 ∧ hiB b = 191) := by
  unfold hiB; split
  · exact .inl ⟨by assumption, rfl⟩
  · split
    · exact .inr (.inl ⟨by assumption, rfl⟩)
    · exact .inr (.inr ⟨by assumption, by assumption, rfl⟩)
theorem more_spec (b : Nat) : (more b = 1 ∧ 194 ≤ b ∧ b ≤ 223) ∨ (more b = 2 ∧ 224 ≤ b ∧ b ≤ 239) ∨ (more b = 3 ∧ 240 ≤ b ∧ b ≤ 244) ∨ (more b = 0 ∧ (b < 194 ∨ 244 < b)) := by
  unfold more
  split
  · exact .inl ⟨rfl, by assumption⟩
  · split
    · exact .inr (.inl ⟨rfl, by assumption⟩)
    · split
      · exact .inr (.inr (.inl ⟨rfl, by assumption⟩))
      · exact .inr (.inr (.inr ⟨rfl, by omega⟩))
theorem cont0 {s : Str} {p : Nat} : contOk s p 0 = true ↔ p + 1 < s.length ∧ loB (bt s p) ≤ bt s (p + 1) ∧ bt s (p + 1) ≤ hiB (bt s p) := by
  unfold contOk; rw [if_pos rfl, if_pos rfl, decide_eq_true_eq]
theorem cont1 {s : Str} {p : Nat} : contOk s p 1 = true ↔ p + 2 < s.length ∧ 128 ≤ bt s (p + 2) ∧ bt s (p + 2) ≤ 191 := by
  unfold contOk; rw [if_neg (by decide), if_neg (by decide), decide_eq_true_eq]
theorem cont2 {s : Str} {p : Nat} : contOk s p 2 = true ↔ p + 3 < s.length ∧ 128 ≤ bt s (p + 3) ∧ bt s (p + 3) ≤ 191 := by
  unfold contOk; rw [if_neg (by decide), if_neg (by decide), decide_eq_true_eq]
theorem wst_iff {s : Str} {p m : Nat} (hs : isSep (s.getD p 0) = false) (hm : more (bt s p) = m) (hb : ¬ (128 ≤ bt s p ∧ m = 0)) : wst s p = if (List.range m).all (contOk s p) then some (m + 1) else none := by
  unfold wst
  have h1 : badLead (bt s p) = false := by unfold badLead; rw [hm]; exact decide_eq_false hb
  rw [hs, h1, hm]; rfl
theorem wst_dec {s : Str} {p : Nat} (hp : p < s.length) (hs : isSep (s.getD p 0) = false) :
    wst s p = if (decodeL (s.drop p)).1 = 65533 ∧ (decodeL (s.drop p)).2 = 1 then none else some (decodeL (s.drop p)).2 := by
  rw [decode_bt]
  have hlo := loB_spec (bt s p)
  have hhi := hiB_spec (bt s p)
  have hmo := more_spec (bt s p)
  have r1 : (List.range 1).all (contOk s p) = contOk s p 0 := by simp [List.range_succ]
  have r2 : (List.range 2).all (contOk s p) = (contOk s p 0 && contOk s p 1) := by simp [List.range_succ]
  have r3 : (List.range 3).all (contOk s p) = (contOk s p 0 && contOk s p 1 && contOk s p 2) := by simp [List.range_succ, Bool.and_assoc]
  rcases decN_spec (n := s.length - p) (bt_lt s p) (bt_lt s (p + 1)) (bt_lt s (p + 2)) (bt_lt s (p + 3)) with ⟨h1, h2⟩ | ⟨h1, n2, n3, n4, h2⟩ | ⟨h1, r, hr, h2⟩ | ⟨h1, r, hr, h2⟩ | ⟨h1, r, hr, h2⟩ <;> rw [h2]
  · rw [if_neg (by simp only; omega), wst_iff hs (m := 0) (by omega) (by omega)]; rfl
  · rw [if_pos (by simp)]
    unfold C2 at n2
    unfold C3 at n3
    unfold C4 at n4
    rcases hmo with ⟨hm, hq⟩ | ⟨hm, hq⟩ | ⟨hm, hq⟩ | ⟨hm, hq⟩
    · rw [wst_iff hs hm (by omega), r1, if_neg (by rw [cont0]; omega)]
    · rw [wst_iff hs hm (by omega), r2, if_neg (by rw [Bool.and_eq_true, cont0, cont1]; omega)]
    · rw [wst_iff hs hm (by omega), r3, if_neg (by rw [Bool.and_eq_true, Bool.and_eq_true, cont0, cont1, cont2]; omega)]
    · unfold wst
      rw [hs, show badLead (bt s p) = true by unfold badLead; exact decide_eq_true ⟨h1, hm⟩]; rfl
  · unfold C2 at h1
    rw [if_neg (by simp), wst_iff hs (m := 1) (by omega) (by omega), r1, if_pos (by rw [cont0]; omega)]
  · unfold C3 at h1
    rw [if_neg (by simp), wst_iff hs (m := 2) (by omega) (by omega), r2, if_pos (by rw [Bool.and_eq_true, cont0, cont1]; omega)]
  · unfold C4 at h1
    rw [if_neg (by simp), wst_iff hs (m := 3) (by omega) (by omega), r3, if_pos (by rw [Bool.and_eq_true, Bool.and_eq_true, cont0, cont1, cont2]; omega)]
/-- what the decoder takes: its bytes are there, and of a letter beyond the first 128 none is among them -/
theorem dec_bytes {s : Str} {p : Nat} (hp : p < s.length) : 1 ≤ (decodeL (s.drop p)).2 ∧ p + (decodeL (s.drop p)).2 ≤ s.length ∧
    ((bt s p < 128 ∧ decodeL (s.drop p) = (bt s p, 1)) ∨ (128 ≤ (decodeL (s.drop p)).1 ∧ ∀ j, j < (decodeL (s.drop p)).2 → 128 ≤ bt s (p + j))) := by
  rw [decode_bt]
  have e0 : bt s (p + 0) = bt s p := rfl
  have h4 : ∀ w, (w = 1 ∨ (w = 2 ∧ 128 ≤ bt s (p + 1)) ∨ (w = 3 ∧ 128 ≤ bt s (p + 1) ∧ 128 ≤ bt s (p + 2)) ∨ (w = 4 ∧ 128 ≤ bt s (p + 1) ∧ 128 ≤ bt s (p + 2) ∧ 128 ≤ bt s (p + 3))) → 128 ≤ bt s p → ∀ j, j < w → 128 ≤ bt s (p + j) := by
    intro w h h0 j hj
    have : j = 0 ∨ j = 1 ∨ j = 2 ∨ j = 3 := by omega
    rcases this with rfl | rfl | rfl | rfl
    · exact h0
    · omega
    · omega
    · omega
  rcases decN_spec (n := s.length - p) (bt_lt s p) (bt_lt s (p + 1)) (bt_lt s (p + 2)) (bt_lt s (p + 3)) with ⟨h1, h2⟩ | ⟨h1, n2, n3, n4, h2⟩ | ⟨h1, r, hr, h2⟩ | ⟨h1, r, hr, h2⟩ | ⟨h1, r, hr, h2⟩ <;> rw [h2]
  · exact ⟨Nat.le_refl _, (show p + 1 ≤ s.length by omega), .inl ⟨h1, rfl⟩⟩
  · exact ⟨Nat.le_refl _, (show p + 1 ≤ s.length by omega), .inr ⟨(show 128 ≤ 65533 by decide), h4 1 (.inl rfl) h1⟩⟩
  · unfold C2 at h1
    exact ⟨(show 1 ≤ 2 by decide), (show p + 2 ≤ s.length by omega), .inr ⟨hr, h4 2 (by omega) (by omega)⟩⟩
  · unfold C3 at h1
    exact ⟨(show 1 ≤ 3 by decide), (show p + 3 ≤ s.length by omega), .inr ⟨hr, h4 3 (by omega) (by omega)⟩⟩
  · unfold C4 at h1
    exact ⟨(show 1 ≤ 4 by decide), (show p + 4 ≤ s.length by omega), .inr ⟨hr, h4 4 (by omega) (by omega)⟩⟩
theorem sepsTo_dec {s : Str} {p : Nat} (hp : p < s.length) (hs : isSep (s.getD p 0) = false) : (s.drop p).any isSep = (s.drop (p + (decodeL (s.drop p)).2)).any isSep := by
  obtain ⟨h1, h2, h3⟩ := dec_bytes hp
  have h3 : (decodeL (s.drop p)).2 = 1 ∨ ∀ j, j < (decodeL (s.drop p)).2 → 128 ≤ bt s (p + j) := h3.imp (fun q => by rw [q.2]) (fun q => q.2)
  generalize (decodeL (s.drop p)).2 = w at *
  have e : s.drop p = (s.drop p).take w ++ s.drop (p + w) := by rw [← List.drop_drop, List.take_append_drop]
  rw [e, List.any_append]
  have : ((s.drop p).take w).any isSep = false := by
    rw [List.any_eq_false]
    intro x hx
    obtain ⟨j, hj, rfl⟩ := List.mem_iff_getElem.1 hx
    rw [List.length_take, List.length_drop] at hj
    rw [List.getElem_take, List.getElem_drop]
    have hgd : s[p + j]'(by omega) = s.getD (p + j) 0 := by rw [List.getD_eq_getElem?_getD, List.getElem?_eq_getElem (by omega)]; rfl
    rw [hgd]
    rcases h3 with q | q
    · obtain rfl : j = 0 := by omega
      rw [Nat.add_zero, hs]; decide
    · rw [isSep_high (q j (by omega))]; decide
  rw [this, Bool.false_or]
def wcnt (s : Str) : Nat → Nat → Option Nat
  | 0, _ => some 0
  | f + 1, p => if p < s.length then match wst s p with
    | none => none
    | some w => (wcnt s f (p + w)).map (· + 1)
    else some 0
theorem wcnt_eq (s : Str) : ∀ (f p : Nat), s.length - p ≤ f → wcnt s f p = if validGoD f (s.drop p) && !(s.drop p).any isSep then some (runeCountFrom ⟨s.toArray⟩ f p) else none
  | 0, p, h => by
    rw [List.drop_of_length_le (by omega)]
    simp [wcnt, validGoD, runeCountFrom]
  | f + 1, p, h => by
    by_cases hp : p < s.length
    · have hd : s.drop p ≠ [] := by intro e; have := congrArg List.length e; rw [List.length_drop, List.length_nil] at this; omega
      have hx : s[p]? = some (s.getD p 0) := some_getD 0 hp
      rw [wcnt, if_pos hp]
      cases hs : isSep (s.getD p 0) with
      | true =>
        have h1 : wst s p = none := by unfold wst; rw [hs]; rfl
        have h2 : (s.drop p).any isSep = true := by rw [drop_of_some hx, List.any_cons, hs]; rfl
        rw [h1, h2]; simp
      | false =>
        rw [wst_dec hp hs, validGoD, if_neg hd]
        obtain ⟨w1, w2, w3⟩ := dec_bytes hp
        by_cases hb : (decodeL (s.drop p)).1 = 65533 ∧ (decodeL (s.drop p)).2 = 1
        · rw [if_pos hb, if_pos hb]; rfl
        · rw [if_neg hb, if_neg hb, sepsTo_dec hp hs, List.drop_drop]
          have ih := wcnt_eq s f (p + (decodeL (s.drop p)).2) (by omega)
          show Option.map _ _ = _
          rw [ih, runeCountFrom]
          have hsz : p < (⟨s.toArray⟩ : ByteArray).size := by show p < s.toArray.size; simpa using hp
          rw [if_pos hsz]
          have hdec := decodeL_drop ⟨s.toArray⟩ p
          simp only at hdec
          rw [← hdec]
          split
          · simp [Nat.add_comm]
          · rfl
    · rw [wcnt, if_neg hp, List.drop_of_length_le (by omega)]
      have hsz : ¬ p < (⟨s.toArray⟩ : ByteArray).size := by show ¬ p < s.toArray.size; simpa using hp
      simp [validGoD, runeCountFrom, hsz]
def wordN : Option Nat → Bool
  | some n => decide (1 ≤ n ∧ n ≤ 30)
  | none => false
/-- a word: 1 to 30 letters, none of which parts words -/
def isWord (s : Str) : Bool := wordN (wcnt s s.length 0)
theorem isWord_eq (s : Str) : isWord s = (decide (1 ≤ runeCountL s) && decide (runeCountL s ≤ 30) && validD s && !s.any isSep) := by
  unfold isWord
  rw [wcnt_eq s s.length 0 (by omega), List.drop_zero]
  have : runeCountFrom ⟨s.toArray⟩ s.length 0 = runeCountL s := by unfold runeCountL runeCount; congr 1
  rw [this]
  unfold validD
  cases validGoD s.length s <;> cases s.any isSep <;> simp [wordN]
theorem wcnt_more (s : Str) : ∀ (f f' p : Nat), s.length - p ≤ f → s.length - p ≤ f' → wcnt s f p = wcnt s f' p := by
  intro f
  induction f with
  | zero =>
    intro f' p h h'
    cases f' with
    | zero => rfl
    | succ f' => rw [wcnt, wcnt, if_neg (by omega)]
  | succ f ih =>
    intro f' p h h'
    cases f' with
    | zero => rw [wcnt, wcnt, if_neg (by omega)]
    | succ f' =>
      rw [wcnt, wcnt]
      by_cases hp : p < s.length
      · rw [if_pos hp, if_pos hp]
        cases hw : wst s p with
        | none => rfl
        | some w =>
          have : 1 ≤ w := by
            unfold wst at hw
            split at hw
            · cases hw
            · split at hw
              · cases hw
              · split at hw
                · simp only [Option.some.injEq] at hw; omega
                · cases hw
          show Option.map _ _ = Option.map _ _
          rw [ih f' (p + w) (by omega) (by omega)]
      · rw [if_neg hp, if_neg hp]
def wc (s : Str) (p : Nat) : Option Nat := wcnt s (s.length - p) p
theorem wc_end {s : Str} {p : Nat} (h : s.length ≤ p) : wc s p = some 0 := by
  unfold wc; rw [show s.length - p = 0 by omega]; rfl
theorem wc_none {s : Str} {p : Nat} (h : p < s.length) (hw : wst s p = none) : wc s p = none := by
  unfold wc
  obtain ⟨f, hf⟩ : ∃ f, s.length - p = f + 1 := ⟨s.length - p - 1, by omega⟩
  rw [hf, wcnt, if_pos h, hw]
theorem wc_some {s : Str} {p w : Nat} (h : p < s.length) (hw : wst s p = some (w + 1)) : wc s p = (wc s (p + (w + 1))).map (· + 1) := by
  unfold wc
  obtain ⟨f, hf⟩ : ∃ f, s.length - p = f + 1 := ⟨s.length - p - 1, by omega⟩
  rw [hf, wcnt, if_pos h, hw]
  show Option.map _ _ = Option.map _ _
  rw [wcnt_more s f (s.length - (p + (w + 1))) (p + (w + 1)) (by omega) (Nat.le_refl _)]
theorem isWord_wc (s : Str) : isWord s = wordN (wc s 0) := rfl
/-- n letters read so far, what is left from p on -/
def wordAt (s : Str) (n p : Nat) : Bool := wordN ((wc s p).map (· + n))
theorem wordAt_zero (s : Str) : isWord s = wordAt s 0 0 := by
  unfold wordAt; rw [isWord_wc]; cases wc s 0 <;> rfl
theorem wordAt_none {s : Str} {n p : Nat} (h : p < s.length) (hw : wst s p = none) : wordAt s n p = false := by
  unfold wordAt; rw [wc_none h hw]; rfl
theorem wordAt_some {s : Str} {n p w : Nat} (h : p < s.length) (hw : wst s p = some (w + 1)) : wordAt s n p = wordAt s (n + 1) (p + (w + 1)) := by
  unfold wordAt
  rw [wc_some h hw]
  cases wc s (p + (w + 1)) with
  | none => rfl
  | some k => simp [wordN, Nat.add_comm, Nat.add_left_comm]
theorem wordAt_end {s : Str} {n p : Nat} (h : s.length ≤ p) : wordAt s n p = decide (1 ≤ n ∧ n ≤ 30) := by
  unfold wordAt; rw [wc_end h]; simp [wordN]
theorem wst_sep {s : Str} {p : Nat} (h : isSep (s.getD p 0) = true) : wst s p = none := by unfold wst; rw [h]; rfl
theorem wst_bad {s : Str} {p : Nat} (h : badLead (bt s p) = true) : wst s p = none := by unfold wst; rw [h]; split <;> rfl
theorem wst_cont {s : Str} {p k : Nat} (hk : k < more (bt s p)) (h : contOk s p k = false) : wst s p = none := by
  unfold wst
  split
  · rfl
  · split
    · rfl
    · rw [if_neg]
      intro hall
      have := List.all_eq_true.1 hall k (List.mem_range.2 hk)
      rw [h] at this; cases this
theorem wst_ok {s : Str} {p : Nat} (h1 : isSep (s.getD p 0) = false) (h2 : badLead (bt s p) = false) (h : (List.range (more (bt s p))).all (contOk s p) = true) : wst s p = some (more (bt s p) + 1) := by
  unfold wst; rw [h1, h2, h]; rfl
end Go.J

/-
  (YtgikcbfdonjggaaGreatDoorOrdP)
  Orders by precedence rules: what the code and the reference compute, as plain functions on lists.
  Conditions: none.
-/
namespace Go.J
open Go

structure Prec where
  kind : Int
  a : Str
  b : Str

def precR : Rp Prec where
  size := 3
  pos := by decide
  cells p := [iv p.kind, sv p.a, sv p.b]
  wf p := i64ok p.kind ∧ p.a.length ≤ 9223372036854775807 ∧ p.b.length ≤ 9223372036854775807
  len _ := rfl
  one _ u h := by simp at h; rcases h with rfl | rfl | rfl <;> rfl
instance (p : Prec) : Cel precR p [iv p.kind, sv p.a, sv p.b] := ⟨rfl⟩

def pairK (p : Prec) : Bool := decide (p.kind = 1) || decide (p.kind = 2)
/-- what is wrong with a rule; 0: nothing -/
def badRule (p : Prec) : Int :=
  if (!pairK p && !decide (p.kind = 3)) && !decide (p.kind = 4) then 4
  else if !isName p.a || (pairK p && !isName p.b) then 10
  else if !pairK p && !(p.b == []) then 5
  else 0
def vfFrom : Nat → List Prec → Int × Int
  | _, [] => (0, 0)
  | i, p :: ps => if badRule p = 0 then vfFrom (i + 1) ps else (badRule p, i)
/-- what Validate reports -/
def vfault (rules : List Prec) : Int × Int := if 300 < (rules.length : Int) then (2, -1) else vfFrom 0 rules

def nfFrom : Nat → List Str → Int × Int
  | _, [] => (0, 0)
  | i, s :: ss => if isName s then nfFrom (i + 1) ss else (10, i)
/-- the first error of rules and kinds -/
def chk (rules : List Prec) (kinds : List Str) : Int × Int :=
  if (vfault rules).1 ≠ 0 then vfault rules else if 7 < (kinds.length : Int) then (2, -2) else nfFrom 0 kinds

theorem vfFrom_step {rules : List Prec} {k : Nat} {p : Prec} (hp : rules[k]? = some p) : vfFrom k (rules.drop k) = if badRule p = 0 then vfFrom (k + 1) (rules.drop (k + 1)) else (badRule p, k) := by
  rw [drop_of_some hp]; rfl
theorem nfFrom_step {ks : List Str} {k : Nat} {s : Str} (hp : ks[k]? = some s) : nfFrom k (ks.drop k) = if isName s then nfFrom (k + 1) (ks.drop (k + 1)) else (10, k) := by
  rw [drop_of_some hp]; rfl
theorem vfFrom_end {rules : List Prec} {k : Nat} (h : rules.length ≤ k) : vfFrom k (rules.drop k) = (0, 0) := by rw [List.drop_of_length_le h]; rfl
theorem nfFrom_end {ks : List Str} {k : Nat} (h : ks.length ≤ k) : nfFrom k (ks.drop k) = (0, 0) := by rw [List.drop_of_length_le h]; rfl
theorem badRule_kind {p : Prec} (h : ¬ p.kind = 1 ∧ ¬ p.kind = 2 ∧ ¬ p.kind = 3 ∧ ¬ p.kind = 4) : badRule p = 4 := by
  simp [badRule, pairK, h.1, h.2.1, h.2.2.1, h.2.2.2]
theorem badRule_name {p : Prec} (h : p.kind = 1 ∨ p.kind = 2 ∨ p.kind = 3 ∨ p.kind = 4) (k : isName p.a = false ∨ ((p.kind = 1 ∨ p.kind = 2) ∧ isName p.b = false)) : badRule p = 10 := by
  unfold badRule
  rw [if_neg (by simp only [pairK, Bool.and_eq_true, Bool.not_eq_true', Bool.or_eq_false_iff, decide_eq_false_iff_not]; omega), if_pos (by
    simp only [pairK, Bool.or_eq_true, Bool.and_eq_true, Bool.not_eq_true', decide_eq_true_eq]; exact k)]
theorem badRule_rest {p : Prec} (h : p.kind = 1 ∨ p.kind = 2 ∨ p.kind = 3 ∨ p.kind = 4) (k1 : isName p.a = true) (k2 : (p.kind = 1 ∨ p.kind = 2) → isName p.b = true) : badRule p = if ¬ (p.kind = 1 ∨ p.kind = 2) ∧ ¬ p.b = [] then 5 else 0 := by
  unfold badRule
  have h1 : ¬ (((!pairK p && !decide (p.kind = 3)) && !decide (p.kind = 4)) = true) := by
    simp only [pairK, Bool.and_eq_true, Bool.not_eq_true', Bool.or_eq_false_iff, decide_eq_false_iff_not]; omega
  have h2 : ¬ ((!isName p.a || (pairK p && !isName p.b)) = true) := by
    simp only [k1, pairK, Bool.not_true, Bool.false_or, Bool.and_eq_true, Bool.or_eq_true, decide_eq_true_eq, Bool.not_eq_true']
    rintro ⟨h3, h4⟩
    rw [k2 h3] at h4; cases h4
  rw [if_neg h1, if_neg h2]
  by_cases h3 : p.kind = 1 ∨ p.kind = 2
  · have : pairK p = true := by simp only [pairK, Bool.or_eq_true, decide_eq_true_eq]; exact h3
    simp [this, h3]
  · have : pairK p = false := by simp only [pairK, Bool.or_eq_false_iff, decide_eq_false_iff_not]; omega
    simp [this, h3]
theorem vfault_big {rules : List Prec} (h : 300 < (rules.length : Int)) : vfault rules = (2, -1) := by simp only [vfault, if_pos h]
theorem vfault_from {rules : List Prec} (h : (rules.length : Int) ≤ 300) : vfault rules = vfFrom 0 (rules.drop 0) := by simp only [vfault, if_neg (Int.not_lt.2 h), List.drop_zero]
theorem vf_bad {rules : List Prec} {k : Nat} {p : Prec} {e : Int} (hv : vfault rules = vfFrom k (rules.drop k)) (hp : rules[k]? = some p) (hb : badRule p = e) (he : e ≠ 0) : vfault rules = (e, (k : Int)) := by
  rw [hv, vfFrom_step hp, if_neg (by rw [hb]; exact he), hb]
theorem vf_good {rules : List Prec} {k : Nat} {p : Prec} (hv : vfault rules = vfFrom k (rules.drop k)) (hp : rules[k]? = some p) (hb : badRule p = 0) : vfault rules = vfFrom (k + 1) (rules.drop (k + 1)) := by
  rw [hv, vfFrom_step hp, if_pos hb]
theorem vf_end {rules : List Prec} {k : Nat} (hv : vfault rules = vfFrom k (rules.drop k)) (h : rules.length ≤ k) : vfault rules = (0, 0) := by rw [hv, vfFrom_end h]
theorem chk_bad {rules : List Prec} {ks : List Str} (h : (vfault rules).1 ≠ 0) : chk rules ks = vfault rules := by simp only [chk, if_pos h]
theorem chk_many {rules : List Prec} {ks : List Str} (h : (vfault rules).1 = 0) (h2 : 7 < (ks.length : Int)) : chk rules ks = (2, -2) := by simp [chk, h, h2]
theorem chk_from {rules : List Prec} {ks : List Str} (h : (vfault rules).1 = 0) (h2 : (ks.length : Int) ≤ 7) : chk rules ks = nfFrom 0 (ks.drop 0) := by simp [chk, h, Int.not_lt.2 h2]
theorem nf_bad {f : Int × Int} {ks : List Str} {k : Nat} {s : Str} (hv : f = nfFrom k (ks.drop k)) (hp : ks[k]? = some s) (hb : isName s = false) : f = (10, (k : Int)) := by
  rw [hv, nfFrom_step hp, hb]; rfl
theorem nf_good {f : Int × Int} {ks : List Str} {k : Nat} {s : Str} (hv : f = nfFrom k (ks.drop k)) (hp : ks[k]? = some s) (hb : isName s = true) : f = nfFrom (k + 1) (ks.drop (k + 1)) := by
  rw [hv, nfFrom_step hp, hb]; rfl
theorem nf_end {f : Int × Int} {ks : List Str} {k : Nat} (hv : f = nfFrom k (ks.drop k)) (h : ks.length ≤ k) : f = (0, 0) := by rw [hv, nfFrom_end h]
end Go.J

/-
  (YtgikcbfdonjggaaGreatDoorOrdQ)
  Whether a row of kinds respects a rule: the reference goes pair by pair, the code by kinds of rules; both give the same.
  Conditions: where said, the kind of the rule is one of the four.
-/
namespace Go.J
open Go
set_option linter.unusedSimpArgs false

section
variable (p : Prec) (row : List Str)
def kp1 (i k : Nat) : Bool := ((decide (p.kind = 1) && (row.getD i [] == p.a)) && (row.getD k [] == p.b)) && decide ((k : Int) < i)
def kp3 (i k : Nat) : Bool := ((decide (p.kind = 3) && (row.getD i [] == p.a)) && !(row.getD k [] == p.a)) && decide ((k : Int) < i)
def kp4 (i k : Nat) : Bool := ((decide (p.kind = 4) && (row.getD i [] == p.a)) && !(row.getD k [] == p.a)) && decide ((i : Int) < k)
def kp2 (i : Nat) : Bool := (decide (p.kind = 2) && (row.getD i [] == p.a)) && (decide ((i : Int) = (row.length : Int) - 1) || !(row.getD (i + 1) [] == p.b))
def okPair (i k : Nat) : Bool := decide ((i : Int) = k) || (!kp1 p row i k && (!kp3 p row i k && !kp4 p row i k))
def okAt (i : Nat) : Bool := (List.range row.length).all (okPair p row i) && !kp2 p row i
/-- the row respects the rule -/
def keeps : Bool := (List.range row.length).all (okAt p row)

/-- the last place below k that holds the kind, or -1 -/
def lastTo (a : Str) : Nat → Int
  | 0 => -1
  | k + 1 => if row.getD k [] == a then (k : Int) else lastTo a k
/-- from the front, or from the back -/
def rowAt (i : Nat) : Str := if p.kind = 4 then row.getD (row.length - 1 - i) [] else row.getD i []
def seenTo (k : Nat) : Bool := (List.range k).any fun j => !(rowAt p row j == p.a)
def noneTo (k : Nat) : Bool := (List.range k).all fun i => !((rowAt p row i == p.a) && seenTo p row i)
end

variable {p : Prec} {row : List Str}
theorem lastTo_t {a : Str} {k : Nat} (h : row.getD k [] = a) : lastTo row a (k + 1) = k := by simp only [lastTo, h, beq_self_eq_true, if_true]
theorem lastTo_f {a : Str} {k : Nat} (h : ¬ row.getD k [] = a) : lastTo row a (k + 1) = lastTo row a k := by simp only [lastTo, beq_iff_eq, h, if_false]
theorem lastTo_spec (a : Str) : ∀ k, (lastTo row a k = -1 ∧ ∀ i, i < k → ¬ row.getD i [] = a) ∨ ∃ j, j < k ∧ lastTo row a k = j ∧ row.getD j [] = a ∧ ∀ i, j < i → i < k → ¬ row.getD i [] = a
  | 0 => .inl ⟨rfl, fun i hi => by omega⟩
  | k + 1 => by
    by_cases h : row.getD k [] = a
    · exact .inr ⟨k, by omega, lastTo_t h, h, fun i h1 h2 => by omega⟩
    · rw [lastTo_f h]
      rcases lastTo_spec a k with ⟨h1, h2⟩ | ⟨j, h1, h2, h3, h4⟩
      · exact .inl ⟨h1, fun i hi => by
          rcases Nat.lt_or_ge i k with h5 | h5
          · exact h2 i h5
          · rwa [show i = k by omega]⟩
      · exact .inr ⟨j, by omega, h2, h3, fun i h5 h6 => by
          rcases Nat.lt_or_ge i k with h7 | h7
          · exact h4 i h5 h7
          · rwa [show i = k by omega]⟩

theorem seenTo_iff {k : Nat} : seenTo p row k = true ↔ ∃ j, j < k ∧ ¬ rowAt p row j = p.a := by
  simp only [seenTo, List.any_eq_true, List.mem_range, Bool.not_eq_true', beq_eq_false_iff_ne, ne_eq]
theorem seenTo_t {k : Nat} (h : ¬ rowAt p row k = p.a) : seenTo p row (k + 1) = true := seenTo_iff.2 ⟨k, by omega, h⟩
theorem seenTo_f {k : Nat} (h : rowAt p row k = p.a) : seenTo p row (k + 1) = seenTo p row k := by
  rw [Bool.eq_iff_iff, seenTo_iff, seenTo_iff]
  constructor
  · rintro ⟨j, h1, h2⟩
    refine ⟨j, ?_, h2⟩
    rcases Nat.lt_or_ge j k with h3 | h3
    · exact h3
    · exact absurd (by rw [show j = k by omega]; exact h) h2
  · rintro ⟨j, h1, h2⟩; exact ⟨j, by omega, h2⟩
theorem noneTo_succ {k : Nat} (h : noneTo p row k = true) (hk : ¬ rowAt p row k = p.a ∨ seenTo p row k = false) : noneTo p row (k + 1) = true := by
  refine all_range_succ h ?_
  rcases hk with hk | hk
  · simp [-List.getD_eq_getElem?_getD, hk]
  · simp [-List.getD_eq_getElem?_getD, hk]

theorem keeps_iff : keeps p row = true ↔ ∀ i, i < row.length → (∀ k, k < row.length → okPair p row i k = true) ∧ kp2 p row i = false := by
  simp only [keeps, all_range_iff, okAt, Bool.and_eq_true, Bool.not_eq_true']
theorem keeps_false {i : Nat} (hi : i < row.length) (h : okAt p row i = false) : keeps p row = false := all_range_false hi h
theorem okAt_false1 {i k : Nat} (hk : k < row.length) (h : okPair p row i k = false) : okAt p row i = false := by
  simp only [okAt, all_range_false hk h, Bool.false_and]
theorem okAt_false2 {i : Nat} (h : kp2 p row i = true) : okAt p row i = false := by simp only [okAt, h, Bool.not_true, Bool.and_false]

theorem okPair_same {i k : Nat} (h : (i : Int) = k) : okPair p row i k = true := by simp only [okPair, h, decide_true, Bool.true_or]
theorem okPair_ok {i k : Nat} (h1 : kp1 p row i k = false) (h3 : kp3 p row i k = false) (h4 : kp4 p row i k = false) : okPair p row i k = true := by simp only [okPair, h1, h3, h4, Bool.not_false, Bool.and_true, Bool.or_true]
theorem okPair_bad {i k : Nat} (hne : ¬ (i : Int) = k) (h : kp1 p row i k = true ∨ kp3 p row i k = true ∨ kp4 p row i k = true) : okPair p row i k = false := by
  rcases h with h | h | h <;> simp [-List.getD_eq_getElem?_getD, okPair, hne, h]
theorem okAt_ok {i k : Nat} (hk : row.length ≤ k) (hk2 : k ≤ row.length) (h : (List.range k).all (okPair p row i) = true) (h2 : kp2 p row i = false) : okAt p row i = true := by
  have e : k = row.length := by omega
  subst e
  simp only [okAt, h, h2, Bool.not_false, Bool.and_true]

theorem keeps1 (hp : p.kind = 1) : keeps p row = true ↔ ∀ i k, i < row.length → k < i → row.getD i [] = p.a → row.getD k [] = p.b → False := by
  rw [keeps_iff]
  simp only [okPair, kp1, kp2, kp3, kp4, hp]
  constructor
  · intro h i k hi hk h1 h2
    have h3 := (h i hi).1 k (by omega)
    simp [-List.getD_eq_getElem?_getD, h1, h2] at h3
    omega
  · intro h i hi
    refine ⟨fun k hk => ?_, by simp⟩
    by_cases hik : (k : Int) < i
    · have h4 := h i k hi (by omega)
      simp only [Bool.or_eq_true, decide_eq_true_eq]
      right
      by_cases h5 : row.getD i [] = p.a
      · by_cases h6 : row.getD k [] = p.b
        · exact (h4 h5 h6).elim
        · simp [-List.getD_eq_getElem?_getD, h6]
      · simp [-List.getD_eq_getElem?_getD, h5]
    · simp [-List.getD_eq_getElem?_getD, hik]

theorem resp1 (hp : p.kind = 1) (h : ¬ p.a = p.b) : (decide (ix (fun y => p.b == y) row < 0) || decide (lastTo row p.a row.length < ix (fun y => p.b == y) row)) = keeps p row := by
  rw [Bool.eq_iff_iff, keeps1 hp]
  simp only [Bool.or_eq_true, decide_eq_true_eq]
  have hg : ∀ {i : Nat} {y : Str}, row[i]? = some y → row.getD i [] = y := fun h => getD_of_some h
  rcases ix_cases (fun y => p.b == y) row with ⟨h1, h2⟩ | ⟨k, x, h1, h2, h3, h4⟩
  · rw [h1]
    constructor
    · intro _ i k hi hk ha hb
      have h3 := h2 row[k] (List.getElem_mem (by omega))
      have h5 := hg (List.getElem?_eq_getElem (show k < row.length by omega))
      rw [hb] at h5
      simp [-List.getD_eq_getElem?_getD, h5] at h3
    · intro _; left; decide
  · rw [h3]
    have hb : row.getD k [] = p.b := by rw [hg h1]; symm; simpa using h2
    have hkl := lt_of_some h1
    rcases lastTo_spec (row := row) p.a row.length with ⟨h5, h6⟩ | ⟨j, h5, h6, h7, h8⟩
    · rw [h5]
      constructor
      · intro _ i k' hi _ ha _; exact h6 i hi ha
      · intro _; right; omega
    · rw [h6]
      constructor
      · intro hh i k' hi hk' ha hb'
        have h9 : k ≤ k' := by
          rcases Nat.lt_or_ge k' k with h10 | h10
          · have := h4 k' row[k'] h10 (List.getElem?_eq_getElem (by omega))
            have h11 := hg (List.getElem?_eq_getElem (show k' < row.length by omega))
            rw [hb'] at h11
            simp [-List.getD_eq_getElem?_getD, ← h11] at this
          · exact h10
        have h10 : i ≤ j := by
          rcases Nat.lt_or_ge j i with h11 | h11
          · exact absurd ha (h8 i h11 hi)
          · exact h11
        omega
      · intro hh
        right
        rcases Nat.lt_trichotomy j k with h9 | h9 | h9
        · omega
        · subst h9; exact absurd (h7.symm.trans hb) h
        · exact (hh j k h5 h9 h7 hb).elim

theorem resp1' (hp : p.kind = 1) (h : p.a = p.b) : decide (ix (fun y => p.b == y) row = lastTo row p.a row.length) = keeps p row := by
  rw [Bool.eq_iff_iff, keeps1 hp]
  simp only [decide_eq_true_eq]
  have hg : ∀ {i : Nat} {y : Str}, row[i]? = some y → row.getD i [] = y := fun h => getD_of_some h
  rcases ix_cases (fun y => p.b == y) row with ⟨h1, h2⟩ | ⟨k, x, h1, h2, h3, h4⟩
  · rw [h1]
    have hno : ∀ i, i < row.length → ¬ row.getD i [] = p.b := fun i hi hb => by
      have h3 := h2 row[i] (List.getElem_mem hi)
      have h5 := hg (List.getElem?_eq_getElem hi)
      rw [hb] at h5
      simp [-List.getD_eq_getElem?_getD, h5] at h3
    constructor
    · intro _ i k hi hk _ hb; exact hno k (by omega) hb
    · intro _
      rcases lastTo_spec (row := row) p.a row.length with ⟨h5, h6⟩ | ⟨j, h5, h6, h7, h8⟩
      · rw [h5]
      · exact absurd (h7.trans h) (hno j h5)
  · rw [h3]
    have hb : row.getD k [] = p.b := by rw [hg h1]; symm; simpa using h2
    have hkl := lt_of_some h1
    rcases lastTo_spec (row := row) p.a row.length with ⟨h5, h6⟩ | ⟨j, h5, h6, h7, h8⟩
    · exact absurd (hb.trans h.symm) (h6 k hkl)
    · rw [h6]
      constructor
      · intro hh i k' hi hk' ha hb'
        have h9 : k ≤ k' := by
          rcases Nat.lt_or_ge k' k with h10 | h10
          · have := h4 k' row[k'] h10 (List.getElem?_eq_getElem (by omega))
            have h11 := hg (List.getElem?_eq_getElem (show k' < row.length by omega))
            rw [hb'] at h11
            simp [-List.getD_eq_getElem?_getD, ← h11] at this
          · exact h10
        have h10 : i ≤ j := by
          rcases Nat.lt_or_ge j i with h11 | h11
          · exact absurd ha (h8 i h11 hi)
          · exact h11
        omega
      · intro hh
        rcases Nat.lt_trichotomy j k with h9 | h9 | h9
        · exact absurd (hb.trans h.symm) (h8 k h9 hkl)
        · omega
        · exact (hh j k h5 h9 h7 hb).elim

theorem keeps2 (hp : p.kind = 2) : keeps p row = (List.range row.length).all fun i => !kp2 p row i := by
  rw [Bool.eq_iff_iff, keeps_iff, all_range_iff]
  constructor
  · intro h i hi; simp [-List.getD_eq_getElem?_getD, (h i hi).2]
  · intro h i hi
    refine ⟨fun k hk => by simp [-List.getD_eq_getElem?_getD, okPair, kp1, kp3, kp4, hp], by simpa using h i hi⟩

theorem kp2_no (hp : p.kind = 2) {k : Nat} (hk : k < row.length) (h : ((row.getD k [] == p.a) && (decide ((k : Int) + 1 = row.length) || !(row.getD (k + 1) [] == p.b))) = false) : (!kp2 p row k) = true := by
  have e : decide ((k : Int) = (row.length : Int) - 1) = decide ((k : Int) + 1 = row.length) := by rw [decide_eq_decide]; omega
  simp only [kp2, hp, e, decide_true, Bool.true_and, h, Bool.not_false]
theorem kp2_yes (hp : p.kind = 2) {k : Nat} (hk : k < row.length) (h : ((row.getD k [] == p.a) && (decide ((k : Int) + 1 = row.length) || !(row.getD (k + 1) [] == p.b))) = true) : (!kp2 p row k) = false := by
  have e : decide ((k : Int) = (row.length : Int) - 1) = decide ((k : Int) + 1 = row.length) := by rw [decide_eq_decide]; omega
  simp only [kp2, hp, e, decide_true, Bool.true_and, h, Bool.not_true]

theorem keeps34 (hp : p.kind = 3 ∨ p.kind = 4) : keeps p row = noneTo p row row.length := by
  rw [Bool.eq_iff_iff, keeps_iff]
  unfold noneTo
  rw [all_range_iff]
  simp only [Bool.not_eq_true', Bool.and_eq_false_iff, beq_eq_false_iff_ne]
  rcases hp with hp | hp
  · have hr : ∀ i, rowAt p row i = row.getD i [] := fun i => by simp [-List.getD_eq_getElem?_getD, rowAt, hp]
    constructor
    · intro h i hi
      by_cases h1 : rowAt p row i = p.a
      · right
        cases hs : seenTo p row i with
        | false => rfl
        | true =>
          obtain ⟨j, hj, h2⟩ := seenTo_iff.1 hs
          rw [hr] at h1 h2
          have h3 := (h i hi).1 j (by omega)
          simp [-List.getD_eq_getElem?_getD, okPair, kp3, hp, h1, h2] at h3
          omega
      · exact .inl h1
    · intro h i hi
      refine ⟨fun k hk => ?_, by simp [-List.getD_eq_getElem?_getD, kp2, hp]⟩
      simp only [okPair, kp1, kp3, kp4, hp]
      by_cases hik : (k : Int) < i
      · rcases h i hi with h1 | h1
        · rw [hr] at h1; simp [-List.getD_eq_getElem?_getD, h1]
        · have h2 : row.getD k [] = p.a := by
            by_cases h3 : row.getD k [] = p.a
            · exact h3
            · exact absurd ((seenTo_iff (k := i)).2 ⟨k, by omega, by rw [hr]; exact h3⟩) (by rw [h1]; decide)
          simp [-List.getD_eq_getElem?_getD, h2]
      · simp [-List.getD_eq_getElem?_getD, hik]
  · have hr : ∀ i, rowAt p row i = row.getD (row.length - 1 - i) [] := fun i => by simp [-List.getD_eq_getElem?_getD, rowAt, hp]
    constructor
    · intro h i hi
      by_cases h1 : rowAt p row i = p.a
      · right
        cases hs : seenTo p row i with
        | false => rfl
        | true =>
          obtain ⟨j, hj, h2⟩ := seenTo_iff.1 hs
          rw [hr] at h1 h2
          have h3 := (h (row.length - 1 - i) (by omega)).1 (row.length - 1 - j) (by omega)
          simp [-List.getD_eq_getElem?_getD, okPair, kp4, hp, h1, h2] at h3
          omega
      · exact .inl h1
    · intro h i hi
      refine ⟨fun k hk => ?_, by simp [-List.getD_eq_getElem?_getD, kp2, hp]⟩
      simp only [okPair, kp1, kp3, kp4, hp]
      by_cases hik : (i : Int) < k
      · rcases h (row.length - 1 - i) (by omega) with h1 | h1
        · rw [hr, show row.length - 1 - (row.length - 1 - i) = i by omega] at h1; simp [-List.getD_eq_getElem?_getD, h1]
        · have h2 : row.getD k [] = p.a := by
            by_cases h3 : row.getD k [] = p.a
            · exact h3
            · exact absurd ((seenTo_iff (k := row.length - 1 - i)).2 ⟨row.length - 1 - k, by omega, by rw [hr, show row.length - 1 - (row.length - 1 - k) = k by omega]; exact h3⟩) (by rw [h1]; decide)
          simp [-List.getD_eq_getElem?_getD, h2]
      · simp [-List.getD_eq_getElem?_getD, hik]

/-- the kinds of elements in an order -/
def rowOf (ks : List Str) (l : List Int) : List Str := l.map fun i => ks.getD i.toNat []
def rowTo (ks : List Str) (l : List Int) (k : Nat) : List Str := (List.range l.length).map fun j => if j < k then ks.getD (l.getD j 0).toNat [] else []
theorem rowTo_zero (ks : List Str) (l : List Int) : rowTo ks l 0 = List.replicate l.length [] := by
  simp only [rowTo, Nat.not_lt_zero, if_false, List.map_const', List.length_range]
theorem rowTo_len (ks : List Str) (l : List Int) (k : Nat) : (rowTo ks l k).length = l.length := by simp [rowTo]
theorem rowTo_succ (ks : List Str) (l : List Int) {k : Nat} (hk : k < l.length) : (rowTo ks l k).set k (ks.getD (l.getD k 0).toNat []) = rowTo ks l (k + 1) := by
  apply List.ext_getElem
  · simp [rowTo]
  · intro i h1 h2
    simp only [rowTo, List.length_map, List.length_range, List.length_set] at h1 h2
    rw [List.getElem_set]
    by_cases e : k = i
    · subst e; simp only [if_true, rowTo, List.getElem_map, List.getElem_range, Nat.lt_succ_self]
    · simp only [e, if_false, rowTo, List.getElem_map, List.getElem_range]
      by_cases h3 : i < k
      · simp only [h3, if_true, show i < k + 1 by omega]
      · simp only [h3, if_false, show ¬ i < k + 1 by omega]
theorem rowTo_all (ks : List Str) (l : List Int) {k : Nat} (hk : l.length ≤ k) : rowTo ks l k = rowOf ks l := by
  apply List.ext_getElem
  · simp [rowTo, rowOf]
  · intro i h1 h2
    simp only [rowTo, List.length_map, List.length_range] at h1
    simp only [rowTo, rowOf, List.getElem_map, List.getElem_range, show i < k by omega, if_true]
    rw [List.getD_eq_getElem?_getD (l := l), List.getElem?_eq_getElem h1]; rfl

theorem rowOf_wf {ks : List Str} (h : ∀ x ∈ ks, x.length ≤ 9223372036854775807) (l : List Int) : ∀ x ∈ rowOf ks l, x.length ≤ 9223372036854775807 := by
  intro x hx
  simp only [rowOf, List.mem_map] at hx
  obtain ⟨i, _, rfl⟩ := hx
  rw [List.getD_eq_getElem?_getD]
  cases hi : ks[i.toNat]? with
  | none => simp
  | some y => exact h y (List.mem_of_getElem? hi)
theorem rowOf_snoc (ks : List Str) {l : List Int} {k : Nat} {i : Int} (h : l[k]? = some i) : rowOf ks (l.take (k + 1)) = rowOf ks (l.take k) ++ [ks.getD i.toNat []] := by
  rw [take_of_some h]; simp only [rowOf, List.map_append, List.map_cons, List.map_nil]
theorem rowOf_length (ks : List Str) (l : List Int) : (rowOf ks l).length = l.length := by simp [rowOf]

/-- the last element of the beginning of an order is wrong in any case, by one rule and one element -/
def deadAt (ks : List Str) (last : Str) (p : Prec) (i : Int) : Bool :=
  ((decide (p.kind = 1) && (ks.getD i.toNat [] == p.b)) && (last == p.a)) || ((decide (p.kind = 3) && !(ks.getD i.toNat [] == p.a)) && (last == p.a))
def deadB (rules : List Prec) (ks : List Str) (l : List Int) : Bool :=
  rules.any fun p => l.dropLast.any fun i => deadAt ks (ks.getD (l.getD (l.length - 1) 0).toNat []) p i

/-- the first rule that a row breaks, or -1 -/
def brokenBy (rules : List Prec) (row : List Str) : Int := ix (fun p => !keeps p row) rules
end Go.J

/-
  (YtgikcbfdonjggaaGreatDoorOrdR)
  The walk over all orders, as a plain function.
  Conditions: none.
-/
namespace Go.J

section
variable (rules : List Prec) (ks : List Str) {σ : Type} (yb : σ → List Int → Bool) (yn : σ → List Int → σ)
/-- the elements that are left, one by one -/
def loopW (rec : List Int → σ → Bool × σ) (l : List Int) : List Nat → σ → Bool × σ
  | [], s => (true, s)
  | i :: is, s =>
    if (l.any fun y => decide ((i : Int) = y)) || deadB rules ks (l ++ [(i : Int)]) then loopW rec l is s
    else if (rec (l ++ [(i : Int)]) s).1 then loopW rec l is (rec (l ++ [(i : Int)]) s).2 else (false, (rec (l ++ [(i : Int)]) s).2)
/-- the walk with m elements left -/
def walkF : Nat → List Int → σ → Bool × σ
  | 0, l, s => if 0 ≤ brokenBy rules (rowOf ks l) then (true, s) else (yb s l, yn s l)
  | m + 1, l, s => loopW rules ks (walkF m) l (List.range ks.length) s

theorem loopW_skip {rec : List Int → σ → Bool × σ} {l : List Int} {k : Nat} {s : σ} (hk : k < ks.length) (h : (l.any fun y => decide ((k : Int) = y)) = true ∨ deadB rules ks (l ++ [(k : Int)]) = true) :
    loopW rules ks rec l ((List.range ks.length).drop k) s = loopW rules ks rec l ((List.range ks.length).drop (k + 1)) s := by
  rw [drop_of_some (x := k) (by rw [List.getElem?_range hk])]
  simp only [loopW]
  rw [if_pos (by rcases h with h | h <;> simp [h])]
theorem loopW_on {rec : List Int → σ → Bool × σ} {l : List Int} {k : Nat} {s : σ} (hk : k < ks.length) (h : (l.any fun y => decide ((k : Int) = y)) = false) (h2 : deadB rules ks (l ++ [(k : Int)]) = false) (h3 : (rec (l ++ [(k : Int)]) s).1 = true) :
    loopW rules ks rec l ((List.range ks.length).drop k) s = loopW rules ks rec l ((List.range ks.length).drop (k + 1)) (rec (l ++ [(k : Int)]) s).2 := by
  rw [drop_of_some (x := k) (by rw [List.getElem?_range hk])]
  simp only [loopW, h, h2, h3, Bool.or_self, Bool.false_eq_true, if_false, if_true]
theorem loopW_out {rec : List Int → σ → Bool × σ} {l : List Int} {k : Nat} {s : σ} (hk : k < ks.length) (h : (l.any fun y => decide ((k : Int) = y)) = false) (h2 : deadB rules ks (l ++ [(k : Int)]) = false) (h3 : (rec (l ++ [(k : Int)]) s).1 = false) :
    loopW rules ks rec l ((List.range ks.length).drop k) s = (false, (rec (l ++ [(k : Int)]) s).2) := by
  rw [drop_of_some (x := k) (by rw [List.getElem?_range hk])]
  simp only [loopW, h, h2, h3, Bool.or_self, Bool.false_eq_true, if_false]
theorem loopW_end {rec : List Int → σ → Bool × σ} {l : List Int} {k : Nat} {s : σ} (hk : ks.length ≤ k) : loopW rules ks rec l ((List.range ks.length).drop k) s = (true, s) := by
  rw [List.drop_of_length_le (by simpa using hk)]; rfl
variable (Iv : Nat → σ → Prop)
/-- how many orders m elements have, out of n, at the most -/
def leafN (n : Nat) : Nat → Nat
  | 0 => 1
  | m + 1 => n * leafN n m
theorem loopW_iv {rec : List Int → σ → Bool × σ} {l : List Int} (B : Nat) (hmono : ∀ c c' s, c' ≤ c → Iv c s → Iv c' s) (hrec : ∀ c l s, Iv (c + B) s → (rec l s).1 = true → Iv c (rec l s).2) :
    ∀ (is : List Nat) (c : Nat) (s : σ), Iv (c + is.length * B) s → (loopW rules ks rec l is s).1 = true → Iv c (loopW rules ks rec l is s).2
  | [], c, s, h, _ => by simpa [loopW] using h
  | i :: is, c, s, h, h1 => by
    have e : c + (is.length + 1) * B = (c + is.length * B) + B := by rw [Nat.add_mul]; omega
    rw [List.length_cons, e] at h
    simp only [loopW] at h1 ⊢
    split at h1
    · rename_i h2; rw [if_pos h2]; exact loopW_iv B hmono hrec is c s (hmono _ _ _ (by omega) h) h1
    · rename_i h2
      rw [if_neg h2]
      split at h1
      · rename_i h3; rw [if_pos h3]; exact loopW_iv B hmono hrec is c _ (hrec _ _ _ h h3) h1
      · cases h1
theorem walkF_iv (hmono : ∀ c c' s, c' ≤ c → Iv c s → Iv c' s) (hiv : ∀ c s l, Iv (c + 1) s → yb s l = true → Iv c (yn s l)) : ∀ (m : Nat) (c : Nat) (l : List Int) (s : σ), Iv (c + leafN ks.length m) s → (walkF rules ks yb yn m l s).1 = true → Iv c (walkF rules ks yb yn m l s).2
  | 0, c, l, s, h, h1 => by
    simp only [walkF] at h1 ⊢
    split
    · exact hmono _ _ _ (Nat.le_add_right ..) h
    · rename_i h2; rw [if_neg h2] at h1; exact hiv _ _ _ h h1
  | m + 1, c, l, s, h, h1 => loopW_iv rules ks Iv (leafN ks.length m) hmono (fun c l s => walkF_iv hmono hiv m c l s) _ c s (by rw [List.length_range]; exact h) h1
end
end Go.J

/-
  (YtgikcbfdonjggaaGreatDoorFracP)
  Plain facts on wide numbers and on fractions in lowest terms: no program stands here.
  Conditions: none.
-/
namespace Go.J
open Go

/-- a number of 64 bits without a sign -/
abbrev uv (n : Nat) : Value := .int .u64 (n : Int)
/-- a wide number -/
abbrev wv (n : Nat) : Value := .agg #[uv (n / 18446744073709551616), uv (n % 18446744073709551616)]

/-! the greatest common divisor -/
theorem gcd_step (a b : Nat) : Nat.gcd b (a % b) = Nat.gcd a b := by
  rw [Nat.gcd_comm a b, Nat.gcd_rec b a, Nat.gcd_comm]
theorem gcd_halves {a b : Nat} (ha : a % 2 = 0) (hb : b % 2 = 0) : Nat.gcd a b = 2 * Nat.gcd (a / 2) (b / 2) := by
  rw [← Nat.gcd_mul_left, show 2 * (a / 2) = a by omega, show 2 * (b / 2) = b by omega]
theorem cop2 {b : Nat} (hb : b % 2 = 1) : Nat.Coprime 2 b := by
  rw [Nat.coprime_iff_gcd_eq_one, Nat.gcd_rec, hb]; rfl
theorem gcd_half_l {a b : Nat} (ha : a % 2 = 0) (hb : b % 2 = 1) : Nat.gcd (a / 2) b = Nat.gcd a b := by
  have h := Nat.Coprime.gcd_mul_left_cancel (a / 2) (cop2 hb)
  rw [show 2 * (a / 2) = a by omega] at h
  exact h.symm
theorem gcd_half_r {a b : Nat} (ha : a % 2 = 1) (hb : b % 2 = 0) : Nat.gcd a (b / 2) = Nat.gcd a b := by
  rw [Nat.gcd_comm, gcd_half_l hb ha, Nat.gcd_comm]
theorem gcd_less {a b : Nat} (h : a ≤ b) : Nat.gcd a (b - a) = Nat.gcd a b := by
  rw [Nat.gcd_sub_self_right h]

/-! fractions -/
abbrev Pr := Int × Int
/-- what a check of a fraction finds -/
def frBad (n d at_ : Int) : Pr :=
  if n < -1152921504606846976 ∨ 1152921504606846976 < n ∨ d < 1 ∨ 1152921504606846976 < d then (3, at_)
  else if Nat.gcd n.natAbs d.toNat = 1 then (0, 0) else (5, at_)
def frBoth (x y : Pr) : Pr := if (frBad x.1 x.2 (-1)).1 = 0 then frBad y.1 y.2 (-2) else frBad x.1 x.2 (-1)
/-- in lowest terms already -/
def frOf (neg : Bool) (n d : Nat) : Pr × Pr :=
  if 1152921504606846976 < n ∨ 1152921504606846976 < d then ((0, 0), (18, 0)) else ((if neg then -(n : Int) else n, d), (0, 0))
/-- of a sign and two numbers -/
def frLow (neg : Bool) (n d : Nat) : Pr × Pr := frOf neg (n / Nat.gcd n d) (d / Nat.gcd n d)
/-- of a number above and one, above 0, below -/
def frNorm (n : Int) (d : Nat) : Pr × Pr := frLow (decide (n < 0)) n.natAbs d
def frMake (n d : Int) : Pr × Pr := if d = 0 then ((0, 0), (19, -2)) else frLow (decide (n < 0) != decide (d < 0)) n.natAbs d.natAbs
def frAdd (x y : Pr) : Pr × Pr := frNorm (x.1 * y.2 + y.1 * x.2) (x.2 * y.2).toNat
def frNeg (y : Pr) : Pr := (-y.1, y.2)
def frMul (x y : Pr) : Pr × Pr := frNorm (x.1 * y.1) (x.2 * y.2).toNat
/-- the inverse -/
def frInv (y : Pr) : Pr := if y.1 < 0 then (-y.2, -y.1) else (y.2, y.1)
def frDo (k : Nat) (x y : Pr) : Pr × Pr :=
  if (frBoth x y).1 = 0 then
    match k with
    | 0 => frAdd x y
    | 1 => frAdd x (frNeg y)
    | 2 => frMul x y
    | _ => if y.1 = 0 then ((0, 0), (19, -2)) else frMul x (frInv y)
  else ((0, 0), frBoth x y)
def frCmp (x y : Pr) : Int := if x.1 * y.2 < y.1 * x.2 then -1 else if x.1 * y.2 = y.1 * x.2 then 0 else 1
def frCompare (x y : Pr) : Int × Pr := if (frBoth x y).1 = 0 then (frCmp x y, (0, 0)) else (0, frBoth x y)

/-- a valid fraction -/
structure Fr1 (x : Pr) : Prop where
  lo : -1152921504606846976 ≤ x.1
  hi : x.1 ≤ 1152921504606846976
  pos : 1 ≤ x.2
  big : x.2 ≤ 1152921504606846976
  cop : Nat.gcd x.1.natAbs x.2.toNat = 1

theorem frBad_iff {n d at_ : Int} : (frBad n d at_).1 = 0 ↔ Fr1 (n, d) := by
  unfold frBad
  split
  · rename_i h
    constructor
    · intro h1; simp at h1
    · rintro ⟨h1, h2, h3, h4, h5⟩; simp only at h1 h2 h3 h4; omega
  · rename_i h
    split
    · rename_i h1
      exact ⟨fun _ => ⟨by simp only; omega, by simp only; omega, by simp only; omega, by simp only; omega, h1⟩, fun _ => rfl⟩
    · rename_i h1
      constructor
      · intro h1; simp at h1
      · rintro ⟨_, _, _, _, h5⟩; exact absurd h5 h1
theorem frBad_ok {n d at_ : Int} (h : Fr1 (n, d)) : frBad n d at_ = (0, 0) := by
  have h1 := frBad_iff (at_ := at_).2 h
  unfold frBad at h1 ⊢
  split
  · rename_i h2; rw [if_pos h2] at h1; simp at h1
  · rename_i h2
    rw [if_neg h2] at h1
    split
    · rfl
    · rename_i h3; rw [if_neg h3] at h1; simp at h1
theorem frBoth_iff {x y : Pr} : (frBoth x y).1 = 0 ↔ Fr1 x ∧ Fr1 y := by
  unfold frBoth
  split
  · rename_i h
    rw [frBad_iff] at h ⊢
    exact ⟨fun k => ⟨h, k⟩, fun k => k.2⟩
  · rename_i h
    constructor
    · intro k; exact absurd k h
    · rintro ⟨k, _⟩; exact absurd (frBad_iff.2 k) h
theorem frBoth_ok {x y : Pr} (hx : Fr1 x) (hy : Fr1 y) : frBoth x y = (0, 0) := by
  unfold frBoth
  rw [if_pos (frBad_iff.2 hx), frBad_ok hy]
end Go.J

/-
  (YtgikcbfdonjggaaGreatDoorJ12)
  The walks' laws for numbers of 64 bits without a sign: what an operation yields, as a natural number.
  Conditions: none; everything holds of any program.
-/
namespace Go.J
open Go

section
variable {P : Program} {n : Nat} {F : Fr} {A : World → Prop} {ty : TypeId} {x y : Operand} {t u : TypeId} {a b : Nat}
theorem wrapU {i : Int} : IntKind.u64.wrap i = i % 18446744073709551616 := by
  simp only [IntKind.wrap, IntKind.bits, IntKind.signed]; simp
theorem wrapU_nat (m : Nat) : IntKind.u64.wrap (m : Int) = ((m % 18446744073709551616 : Nat) : Int) := by rw [wrapU]; omega
theorem Ev.addU (hx : Opd F x (uv a)) (hy : Opd F y (uv b)) : Ev P n F A (.binOp .add t x y u) ty (uv ((a + b) % 18446744073709551616)) := by
  have := Ev.addW (P := P) (n := n) (A := A) (ty := ty) (t := t) (u := u) hx hy; rwa [← Int.natCast_add, wrapU_nat] at this
theorem Ev.addN (hx : Opd F x (uv a)) (hy : Opd F y (uv b)) (h : a + b < 18446744073709551616) : Ev P n F A (.binOp .add t x y u) ty (uv (a + b)) := by
  have := Ev.addU (P := P) (n := n) (A := A) (ty := ty) (t := t) (u := u) hx hy; rwa [Nat.mod_eq_of_lt h] at this
theorem Ev.subU (hx : Opd F x (uv a)) (hy : Opd F y (uv b)) (h : b ≤ a + 18446744073709551616) : Ev P n F A (.binOp .sub t x y u) ty (uv ((a + 18446744073709551616 - b) % 18446744073709551616)) := by
  have := Ev.subW (P := P) (n := n) (A := A) (ty := ty) (t := t) (u := u) hx hy
  rw [wrapU] at this
  rwa [show ((a : Int) - b) % 18446744073709551616 = (((a + 18446744073709551616 - b) % 18446744073709551616 : Nat) : Int) by omega] at this
theorem Ev.subN (hx : Opd F x (uv a)) (hy : Opd F y (uv b)) (h : b ≤ a ∧ a < 18446744073709551616) : Ev P n F A (.binOp .sub t x y u) ty (uv (a - b)) := by
  have := Ev.subU (P := P) (n := n) (A := A) (ty := ty) (t := t) (u := u) hx hy (by omega)
  rwa [show (a + 18446744073709551616 - b) % 18446744073709551616 = a - b by omega] at this
theorem Ev.mulU (hx : Opd F x (uv a)) (hy : Opd F y (uv b)) : Ev P n F A (.binOp .mul t x y u) ty (uv (a * b % 18446744073709551616)) := by
  have := Ev.mulW (P := P) (n := n) (A := A) (ty := ty) (t := t) (u := u) hx hy; rwa [← Int.natCast_mul, wrapU_nat] at this
theorem Ev.mulN (hx : Opd F x (uv a)) (hy : Opd F y (uv b)) (h : a * b < 18446744073709551616) : Ev P n F A (.binOp .mul t x y u) ty (uv (a * b)) := by
  have := Ev.mulU (P := P) (n := n) (A := A) (ty := ty) (t := t) (u := u) hx hy; rwa [Nat.mod_eq_of_lt h] at this
theorem Ev.mulUr (hx : Opd F x (uv a)) (hy : Opd F y (uv b)) : Ev P n F A (.binOp .mul t x y u) ty (uv (b * a % 18446744073709551616)) := by
  have := Ev.mulU (P := P) (n := n) (A := A) (ty := ty) (t := t) (u := u) hx hy; rwa [Nat.mul_comm] at this
theorem Ev.mulNr (hx : Opd F x (uv a)) (hy : Opd F y (uv b)) (h : b * a < 18446744073709551616) : Ev P n F A (.binOp .mul t x y u) ty (uv (b * a)) := by
  have := Ev.mulUr (P := P) (n := n) (A := A) (ty := ty) (t := t) (u := u) hx hy; rwa [Nat.mod_eq_of_lt h] at this
theorem Ev.quoU (hx : Opd F x (uv a)) (hy : Opd F y (uv b)) (h : b ≠ 0 ∧ a < 18446744073709551616) : Ev P n F A (.binOp .quo t x y u) ty (uv (a / b)) := by
  have := Ev.quoW (P := P) (n := n) (A := A) (ty := ty) (t := t) (u := u) hx hy (by omega)
  have e : (a : Int).tdiv b = ((a / b : Nat) : Int) := by rw [Int.tdiv_eq_ediv_of_nonneg (by omega)]; simp
  rw [e, wrapU_nat, Nat.mod_eq_of_lt (Nat.lt_of_le_of_lt (Nat.div_le_self a b) h.2)] at this
  exact this
theorem Ev.remU (hx : Opd F x (uv a)) (hy : Opd F y (uv b)) (h : b ≠ 0) : Ev P n F A (.binOp .rem t x y u) ty (uv (a % b)) := by
  have := Ev.rem (P := P) (n := n) (A := A) (ty := ty) (t := t) (u := u) hx hy (by omega)
  have e : (a : Int).tmod b = ((a % b : Nat) : Int) := by rw [Int.tmod_eq_emod_of_nonneg (by omega)]; simp
  rw [e] at this
  exact this
theorem Ev.shrU {k : IntKind} {j : Int} (c m : Nat) (hm : 2 ^ c = m) (hx : Opd F x (uv a)) (hy : Opd F y (.int k j)) (h : j = c ∧ c ≤ 64) : Ev P n F A (.binOp .shr t x y u) ty (uv (a / m)) := by
  subst hm
  obtain ⟨rfl, hc⟩ := h
  have := Ev.shr (P := P) (n := n) (A := A) (ty := ty) (t := t) (u := u) hx hy (by omega)
  have e : (a : Int).fdiv (2 ^ (min (c : Int).toNat IntKind.u64.bits)) = ((a / 2 ^ c : Nat) : Int) := by
    have e1 : min (c : Int).toNat IntKind.u64.bits = c := by
      have : IntKind.u64.bits = 64 := rfl
      rw [this, Int.toNat_natCast]; omega
    rw [e1, Int.fdiv_eq_ediv_of_nonneg _ (Int.le_of_lt (Int.pow_pos (by omega)))]
    simp
  rw [e] at this
  exact this
theorem Ev.shlU {k : IntKind} {j : Int} (c m : Nat) (hm : 2 ^ c = m) (hx : Opd F x (uv a)) (hy : Opd F y (.int k j)) (h : j = c ∧ c ≤ 64) : Ev P n F A (.binOp .shl t x y u) ty (uv (a * m % 18446744073709551616)) := by
  subst hm
  obtain ⟨rfl, hc⟩ := h
  have := Ev.shlW (P := P) (n := n) (A := A) (ty := ty) (t := t) (u := u) hx hy (by omega)
  have e : (a : Int) * 2 ^ (min (c : Int).toNat IntKind.u64.bits) = ((a * 2 ^ c : Nat) : Int) := by
    have e1 : min (c : Int).toNat IntKind.u64.bits = c := by
      have : IntKind.u64.bits = 64 := rfl
      rw [this, Int.toNat_natCast]; omega
    rw [e1]; simp
  rw [e, wrapU_nat] at this
  exact this
theorem bits_and (c : Nat) (h : a < 18446744073709551616) (hc : c ≤ 64) : bits .and .u64 (a : Int) ((2 ^ c - 1 : Nat) : Int) = ((a % 2 ^ c : Nat) : Int) := by
  have hb : 2 ^ c - 1 < 2 ^ 64 := by have := Nat.pow_le_pow_right (n := 2) (by omega) hc; have := Nat.pow_pos (n := c) (a := 2) (by omega); omega
  have e : (BitVec.ofInt IntKind.u64.bits (a : Int) &&& BitVec.ofInt IntKind.u64.bits ((2 ^ c - 1 : Nat) : Int)).toNat = a % 2 ^ c := by
    show (BitVec.ofInt 64 (a : Int) &&& BitVec.ofInt 64 ((2 ^ c - 1 : Nat) : Int)).toNat = _
    rw [BitVec.toNat_and, BitVec.ofInt_natCast, BitVec.ofInt_natCast, BitVec.toNat_ofNat, BitVec.toNat_ofNat, Nat.mod_eq_of_lt h, Nat.mod_eq_of_lt hb, Nat.and_two_pow_sub_one_eq_mod]
  simp only [bits, e]
  rw [wrapU_nat, Nat.mod_eq_of_lt (Nat.lt_of_le_of_lt (Nat.mod_le a _) h)]
theorem bits_or (c : Nat) (h : b < 2 ^ c) (h2 : a * 2 ^ c + b < 18446744073709551616) : bits .or .u64 ((a * 2 ^ c : Nat) : Int) (b : Int) = ((a * 2 ^ c + b : Nat) : Int) := by
  have e : (BitVec.ofInt IntKind.u64.bits ((a * 2 ^ c : Nat) : Int) ||| BitVec.ofInt IntKind.u64.bits (b : Int)).toNat = a * 2 ^ c + b := by
    show (BitVec.ofInt 64 ((a * 2 ^ c : Nat) : Int) ||| BitVec.ofInt 64 (b : Int)).toNat = _
    rw [BitVec.toNat_or, BitVec.ofInt_natCast, BitVec.ofInt_natCast, BitVec.toNat_ofNat, BitVec.toNat_ofNat, Nat.mod_eq_of_lt (by omega), Nat.mod_eq_of_lt (by omega), Nat.mul_comm a, Nat.two_pow_add_eq_or_of_lt h]
  simp only [bits, e]
  rw [wrapU_nat, Nat.mod_eq_of_lt h2]
theorem Ev.andU (c m : Nat) (hm : 2 ^ c = m) (hx : Opd F x (uv a)) (hy : Opd F y (uv b)) (h : a < 18446744073709551616 ∧ b = 2 ^ c - 1 ∧ c ≤ 64) : Ev P n F A (.binOp .and t x y u) ty (uv (a % m)) := .of_run fun a' w ha _ => by
  subst hm
  obtain ⟨h1, rfl, h3⟩ := h
  simp only [execOp, hx.eval ha, hy.eval ha]; simp only [go_sem, bits_and c h1 h3]; simp
theorem Ev.orU (c : Nat) (hx : Opd F x (uv (a * 2 ^ c))) (hy : Opd F y (uv b)) (h : b < 2 ^ c ∧ a * 2 ^ c + b < 18446744073709551616) : Ev P n F A (.binOp .or t x y u) ty (uv (a * 2 ^ c + b)) := .of_run fun a' w ha _ => by
  simp only [execOp, hx.eval ha, hy.eval ha]; simp only [go_sem, bits_or c h.1 h.2]; simp
theorem Ev.convIU {i : Int} {s d : TypeId} (hx : Opd F x (iv i)) (hs : (P.underlying s).isSome = true) (hd : P.underlying d = some (.int .u64)) : Ev P n F A (.convert s d x) ty (uv (i % 18446744073709551616).toNat) := by
  have := Ev.convI (P := P) (n := n) (A := A) (ty := ty) hx hs hd
  rw [wrapU] at this
  rwa [show (i % 18446744073709551616) = ((i % 18446744073709551616).toNat : Int) by omega] at this
theorem Ev.convIN (m : Nat) {i : Int} {s d : TypeId} (hx : Opd F x (iv i)) (hs : (P.underlying s).isSome = true) (hd : P.underlying d = some (.int .u64)) (h : i = m ∧ m < 18446744073709551616) : Ev P n F A (.convert s d x) ty (uv m) := by
  obtain ⟨rfl, h⟩ := h
  have := Ev.convI (P := P) (n := n) (A := A) (ty := ty) hx hs hd
  rwa [wrapU_nat, Nat.mod_eq_of_lt h] at this
theorem Ev.convUI {k : IntKind} {s d : TypeId} (hx : Opd F x (.int k (a : Int))) (hs : (P.underlying s).isSome = true) (hd : P.underlying d = some (.int .i64)) (h : a < 9223372036854775808) : Ev P n F A (.convert s d x) ty (iv a) := by
  have := Ev.convI (P := P) (n := n) (A := A) (ty := ty) hx hs hd
  rwa [wrap_ok (by omega)] at this
end

section
variable {P : Program} {n : Nat} {F : Fr} {A : World → Prop} {ty : TypeId} {x y : Operand} {t : TypeId}
/-- a call of an entry of the machine -/
theorem Ev.extern {P : Program} {n : Nat} {F : Fr} {A : World → Prop} {ty : TypeId} {f : FuncId} {xs : List Operand} {vs : List Value} {ats : Array TypeId} {v : Value} (hx : Opds F xs vs)
    (h : ∀ w, (callFunc f vs.toArray).run P w = .ok (.value v) w) : Ev P n F A (.call { callee := .value (.func f), args := xs.toArray, argTypes := ats }) ty v := .of_run fun a w ha _ => by
  have e : xs.map a.eval = vs := Opds.eval ha hx
  have h2 : a.eval (.func f) = .func (.func f) #[] #[] := rfl
  have h3 := h w
  rw [← e] at h3
  simp [execOp, h2, resolve, Deferred.ofValue, invoke, h3]
theorem Ev.idxstrK {k : Nat} {i : Int} {kd : IntKind} {s : Str} (hx : Opd F x (sv s)) (hy : Opd F y (.int kd i)) (ht : P.underlying t = some .string) (hi : i = k) (hb : k < s.length) :
    Ev P n F A (.index t x y) ty (.int .u8 (s.getD k 0).toNat) := .of_run fun a w ha _ => by
  subst hi
  have hlt : k < (⟨s.toArray⟩ : ByteArray).size := by simpa [ByteArray.size] using hb
  have h1 : (⟨s.toArray⟩ : ByteArray)[k]? = some (s.getD k 0) := by
    rw [ByteArray.getElem?_lt' _ _ hlt]
    simp [ByteArray.getElem_eq_getElem_data, List.getD_eq_getElem?_getD, List.getElem?_eq_getElem hb]
  simp [execOp, hx.eval ha, hy.eval ha, Instr.index, asIntOf, run_underlying ht, h1]
theorem Ev.convK {k k' : IntKind} {a m : Nat} {s d : TypeId} (hx : Opd F x (.int k (a : Int))) (hs : (P.underlying s).isSome = true) (hd : P.underlying d = some (.int k')) (h : k'.wrap (a : Int) = m) : Ev P n F A (.convert s d x) ty (.int k' (m : Int)) := by
  have := Ev.convI (P := P) (n := n) (A := A) (ty := ty) hx hs hd
  rwa [h] at this
theorem wrap8 {a : Nat} (h : a < 256) : IntKind.u8.wrap (a : Int) = a := by
  simp only [IntKind.wrap, IntKind.bits, IntKind.signed]; simp; omega
theorem wrap64u {a : Nat} (h : a < 18446744073709551616) : IntKind.u64.wrap (a : Int) = a := by rw [wrapU]; omega
theorem Ev.add64 {f : FuncId} {fn : Func} {xs : List Operand} {ats : Array TypeId} {a b c : Nat} (hf : P.funcs[f]? = some fn) (hn : (fn.name == "runtime.NumGoroutine") = false) (hb : fn.body.isNone = true) (hn2 : Extern.findNext fn = none) (he : Extern.find fn = some add64Entry)
    (hx : Opds F xs [uv a, uv b, uv c]) (h : a < 18446744073709551616 ∧ b < 18446744073709551616 ∧ c ≤ 1) :
    Ev P n F A (.call { callee := .value (.func f), args := xs.toArray, argTypes := ats }) ty (.tuple #[uv ((a + b + c) % 18446744073709551616), uv ((a + b + c) / 18446744073709551616)]) :=
  Ev.extern hx fun w => by
    rw [run_callFunc_extern hf hn hb hn2 he, run_add64 a b c (by omega) (by omega) (by omega) (by omega)]
    simp only [Result.andThen]
    congr 5 <;> omega
theorem Ev.sub64 {f : FuncId} {fn : Func} {xs : List Operand} {ats : Array TypeId} {a b c : Nat} (hf : P.funcs[f]? = some fn) (hn : (fn.name == "runtime.NumGoroutine") = false) (hb : fn.body.isNone = true) (hn2 : Extern.findNext fn = none) (he : Extern.find fn = some Go.Proofs.sub64Entry)
    (hx : Opds F xs [uv a, uv b, uv c]) (h : c ≤ 1) :
    Ev P n F A (.call { callee := .value (.func f), args := xs.toArray, argTypes := ats }) ty (.tuple #[uv ((a + 18446744073709551616 - b - c) % 18446744073709551616), uv (if a < b + c then 1 else 0)]) :=
  Ev.extern hx fun w => by
    rw [run_callFunc_extern hf hn hb hn2 he, Go.Proofs.run_sub64 a b c h]
    rfl
end
section
variable {P : Program} {n : Nat} {F : Fr} {A : World → Prop} {c : Ctx} {H R : List Ent} {T : Act → World → Prop} {v v' : Value}
/-- a block's content in another form -/
theorem St.blkEq (b : Nat) {e : TypeId} {L : List Value} (L' : List Value) [tk : TakeB b H (.cells L.toArray e (0, 0)) R] (h : L = L') (hT : St n F (Mm c (blk b (.cells L'.toArray e (0, 0)) :: R)) T) : St n F (Mm c H) T := by
  subst h
  refine hT.weak fun w hw => ?_
  obtain ⟨ρ, hm⟩ := hw.out
  exact Mm.mk (hm.perm tk.perm)
end
theorem ue {a b : Nat} (h : a = b) : ret1 [uv a] = uv b := by rw [h]; rfl
theorem we {a b : Nat} (h : a = b) : ret1 [wv a] = wv b := by rw [h]; rfl
/-- two results: a fraction and a fault -/
def frR (r : Pr × Pr) : Value := .tuple #[fv r.1, fv r.2]
theorem fre {a b c d : Int} {r : Pr × Pr} (h : r = ((a, b), (c, d))) : ret1 [.agg #[iv a, iv b], .agg #[iv c, iv d]] = frR r := by rw [h]; rfl
theorem wv_small {m : Nat} (h : m < 18446744073709551616) : Value.agg #[uv 0, uv m] = wv m := by
  unfold wv; rw [show m / 18446744073709551616 = 0 by omega, show m % 18446744073709551616 = m by omega]
theorem wl_eq {h l n : Nat} (h1 : h = n / 18446744073709551616) (h2 : l = n % 18446744073709551616) : [uv h, uv l] = [uv (n / 18446744073709551616), uv (n % 18446744073709551616)] := by rw [h1, h2]
theorem wl_small {m : Nat} (h : m < 18446744073709551616) : [uv 0, uv m] = [uv (m / 18446744073709551616), uv (m % 18446744073709551616)] := by
  rw [show m / 18446744073709551616 = 0 by omega, show m % 18446744073709551616 = m by omega]
end Go.J

/-
  (YtgikcbfdonjggaaGreatDoorJ20)
  Arrays in blocks of the call's own, errors against nil, a byte as a text; contracts of the library's functions over what its variables hold.
  Conditions: none; everything holds of any program.
-/
namespace Go.J
open Go Go.RowKit
section
variable {P : Program} {n : Nat} {F : Fr} {A : World → Prop} {c : Ctx} {H R : List Ent} {ty t e : TypeId} {x y : Operand} {Q : Exit → Act → World → Prop} {ops : Array Oper} {rest : List Oper} {pos : String} {after : Array Edge}
/-- the place of an array's element -/
theorem Ev.idxarr {b k N : Nat} {i : Int} {kd : IntKind} (hx : Opd F x (.pointer (some ⟨b, 0, none⟩))) (hy : Opd F y (.int kd i)) (ht : P.underlying t = some (.array N e)) (hs : (P.info? e).map (·.size) = some 1)
    (hi : i = k) (hk : k < N) : Ev P n F A (.indexAddr t x y) ty (.pointer (some ⟨b, k, none⟩)) := .of_run fun a w ha hw => by
  obtain ⟨inf, hinf, hsz⟩ := Option.map_eq_some_iff.1 hs
  subst hi
  simp [execOp, hx.eval ha, hy.eval ha, Instr.indexAt, Instr.sureAddr, asIntOf, run_underlying ht, sizeOf, typeInfo, hinf, hsz, hk, Addr.add_lit]
/-- a store of one cell, wherever it lies -/
theorem St.store1k {b off : Nat} {L : List Value} {v : Value} (L' : List Value) [tk : TakeB b H (.cells L.toArray e (0, 0)) R] (hx : Opd F x (.pointer (some ⟨b, off, none⟩))) (hy : Opd F y v) (hL : L.set off v = L') (hs : (P.info? t).map (·.size) = some 1) (h1 : v.oneCell' = true)
    (hoff : off < L.length) (h : St n F (Mm c (blk b (.cells L'.toArray e (0, 0)) :: R)) (wpList P ops Q rest)) :
    St n F (Mm c H) (wpList P ops Q ({ dst := none, op := .store t x y, type := ty, pos := pos, after := after, guard := none } :: rest)) := by
  haveI : SetL L off v L' := ⟨hL⟩
  exact St.store1 hx hy hs h1 (Nat.ble_eq_true_of_le hoff) h
def isErr : Value → Bool
  | .iface _ _ => true
  | _ => false
def ErrV (v : Value) : Prop := v = .nilIface ∨ ∃ t p, v = .iface t p
theorem Ev.neNil {er : Value} {u : TypeId} (hx : Opd F x er) (he : ErrV er) (hi : P.isIface t = true) : Ev P n F A (.binOp .neq t x (.const .nilIface) u) ty (.bool (isErr er)) := .of_run fun a w ha _ => by
  rcases he with rfl | ⟨q, p, rfl⟩
  · simp only [execOp, hx.eval ha, (Opd.mk (F := F) (x := .const .nilIface) rfl).eval ha]
    simp [eqGuard, run_neq_nil_nil_at w t hi, isErr]
  · simp only [execOp, hx.eval ha, (Opd.mk (F := F) (x := .const .nilIface) rfl).eval ha]
    simp [eqGuard, run_neq_iface_nil w t hi, isErr]
/-- a text of one byte -/
theorem Ev.str1 {b : Nat} {e' s d : TypeId} {cs : List Value} (ch : UInt8) [hr : InR (.slice (some ⟨b, 0, none⟩) 1 1) H e 1 1 cs] (hx : Opd F x (.slice (some ⟨b, 0, none⟩) 1 1)) (hcs : cs = [.int .u8 (ch.toNat : Int)])
    (hs : P.underlying s = some (.slice e')) (he : P.underlying e' = some (.int .u8)) (hd : P.underlying d = some .string) : Ev P n F (Mm c H) (.convert s d x) ty (sv [ch]) := .of_run fun a w ha hw => by
  obtain ⟨ρ, hm⟩ := hw.out
  obtain ⟨b', h1, h2, h3, _⟩ := row_cell (hm.row hr) (k := 0) (off := 0) (u := .int .u8 (ch.toNat : Int)) (by omega) (by rw [hcs]; rfl)
  have hb : b' = b := by simpa [Value.ownBlock] using h3.symm
  subst hb
  have := run_convert_bytes_back (P := P) w s d e' ⟨b', 0, none⟩ 1 [ch] hs he hd (fun j hj => by
    have : j = 0 := by simpa using hj
    subst this
    simpa [Addr.add_lit] using h2)
  simp only [List.length_singleton] at this
  simp [execOp, hx.eval ha, this]
end
theorem run_buildA {P : Program} {t e : TypeId} {N size : Nat} {Z cs : Array Value} {parts : Array (Nat × Value)} {w : World} (ht : P.underlying t = some (.array N e)) (hz : (P.info? t).bind (fun i => i.zero.map Value.cells) = some Z) (hs : (P.info? e).map (·.size) = some size)
    (hf : Instr.fill (fun i => some (i * size, size)) Z parts.toList = some cs) : (Instr.build t parts).run P w = .ok (.agg cs) w := by
  obtain ⟨i, hi, hz'⟩ := Option.bind_eq_some_iff.1 hz
  obtain ⟨zv, hzv, rfl⟩ := Option.map_eq_some_iff.1 hz'
  obtain ⟨j, hj, hjs⟩ := Option.map_eq_some_iff.1 hs
  subst hjs
  simp [Instr.build, zeroValue, typeInfo, hi, hzv, run_underlying ht, sizeOf, hj, hf]
/-- what holds of the world, whatever else comes into it -/
def Dat.of (X : World → Prop) : Dat := ⟨fun ρ => ∀ w, (∀ k o, ρ k = some o → w.heap[k]? = some o) → X w, fun _ _ h k w hw => k w fun b o hb => hw b o (h b o hb)⟩
theorem FnW.of_calls {P : Program} {f : FuncId} {args : Array Value} {X : World → Prop} {post : Value → List Ent → Prop} (h : ∀ w, X w → Calls P f args w fun e w' => ∃ v, e = .returned v ∧ post v [] ∧ Below w.heap.size w w') :
    FnW P f args ([Dat.of X].map dat) post := by
  intro w ρ hs
  have hx : X w := dat_ok.1 (hs.ents (dat (Dat.of X)) (List.mem_cons_self ..)) w hs.fits
  refine (h w hx).mono ?_
  rintro e w' ⟨v, rfl, hp, hb⟩
  refine ⟨v, [], rfl, hp, Mm.mk (ρ := ρ) ⟨hb.os, ⟨hb.tape, fun h => h.elim⟩, hb.output, hb.size, fun k hk _ => hb.block k hk, fun k o hk => ?_, Ro.le_refl _, fun _ _ _ => rfl, fun _ h => by simp at h, fun _ h => by simp at h, .nil⟩⟩
  rw [hb.block k (hs.rlt hk)]
  exact hs.fits k o hk
theorem FnVw.of_calls {P : Program} {f : FuncId} {args : Array Value} {X : World → Prop} {v : Value} (h : ∀ w, X w → Calls P f args w fun e w' => e = .returned v ∧ Below w.heap.size w w') : FnVw P f args [Dat.of X] v :=
  FnW.of_calls fun w hw => (h w hw).mono fun _ _ ⟨h1, h2⟩ => ⟨v, h1, rfl, h2⟩
end Go.J

/-
  (YtgikcbfdonjggaaGreatDoorFactsC)
  Closed facts on the tables of the program: sizes, zero values, where fields lie, which functions have bodies.
  Conditions: none.
-/
set_option maxRecDepth 20000
set_option linter.unusedSimpArgs false
set_option linter.unusedVariables false
namespace Go.Proofs.YtgikcbfdonjggaaGreatDoor
open Go Go.J
theorem mixed : Tryz.prog.follows .mixedOrders = true := by kernel_rfl
theorem zc30 : (Tryz.prog.info? 30).bind (fun i => i.zero.map Value.cells) = some #[.int .i64 0, .int .i64 0] := by kernel_rfl
theorem pl30 (w : World) : placesRun Tryz.prog 30 w = .ok #[(0, 1), (1, 1)] w := by kernel_rfl
theorem sz30 : (Tryz.prog.info? 30).map (·.size) = some 2 := by kernel_rfl
theorem sz9 : (Tryz.prog.info? 9).map (·.size) = some 1 := by kernel_rfl
theorem cb34 : Callable Tryz.prog 34 := ⟨_, Tryz.func34, rfl, by kernel_rfl⟩
theorem cb21 : Callable Tryz.prog 21 := ⟨_, Tryz.func21, rfl, by kernel_rfl⟩
theorem sz23 : (Tryz.prog.info? 23).map (·.size) = some 1 := by kernel_rfl
theorem cb32 : Callable Tryz.prog 32 := ⟨_, Tryz.func32, rfl, by kernel_rfl⟩
theorem fo30_0 : fieldOff Tryz.prog 30 0 = some 0 := by kernel_rfl
theorem cb88 : Callable Tryz.prog 88 := ⟨_, Tryz.func88, rfl, by kernel_rfl⟩
theorem cb63 : Callable Tryz.prog 63 := ⟨_, Tryz.func63, rfl, by kernel_rfl⟩
theorem cb68 : Callable Tryz.prog 68 := ⟨_, Tryz.func68, rfl, by kernel_rfl⟩
theorem fo28_1 : fieldOff Tryz.prog 28 1 = some 1 := by kernel_rfl
theorem cb45 : Callable Tryz.prog 45 := ⟨_, Tryz.func45, rfl, by kernel_rfl⟩
theorem sz3 : (Tryz.prog.info? 3).map (·.size) = some 1 := by kernel_rfl
theorem cb75 : Callable Tryz.prog 75 := ⟨_, Tryz.func75, rfl, by kernel_rfl⟩
theorem zv9 : (Tryz.prog.info? 9).bind (·.zero) = some (Value.string ⟨#[]⟩) := by kernel_rfl
theorem by9 : (Tryz.prog.info? 9).map (·.bytes) = some 16 := by kernel_rfl
theorem zc28 : (Tryz.prog.info? 28).bind (fun i => i.zero.map Value.cells) = some #[.slice none 0 0, .slice none 0 0, .slice none 0 0, .slice none 0 0, .slice none 0 0] := by kernel_rfl
theorem pl28 (w : World) : placesRun Tryz.prog 28 w = .ok #[(0, 1), (1, 1), (2, 1), (3, 1), (4, 1)] w := by kernel_rfl
theorem sz28 : (Tryz.prog.info? 28).map (·.size) = some 5 := by kernel_rfl
theorem cb26 : Callable Tryz.prog 26 := ⟨_, Tryz.func26, rfl, by kernel_rfl⟩
theorem fo28_0 : fieldOff Tryz.prog 28 0 = some 0 := by kernel_rfl
theorem cb27 : Callable Tryz.prog 27 := ⟨_, Tryz.func27, rfl, by kernel_rfl⟩
theorem zv23 : (Tryz.prog.info? 23).bind (·.zero) = some (Value.slice none 0 0) := by kernel_rfl
theorem by23 : (Tryz.prog.info? 23).map (·.bytes) = some 24 := by kernel_rfl
theorem sz22 : (Tryz.prog.info? 22).map (·.size) = some 1 := by kernel_rfl
theorem cb28 : Callable Tryz.prog 28 := ⟨_, Tryz.func28, rfl, by kernel_rfl⟩
theorem cb29 : Callable Tryz.prog 29 := ⟨_, Tryz.func29, rfl, by kernel_rfl⟩
theorem fo28_2 : fieldOff Tryz.prog 28 2 = some 2 := by kernel_rfl
theorem cb30 : Callable Tryz.prog 30 := ⟨_, Tryz.func30, rfl, by kernel_rfl⟩
theorem zv3 : (Tryz.prog.info? 3).bind (·.zero) = some (Value.int .i64 0) := by kernel_rfl
theorem by3 : (Tryz.prog.info? 3).map (·.bytes) = some 8 := by kernel_rfl
theorem sz25 : (Tryz.prog.info? 25).map (·.size) = some 1 := by kernel_rfl
theorem fo28_4 : fieldOff Tryz.prog 28 4 = some 4 := by kernel_rfl
theorem pl67 (w : World) : placesRun Tryz.prog 67 w = .ok #[(0, 1), (1, 1)] w := by kernel_rfl
theorem zc67 : (Tryz.prog.info? 67).bind (fun i => i.zero.map Value.cells) = some #[.int .i64 0, .int .i64 0] := by kernel_rfl
theorem sz67 : (Tryz.prog.info? 67).map (·.size) = some 2 := by kernel_rfl
theorem zv67 : (Tryz.prog.info? 67).bind (·.zero) = some (Value.agg #[.int .i64 0, .int .i64 0]) := by kernel_rfl
theorem by67 : (Tryz.prog.info? 67).map (·.bytes) = some 16 := by kernel_rfl
theorem sz26 : (Tryz.prog.info? 26).map (·.size) = some 1 := by kernel_rfl
theorem cb31 : Callable Tryz.prog 31 := ⟨_, Tryz.func31, rfl, by kernel_rfl⟩
theorem fo28_3 : fieldOff Tryz.prog 28 3 = some 3 := by kernel_rfl
theorem cb48 : Callable Tryz.prog 48 := ⟨_, Tryz.func48, rfl, by kernel_rfl⟩
theorem cb49 : Callable Tryz.prog 49 := ⟨_, Tryz.func49, rfl, by kernel_rfl⟩
theorem cb33 : Callable Tryz.prog 33 := ⟨_, Tryz.func33, rfl, by kernel_rfl⟩
theorem sz44 : (Tryz.prog.info? 44).map (·.size) = some 4 := by kernel_rfl
theorem fo44_0 : fieldOff Tryz.prog 44 0 = some 0 := by kernel_rfl
theorem fo44_1 : fieldOff Tryz.prog 44 1 = some 1 := by kernel_rfl
theorem fo44_2 : fieldOff Tryz.prog 44 2 = some 2 := by kernel_rfl
theorem cb18 : Callable Tryz.prog 18 := ⟨_, Tryz.func18, rfl, by kernel_rfl⟩
theorem fo44_3 : fieldOff Tryz.prog 44 3 = some 3 := by kernel_rfl
theorem fo67_0 : fieldOff Tryz.prog 67 0 = some 0 := by kernel_rfl
theorem fo67_1 : fieldOff Tryz.prog 67 1 = some 1 := by kernel_rfl
theorem pl44 (w : World) : placesRun Tryz.prog 44 w = .ok #[(0, 1), (1, 1), (2, 1), (3, 1)] w := by kernel_rfl
theorem zc44 : (Tryz.prog.info? 44).bind (fun i => i.zero.map Value.cells) = some #[.int .i64 0, .int .i64 0, .slice none 0 0, .slice none 0 0] := by kernel_rfl
theorem zv44 : (Tryz.prog.info? 44).bind (·.zero) = some (Value.agg #[.int .i64 0, .int .i64 0, .slice none 0 0, .slice none 0 0]) := by kernel_rfl
theorem by44 : (Tryz.prog.info? 44).map (·.bytes) = some 64 := by kernel_rfl
theorem cb25 : Callable Tryz.prog 25 := ⟨_, Tryz.func25, rfl, by kernel_rfl⟩
theorem cb11 : Callable Tryz.prog 11 := ⟨_, Tryz.func11, rfl, by kernel_rfl⟩
theorem cb13 : Callable Tryz.prog 13 := ⟨_, Tryz.func13, rfl, by kernel_rfl⟩
theorem cb14 : Callable Tryz.prog 14 := ⟨_, Tryz.func14, rfl, by kernel_rfl⟩
theorem cb19 : Callable Tryz.prog 19 := ⟨_, Tryz.func19, rfl, by kernel_rfl⟩
theorem cb10 : Callable Tryz.prog 10 := ⟨_, Tryz.func10, rfl, by kernel_rfl⟩
theorem cb12 : Callable Tryz.prog 12 := ⟨_, Tryz.func12, rfl, by kernel_rfl⟩
theorem cb15 : Callable Tryz.prog 15 := ⟨_, Tryz.func15, rfl, by kernel_rfl⟩
theorem cb16 : Callable Tryz.prog 16 := ⟨_, Tryz.func16, rfl, by kernel_rfl⟩
theorem cb17 : Callable Tryz.prog 17 := ⟨_, Tryz.func17, rfl, by kernel_rfl⟩
theorem cb53 : Callable Tryz.prog 53 := ⟨_, Tryz.func53, rfl, by kernel_rfl⟩
theorem cb36 : Callable Tryz.prog 36 := ⟨_, Tryz.func36, rfl, by kernel_rfl⟩
theorem zc71 : (Tryz.prog.info? 71).bind (fun i => i.zero.map Value.cells) = some #[.map none] := by kernel_rfl
theorem sz71 : (Tryz.prog.info? 71).map (·.size) = some 1 := by kernel_rfl
theorem cb35 : Callable Tryz.prog 35 := ⟨_, Tryz.func35, rfl, by kernel_rfl⟩
theorem cb20 : Callable Tryz.prog 20 := ⟨_, Tryz.func20, rfl, by kernel_rfl⟩
theorem cb22 : Callable Tryz.prog 22 := ⟨_, Tryz.func22, rfl, by kernel_rfl⟩
theorem cb56 : Callable Tryz.prog 56 := ⟨_, Tryz.func56, rfl, by kernel_rfl⟩
theorem cb55 : Callable Tryz.prog 55 := ⟨_, Tryz.func55, rfl, by kernel_rfl⟩
theorem fo58_1 : fieldOff Tryz.prog 58 1 = some 1 := by kernel_rfl
theorem cb41 : Callable Tryz.prog 41 := ⟨_, Tryz.func41, rfl, by kernel_rfl⟩
theorem fo58_0 : fieldOff Tryz.prog 58 0 = some 0 := by kernel_rfl
theorem cb42 : Callable Tryz.prog 42 := ⟨_, Tryz.func42, rfl, by kernel_rfl⟩
theorem cb40 : Callable Tryz.prog 40 := ⟨_, Tryz.func40, rfl, by kernel_rfl⟩
theorem sz58 : (Tryz.prog.info? 58).map (·.size) = some 2 := by kernel_rfl
theorem cb117 : Callable Tryz.prog 117 := ⟨_, Tryz.func117, rfl, by kernel_rfl⟩
theorem cb39 : Callable Tryz.prog 39 := ⟨_, Tryz.func39, rfl, by kernel_rfl⟩
theorem cb101 : Callable Tryz.prog 101 := ⟨_, Tryz.func101, rfl, by kernel_rfl⟩
theorem cb87 : Callable Tryz.prog 87 := ⟨_, Tryz.func87, rfl, by kernel_rfl⟩
theorem cb86 : Callable Tryz.prog 86 := ⟨_, Tryz.func86, rfl, by kernel_rfl⟩
theorem cb54 : Callable Tryz.prog 54 := ⟨_, Tryz.func54, rfl, by kernel_rfl⟩
theorem cb37 : Callable Tryz.prog 37 := ⟨_, Tryz.func37, rfl, by kernel_rfl⟩
theorem pl58 (w : World) : placesRun Tryz.prog 58 w = .ok #[(0, 1), (1, 1)] w := by kernel_rfl
theorem zc58 : (Tryz.prog.info? 58).bind (fun i => i.zero.map Value.cells) = some #[.slice none 0 0, .int .i64 0] := by kernel_rfl
theorem zv58 : (Tryz.prog.info? 58).bind (·.zero) = some (Value.agg #[.slice none 0 0, .int .i64 0]) := by kernel_rfl
theorem by58 : (Tryz.prog.info? 58).map (·.bytes) = some 32 := by kernel_rfl
theorem cb38 : Callable Tryz.prog 38 := ⟨_, Tryz.func38, rfl, by kernel_rfl⟩
theorem cb23 : Callable Tryz.prog 23 := ⟨_, Tryz.func23, rfl, by kernel_rfl⟩
theorem cb24 : Callable Tryz.prog 24 := ⟨_, Tryz.func24, rfl, by kernel_rfl⟩
theorem bld28_  (w : World) : (Instr.build 28 #[]).run Tryz.prog w = .ok (.agg #[.slice none 0 0, .slice none 0 0, .slice none 0 0, .slice none 0 0, .slice none 0 0]) w :=
  run_buildS zc28 (pl28 w) (by simp [Instr.fill, J.cells_agg])
theorem bld67_0_1 {u0 u1 : Value} (h0 : u0.oneCell' = true) (h1 : u1.oneCell' = true) (w : World) : (Instr.build 67 #[(0, u0), (1, u1)]).run Tryz.prog w = .ok (.agg #[u0, u1]) w :=
  run_buildS zc67 (pl67 w) (by simp [Instr.fill, J.cells_agg, J.cells_one h0, J.cells_one h1])
theorem bld44_0_1_2_3 {u0 u1 u2 u3 : Value} (h0 : u0.oneCell' = true) (h1 : u1.oneCell' = true) (h2 : u2.oneCell' = true) (h3 : u3.oneCell' = true) (w : World) : (Instr.build 44 #[(0, u0), (1, u1), (2, u2), (3, u3)]).run Tryz.prog w = .ok (.agg #[u0, u1, u2, u3]) w :=
  run_buildS zc44 (pl44 w) (by simp [Instr.fill, J.cells_agg, J.cells_one h0, J.cells_one h1, J.cells_one h2, J.cells_one h3])
theorem bld44_0_1 {u0 u1 : Value} (h0 : u0.oneCell' = true) (h1 : u1.oneCell' = true) (w : World) : (Instr.build 44 #[(0, u0), (1, u1)]).run Tryz.prog w = .ok (.agg #[u0, u1, .slice none 0 0, .slice none 0 0]) w :=
  run_buildS zc44 (pl44 w) (by simp [Instr.fill, J.cells_agg, J.cells_one h0, J.cells_one h1])
theorem bld58_0_1 {u0 u1 : Value} (h0 : u0.oneCell' = true) (h1 : u1.oneCell' = true) (w : World) : (Instr.build 58 #[(0, u0), (1, u1)]).run Tryz.prog w = .ok (.agg #[u0, u1]) w :=
  run_buildS zc58 (pl58 w) (by simp [Instr.fill, J.cells_agg, J.cells_one h0, J.cells_one h1])
theorem bld30_  (w : World) : (Instr.build 30 #[]).run Tryz.prog w = .ok (.agg #[.int .i64 0, .int .i64 0]) w :=
  run_buildS zc30 (pl30 w) (by simp [Instr.fill, J.cells_agg])
theorem bld30_0_1 {u0 u1 : Value} (h0 : u0.oneCell' = true) (h1 : u1.oneCell' = true) (w : World) : (Instr.build 30 #[(0, u0), (1, u1)]).run Tryz.prog w = .ok (.agg #[u0, u1]) w :=
  run_buildS zc30 (pl30 w) (by simp [Instr.fill, J.cells_agg, J.cells_one h0, J.cells_one h1])
theorem eqf30 (a0 b0 : Int) (a1 b1 : Int) (w : World) : (Op.equalIn 10000 30 (.agg #[.int .i64 a0, .int .i64 a1]) (.agg #[.int .i64 b0, .int .i64 b1])).run Tryz.prog w = .ok ((a0 == b0) && ((a1 == b1) && true)) w := by
  have e : Tryz.prog.underlying 30 = some (.struct (Tryz.prog.fieldsOf 30)) := by simp only [Program.fieldsOf, Tryz.underlying30]
  have p3 : ∀ (xs : Array Value) (k : Nat) (v : Value) w, xs[k]? = some v → (part 3 xs k).run Tryz.prog w = .ok v w := fun xs k v w hv => part_one (by rw [Tryz.underlying3]) hv
  rw [run_equalIn_struct w 9999 30 _ _ e Tryz.stoodInHeld30]
  simp only [Program.fieldsOf, Tryz.underlying30]
  refine eqf_step rfl (fun w => p3 _ _ _ w rfl) (fun w => p3 _ _ _ w rfl) (fun w => run_equalIn_int w 9998 3 _ _ _ _ Tryz.underlying3) (fun w => ?_) w
  refine eqf_step rfl (fun w => p3 _ _ _ w rfl) (fun w => p3 _ _ _ w rfl) (fun w => run_equalIn_int w 9998 3 _ _ _ _ Tryz.underlying3) (fun w => ?_) w
  exact eqf_end _ _ _ _ _
end Go.Proofs.YtgikcbfdonjggaaGreatDoor

/-
  (YtgikcbfdonjggaaGreatDoorC1)
  The walk of the reference's IsWord.
  Conditions: a text that is no longer than memory has places.
-/
set_option maxRecDepth 20000
set_option linter.unusedSimpArgs false
set_option linter.unusedVariables false
namespace Go.Proofs.YtgikcbfdonjggaaGreatDoor
open Go Go.J

theorem contOk_iff {s : Str} {p k : Nat} : contOk s p k = true ↔ p + 1 + k < s.length ∧ (if k = 0 then loB (bt s p) else 128) ≤ bt s (p + 1 + k) ∧ bt s (p + 1 + k) ≤ (if k = 0 then hiB (bt s p) else 191) := by
  unfold contOk; exact decide_eq_true_iff
theorem contOk_no {s : Str} {p k : Nat} (h : ¬ (p + 1 + k < s.length ∧ (if k = 0 then loB (bt s p) else 128) ≤ bt s (p + 1 + k) ∧ bt s (p + 1 + k) ≤ (if k = 0 then hiB (bt s p) else 191))) : contOk s p k = false := by
  unfold contOk; exact decide_eq_false h
theorem range_all_succ {q : Nat → Bool} {k : Nat} (h : (List.range k).all q = true) (hk : q k = true) : (List.range (k + 1)).all q = true := by
  rw [List.range_succ, List.all_append, h]; simp [hk]
theorem u8e {a b : Nat} (h : a = b) : Value.int .u8 (a : Int) = .int .u8 (b : Int) := by rw [h]
theorem ive {a : Int} {b : Nat} (h : a = b) : iv a = iv (b : Int) := by rw [h]
theorem u8i {a : Int} {b : Nat} (h : a = b) : Value.int .u8 a = .int .u8 (b : Int) := by rw [h]

set_option maxHeartbeats 2000000 in
theorem IsWord_spec (s : Str) (hs : s.length < 9223372036854775807) : FnV Tryz.prog 21 #[sv s] [] (.bool (isWord s)) := by
  refine FnV.body0 (args := [sv s]) 114 Tryz.func21 rfl Tryz.ntmps21 rfl (fun c => ?_)
  refine St.seq ?_
  refine St.rg ?_
  refine St.ev _ (Ev.assign (Opd.mk rfl)) rfl ?_
  refine St.nil ?_
  refine St.then_normal ?_
  refine St.seq ?_
  refine St.rg ?_
  refine St.ev _ (Ev.assign (Opd.mk rfl)) rfl ?_
  refine St.nil ?_
  refine St.then_normal ?_
  refine St.seq ?_
  refine St.seq ?_
  refine St.rg ?_
  refine St.ev _ (Ev.assign (Opd.mk rfl)) rfl ?_
  refine St.nil ?_
  refine St.then_normal ?_
  refine St.block ?_
  refine St.loopS (ι := Nat × Nat) (fun x T => (3, iv x.1) :: (4, iv x.2) :: T) (fun x => x.2 ≤ s.length ∧ x.1 ≤ x.2 ∧ isWord s = wordAt s x.1 x.2) (fun x => s.length - x.2) (0, 0) (Keep.cons 0 rfl Keep.nil) ⟨Nat.zero_le _, Nat.le_refl _, wordAt_zero s⟩ (by repeat (first | exact Sub.nil | refine Sub.cons (by first | rfl | exact congrArg (fun z => some (iv z)) (by first | omega | (dsimp only; omega)) | exact congrArg (fun z => some (Value.bool z)) (by first | assumption | exact Eq.symm (by assumption))) ?_)) ?_
  rintro ⟨n, p⟩ ⟨hp0, hn, hv⟩
  dsimp only at hp0 hn hv ⊢
  refine St.seq ?_
  refine St.seq ?_
  refine St.rg ?_
  refine St.ev _ (Ev.move (Opd.mk rfl)) rfl ?_
  refine St.ev _ (Ev.move (Opd.mk rfl)) rfl ?_
  refine St.ev _ (Ev.lenstr (Opd.mk rfl) Tryz.underlying9) rfl ?_
  refine St.ev _ (Ev.lss (Opd.mk rfl) (Opd.mk rfl)) rfl ?_
  refine St.nil ?_
  refine St.then_normal ?_
  refine St.cond _ rfl (fun h13 => ?_) (fun h13 => ?_)
  · skip
    try simp only [Bool.and_true, Bool.true_and, decide_eq_true_eq, decide_eq_false_iff_not, Bool.and_eq_true, Bool.or_eq_true, Bool.and_eq_false_iff, Bool.or_eq_false_iff, Bool.not_eq_true', Bool.not_eq_false', beq_iff_eq, beq_eq_false_iff_ne, Int.not_lt, Int.not_le] at h13
    have hp : p < s.length := by omega
    have hbt : bt s p = (s.getD p 0).toNat := rfl
    refine St.skip ?_
    refine St.then_normal ?_
    refine St.block ?_
    refine St.seq ?_
    refine St.rg ?_
    refine St.ev _ (Ev.move (Opd.mk rfl)) rfl ?_
    refine St.ev _ (Ev.move (Opd.mk rfl)) rfl ?_
    refine St.ev _ (Ev.idxstr0 (k := p) (Opd.mk rfl) (Opd.mk rfl) Tryz.underlying9 (by omega) (by omega)) rfl ?_
    refine St.ev _ (Ev.assign (Opd.mk rfl)) rfl ?_
    refine St.nil ?_
    refine St.then_normal ?_
    refine St.seq ?_
    refine St.rg ?_
    refine St.ev _ (Ev.assign (Opd.mk rfl)) rfl ?_
    refine St.nil ?_
    refine St.then_normal ?_
    refine St.seq ?_
    refine St.rg ?_
    refine St.ev _ (Ev.assign (Opd.mk rfl)) rfl ?_
    refine St.ev _ (Ev.assign (Opd.mk rfl)) rfl ?_
    refine St.nil ?_
    refine St.then_normal ?_
    refine St.seq ?_
    refine St.seq ?_
    refine St.rg ?_
    refine St.ev _ (Ev.move (Opd.mk rfl)) rfl ?_
    refine St.ev _ (Ev.eql (Opd.mk rfl) (Opd.mk rfl)) rfl ?_
    refine St.ev _ (Ev.move (Opd.mk rfl)) rfl ?_
    refine St.gf _ rfl rfl (fun hg => Ev.move (Opd.mk rfl)) rfl ?_
    refine St.gf _ rfl rfl (fun hg => Ev.eql (Opd.gv rfl hg) (Opd.mk rfl)) rfl ?_
    refine St.ev _ (Ev.or (Opd.mk rfl) (fun hp => Opd.gv rfl hp)) rfl ?_
    refine St.ev _ (Ev.move (Opd.mk rfl)) rfl ?_
    refine St.gf _ rfl rfl (fun hg => Ev.move (Opd.mk rfl)) rfl ?_
    refine St.gf _ rfl rfl (fun hg => Ev.eql (Opd.gv rfl hg) (Opd.mk rfl)) rfl ?_
    refine St.ev _ (Ev.or (Opd.mk rfl) (fun hp => Opd.gv rfl hp)) rfl ?_
    refine St.ev _ (Ev.move (Opd.mk rfl)) rfl ?_
    refine St.gf _ rfl rfl (fun hg => Ev.move (Opd.mk rfl)) rfl ?_
    refine St.gf _ rfl rfl (fun hg => Ev.eql (Opd.gv rfl hg) (Opd.mk rfl)) rfl ?_
    refine St.ev _ (Ev.or (Opd.mk rfl) (fun hp => Opd.gv rfl hp)) rfl ?_
    refine St.ev _ (Ev.move (Opd.mk rfl)) rfl ?_
    refine St.gf _ rfl rfl (fun hg => Ev.move (Opd.mk rfl)) rfl ?_
    refine St.gf _ rfl rfl (fun hg => Ev.eql (Opd.gv rfl hg) (Opd.mk rfl)) rfl ?_
    refine St.ev _ (Ev.or (Opd.mk rfl) (fun hp => Opd.gv rfl hp)) rfl ?_
    refine St.ev _ (Ev.move (Opd.mk rfl)) rfl ?_
    refine St.gf _ rfl rfl (fun hg => Ev.move (Opd.mk rfl)) rfl ?_
    refine St.gf _ rfl rfl (fun hg => Ev.eql (Opd.gv rfl hg) (Opd.mk rfl)) rfl ?_
    refine St.ev _ (Ev.or (Opd.mk rfl) (fun hp => Opd.gv rfl hp)) rfl ?_
    refine St.ev _ (Ev.move (Opd.mk rfl)) rfl ?_
    refine St.gf _ rfl rfl (fun hg => Ev.move (Opd.mk rfl)) rfl ?_
    refine St.gf _ rfl rfl (fun hg => Ev.eql (Opd.gv rfl hg) (Opd.mk rfl)) rfl ?_
    refine St.ev _ (Ev.or (Opd.mk rfl) (fun hp => Opd.gv rfl hp)) rfl ?_
    refine St.ev _ (Ev.move (Opd.mk rfl)) rfl ?_
    refine St.gf _ rfl rfl (fun hg => Ev.move (Opd.mk rfl)) rfl ?_
    refine St.gf _ rfl rfl (fun hg => Ev.eql (Opd.gv rfl hg) (Opd.mk rfl)) rfl ?_
    refine St.ev _ (Ev.or (Opd.mk rfl) (fun hp => Opd.gv rfl hp)) rfl ?_
    refine St.ev _ (Ev.move (Opd.mk rfl)) rfl ?_
    refine St.gf _ rfl rfl (fun hg => Ev.move (Opd.mk rfl)) rfl ?_
    refine St.gf _ rfl rfl (fun hg => Ev.eql (Opd.gv rfl hg) (Opd.mk rfl)) rfl ?_
    refine St.ev _ (Ev.or (Opd.mk rfl) (fun hp => Opd.gv rfl hp)) rfl ?_
    refine St.nil ?_
    refine St.then_normal ?_
    refine St.cond _ rfl (fun h50 => ?_) (fun h50 => ?_)
    · skip
      try simp only [Bool.and_true, Bool.true_and, decide_eq_true_eq, decide_eq_false_iff_not, Bool.and_eq_true, Bool.or_eq_true, Bool.and_eq_false_iff, Bool.or_eq_false_iff, Bool.not_eq_true', Bool.not_eq_false', beq_iff_eq, beq_eq_false_iff_ne, Int.not_lt, Int.not_le] at h50
      refine St.seq ?_
      refine St.rg ?_
      refine St.ev _ (Ev.assign (Opd.mk rfl)) rfl ?_
      refine St.nil ?_
      refine St.then_normal ?_
      refine St.rett ?_
      refine St.then_ret ?_
      refine St.in_ret ?_
      refine St.then_ret ?_
      refine St.in_ret ?_
      refine St.then_ret ?_
      refine St.rets [_] [] Tryz.results21 ⟨rfl, trivial⟩ ?_ (fun _ hw => hw.sub)
      exact be (by rw [hv, wordAt_none hp (wst_sep (isSep_iff.2 (by omega)))])
    · skip
      try simp only [Bool.and_true, Bool.true_and, decide_eq_true_eq, decide_eq_false_iff_not, Bool.and_eq_true, Bool.or_eq_true, Bool.and_eq_false_iff, Bool.or_eq_false_iff, Bool.not_eq_true', Bool.not_eq_false', beq_iff_eq, beq_eq_false_iff_ne, Int.not_lt, Int.not_le] at h50
      have hse : isSep (s.getD p 0) = false := by
        cases hq : isSep (s.getD p 0) with
        | false => rfl
        | true => have := isSep_iff.1 hq; omega
      refine St.skip ?_
      refine St.then_normal ?_
      refine St.join (ι := Unit) (fun u T => (6, iv ((more (bt s p) : Nat) : Int)) :: (7, .int .u8 ((loB (bt s p) : Nat) : Int)) :: (8, .int .u8 ((hiB (bt s p) : Nat) : Int)) :: T) (fun u => []) (fun u => badLead (bt s p) = false) (Keep.cons 0 rfl (Keep.cons 3 rfl (Keep.cons 4 rfl Keep.nil))) ?_ ?_
      · skip
        refine St.seq ?_
        refine St.rg ?_
        refine St.ev _ (Ev.move (Opd.mk rfl)) rfl ?_
        refine St.ev _ (Ev.geq (Opd.mk rfl) (Opd.mk rfl)) rfl ?_
        refine St.ev _ (Ev.move (Opd.mk rfl)) rfl ?_
        refine St.gt _ rfl rfl (fun hg => Ev.move (Opd.mk rfl)) rfl ?_
        refine St.gt _ rfl rfl (fun hg => Ev.leq (Opd.gv rfl hg) (Opd.mk rfl)) rfl ?_
        refine St.ev _ (Ev.and (Opd.mk rfl) (fun hp => Opd.gv rfl hp)) rfl ?_
        refine St.nil ?_
        refine St.then_normal ?_
        refine St.cond _ rfl (fun h56 => ?_) (fun h56 => ?_)
        · skip
          try simp only [Bool.and_true, Bool.true_and, decide_eq_true_eq, decide_eq_false_iff_not, Bool.and_eq_true, Bool.or_eq_true, Bool.and_eq_false_iff, Bool.or_eq_false_iff, Bool.not_eq_true', Bool.not_eq_false', beq_iff_eq, beq_eq_false_iff_ne, Int.not_lt, Int.not_le] at h56
          refine St.rg ?_
          refine St.ev _ (Ev.assign (Opd.mk rfl)) rfl ?_
          refine St.nil ?_
          refine St.then_normal ?_
          have hms := more_spec (bt s p)
          have hls := loB_spec (bt s p)
          have hhs := hiB_spec (bt s p)
          refine St.slot 6 (iv ((more (bt s p) : Nat) : Int)) rfl (ive (by omega)) ?_
          refine St.slot 7 (.int .u8 ((loB (bt s p) : Nat) : Int)) rfl (u8i (by omega)) ?_
          refine St.slot 8 (.int .u8 ((hiB (bt s p) : Nat) : Int)) rfl (u8i (by omega)) ?_
          refine St.met () (by unfold badLead; exact decide_eq_false (by omega)) (by repeat (first | exact Sub.nil | refine Sub.cons (by first | rfl | exact congrArg (fun z => some (iv z)) (by first | omega | (dsimp only; omega)) | exact congrArg (fun z => some (Value.bool z)) (by first | assumption | exact Eq.symm (by assumption))) ?_)) (fun _ hw => hw.sub)
        · skip
          try simp only [Bool.and_true, Bool.true_and, decide_eq_true_eq, decide_eq_false_iff_not, Bool.and_eq_true, Bool.or_eq_true, Bool.and_eq_false_iff, Bool.or_eq_false_iff, Bool.not_eq_true', Bool.not_eq_false', beq_iff_eq, beq_eq_false_iff_ne, Int.not_lt, Int.not_le] at h56
          refine St.seq ?_
          refine St.rg ?_
          refine St.ev _ (Ev.move (Opd.mk rfl)) rfl ?_
          refine St.ev _ (Ev.geq (Opd.mk rfl) (Opd.mk rfl)) rfl ?_
          refine St.ev _ (Ev.move (Opd.mk rfl)) rfl ?_
          refine St.gt _ rfl rfl (fun hg => Ev.move (Opd.mk rfl)) rfl ?_
          refine St.gt _ rfl rfl (fun hg => Ev.leq (Opd.gv rfl hg) (Opd.mk rfl)) rfl ?_
          refine St.ev _ (Ev.and (Opd.mk rfl) (fun hp => Opd.gv rfl hp)) rfl ?_
          refine St.nil ?_
          refine St.then_normal ?_
          refine St.cond _ rfl (fun h62 => ?_) (fun h62 => ?_)
          · skip
            try simp only [Bool.and_true, Bool.true_and, decide_eq_true_eq, decide_eq_false_iff_not, Bool.and_eq_true, Bool.or_eq_true, Bool.and_eq_false_iff, Bool.or_eq_false_iff, Bool.not_eq_true', Bool.not_eq_false', beq_iff_eq, beq_eq_false_iff_ne, Int.not_lt, Int.not_le] at h62
            refine St.seq ?_
            refine St.rg ?_
            refine St.ev _ (Ev.assign (Opd.mk rfl)) rfl ?_
            refine St.nil ?_
            refine St.then_normal ?_
            refine St.seq ?_
            refine St.seq ?_
            refine St.rg ?_
            refine St.ev _ (Ev.move (Opd.mk rfl)) rfl ?_
            refine St.ev _ (Ev.eql (Opd.mk rfl) (Opd.mk rfl)) rfl ?_
            refine St.nil ?_
            refine St.then_normal ?_
            refine St.cond _ rfl (fun h64 => ?_) (fun h64 => ?_)
            · skip
              try simp only [Bool.and_true, Bool.true_and, decide_eq_true_eq, decide_eq_false_iff_not, Bool.and_eq_true, Bool.or_eq_true, Bool.and_eq_false_iff, Bool.or_eq_false_iff, Bool.not_eq_true', Bool.not_eq_false', beq_iff_eq, beq_eq_false_iff_ne, Int.not_lt, Int.not_le] at h64
              refine St.rg ?_
              refine St.ev _ (Ev.assign (Opd.mk rfl)) rfl ?_
              refine St.nil ?_
              refine St.then_normal ?_
              refine St.seq ?_
              refine St.rg ?_
              refine St.ev _ (Ev.move (Opd.mk rfl)) rfl ?_
              refine St.ev _ (Ev.eql (Opd.mk rfl) (Opd.mk rfl)) rfl ?_
              refine St.nil ?_
              refine St.then_normal ?_
              refine St.cond _ rfl (fun h66 => ?_) (fun h66 => ?_)
              · skip
                try simp only [Bool.and_true, Bool.true_and, decide_eq_true_eq, decide_eq_false_iff_not, Bool.and_eq_true, Bool.or_eq_true, Bool.and_eq_false_iff, Bool.or_eq_false_iff, Bool.not_eq_true', Bool.not_eq_false', beq_iff_eq, beq_eq_false_iff_ne, Int.not_lt, Int.not_le] at h66
                refine St.rg ?_
                refine St.ev _ (Ev.assign (Opd.mk rfl)) rfl ?_
                refine St.nil ?_
                refine St.then_normal ?_
                have hms := more_spec (bt s p)
                have hls := loB_spec (bt s p)
                have hhs := hiB_spec (bt s p)
                refine St.slot 6 (iv ((more (bt s p) : Nat) : Int)) rfl (ive (by omega)) ?_
                refine St.slot 7 (.int .u8 ((loB (bt s p) : Nat) : Int)) rfl (u8i (by omega)) ?_
                refine St.slot 8 (.int .u8 ((hiB (bt s p) : Nat) : Int)) rfl (u8i (by omega)) ?_
                refine St.met () (by unfold badLead; exact decide_eq_false (by omega)) (by repeat (first | exact Sub.nil | refine Sub.cons (by first | rfl | exact congrArg (fun z => some (iv z)) (by first | omega | (dsimp only; omega)) | exact congrArg (fun z => some (Value.bool z)) (by first | assumption | exact Eq.symm (by assumption))) ?_)) (fun _ hw => hw.sub)
              · skip
                try simp only [Bool.and_true, Bool.true_and, decide_eq_true_eq, decide_eq_false_iff_not, Bool.and_eq_true, Bool.or_eq_true, Bool.and_eq_false_iff, Bool.or_eq_false_iff, Bool.not_eq_true', Bool.not_eq_false', beq_iff_eq, beq_eq_false_iff_ne, Int.not_lt, Int.not_le] at h66
                refine St.skip ?_
                refine St.then_normal ?_
                have hms := more_spec (bt s p)
                have hls := loB_spec (bt s p)
                have hhs := hiB_spec (bt s p)
                refine St.slot 6 (iv ((more (bt s p) : Nat) : Int)) rfl (ive (by omega)) ?_
                refine St.slot 7 (.int .u8 ((loB (bt s p) : Nat) : Int)) rfl (u8i (by omega)) ?_
                refine St.slot 8 (.int .u8 ((hiB (bt s p) : Nat) : Int)) rfl (u8i (by omega)) ?_
                refine St.met () (by unfold badLead; exact decide_eq_false (by omega)) (by repeat (first | exact Sub.nil | refine Sub.cons (by first | rfl | exact congrArg (fun z => some (iv z)) (by first | omega | (dsimp only; omega)) | exact congrArg (fun z => some (Value.bool z)) (by first | assumption | exact Eq.symm (by assumption))) ?_)) (fun _ hw => hw.sub)
            · skip
              try simp only [Bool.and_true, Bool.true_and, decide_eq_true_eq, decide_eq_false_iff_not, Bool.and_eq_true, Bool.or_eq_true, Bool.and_eq_false_iff, Bool.or_eq_false_iff, Bool.not_eq_true', Bool.not_eq_false', beq_iff_eq, beq_eq_false_iff_ne, Int.not_lt, Int.not_le] at h64
              refine St.skip ?_
              refine St.then_normal ?_
              refine St.seq ?_
              refine St.rg ?_
              refine St.ev _ (Ev.move (Opd.mk rfl)) rfl ?_
              refine St.ev _ (Ev.eql (Opd.mk rfl) (Opd.mk rfl)) rfl ?_
              refine St.nil ?_
              refine St.then_normal ?_
              refine St.cond _ rfl (fun h66 => ?_) (fun h66 => ?_)
              · skip
                try simp only [Bool.and_true, Bool.true_and, decide_eq_true_eq, decide_eq_false_iff_not, Bool.and_eq_true, Bool.or_eq_true, Bool.and_eq_false_iff, Bool.or_eq_false_iff, Bool.not_eq_true', Bool.not_eq_false', beq_iff_eq, beq_eq_false_iff_ne, Int.not_lt, Int.not_le] at h66
                refine St.rg ?_
                refine St.ev _ (Ev.assign (Opd.mk rfl)) rfl ?_
                refine St.nil ?_
                refine St.then_normal ?_
                have hms := more_spec (bt s p)
                have hls := loB_spec (bt s p)
                have hhs := hiB_spec (bt s p)
                refine St.slot 6 (iv ((more (bt s p) : Nat) : Int)) rfl (ive (by omega)) ?_
                refine St.slot 7 (.int .u8 ((loB (bt s p) : Nat) : Int)) rfl (u8i (by omega)) ?_
                refine St.slot 8 (.int .u8 ((hiB (bt s p) : Nat) : Int)) rfl (u8i (by omega)) ?_
                refine St.met () (by unfold badLead; exact decide_eq_false (by omega)) (by repeat (first | exact Sub.nil | refine Sub.cons (by first | rfl | exact congrArg (fun z => some (iv z)) (by first | omega | (dsimp only; omega)) | exact congrArg (fun z => some (Value.bool z)) (by first | assumption | exact Eq.symm (by assumption))) ?_)) (fun _ hw => hw.sub)
              · skip
                try simp only [Bool.and_true, Bool.true_and, decide_eq_true_eq, decide_eq_false_iff_not, Bool.and_eq_true, Bool.or_eq_true, Bool.and_eq_false_iff, Bool.or_eq_false_iff, Bool.not_eq_true', Bool.not_eq_false', beq_iff_eq, beq_eq_false_iff_ne, Int.not_lt, Int.not_le] at h66
                refine St.skip ?_
                refine St.then_normal ?_
                have hms := more_spec (bt s p)
                have hls := loB_spec (bt s p)
                have hhs := hiB_spec (bt s p)
                refine St.slot 6 (iv ((more (bt s p) : Nat) : Int)) rfl (ive (by omega)) ?_
                refine St.slot 7 (.int .u8 ((loB (bt s p) : Nat) : Int)) rfl (u8i (by omega)) ?_
                refine St.slot 8 (.int .u8 ((hiB (bt s p) : Nat) : Int)) rfl (u8i (by omega)) ?_
                refine St.met () (by unfold badLead; exact decide_eq_false (by omega)) (by repeat (first | exact Sub.nil | refine Sub.cons (by first | rfl | exact congrArg (fun z => some (iv z)) (by first | omega | (dsimp only; omega)) | exact congrArg (fun z => some (Value.bool z)) (by first | assumption | exact Eq.symm (by assumption))) ?_)) (fun _ hw => hw.sub)
          · skip
            try simp only [Bool.and_true, Bool.true_and, decide_eq_true_eq, decide_eq_false_iff_not, Bool.and_eq_true, Bool.or_eq_true, Bool.and_eq_false_iff, Bool.or_eq_false_iff, Bool.not_eq_true', Bool.not_eq_false', beq_iff_eq, beq_eq_false_iff_ne, Int.not_lt, Int.not_le] at h62
            refine St.seq ?_
            refine St.rg ?_
            refine St.ev _ (Ev.move (Opd.mk rfl)) rfl ?_
            refine St.ev _ (Ev.geq (Opd.mk rfl) (Opd.mk rfl)) rfl ?_
            refine St.ev _ (Ev.move (Opd.mk rfl)) rfl ?_
            refine St.gt _ rfl rfl (fun hg => Ev.move (Opd.mk rfl)) rfl ?_
            refine St.gt _ rfl rfl (fun hg => Ev.leq (Opd.gv rfl hg) (Opd.mk rfl)) rfl ?_
            refine St.ev _ (Ev.and (Opd.mk rfl) (fun hp => Opd.gv rfl hp)) rfl ?_
            refine St.nil ?_
            refine St.then_normal ?_
            refine St.cond _ rfl (fun h72 => ?_) (fun h72 => ?_)
            · skip
              try simp only [Bool.and_true, Bool.true_and, decide_eq_true_eq, decide_eq_false_iff_not, Bool.and_eq_true, Bool.or_eq_true, Bool.and_eq_false_iff, Bool.or_eq_false_iff, Bool.not_eq_true', Bool.not_eq_false', beq_iff_eq, beq_eq_false_iff_ne, Int.not_lt, Int.not_le] at h72
              refine St.seq ?_
              refine St.rg ?_
              refine St.ev _ (Ev.assign (Opd.mk rfl)) rfl ?_
              refine St.nil ?_
              refine St.then_normal ?_
              refine St.seq ?_
              refine St.seq ?_
              refine St.rg ?_
              refine St.ev _ (Ev.move (Opd.mk rfl)) rfl ?_
              refine St.ev _ (Ev.eql (Opd.mk rfl) (Opd.mk rfl)) rfl ?_
              refine St.nil ?_
              refine St.then_normal ?_
              refine St.cond _ rfl (fun h74 => ?_) (fun h74 => ?_)
              · skip
                try simp only [Bool.and_true, Bool.true_and, decide_eq_true_eq, decide_eq_false_iff_not, Bool.and_eq_true, Bool.or_eq_true, Bool.and_eq_false_iff, Bool.or_eq_false_iff, Bool.not_eq_true', Bool.not_eq_false', beq_iff_eq, beq_eq_false_iff_ne, Int.not_lt, Int.not_le] at h74
                refine St.rg ?_
                refine St.ev _ (Ev.assign (Opd.mk rfl)) rfl ?_
                refine St.nil ?_
                refine St.then_normal ?_
                refine St.seq ?_
                refine St.rg ?_
                refine St.ev _ (Ev.move (Opd.mk rfl)) rfl ?_
                refine St.ev _ (Ev.eql (Opd.mk rfl) (Opd.mk rfl)) rfl ?_
                refine St.nil ?_
                refine St.then_normal ?_
                refine St.cond _ rfl (fun h76 => ?_) (fun h76 => ?_)
                · skip
                  try simp only [Bool.and_true, Bool.true_and, decide_eq_true_eq, decide_eq_false_iff_not, Bool.and_eq_true, Bool.or_eq_true, Bool.and_eq_false_iff, Bool.or_eq_false_iff, Bool.not_eq_true', Bool.not_eq_false', beq_iff_eq, beq_eq_false_iff_ne, Int.not_lt, Int.not_le] at h76
                  refine St.rg ?_
                  refine St.ev _ (Ev.assign (Opd.mk rfl)) rfl ?_
                  refine St.nil ?_
                  refine St.then_normal ?_
                  have hms := more_spec (bt s p)
                  have hls := loB_spec (bt s p)
                  have hhs := hiB_spec (bt s p)
                  refine St.slot 6 (iv ((more (bt s p) : Nat) : Int)) rfl (ive (by omega)) ?_
                  refine St.slot 7 (.int .u8 ((loB (bt s p) : Nat) : Int)) rfl (u8i (by omega)) ?_
                  refine St.slot 8 (.int .u8 ((hiB (bt s p) : Nat) : Int)) rfl (u8i (by omega)) ?_
                  refine St.met () (by unfold badLead; exact decide_eq_false (by omega)) (by repeat (first | exact Sub.nil | refine Sub.cons (by first | rfl | exact congrArg (fun z => some (iv z)) (by first | omega | (dsimp only; omega)) | exact congrArg (fun z => some (Value.bool z)) (by first | assumption | exact Eq.symm (by assumption))) ?_)) (fun _ hw => hw.sub)
                · skip
                  try simp only [Bool.and_true, Bool.true_and, decide_eq_true_eq, decide_eq_false_iff_not, Bool.and_eq_true, Bool.or_eq_true, Bool.and_eq_false_iff, Bool.or_eq_false_iff, Bool.not_eq_true', Bool.not_eq_false', beq_iff_eq, beq_eq_false_iff_ne, Int.not_lt, Int.not_le] at h76
                  refine St.skip ?_
                  refine St.then_normal ?_
                  have hms := more_spec (bt s p)
                  have hls := loB_spec (bt s p)
                  have hhs := hiB_spec (bt s p)
                  refine St.slot 6 (iv ((more (bt s p) : Nat) : Int)) rfl (ive (by omega)) ?_
                  refine St.slot 7 (.int .u8 ((loB (bt s p) : Nat) : Int)) rfl (u8i (by omega)) ?_
                  refine St.slot 8 (.int .u8 ((hiB (bt s p) : Nat) : Int)) rfl (u8i (by omega)) ?_
                  refine St.met () (by unfold badLead; exact decide_eq_false (by omega)) (by repeat (first | exact Sub.nil | refine Sub.cons (by first | rfl | exact congrArg (fun z => some (iv z)) (by first | omega | (dsimp only; omega)) | exact congrArg (fun z => some (Value.bool z)) (by first | assumption | exact Eq.symm (by assumption))) ?_)) (fun _ hw => hw.sub)
              · skip
                try simp only [Bool.and_true, Bool.true_and, decide_eq_true_eq, decide_eq_false_iff_not, Bool.and_eq_true, Bool.or_eq_true, Bool.and_eq_false_iff, Bool.or_eq_false_iff, Bool.not_eq_true', Bool.not_eq_false', beq_iff_eq, beq_eq_false_iff_ne, Int.not_lt, Int.not_le] at h74
                refine St.skip ?_
                refine St.then_normal ?_
                refine St.seq ?_
                refine St.rg ?_
                refine St.ev _ (Ev.move (Opd.mk rfl)) rfl ?_
                refine St.ev _ (Ev.eql (Opd.mk rfl) (Opd.mk rfl)) rfl ?_
                refine St.nil ?_
                refine St.then_normal ?_
                refine St.cond _ rfl (fun h76 => ?_) (fun h76 => ?_)
                · skip
                  try simp only [Bool.and_true, Bool.true_and, decide_eq_true_eq, decide_eq_false_iff_not, Bool.and_eq_true, Bool.or_eq_true, Bool.and_eq_false_iff, Bool.or_eq_false_iff, Bool.not_eq_true', Bool.not_eq_false', beq_iff_eq, beq_eq_false_iff_ne, Int.not_lt, Int.not_le] at h76
                  refine St.rg ?_
                  refine St.ev _ (Ev.assign (Opd.mk rfl)) rfl ?_
                  refine St.nil ?_
                  refine St.then_normal ?_
                  have hms := more_spec (bt s p)
                  have hls := loB_spec (bt s p)
                  have hhs := hiB_spec (bt s p)
                  refine St.slot 6 (iv ((more (bt s p) : Nat) : Int)) rfl (ive (by omega)) ?_
                  refine St.slot 7 (.int .u8 ((loB (bt s p) : Nat) : Int)) rfl (u8i (by omega)) ?_
                  refine St.slot 8 (.int .u8 ((hiB (bt s p) : Nat) : Int)) rfl (u8i (by omega)) ?_
                  refine St.met () (by unfold badLead; exact decide_eq_false (by omega)) (by repeat (first | exact Sub.nil | refine Sub.cons (by first | rfl | exact congrArg (fun z => some (iv z)) (by first | omega | (dsimp only; omega)) | exact congrArg (fun z => some (Value.bool z)) (by first | assumption | exact Eq.symm (by assumption))) ?_)) (fun _ hw => hw.sub)
                · skip
                  try simp only [Bool.and_true, Bool.true_and, decide_eq_true_eq, decide_eq_false_iff_not, Bool.and_eq_true, Bool.or_eq_true, Bool.and_eq_false_iff, Bool.or_eq_false_iff, Bool.not_eq_true', Bool.not_eq_false', beq_iff_eq, beq_eq_false_iff_ne, Int.not_lt, Int.not_le] at h76
                  refine St.skip ?_
                  refine St.then_normal ?_
                  have hms := more_spec (bt s p)
                  have hls := loB_spec (bt s p)
                  have hhs := hiB_spec (bt s p)
                  refine St.slot 6 (iv ((more (bt s p) : Nat) : Int)) rfl (ive (by omega)) ?_
                  refine St.slot 7 (.int .u8 ((loB (bt s p) : Nat) : Int)) rfl (u8i (by omega)) ?_
                  refine St.slot 8 (.int .u8 ((hiB (bt s p) : Nat) : Int)) rfl (u8i (by omega)) ?_
                  refine St.met () (by unfold badLead; exact decide_eq_false (by omega)) (by repeat (first | exact Sub.nil | refine Sub.cons (by first | rfl | exact congrArg (fun z => some (iv z)) (by first | omega | (dsimp only; omega)) | exact congrArg (fun z => some (Value.bool z)) (by first | assumption | exact Eq.symm (by assumption))) ?_)) (fun _ hw => hw.sub)
            · skip
              try simp only [Bool.and_true, Bool.true_and, decide_eq_true_eq, decide_eq_false_iff_not, Bool.and_eq_true, Bool.or_eq_true, Bool.and_eq_false_iff, Bool.or_eq_false_iff, Bool.not_eq_true', Bool.not_eq_false', beq_iff_eq, beq_eq_false_iff_ne, Int.not_lt, Int.not_le] at h72
              refine St.seq ?_
              refine St.rg ?_
              refine St.ev _ (Ev.move (Opd.mk rfl)) rfl ?_
              refine St.ev _ (Ev.geq (Opd.mk rfl) (Opd.mk rfl)) rfl ?_
              refine St.nil ?_
              refine St.then_normal ?_
              refine St.cond _ rfl (fun h78 => ?_) (fun h78 => ?_)
              · skip
                try simp only [Bool.and_true, Bool.true_and, decide_eq_true_eq, decide_eq_false_iff_not, Bool.and_eq_true, Bool.or_eq_true, Bool.and_eq_false_iff, Bool.or_eq_false_iff, Bool.not_eq_true', Bool.not_eq_false', beq_iff_eq, beq_eq_false_iff_ne, Int.not_lt, Int.not_le] at h78
                refine St.seq ?_
                refine St.rg ?_
                refine St.ev _ (Ev.assign (Opd.mk rfl)) rfl ?_
                refine St.nil ?_
                refine St.then_normal ?_
                refine St.rett ?_
                refine St.then_ret ?_
                refine St.in_ret ?_
                refine St.then_ret ?_
                refine St.in_ret ?_
                refine St.then_ret ?_
                refine St.rets [_] [] Tryz.results21 ⟨rfl, trivial⟩ ?_ (fun _ hw => hw.sub)
                exact be (by rw [hv, wordAt_none hp (wst_bad (by have hms := more_spec (bt s p); unfold badLead; exact decide_eq_true (by omega)))])
              · skip
                try simp only [Bool.and_true, Bool.true_and, decide_eq_true_eq, decide_eq_false_iff_not, Bool.and_eq_true, Bool.or_eq_true, Bool.and_eq_false_iff, Bool.or_eq_false_iff, Bool.not_eq_true', Bool.not_eq_false', beq_iff_eq, beq_eq_false_iff_ne, Int.not_lt, Int.not_le] at h78
                refine St.skip ?_
                refine St.then_normal ?_
                have hms := more_spec (bt s p)
                have hls := loB_spec (bt s p)
                have hhs := hiB_spec (bt s p)
                refine St.slot 6 (iv ((more (bt s p) : Nat) : Int)) rfl (ive (by omega)) ?_
                refine St.slot 7 (.int .u8 ((loB (bt s p) : Nat) : Int)) rfl (u8i (by omega)) ?_
                refine St.slot 8 (.int .u8 ((hiB (bt s p) : Nat) : Int)) rfl (u8i (by omega)) ?_
                refine St.met () (by unfold badLead; exact decide_eq_false (by omega)) (by repeat (first | exact Sub.nil | refine Sub.cons (by first | rfl | exact congrArg (fun z => some (iv z)) (by first | omega | (dsimp only; omega)) | exact congrArg (fun z => some (Value.bool z)) (by first | assumption | exact Eq.symm (by assumption))) ?_)) (fun _ hw => hw.sub)
      · skip
        intro u hbl
        refine St.seq ?_
        refine St.rg ?_
        refine St.ev _ (Ev.move (Opd.mk rfl)) rfl ?_
        refine St.ev _ (Ev.add (Opd.mk rfl) (Opd.mk rfl) (by omega)) rfl ?_
        refine St.ev _ (Ev.assign (Opd.mk rfl)) rfl ?_
        refine St.nil ?_
        refine St.then_normal ?_
        refine St.seq ?_
        refine St.seq ?_
        refine St.rg ?_
        refine St.ev _ (Ev.assign (Opd.mk rfl)) rfl ?_
        refine St.nil ?_
        refine St.then_normal ?_
        refine St.block ?_
        refine St.loopS (ι := Nat) (fun k T => (9, iv k) :: (4, iv ((p + 1 + k : Nat) : Int)) :: (7, .int .u8 (((if k = 0 then loB (bt s p) else 128) : Nat) : Int)) :: (8, .int .u8 (((if k = 0 then hiB (bt s p) else 191) : Nat) : Int)) :: T) (fun k => k ≤ more (bt s p) ∧ p + 1 + k ≤ s.length ∧ (List.range k).all (contOk s p) = true) (fun k => more (bt s p) - k) 0 (Keep.cons 0 rfl (Keep.cons 3 rfl (Keep.cons 6 rfl Keep.nil))) ⟨Nat.zero_le _, by omega, rfl⟩ (by repeat (first | exact Sub.nil | refine Sub.cons (by first | rfl | exact congrArg (fun z => some (iv z)) (by first | omega | (dsimp only; omega)) | exact congrArg (fun z => some (Value.bool z)) (by first | assumption | exact Eq.symm (by assumption))) ?_)) ?_
        intro k hphi
        obtain ⟨hk, hpk, hall⟩ := hphi
        refine St.seq ?_
        refine St.seq ?_
        refine St.rg ?_
        refine St.ev _ (Ev.move (Opd.mk rfl)) rfl ?_
        refine St.ev _ (Ev.move (Opd.mk rfl)) rfl ?_
        refine St.ev _ (Ev.lss (Opd.mk rfl) (Opd.mk rfl)) rfl ?_
        refine St.nil ?_
        refine St.then_normal ?_
        refine St.cond _ rfl (fun h83 => ?_) (fun h83 => ?_)
        · skip
          try simp only [Bool.and_true, Bool.true_and, decide_eq_true_eq, decide_eq_false_iff_not, Bool.and_eq_true, Bool.or_eq_true, Bool.and_eq_false_iff, Bool.or_eq_false_iff, Bool.not_eq_true', Bool.not_eq_false', beq_iff_eq, beq_eq_false_iff_ne, Int.not_lt, Int.not_le] at h83
          have hbk : bt s (p + 1 + k) = (s.getD (p + 1 + k) 0).toNat := rfl
          refine St.skip ?_
          refine St.then_normal ?_
          refine St.seq ?_
          refine St.block ?_
          refine St.seq ?_
          refine St.seq ?_
          refine St.rg ?_
          refine St.ev _ (Ev.move (Opd.mk rfl)) rfl ?_
          refine St.ev _ (Ev.move (Opd.mk rfl)) rfl ?_
          refine St.ev _ (Ev.lenstr (Opd.mk rfl) Tryz.underlying9) rfl ?_
          refine St.ev _ (Ev.geq (Opd.mk rfl) (Opd.mk rfl)) rfl ?_
          refine St.ev _ (Ev.move (Opd.mk rfl)) rfl ?_
          refine St.gf _ rfl rfl (fun hg => Ev.move (Opd.mk rfl)) rfl ?_
          refine St.gf _ rfl rfl (fun hg => Ev.move (Opd.mk rfl)) rfl ?_
          refine St.gf _ rfl rfl (fun hg => Ev.idxstr0 (k := (p + 1 + k)) (Opd.gv rfl hg) (Opd.gv rfl hg) Tryz.underlying9 (by omega) (by first | omega | (simp only [Bool.and_true, Bool.true_and, decide_eq_true_eq, decide_eq_false_iff_not, Bool.and_eq_true, Bool.or_eq_true, Bool.and_eq_false_iff, Bool.or_eq_false_iff, Bool.not_eq_true', Bool.not_eq_false', beq_iff_eq, beq_eq_false_iff_ne, Int.not_lt, Int.not_le] at hg; omega))) rfl ?_
          refine St.gf _ rfl rfl (fun hg => Ev.move (Opd.mk rfl)) rfl ?_
          refine St.gf _ rfl rfl (fun hg => Ev.lss (Opd.gv rfl hg) (Opd.gv rfl hg)) rfl ?_
          refine St.ev _ (Ev.or (Opd.mk rfl) (fun hp => Opd.gv rfl hp)) rfl ?_
          refine St.ev _ (Ev.move (Opd.mk rfl)) rfl ?_
          refine St.gf _ rfl rfl (fun hg => Ev.move (Opd.mk rfl)) rfl ?_
          refine St.gf _ rfl rfl (fun hg => Ev.move (Opd.mk rfl)) rfl ?_
          refine St.gf _ rfl rfl (fun hg => Ev.idxstr0 (k := (p + 1 + k)) (Opd.gv rfl hg) (Opd.gv rfl hg) Tryz.underlying9 (by omega) (by first | omega | (simp only [Bool.and_true, Bool.true_and, decide_eq_true_eq, decide_eq_false_iff_not, Bool.and_eq_true, Bool.or_eq_true, Bool.and_eq_false_iff, Bool.or_eq_false_iff, Bool.not_eq_true', Bool.not_eq_false', beq_iff_eq, beq_eq_false_iff_ne, Int.not_lt, Int.not_le] at hg; omega))) rfl ?_
          refine St.gf _ rfl rfl (fun hg => Ev.move (Opd.mk rfl)) rfl ?_
          refine St.gf _ rfl rfl (fun hg => Ev.gtr (Opd.gv rfl hg) (Opd.gv rfl hg)) rfl ?_
          refine St.ev _ (Ev.or (Opd.mk rfl) (fun hp => Opd.gv rfl hp)) rfl ?_
          refine St.nil ?_
          refine St.then_normal ?_
          refine St.cond _ rfl (fun h103 => ?_) (fun h103 => ?_)
          · skip
            try simp only [Bool.and_true, Bool.true_and, decide_eq_true_eq, decide_eq_false_iff_not, Bool.and_eq_true, Bool.or_eq_true, Bool.and_eq_false_iff, Bool.or_eq_false_iff, Bool.not_eq_true', Bool.not_eq_false', beq_iff_eq, beq_eq_false_iff_ne, Int.not_lt, Int.not_le] at h103
            refine St.seq ?_
            refine St.rg ?_
            refine St.ev _ (Ev.assign (Opd.mk rfl)) rfl ?_
            refine St.nil ?_
            refine St.then_normal ?_
            refine St.rett ?_
            refine St.then_ret ?_
            refine St.in_ret ?_
            refine St.then_ret ?_
            refine St.then_ret ?_
            refine St.in_ret ?_
            refine St.then_ret ?_
            refine St.in_ret ?_
            refine St.then_ret ?_
            refine St.in_ret ?_
            refine St.then_ret ?_
            refine St.rets [_] [] Tryz.results21 ⟨rfl, trivial⟩ ?_ (fun _ hw => hw.sub)
            exact be (by rw [hv, wordAt_none hp (wst_cont (k := k) (by omega) (contOk_no (by omega)))])
          · skip
            try simp only [Bool.and_true, Bool.true_and, decide_eq_true_eq, decide_eq_false_iff_not, Bool.and_eq_true, Bool.or_eq_true, Bool.and_eq_false_iff, Bool.or_eq_false_iff, Bool.not_eq_true', Bool.not_eq_false', beq_iff_eq, beq_eq_false_iff_ne, Int.not_lt, Int.not_le] at h103
            have hck : contOk s p k = true := contOk_iff.2 (by omega)
            refine St.skip ?_
            refine St.then_normal ?_
            refine St.seq ?_
            refine St.rg ?_
            refine St.ev _ (Ev.assign (Opd.mk rfl)) rfl ?_
            refine St.ev _ (Ev.assign (Opd.mk rfl)) rfl ?_
            refine St.nil ?_
            refine St.then_normal ?_
            refine St.rg ?_
            refine St.ev _ (Ev.move (Opd.mk rfl)) rfl ?_
            refine St.ev _ (Ev.add (Opd.mk rfl) (Opd.mk rfl) (by omega)) rfl ?_
            refine St.ev _ (Ev.assign (Opd.mk rfl)) rfl ?_
            refine St.nil ?_
            refine St.in_normal ?_
            refine St.then_normal ?_
            refine St.rg ?_
            refine St.ev _ (Ev.move (Opd.mk rfl)) rfl ?_
            refine St.ev _ (Ev.add (Opd.mk rfl) (Opd.mk rfl) (by omega)) rfl ?_
            refine St.ev _ (Ev.assign (Opd.mk rfl)) rfl ?_
            refine St.nil ?_
            refine St.then_normal ?_
            refine St.againS (k + 1) ⟨by omega, by omega, range_all_succ hall hck⟩ (by first | omega | (dsimp only; omega)) (by repeat (first | exact Sub.nil | refine Sub.cons (by first | rfl | exact congrArg (fun z => some (iv z)) (by first | omega | (dsimp only; omega)) | exact congrArg (fun z => some (Value.bool z)) (by first | assumption | exact Eq.symm (by assumption))) ?_)) (fun _ hw => hw.sub)
        · skip
          try simp only [Bool.and_true, Bool.true_and, decide_eq_true_eq, decide_eq_false_iff_not, Bool.and_eq_true, Bool.or_eq_true, Bool.and_eq_false_iff, Bool.or_eq_false_iff, Bool.not_eq_true', Bool.not_eq_false', beq_iff_eq, beq_eq_false_iff_ne, Int.not_lt, Int.not_le] at h83
          have hmk : k = more (bt s p) := by omega
          subst hmk
          have hok := wst_ok hse hbl hall
          refine St.exit ?_
          refine St.then_exit ?_
          refine St.then_exit ?_
          refine St.in_hit ?_
          refine St.then_normal ?_
          refine St.rg ?_
          refine St.ev _ (Ev.move (Opd.mk rfl)) rfl ?_
          refine St.ev _ (Ev.add (Opd.mk rfl) (Opd.mk rfl) (by omega)) rfl ?_
          refine St.ev _ (Ev.assign (Opd.mk rfl)) rfl ?_
          refine St.nil ?_
          refine St.in_normal ?_
          refine St.then_normal ?_
          refine St.againS (n + 1, p + 1 + more (bt s p)) ⟨by show p + 1 + more (bt s p) ≤ s.length; omega, by show n + 1 ≤ p + 1 + more (bt s p); omega, by rw [hv, wordAt_some hp hok]; show _ = wordAt s (n + 1) (p + 1 + more (bt s p)); congr 1; omega⟩ (by first | omega | (dsimp only; omega)) (by repeat (first | exact Sub.nil | refine Sub.cons (by first | rfl | exact congrArg (fun z => some (iv z)) (by first | omega | (dsimp only; omega)) | exact congrArg (fun z => some (Value.bool z)) (by first | assumption | exact Eq.symm (by assumption))) ?_)) (fun _ hw => hw.sub)
  · skip
    try simp only [Bool.and_true, Bool.true_and, decide_eq_true_eq, decide_eq_false_iff_not, Bool.and_eq_true, Bool.or_eq_true, Bool.and_eq_false_iff, Bool.or_eq_false_iff, Bool.not_eq_true', Bool.not_eq_false', beq_iff_eq, beq_eq_false_iff_ne, Int.not_lt, Int.not_le] at h13
    refine St.exit ?_
    refine St.then_exit ?_
    refine St.then_exit ?_
    refine St.in_hit ?_
    refine St.then_normal ?_
    refine St.seq ?_
    refine St.rg ?_
    refine St.ev _ (Ev.move (Opd.mk rfl)) rfl ?_
    refine St.ev _ (Ev.geq (Opd.mk rfl) (Opd.mk rfl)) rfl ?_
    refine St.ev _ (Ev.move (Opd.mk rfl)) rfl ?_
    refine St.gt _ rfl rfl (fun hg => Ev.move (Opd.mk rfl)) rfl ?_
    refine St.gt _ rfl rfl (fun hg => Ev.leq (Opd.gv rfl hg) (Opd.mk rfl)) rfl ?_
    refine St.ev _ (Ev.and (Opd.mk rfl) (fun hp => Opd.gv rfl hp)) rfl ?_
    refine St.ev _ (Ev.assign (Opd.mk rfl)) rfl ?_
    refine St.nil ?_
    refine St.then_normal ?_
    refine St.rett ?_
    refine St.rets [_] [] Tryz.results21 ⟨rfl, trivial⟩ ?_ (fun _ hw => hw.sub)
    exact be (by rw [hv, wordAt_end (by omega)]; rw [Bool.eq_iff_iff]; simp only [Bool.and_eq_true, decide_eq_true_eq]; omega)

end Go.Proofs.YtgikcbfdonjggaaGreatDoor

/-
  (YtgikcbfdonjggaaGreatDoorWordK)
  The library's search for a rune beyond the first 128 in a text of the first 128 alone: it is not there. The search for any of such texts' bytes in a valid text.
  Conditions: none but those that each theorem names.
-/
namespace Go.Proofs
open Go.Shelf Go.RowKit Go.Lib
variable {P : Program} {ρ : Ren}
theorem enc_last {r : Int} (h : 128 ≤ r) : ∃ (n : Nat) (x : UInt8), (Utf8.encode r).size = n ∧ 2 ≤ n ∧ n ≤ 4 ∧ (Utf8.encode r).data.toList[n - 1]? = some x ∧ 128 ≤ x.toNat := by
  have key : ∀ c : Nat, 128 ≤ c → c < 1114112 → ∃ (n : Nat) (x : UInt8), (if c < 0x80 then (⟨#[UInt8.ofNat c]⟩ : ByteArray) else if c < 0x800 then ⟨#[UInt8.ofNat (0xC0 + c / 64), UInt8.ofNat (0x80 + c % 64)]⟩
      else if c < 0x10000 then ⟨#[UInt8.ofNat (0xE0 + c / 4096), UInt8.ofNat (0x80 + c / 64 % 64), UInt8.ofNat (0x80 + c % 64)]⟩
      else ⟨#[UInt8.ofNat (0xF0 + c / 262144), UInt8.ofNat (0x80 + c / 4096 % 64), UInt8.ofNat (0x80 + c / 64 % 64), UInt8.ofNat (0x80 + c % 64)]⟩).size = n ∧ 2 ≤ n ∧ n ≤ 4 ∧
      (if c < 0x80 then (⟨#[UInt8.ofNat c]⟩ : ByteArray) else if c < 0x800 then ⟨#[UInt8.ofNat (0xC0 + c / 64), UInt8.ofNat (0x80 + c % 64)]⟩
      else if c < 0x10000 then ⟨#[UInt8.ofNat (0xE0 + c / 4096), UInt8.ofNat (0x80 + c / 64 % 64), UInt8.ofNat (0x80 + c % 64)]⟩
      else ⟨#[UInt8.ofNat (0xF0 + c / 262144), UInt8.ofNat (0x80 + c / 4096 % 64), UInt8.ofNat (0x80 + c / 64 % 64), UInt8.ofNat (0x80 + c % 64)]⟩).data.toList[n - 1]? = some x ∧ 128 ≤ x.toNat := by
    intro c h1 h2
    have hx : 128 ≤ (UInt8.ofNat (0x80 + c % 64)).toNat := by simp [UInt8.toNat_ofNat']; omega
    rw [if_neg (by omega)]
    by_cases k : c < 0x800
    · rw [if_pos k]; exact ⟨2, _, rfl, by omega, by omega, rfl, hx⟩
    · rw [if_neg k]
      by_cases k2 : c < 0x10000
      · rw [if_pos k2]; exact ⟨3, _, rfl, by omega, by omega, rfl, hx⟩
      · rw [if_neg k2]; exact ⟨4, _, rfl, by omega, by omega, rfl, hx⟩
  unfold Utf8.encode
  by_cases hv : Utf8.valid r = true
  · simp only [hv, if_true]
    refine key r.toNat (by omega) ?_
    simp [Utf8.valid] at hv
    omega
  · simp only [hv]
    exact key Utf8.runeError (by decide) (by decide)
theorem run_convert_rune {w : World} {s d : TypeId} {k : IntKind} {r : Int} (hs : P.underlying s = some (.int k)) (hd : P.underlying d = some .string) : (convert s d (.int k r)).run P w = .ok (.string (Utf8.encode r)) w := by
  simp [convert, run_underlying hs, run_underlying hd, Conv.intToString]
theorem idx_at {w : World} {t : TypeId} {s : ByteArray} {i : Int} {k : Nat} {b : UInt8} (ht : P.underlying t = some .string) (hi : i = k) (hb : s.data.toList[k]? = some b) : (Instr.index t (.string s) (.int .i64 i)).run P w = .ok (.int .u8 (b.toNat : Int)) w := by
  subst hi
  have hlt : k < s.size := by have := (List.getElem?_eq_some_iff.1 hb).1; rwa [← Lib.size_eq] at this
  have h1 : s[k]? = some b := by
    rw [ByteArray.getElem?_lt' _ _ hlt]
    have := (List.getElem?_eq_some_iff.1 hb).2
    simpa [ByteArray.getElem_eq_getElem_data] using this
  simp [Instr.index, asIntOf, run_underlying ht, h1]
theorem indexByte_neg {l : List UInt8} {c : UInt8} (h : ∀ x ∈ l, x ≠ c) : Lib.indexByte l c < 0 := by
  have h1 := Lib.contains_iff_indexByte l c
  have h2 : l.contains c = false := by
    rw [Bool.eq_false_iff]
    intro h3
    exact h c (List.contains_iff_mem.1 h3) rfl
  rw [h2] at h1
  have := of_decide_eq_false h1.symm
  omega
set_option maxHeartbeats 8000000 in
set_option maxRecDepth 1000000 in
theorem Any.indexRune_high (L : Lays.n152 P ρ) (s : ByteArray) (r : Int) (w : World) (h0 : 128 ≤ r) (h1 : r ≠ 65533) (hv : Lib.validRune r = true) (hs : ∀ (j : Nat) b, s.data.toList[j]? = some b → b.toNat < 128) (hsz : s.size ≤ 100) :
    Calls P (ρ.f 152) #[.string s, .int .i32 r] w fun e w' => e = .returned (.int .i64 (-1)) ∧ ∃ k, w' = w.drewN k := by
  have t3 := L.t3; have a3 := L.a3; have z3 := L.z3; have v3 := L.v3
  have t4 := L.t4; have a4 := L.a4; have z4 := L.z4; have v4 := L.v4
  have t5 := L.t5; have a5 := L.a5; have z5 := L.z5; have v5 := L.v5
  have t9 := L.t9; have a9 := L.a9; have z9 := L.z9; have v9 := L.v9
  have t21 := L.t21; have a21 := L.a21; have z21 := L.z21; have v21 := L.v21
  have e137 : ∀ args w, (callFunc (ρ.f 137) args).run P w = .ok (.enter (ρ.f 137) args) w := enters_of L.f137 (by kernel_rfl) rfl
  have e119 : ∀ args w, (callFunc (ρ.f 119) args).run P w = .ok (.enter (ρ.f 119) args) w := enters_of L.f119 (by kernel_rfl) rfl
  have mixed := L.mixed
  have d1 : decide ((0 : Int) ≤ r) = true := decide_eq_true (by omega)
  have d2 : decide (r < 128) = false := decide_eq_false (by omega)
  have d3 : (r == (65533 : Int)) = false := beq_eq_false_iff_ne.2 h1
  obtain ⟨n, x, hn, hn2, hn4, hx, hx128⟩ := enc_last h0
  have hc := fun (w : World) => run_convert_rune (P := P) (w := w) (r := r) t21 t9
  generalize Utf8.encode r = rs at hn hx hc
  subst hn
  go_enter L.f152, Body.n152_ntmps ρ
  go_wp2_with (go_at_fn (ρ.f 119); refine (Any.utf8_ValidRune { L with } _ _).mono ?_; rintro e w' ⟨rfl, hw⟩; rw [hw, hv])
  subst hw
  refine wp_scope_straight ?_
  go_wp2
  by_cases hl : rs.size - 1 < s.size
  · have hi0 : (0 : Int) ≤ (rs.size : Int) - 1 := by omega
    have hi1 : (rs.size : Int) - 1 < (s.size : Int) := by omega
    obtain ⟨y, hy⟩ : ∃ y : UInt8, s.data.toList[rs.size - 1]? = some y := ⟨_, List.getElem?_eq_getElem (by rw [← Lib.size_eq]; exact hl)⟩
    have hy128 := hs _ _ hy
    refine wp_loop_rounds 1 ?_
    rw [rounds_succ]
    go_wp2
    refine wp_scope_straight ?_
    have kx : ∀ w, (Instr.index (ρ.t 9) (.string rs) (.int .i64 ((rs.size : Int) - 1))).run P w = .ok (.int .u8 (x.toNat : Int)) w := fun w => idx_at t9 (by omega) hx
    have ky : ∀ w, (Instr.index (ρ.t 9) (.string s) (.int .i64 ((rs.size : Int) - 1))).run P w = .ok (.int .u8 (y.toNat : Int)) w := fun w => idx_at t9 (by omega) hy
    have hne : ((y.toNat : Int) == (x.toNat : Int)) = false := beq_eq_false_iff_ne.2 (by omega)
    go_wp2
    go_region_o
    have e137 : ∀ args w, (callFunc (ρ.f 137) args).run P w = .ok (.enter (ρ.f 137) args) w := enters_of L.f137 (by kernel_rfl) rfl
    have hw1 : IntKind.i64.wrap (rs.size : Int) = (rs.size : Int) := by
      simp only [IntKind.wrap, IntKind.bits, IntKind.signed]
      simp
      omega
    have s1 : (0 : Int) ≤ (rs.size : Int) - 1 + 1 := by omega
    have s2 : (rs.size : Int) - 1 + 1 ≤ (s.size : Int) := by omega
    have s3 : (0 : Int) ≤ (rs.size : Int) := by omega
    have s4 : (rs.size : Int) ≤ (s.size : Int) := by omega
    obtain ⟨z, hz⟩ : ∃ z, Lib.indexByte (s.extract rs.size s.size).data.toList ((x.toNat : Int).toNat.toUInt8) = z := ⟨_, rfl⟩
    have hz0 : z < 0 := by
      rw [← hz]
      refine indexByte_neg fun b hb => ?_
      have hb2 : b ∈ s.data.toList := by
        have : (s.extract rs.size s.size).data.toList = (s.data.toList.drop rs.size).take (s.size - rs.size) := by simp
        rw [this] at hb
        exact List.mem_of_mem_drop (List.mem_of_mem_take hb)
      obtain ⟨k, hk⟩ := List.getElem?_of_mem hb2
      have h5 := hs k b hk
      intro e
      have h6 : ((x.toNat : Int)).toNat.toUInt8 = x := by simp
      rw [h6] at e
      rw [e] at h5
      omega
    go_wp2
    go_region_with_o (
      go_at_fn (ρ.f 137)
      refine (Any.strings_IndexByte { L with } _ _ _).mono ?_
      rintro e w' ⟨rfl, hw⟩
      rw [hw, hz])
    go_wp2
    simp only [Exit.noGoto, Exit.inBlock, Exit.then]
    go_ret
    exact ⟨rfl, 2, rfl⟩
  · have hi1 : decide ((rs.size : Int) - 1 < (s.size : Int)) = false := decide_eq_false (by omega)
    refine wp_loop_rounds 1 ?_
    rw [rounds_succ]
    go_wp2
    show Exit.inBlock 0 _ Exit.ret _ _
    go_ret
    exact ⟨rfl, 0, rfl⟩
set_option maxHeartbeats 8000000 in
set_option maxRecDepth 1000000 in
theorem Any.indexRune_bad (L : Lays.n152 P ρ) (s : ByteArray) (r : Int) (w : World) (h0 : 128 ≤ r) (h1 : r ≠ 65533) (hv : Lib.validRune r = false) :
    Calls P (ρ.f 152) #[.string s, .int .i32 r] w fun e w' => e = .returned (.int .i64 (-1)) ∧ ∃ k, w' = w.drewN k := by
  have t3 := L.t3; have a3 := L.a3; have z3 := L.z3; have v3 := L.v3
  have t4 := L.t4; have a4 := L.a4; have z4 := L.z4; have v4 := L.v4
  have t5 := L.t5; have a5 := L.a5; have z5 := L.z5; have v5 := L.v5
  have t9 := L.t9; have a9 := L.a9; have z9 := L.z9; have v9 := L.v9
  have t21 := L.t21; have a21 := L.a21; have z21 := L.z21; have v21 := L.v21
  have e119 : ∀ args w, (callFunc (ρ.f 119) args).run P w = .ok (.enter (ρ.f 119) args) w := enters_of L.f119 (by kernel_rfl) rfl
  have d1 : decide ((0 : Int) ≤ r) = true := decide_eq_true (by omega)
  have d2 : decide (r < 128) = false := decide_eq_false (by omega)
  have d3 : (r == (65533 : Int)) = false := beq_eq_false_iff_ne.2 h1
  go_enter L.f152, Body.n152_ntmps ρ
  go_wp2_with (go_at_fn (ρ.f 119); refine (Any.utf8_ValidRune { L with } _ _).mono ?_; rintro e w' ⟨rfl, hw⟩; rw [hw, hv])
  subst hw
  go_ret
  exact ⟨rfl, 0, rfl⟩
set_option maxHeartbeats 8000000 in
set_option maxRecDepth 1000000 in
theorem Any.indexRune_error (L : Lays.n152 P ρ) (s : ByteArray) (w : World) (hs : ∀ (j : Nat) b, s.data.toList[j]? = some b → b.toNat < 128) :
    Calls P (ρ.f 152) #[.string s, .int .i32 65533] w fun e w' => e = .returned (.int .i64 (-1)) ∧ ∃ pos, w' = w.iter s pos := by
  have HA : Aside (∀ (j : Nat) b, s.data.toList[j]? = some b → b.toNat < 128) := hs
  clear hs
  have t3 := L.t3; have a3 := L.a3; have z3 := L.z3; have v3 := L.v3
  have t4 := L.t4; have a4 := L.a4; have z4 := L.z4; have v4 := L.v4
  have t5 := L.t5; have a5 := L.a5; have z5 := L.z5; have v5 := L.v5
  have t9 := L.t9; have a9 := L.a9; have z9 := L.z9; have v9 := L.v9
  have t21 := L.t21; have a21 := L.a21; have z21 := L.z21; have v21 := L.v21
  go_enter L.f152, Body.n152_ntmps ρ
  go_wp2
  go_loopg [5, 6] s.size (fun g _ _ wx => ∃ i : Nat, i + g = s.size ∧ wx = w.iter s i)
  case atStart => exact ⟨0, by omega, rfl⟩
  case round =>
    obtain ⟨i, hig, rfl⟩ := hrel
    cases gk with
    | zero =>
      obtain rfl : i = s.size := by omega
      have hnx := run_next_end (P := P) w s s.size
      go_wp2
      go_ret
      exact ⟨rfl, _, rfl⟩
    | succ g =>
      have hi : i < s.size := by omega
      obtain ⟨x, hx⟩ : ∃ x : UInt8, s[i]'hi = x := ⟨_, rfl⟩
      have hxl : s.data.toList[i]? = some x := by rw [← hx]; exact Lib.data_getElem? s i hi
      have hx128 : x.toNat < 128 := HA.out i x hxl
      have hnx := fun ty => run_next_ascii (P := P) w s i ty hi (by rw [hx]; exact hx128)
      rw [hx] at hnx
      have hne : ((x.toNat : Int) == (65533 : Int)) = false := beq_eq_false_iff_ne.2 (by omega)
      go_wp2
      go_roundg g
      case measure => omega
      case rel => exact ⟨i + 1, by omega, rfl⟩
/-- at every rune beyond the first 128: it is not there -/
theorem Any.indexRune_beyond (L : Lays.n152 P ρ) (s : ByteArray) (r : Int) (w : World) (h0 : 128 ≤ r) (hs : ∀ (j : Nat) b, s.data.toList[j]? = some b → b.toNat < 128) (hsz : s.size ≤ 100) :
    Calls P (ρ.f 152) #[.string s, .int .i32 r] w fun e w' => e = .returned (.int .i64 (-1)) ∧ Below w.heap.size w w' := by
  by_cases h1 : r = 65533
  · subst h1
    refine (Any.indexRune_error L s w hs).mono ?_
    rintro e w' ⟨rfl, pos, rfl⟩
    exact ⟨rfl, (Below.refl _ w).alloc (Nat.le_refl _) _⟩
  · cases hv : Lib.validRune r with
    | true =>
      refine (Any.indexRune_high L s r w h0 h1 hv hs hsz).mono ?_
      rintro e w' ⟨rfl, k, rfl⟩
      exact ⟨rfl, rfl, rfl, rfl, Nat.le_refl _, fun _ _ => rfl⟩
    | false =>
      refine (Any.indexRune_bad L s r w h0 h1 hv).mono ?_
      rintro e w' ⟨rfl, k, rfl⟩
      exact ⟨rfl, rfl, rfl, rfl, Nat.le_refl _, fun _ _ => rfl⟩
theorem iterAt_self {w : World} {k : Nat} {s : ByteArray} {p : Nat} {o : Obj} (h : w.heap[k]? = some o) : (w.iterAt k s p).heap[k]? = some (.stringIter s p) := by
  have hk := (Array.getElem?_eq_some_iff.1 h).1
  show (w.heap.setIfInBounds k _)[k]? = _
  simp [hk]
theorem iterAt_size {w : World} {k : Nat} {s : ByteArray} {p : Nat} : (w.iterAt k s p).heap.size = w.heap.size := by
  show (w.heap.setIfInBounds k _).size = _
  simp
theorem iterAt_below {w wx : World} {k : Nat} {s : ByteArray} {p : Nat} (h : Below k w wx) : Below k w (wx.iterAt k s p) :=
  ⟨h.os, h.tape, h.output, by rw [iterAt_size]; exact h.size, fun j hj => by
    show (wx.heap.setIfInBounds k _)[j]? = _
    rw [Array.getElem?_setIfInBounds_ne (by omega)]
    exact h.block j hj⟩
theorem noAny_more {s chars : List UInt8} {i n : Nat} (h : NoAny s chars i) (hc : ∀ (j : Nat) b, chars[j]? = some b → b.toNat < 128) (hb : ∀ j, j < n → 128 ≤ J.bt s (i + j)) : NoAny s chars (i + n) := by
  intro j b hj hjb
  by_cases k : j < i
  · exact h j b k hjb
  · have h1 := hb (j - i) (by omega)
    rw [show i + (j - i) = j by omega] at h1
    have h2 : J.bt s j = b.toNat := by unfold J.bt; rw [List.getD_eq_getElem?_getD, hjb]; rfl
    rw [h2] at h1
    rw [Bool.eq_false_iff]
    intro h3
    obtain ⟨q, hq⟩ := List.getElem?_of_mem (List.contains_iff_mem.1 h3)
    have := hc q b hq
    omega
theorem below_on {B : Nat} {w w2 w3 : World} (h : Below B w w2) (hB : B ≤ w2.heap.size) (k : Below w2.heap.size w2 w3) : Below B w w3 :=
  ⟨k.os.trans h.os, k.tape.trans h.tape, k.output.trans h.output, Nat.le_trans h.size k.size, fun j hj => (k.block j (by omega)).trans (h.block j hj)⟩
end Go.Proofs

/-
  (YtgikcbfdonjggaaGreatDoorWordK2)
  The search for any of a text's bytes in a text of at most 8 bytes, whatever they are.
  Conditions: none but those that the theorem names.
-/
namespace Go.Proofs
open Go.Shelf Go.RowKit Go.Lib
variable {P : Program} {ρ : Ren}
set_option maxHeartbeats 16000000 in
set_option maxRecDepth 1000000 in
/-- a text of at most 8 bytes, whatever they are -/
theorem Any.indexAny_short_any (L : Lays.n153 P ρ) (s chars : ByteArray) (w : World) (h2 : 2 ≤ chars.size) (hc100 : chars.size ≤ 100) (h8 : s.size ≤ 8) (hascii : ∀ (j : Nat) b, chars.data.toList[j]? = some b → b.toNat < 128) :
    Calls P (ρ.f 153) #[.string s, .string chars] w fun e w' => e = .returned (.int .i64 (Lib.indexAny s.data.toList chars.data.toList)) ∧ Below w.heap.size w w' := by
  have HA : Aside (∀ (j : Nat) b, chars.data.toList[j]? = some b → b.toNat < 128) := hascii
  clear hascii
  have hemp : chars.toList.isEmpty = false := by
    rw [Lib.toList_data]
    cases h : chars.data.toList with
    | nil => have := Lib.size_eq chars; rw [h, List.length_nil] at this; omega
    | cons _ _ => rfl
  have hn1 : ((chars.size : Int) == 1) = false := beq_eq_false_iff_ne.2 (by omega)
  have h8z : decide ((8 : Int) < (s.size : Int)) = false := decide_eq_false (by omega)
  have t3 := L.t3; have a3 := L.a3; have z3 := L.z3; have v3 := L.v3
  have t4 := L.t4; have a4 := L.a4; have z4 := L.z4; have v4 := L.v4
  have t5 := L.t5; have a5 := L.a5; have z5 := L.z5; have v5 := L.v5
  have t9 := L.t9; have a9 := L.a9; have z9 := L.z9; have v9 := L.v9
  have t21 := L.t21; have a21 := L.a21; have z21 := L.z21; have v21 := L.v21
  have e152 : ∀ args w, (callFunc (ρ.f 152) args).run P w = .ok (.enter (ρ.f 152) args) w := enters_of L.f152 (by kernel_rfl) rfl
  have e226 : ∀ args w, (callFunc (ρ.f 226) args).run P w = .ok (.enter (ρ.f 226) args) w := enters_of L.f226 (by kernel_rfl) rfl
  go_enter L.f153, Body.n153_ntmps ρ
  go_wp2_with (go_at_fn (ρ.f 226); refine (Any.strings_shouldUseASCIISet { L with } _ _).mono ?_; rintro e w' ⟨rfl, hw⟩; rw [hw, h8z])
  go_loopg [9, 10] s.size (fun g _ _ wx => ∃ i : Nat, i + g = s.size ∧ wx.heap[w.heap.size]? = some (.stringIter s i) ∧ Below w.heap.size w wx ∧ Lib.NoAny s.data.toList chars.data.toList i)
  case atStart => exact ⟨0, by omega, World.iter_heap w s 0, (Below.refl _ w).alloc (Nat.le_refl _) _, Lib.NoAny.zero _ _⟩
  case round =>
    obtain ⟨i, hig, hk, hbel, hno⟩ := hrel
    have HN : Aside (Lib.NoAny s.data.toList chars.data.toList i) := hno
    clear hno
    have HB : Aside (Below w.heap.size w wr) := hbel
    clear hbel
    cases gk with
    | zero =>
      obtain rfl : i = s.size := by omega
      have hnx := fun ty => run_next_end_at (P := P) wr w.heap.size s s.size ty hk (by omega)
      go_wp2
      go_ret
      exact ⟨by rw [Lib.indexAny_none (by rw [← Lib.size_eq]; exact HN.out)]; rfl, HB.out⟩
    | succ g =>
      have hi : i < s.size := by omega
      have hil : i < s.data.toList.length := by rw [← Lib.size_eq]; exact hi
      have hnx := fun ty => run_next_any_at (P := P) wr w.heap.size s i ty hk hi
      obtain ⟨b1, b2, b3⟩ := J.dec_bytes hil
      have hdec := decodeL_drop s i
      have hsz := Lib.size_eq s
      rw [hdec] at b1 b2 b3
      obtain ⟨r, wd, hd⟩ : ∃ r wd, Utf8.decode s i = (r, wd) := ⟨_, _, rfl⟩
      rw [hd] at hnx b1 b2 b3
      simp only at hnx b1 b2 b3
      obtain ⟨w2, hw2⟩ : ∃ w2, wr.iterAt w.heap.size s (i + wd) = w2 := ⟨_, rfl⟩
      have hk2 : w2.heap[w.heap.size]? = some (.stringIter s (i + wd)) := hw2 ▸ iterAt_self hk
      have hb2 : Below w.heap.size w w2 := hw2 ▸ iterAt_below HB.out
      rw [hw2] at hnx
      clear hw2 hdec hd
      have HK2 : Aside (w2.heap[w.heap.size]? = some (.stringIter s (i + wd))) := hk2
      have HB2 : Aside (Below w.heap.size w w2) := hb2
      clear hk2 hb2
      rcases b3 with ⟨c1, c2⟩ | ⟨c1, c2⟩
      · obtain ⟨x, hxl⟩ : ∃ x, s.data.toList[i]? = some x := ⟨_, List.getElem?_eq_getElem hil⟩
        have hbx : J.bt s.data.toList i = x.toNat := by unfold J.bt; rw [List.getD_eq_getElem?_getD, hxl]; rfl
        rw [hbx] at c1 c2
        obtain ⟨rfl, rfl⟩ := Prod.mk.inj c2
        have Hx : Aside (s.data.toList[i]? = some x) := hxl
        clear hxl hbx c2
        have hcon := Lib.contains_iff_indexByte chars.data.toList x
        have hback : ((x.toNat : Int)).toNat.toUInt8 = x := by simp
        cases hin : chars.data.toList.contains x
        · rw [hin] at hcon
          have hlt : ¬ ((0 : Int) ≤ Lib.indexByte chars.data.toList x) := of_decide_eq_false hcon.symm
          clear hcon
          go_wp2_with (go_at_fn (ρ.f 152); refine (Any.strings_IndexRune_ascii { L with } _ _ _ (by omega) (by omega)).mono ?_; rintro e w' ⟨rfl, rfl⟩; rw [hback]; dsimp only)
          go_wp2
          go_roundg g
          case measure => omega
          case rel => exact ⟨i + 1, by omega, HK2.out, HB2.out, HN.out.succ Hx.out hin⟩
        · rw [hin] at hcon
          have hge : (0 : Int) ≤ Lib.indexByte chars.data.toList x := of_decide_eq_true hcon.symm
          clear hcon
          go_wp2_with (go_at_fn (ρ.f 152); refine (Any.strings_IndexRune_ascii { L with } _ _ _ (by omega) (by omega)).mono ?_; rintro e w' ⟨rfl, rfl⟩; rw [hback]; dsimp only)
          go_wp2
          go_ret
          exact ⟨by rw [Lib.indexAny_hit HN.out Hx.out hin]; rfl, HB2.out⟩
      · have HC : Aside (∀ j, j < wd → 128 ≤ J.bt s.data.toList (i + j)) := c2
        clear c2
        go_wp2_with (go_at_fn (ρ.f 152); refine (Any.indexRune_beyond { L with } _ _ _ (by omega) HA.out hc100).mono ?_; rintro e w3 ⟨rfl, hb3⟩; dsimp only)
        go_wp2
        go_roundg (s.size - (i + wd))
        case measure => omega
        case rel => exact ⟨i + wd, by omega, by rw [hb3.block _ (Array.getElem?_eq_some_iff.1 HK2.out).1]; exact HK2.out, below_on HB2.out HB2.out.size hb3, noAny_more HN.out HA.out HC.out⟩
/-- any of the bytes of chars (2 to 100 of the first 128) in a text, whatever its bytes are -/
theorem Any.indexAny_any (L : Lays.n153 P ρ) (h116 : (P.info? (ρ.t 116)).map (fun i => (i.zero, i.size)) = some (some (.agg (Array.replicate 256 (.bool false))), 256)) (s chars : ByteArray) (w : World) (h2 : 2 ≤ chars.size) (hc100 : chars.size ≤ 100) (hs : s.size < 4294967281)
    (hac : ∀ (j : Nat) b, chars.data.toList[j]? = some b → b.toNat < 128) :
    Calls P (ρ.f 153) #[.string s, .string chars] w fun e w' => e = .returned (.int .i64 (Lib.indexAny s.data.toList chars.data.toList)) ∧ Below w.heap.size w w' := by
  by_cases h8 : s.size ≤ 8
  · exact Any.indexAny_short_any L s chars w h2 hc100 h8 hac
  · refine (Any.strings_IndexAny_long L (zero_of_info h116).1 (zero_of_info h116).2 s chars w (by omega) (by omega) hs (by omega) hac).mono ?_
    rintro e w' ⟨h3, h4⟩
    refine ⟨h3, ?_⟩
    rw [h4]
    exact ((Below.refl _ _).alloc (Nat.le_refl _) _).alloc (by simp) _
set_option maxHeartbeats 4000000 in
theorem Any.containsAny_any (L : Lays.n150 P ρ) (h116 : (P.info? (ρ.t 116)).map (fun i => (i.zero, i.size)) = some (some (.agg (Array.replicate 256 (.bool false))), 256)) (s chars : ByteArray) (w : World) (h2 : 2 ≤ chars.size) (hc100 : chars.size ≤ 100) (hs : s.size < 4294967281)
    (hac : ∀ (j : Nat) b, chars.data.toList[j]? = some b → b.toNat < 128) :
    Calls P (ρ.f 150) #[.string s, .string chars] w fun e w' => e = .returned (.bool (Lib.containsAny s.data.toList chars.data.toList)) ∧ Below w.heap.size w w' := by
  have c := Any.indexAny_any { L with } h116 s chars w h2 hc100 hs hac
  have t3 := L.t3; have a3 := L.a3; have z3 := L.z3; have v3 := L.v3
  have t4 := L.t4; have a4 := L.a4; have z4 := L.z4; have v4 := L.v4
  have t9 := L.t9; have a9 := L.a9; have z9 := L.z9; have v9 := L.v9
  have e153 : ∀ args w, (callFunc (ρ.f 153) args).run P w = .ok (.enter (ρ.f 153) args) w := enters_of L.f153 (by kernel_rfl) rfl
  go_enter L.f150, Body.n150_ntmps ρ
  go_wp2_with (go_at_fn (ρ.f 153); refine c.mono ?_; rintro e w' ⟨rfl, hw⟩)
  go_ret
  exact ⟨rfl, hw⟩
theorem containsAny_seps (s : List UInt8) : Lib.containsAny s J.seps = s.any J.isSep := by
  rw [Bool.eq_iff_iff]
  unfold Lib.containsAny
  rw [decide_eq_true_iff, List.any_eq_true]
  constructor
  · have key2 : ∀ l : List UInt8, 0 ≤ Lib.indexAny l J.seps → ∃ b, b ∈ l ∧ J.isSep b = true := by
      intro l
      induction l with
      | nil => intro h; exact absurd h (by decide)
      | cons c l ih =>
        intro h
        unfold Lib.indexAny at h
        have hge := Lib.indexAny_ge J.seps l
        split at h
        · rename_i hcc
          exact ⟨c, List.mem_cons_self .., by unfold J.isSep; exact hcc⟩
        · split at h
          · omega
          · rename_i he
            have hne : Lib.indexAny l J.seps ≠ -1 := fun e => he (by rw [e]; rfl)
            obtain ⟨b, hb, hc⟩ := ih (by omega)
            exact ⟨b, List.mem_cons_of_mem _ hb, hc⟩
    exact key2 s
  · rintro ⟨b, hb, hc⟩
    rcases Int.lt_or_le (Lib.indexAny s J.seps) 0 with h | h
    · exfalso
      have key : ∀ l : List UInt8, Lib.indexAny l J.seps < 0 → ∀ b ∈ l, J.isSep b = false := by
        intro l
        induction l with
        | nil => intro _ b hb; cases hb
        | cons c l ih =>
          intro h b hb
          unfold Lib.indexAny at h
          have hge := Lib.indexAny_ge J.seps l
          split at h
          · omega
          · rename_i hcc
            rcases List.mem_cons.1 hb with rfl | hb
            · unfold J.isSep; simpa using hcc
            · refine ih ?_ b hb
              split at h
              · rename_i he; rw [beq_iff_eq] at he; omega
              · rename_i he; omega
      rw [key s h b hb] at hc; cases hc
    · exact h
end Go.Proofs

/-
  (YtgikcbfdonjggaaGreatDoorLay3)
  The count of runes, the check of a text, the search for any of some bytes, laid at this program: its functions are those that the contracts were proved of.
  Conditions: none.
-/
namespace Go.Proofs
open Go.Shelf
def Tryz.lays195_ren : Go.Shelf.Ren := ⟨fun | 195 => 50 | n => n, fun | 9 => 9 | 3 => 3 | 0 => 0 | 4 => 4 | n => n, fun | n => n⟩
theorem Tryz.lays195 : Go.Proofs.Lays.n195 Tryz.prog Tryz.lays195_ren := {
  mixed := by kernel_rfl
  f195 := Tryz.func50.trans (congrArg some (by kernel_rfl))
  t0 := Tryz.underlying0
  a0 := Tryz.isAgg0
  z0 := Tryz.sizeOf0
  v0 := Tryz.zeroValue0
  t3 := Tryz.underlying3
  a3 := Tryz.isAgg3
  z3 := Tryz.sizeOf3
  v3 := Tryz.zeroValue3
  t4 := Tryz.underlying4
  a4 := Tryz.isAgg4
  z4 := Tryz.sizeOf4
  v4 := Tryz.zeroValue4
  t9 := Tryz.underlying9
  a9 := Tryz.isAgg9
  z9 := Tryz.sizeOf9
  v9 := Tryz.zeroValue9 }
def Tryz.lays196_ren : Go.Shelf.Ren := ⟨fun | 196 => 51 | 259 => 84 | n => n, fun | 9 => 9 | 4 => 4 | 3 => 3 | 5 => 5 | 12 => 12 | 119 => 112 | 0 => 0 | 46 => 80 | 139 => 115 | 138 => 114 | 53 => 101 | n => n, fun | 3 => 0 | 4 => 1 | n => n⟩
theorem Tryz.lays196 : Go.Proofs.Lays.n196 Tryz.prog Tryz.lays196_ren := {
  mixed := by kernel_rfl
  f196 := Tryz.func51.trans (congrArg some (by kernel_rfl))
  f259 := Tryz.func84.trans (congrArg some (by kernel_rfl))
  t0 := Tryz.underlying0
  a0 := Tryz.isAgg0
  z0 := Tryz.sizeOf0
  v0 := Tryz.zeroValue0
  t3 := Tryz.underlying3
  a3 := Tryz.isAgg3
  z3 := Tryz.sizeOf3
  v3 := Tryz.zeroValue3
  t4 := Tryz.underlying4
  a4 := Tryz.isAgg4
  z4 := Tryz.sizeOf4
  v4 := Tryz.zeroValue4
  t5 := Tryz.underlying5
  a5 := Tryz.isAgg5
  z5 := Tryz.sizeOf5
  v5 := Tryz.zeroValue5
  t9 := Tryz.underlying9
  a9 := Tryz.isAgg9
  z9 := Tryz.sizeOf9
  v9 := Tryz.zeroValue9
  t12 := Tryz.underlying12
  a12 := Tryz.isAgg12
  z12 := Tryz.sizeOf12
  v12 := Tryz.zeroValue12
  t46 := Tryz.underlying80
  a46 := Tryz.isAgg80
  z46 := Tryz.sizeOf80
  v46 := Tryz.zeroValue80
  t53 := Tryz.underlying101
  a53 := Tryz.isAgg101
  z53 := Tryz.sizeOf101
  v53 := Tryz.zeroValue101
  t119 := Tryz.underlying112
  a119 := Tryz.isAgg112
  z119 := Tryz.sizeOf112
  t138 := Tryz.underlying114
  a138 := Tryz.isAgg114
  z138 := Tryz.sizeOf114
  v138 := Tryz.zeroValue114
  t139 := Tryz.underlying115
  a139 := Tryz.isAgg115
  z139 := Tryz.sizeOf115
  v139 := Tryz.zeroValue115
  g3 := by kernel_rfl
  g4 := by kernel_rfl }
def Tryz.lays150_ren : Go.Shelf.Ren := ⟨fun | 150 => 52 | 153 => 85 | 152 => 97 | 226 => 98 | 227 => 99 | 228 => 100 | 137 => 113 | 119 => 114 | 224 => 115 | 225 => 116 | 217 => 129 | 266 => 134 | n => n, fun | 9 => 9 | 4 => 4 | 3 => 3 | 5 => 5 | 21 => 21 | 117 => 129 | 116 => 128 | 0 => 0 | 46 => 80 | 124 => 144 | n => n, fun | n => n⟩
theorem Tryz.lays150 : Go.Proofs.Lays.n150 Tryz.prog Tryz.lays150_ren := {
  mixed := by kernel_rfl
  f119 := Tryz.func114.trans (congrArg some (by kernel_rfl))
  f137 := Tryz.func113.trans (congrArg some (by kernel_rfl))
  f150 := Tryz.func52.trans (congrArg some (by kernel_rfl))
  f152 := Tryz.func97.trans (congrArg some (by kernel_rfl))
  f153 := Tryz.func85.trans (congrArg some (by kernel_rfl))
  f217 := Tryz.func129.trans (congrArg some (by kernel_rfl))
  f224 := Tryz.func115.trans (congrArg some (by kernel_rfl))
  f225 := Tryz.func116.trans (congrArg some (by kernel_rfl))
  f226 := Tryz.func98.trans (congrArg some (by kernel_rfl))
  f227 := Tryz.func99.trans (congrArg some (by kernel_rfl))
  f228 := Tryz.func100.trans (congrArg some (by kernel_rfl))
  f266 := Tryz.func134.trans (congrArg some (by kernel_rfl))
  t0 := Tryz.underlying0
  a0 := Tryz.isAgg0
  z0 := Tryz.sizeOf0
  v0 := Tryz.zeroValue0
  t3 := Tryz.underlying3
  a3 := Tryz.isAgg3
  z3 := Tryz.sizeOf3
  v3 := Tryz.zeroValue3
  t4 := Tryz.underlying4
  a4 := Tryz.isAgg4
  z4 := Tryz.sizeOf4
  v4 := Tryz.zeroValue4
  t5 := Tryz.underlying5
  a5 := Tryz.isAgg5
  z5 := Tryz.sizeOf5
  v5 := Tryz.zeroValue5
  t9 := Tryz.underlying9
  a9 := Tryz.isAgg9
  z9 := Tryz.sizeOf9
  v9 := Tryz.zeroValue9
  t21 := Tryz.underlying21
  a21 := Tryz.isAgg21
  z21 := Tryz.sizeOf21
  v21 := Tryz.zeroValue21
  t46 := Tryz.underlying80
  a46 := Tryz.isAgg80
  z46 := Tryz.sizeOf80
  v46 := Tryz.zeroValue80
  t116 := Tryz.underlying128
  a116 := Tryz.isAgg128
  z116 := Tryz.sizeOf128
  t117 := Tryz.underlying129
  a117 := Tryz.isAgg129
  z117 := Tryz.sizeOf129
  v117 := Tryz.zeroValue129
  t124 := Tryz.underlying144
  a124 := Tryz.isAgg144
  z124 := Tryz.sizeOf144
  v124 := Tryz.zeroValue144 }
end Go.Proofs

/-
  (YtgikcbfdonjggaaGreatDoorFactsW)
  Closed facts on the tables of the program: sizes, zero values, where fields lie, which functions have bodies.
  Conditions: none.
-/
set_option maxRecDepth 20000
set_option linter.unusedSimpArgs false
set_option linter.unusedVariables false
namespace Go.Proofs.YtgikcbfdonjggaaGreatDoor
open Go Go.J
theorem cb50 : Callable Tryz.prog 50 := ⟨_, Tryz.func50, rfl, by kernel_rfl⟩
theorem cb51 : Callable Tryz.prog 51 := ⟨_, Tryz.func51, rfl, by kernel_rfl⟩
theorem cb52 : Callable Tryz.prog 52 := ⟨_, Tryz.func52, rfl, by kernel_rfl⟩
end Go.Proofs.YtgikcbfdonjggaaGreatDoor

/-
  (YtgikcbfdonjggaaGreatDoorWordW)
  The walk of lexrule.Word: a word is what the bytes say.
  Conditions: the library's tables hold what the program lays.
-/
set_option maxRecDepth 20000
set_option linter.unusedSimpArgs false
set_option linter.unusedVariables false
namespace Go.Proofs.YtgikcbfdonjggaaGreatDoor
open Go Go.J

def U8Ok (w : World) : Prop := Lib.Utf8Tabs (Tryz.lays196_ren.g 3) (Tryz.lays196_ren.g 4) w
abbrev u8 : Dat := Dat.of U8Ok
theorem tab256 : (Tryz.prog.info? (Tryz.lays150_ren.t 116)).map (fun i => (i.zero, i.size)) = some (some (.agg (Array.replicate 256 (.bool false))), 256) := by kernel_rfl
theorem sizeS (s : Str) : (⟨s.toArray⟩ : ByteArray).size = s.length := by simp [ByteArray.size]
theorem rc_spec (s : Str) (hs : s.length < 9223372036854775807) : FnVw Tryz.prog 50 #[sv s] [u8] (iv (Lib.runeCountL s)) :=
  FnVw.of_calls fun w _ => by
    refine (Any.utf8_RuneCountInString Tryz.lays195 ⟨s.toArray⟩ w (by rw [sizeS]; exact hs)).mono ?_
    rintro e w' ⟨rfl, pos, rfl⟩
    exact ⟨rfl, (RowKit.Below.refl _ w).alloc (Nat.le_refl _) _⟩
theorem valid_spec (s : Str) (hs : s.length < 9223372036854775807) : FnVw Tryz.prog 51 #[sv s] [u8] (.bool (Lib.validD s)) :=
  FnVw.of_calls fun w hw => Any.utf8_ValidString Tryz.lays196 ⟨s.toArray⟩ w (by rw [sizeS]; omega) hw
theorem any_spec (s : Str) (hs : s.length < 4294967281) : FnVw Tryz.prog 52 #[sv s, sv seps] [u8] (.bool (s.any isSep)) :=
  FnVw.of_calls fun w _ => by
    have := Any.containsAny_any Tryz.lays150 tab256 ⟨s.toArray⟩ ⟨seps.toArray⟩ w (by decide) (by decide) (by rw [sizeS]; exact hs) (fun j b h => by
      have : ∀ b ∈ seps, b.toNat < 128 := by decide
      exact this b (List.mem_of_getElem? h))
    rw [← containsAny_seps]
    exact this
theorem rc_len (s : Str) : s.length ≤ 4 * Lib.runeCountL s := by
  have key : ∀ (f p : Nat), s.length - p ≤ f → s.length - p ≤ 4 * Lib.runeCountFrom ⟨s.toArray⟩ f p := by
    intro f
    induction f with
    | zero => intro p h; omega
    | succ f ih =>
      intro p h
      by_cases hp : p < s.length
      · have hsz : p < (⟨s.toArray⟩ : ByteArray).size := by rw [sizeS]; exact hp
        obtain ⟨d1, d2, _⟩ := dec_bytes hp
        have hdec := Lib.decodeL_drop ⟨s.toArray⟩ p
        simp only at hdec
        have hw : (Lib.decodeL (s.drop p)).2 ≤ 4 := by
          rw [decode_bt]
          rcases decN_spec (n := s.length - p) (bt_lt s p) (bt_lt s (p + 1)) (bt_lt s (p + 2)) (bt_lt s (p + 3)) with ⟨_, e⟩ | ⟨_, _, _, _, e⟩ | ⟨_, r, _, e⟩ | ⟨_, r, _, e⟩ | ⟨_, r, _, e⟩ <;> rw [e] <;> simp
        have := ih (p + (Lib.decodeL (s.drop p)).2) (by omega)
        rw [Lib.runeCountFrom, if_pos hsz, ← hdec]
        omega
      · omega
  have := key s.length 0 (by omega)
  have e : Lib.runeCountFrom ⟨s.toArray⟩ s.length 0 = Lib.runeCountL s := by unfold Lib.runeCountL Lib.runeCount; congr 1
  rw [e] at this
  omega
theorem word_end (s : Str) : (((decide ((1 : Int) ≤ (Lib.runeCountL s : Int)) && decide ((Lib.runeCountL s : Int) ≤ 30)) && Lib.validD s) && !(s.any isSep)) = isWord s := by
  rw [isWord_eq]
  have h1 : decide ((1 : Int) ≤ (Lib.runeCountL s : Int)) = decide (1 ≤ Lib.runeCountL s) := decide_eq_decide.2 (by omega)
  have h2 : decide ((Lib.runeCountL s : Int) ≤ 30) = decide (Lib.runeCountL s ≤ 30) := decide_eq_decide.2 (by omega)
  rw [h1, h2]

theorem Word_spec (s : Str) (hs : s.length < 9223372036854775807) : FnVw Tryz.prog 34 #[sv s] [u8] (.bool (isWord s)) := by
  refine FnVw.body (args := [sv s]) (ds := [u8]) 21 Tryz.func34 rfl Tryz.ntmps34 rfl (fun c hdr => ?_)
  change St _ _ (Mm c [dat u8]) _
  refine St.seq ?_
  refine St.rg ?_
  refine St.ev _ (Ev.assign (Opd.mk rfl)) rfl ?_
  refine St.nil ?_
  refine St.then_normal ?_
  refine St.seq ?_
  refine St.rg ?_
  refine St.ev _ (Ev.move (Opd.mk rfl)) rfl ?_
  refine St.ev _ (Ev.callW hdr (rc_spec s hs) cb50 (Opds.cons (Opd.mk rfl) Opds.nil)) rfl ?_
  refine St.ev _ (Ev.assign (Opd.mk rfl)) rfl ?_
  refine St.nil ?_
  refine St.then_normal ?_
  refine St.seq ?_
  refine St.rg ?_
  refine St.ev _ (Ev.move (Opd.mk rfl)) rfl ?_
  refine St.ev _ (Ev.geq (Opd.mk rfl) (Opd.mk rfl)) rfl ?_
  refine St.ev _ (Ev.move (Opd.mk rfl)) rfl ?_
  refine St.gt _ rfl rfl (fun hg => Ev.move (Opd.mk rfl)) rfl ?_
  refine St.gt _ rfl rfl (fun hg => Ev.leq (Opd.gv rfl hg) (Opd.mk rfl)) rfl ?_
  refine St.ev _ (Ev.and (Opd.mk rfl) (fun hp => Opd.gv rfl hp)) rfl ?_
  refine St.ev _ (Ev.move (Opd.mk rfl)) rfl ?_
  refine St.gt _ rfl rfl (fun hg => Ev.move (Opd.mk rfl)) rfl ?_
  refine St.gt _ rfl rfl (fun hg => Ev.callW hdr (valid_spec s hs) cb51 (Opds.cons (Opd.gv rfl hg) Opds.nil)) rfl ?_
  refine St.ev _ (Ev.and (Opd.mk rfl) (fun hp => Opd.gv rfl hp)) rfl ?_
  refine St.ev _ (Ev.move (Opd.mk rfl)) rfl ?_
  refine St.gt _ rfl rfl (fun hg => Ev.move (Opd.mk rfl)) rfl ?_
  refine St.gt _ rfl rfl (fun hg => Ev.callW hdr (any_spec s (by have hq := rc_len s; first | omega | (simp only [Bool.and_eq_true, decide_eq_true_eq] at hg; omega) | (simp at hg; omega) | (trace_state; omega))) cb52 (Opds.cons (Opd.gv rfl hg) (Opds.cons (Opd.mk rfl) Opds.nil))) rfl ?_
  refine St.gt _ rfl rfl (fun hg => Ev.not (Opd.gv rfl hg)) rfl ?_
  refine St.ev _ (Ev.and (Opd.mk rfl) (fun hp => Opd.gv rfl hp)) rfl ?_
  refine St.ev _ (Ev.assign (Opd.mk rfl)) rfl ?_
  refine St.nil ?_
  refine St.then_normal ?_
  refine St.rett ?_
  refine St.rets [_] [] Tryz.results34 ⟨rfl, trivial⟩ ?_ (fun _ hw => hw.sub)
  exact be (by first | exact word_end s | (simp [word_end]))

end Go.Proofs.YtgikcbfdonjggaaGreatDoor

/-
  (YtgikcbfdonjggaaGreatDoorStrO)
  Strings in their order, and lists of strings in theirs: plain facts, no program stands here.
  Conditions: none.
-/
namespace Go.J
open Go
theorem slt_irrefl : ∀ a : Str, Op.bytesLess a a = false
  | [] => rfl
  | x :: a => by simp [Op.bytesLess, slt_irrefl a]
theorem slt_trans : ∀ {a b c : Str}, Op.bytesLess a b = true → Op.bytesLess b c = true → Op.bytesLess a c = true
  | _, _, [], _, h => by cases ‹Str› <;> simp [Op.bytesLess] at h
  | [], _, _ :: _, _, _ => rfl
  | _ :: _, [], _ :: _, h, _ => by simp [Op.bytesLess] at h
  | x :: a, y :: b, z :: c, h, k => by
    simp only [Op.bytesLess, Bool.or_eq_true, decide_eq_true_eq, Bool.and_eq_true, beq_iff_eq] at h k ⊢
    rcases h with h | ⟨rfl, h⟩ <;> rcases k with k | ⟨rfl, k⟩
    · exact .inl (UInt8.lt_trans h k)
    · exact .inl h
    · exact .inl k
    · exact .inr ⟨rfl, slt_trans h k⟩
theorem slt_tri : ∀ a b : Str, Op.bytesLess a b = true ∨ a = b ∨ Op.bytesLess b a = true
  | [], [] => .inr (.inl rfl)
  | [], _ :: _ => .inl rfl
  | _ :: _, [] => .inr (.inr rfl)
  | x :: a, y :: b => by
    simp only [Op.bytesLess, Bool.or_eq_true, decide_eq_true_eq, Bool.and_eq_true, beq_iff_eq, List.cons.injEq]
    rcases Nat.lt_trichotomy x.toNat y.toNat with h | h | h
    · exact .inl (.inl h)
    · obtain rfl : x = y := UInt8.toNat_inj.1 h
      rcases slt_tri a b with q | q | q
      · exact .inl (.inr ⟨rfl, q⟩)
      · exact .inr (.inl ⟨rfl, q⟩)
      · exact .inr (.inr (.inr ⟨rfl, q⟩))
    · exact .inr (.inr (.inl h))
theorem slt_asymm {a b : Str} (h : Op.bytesLess a b = true) : Op.bytesLess b a = false := by
  cases k : Op.bytesLess b a with
  | false => rfl
  | true => have := slt_trans h k; rw [slt_irrefl] at this; cases this
theorem slt_ne {a b : Str} (h : Op.bytesLess a b = true) : a ≠ b := by rintro rfl; rw [slt_irrefl] at h; cases h
theorem sgt_iff {a b : Str} : (!(Op.bytesLess a b || a == b)) = Op.bytesLess b a := by
  rcases slt_tri a b with h | h | h
  · rw [h, slt_asymm h]; rfl
  · subst h; rw [slt_irrefl]; simp
  · rw [h, slt_asymm h, beq_false_of_ne (fun e => slt_ne h e.symm)]; rfl
def scmp (a b : Str) : Int := if Op.bytesLess a b then -1 else if Op.bytesLess b a then 1 else 0
theorem scmp_cases (a b : Str) : (Op.bytesLess a b = true ∧ scmp a b = -1) ∨ (a = b ∧ scmp a b = 0) ∨ (Op.bytesLess b a = true ∧ scmp a b = 1) := by
  unfold scmp
  rcases slt_tri a b with h | h | h
  · exact .inl ⟨h, if_pos h⟩
  · subst h; exact .inr (.inl ⟨rfl, by rw [slt_irrefl]; rfl⟩)
  · exact .inr (.inr ⟨h, by rw [slt_asymm h, h]; rfl⟩)
theorem scmp_zero {a b : Str} : scmp a b = 0 ↔ a = b := by
  rcases scmp_cases a b with ⟨h, e⟩ | ⟨h, e⟩ | ⟨h, e⟩ <;> rw [e]
  · exact ⟨fun q => absurd q (by decide), fun q => absurd q (slt_ne h)⟩
  · exact ⟨fun _ => h, fun _ => rfl⟩
  · exact ⟨fun q => absurd q (by decide), fun q => absurd q.symm (slt_ne h)⟩
theorem scmp_range (a b : Str) : -1 ≤ scmp a b ∧ scmp a b ≤ 1 := by
  rcases scmp_cases a b with ⟨_, e⟩ | ⟨_, e⟩ | ⟨_, e⟩ <;> rw [e] <;> decide
/-- lists of strings, one by one; the shorter one first -/
def wlt : List Str → List Str → Bool
  | _, [] => false
  | [], _ :: _ => true
  | x :: a, y :: b => Op.bytesLess x y || (x == y && wlt a b)
theorem wlt_irrefl : ∀ a : List Str, wlt a a = false
  | [] => rfl
  | x :: a => by simp [wlt, wlt_irrefl a, slt_irrefl]
theorem wlt_trans : ∀ {a b c : List Str}, wlt a b = true → wlt b c = true → wlt a c = true
  | _, _, [], _, h => by cases ‹List Str› <;> simp [wlt] at h
  | [], _, _ :: _, _, _ => rfl
  | _ :: _, [], _ :: _, h, _ => by simp [wlt] at h
  | x :: a, y :: b, z :: c, h, k => by
    simp only [wlt, Bool.or_eq_true, Bool.and_eq_true, beq_iff_eq] at h k ⊢
    rcases h with h | ⟨rfl, h⟩ <;> rcases k with k | ⟨rfl, k⟩
    · exact .inl (slt_trans h k)
    · exact .inl h
    · exact .inl k
    · exact .inr ⟨rfl, wlt_trans h k⟩
theorem wlt_tri : ∀ a b : List Str, wlt a b = true ∨ a = b ∨ wlt b a = true
  | [], [] => .inr (.inl rfl)
  | [], _ :: _ => .inl rfl
  | _ :: _, [] => .inr (.inr rfl)
  | x :: a, y :: b => by
    simp only [wlt, Bool.or_eq_true, Bool.and_eq_true, beq_iff_eq, List.cons.injEq]
    rcases slt_tri x y with h | rfl | h
    · exact .inl (.inl h)
    · rcases wlt_tri a b with q | q | q
      · exact .inl (.inr ⟨rfl, q⟩)
      · exact .inr (.inl ⟨rfl, q⟩)
      · exact .inr (.inr (.inr ⟨rfl, q⟩))
    · exact .inr (.inr (.inl h))
theorem wlt_asymm {a b : List Str} (h : wlt a b = true) : wlt b a = false := by
  cases k : wlt b a with
  | false => rfl
  | true => have := wlt_trans h k; rw [wlt_irrefl] at this; cases this
theorem wlt_ne {a b : List Str} (h : wlt a b = true) : a ≠ b := by rintro rfl; rw [wlt_irrefl] at h; cases h
/-- what slices.Compare computes -/
def wcmp : List Str → List Str → Int
  | [], [] => 0
  | [], _ :: _ => -1
  | _ :: _, [] => 1
  | x :: a, y :: b => if scmp x y ≠ 0 then scmp x y else wcmp a b
theorem wcmp_cases : ∀ a b : List Str, (wlt a b = true ∧ wcmp a b = -1) ∨ (a = b ∧ wcmp a b = 0) ∨ (wlt b a = true ∧ wcmp a b = 1)
  | [], [] => .inr (.inl ⟨rfl, rfl⟩)
  | [], _ :: _ => .inl ⟨rfl, rfl⟩
  | _ :: _, [] => .inr (.inr ⟨rfl, rfl⟩)
  | x :: a, y :: b => by
    simp only [wlt, wcmp, Bool.or_eq_true, Bool.and_eq_true, beq_iff_eq, List.cons.injEq]
    rcases scmp_cases x y with ⟨h, e⟩ | ⟨rfl, e⟩ | ⟨h, e⟩
    · exact .inl ⟨.inl h, by rw [if_pos (by omega), e]⟩
    · rw [if_neg (by omega)]
      rcases wcmp_cases a b with ⟨q, k⟩ | ⟨q, k⟩ | ⟨q, k⟩
      · exact .inl ⟨.inr ⟨rfl, q⟩, k⟩
      · exact .inr (.inl ⟨⟨rfl, q⟩, k⟩)
      · exact .inr (.inr ⟨.inr ⟨rfl, q⟩, k⟩)
    · exact .inr (.inr ⟨.inl h, by rw [if_pos (by omega), e]⟩)
theorem wcmp_lt {a b : List Str} : wcmp a b < 0 ↔ wlt a b = true := by
  rcases wcmp_cases a b with ⟨h, e⟩ | ⟨h, e⟩ | ⟨h, e⟩ <;> rw [e]
  · exact ⟨fun _ => h, fun _ => by decide⟩
  · subst h; rw [wlt_irrefl]; exact ⟨fun q => absurd q (by decide), fun q => by cases q⟩
  · rw [wlt_asymm h]; exact ⟨fun q => absurd q (by decide), fun q => by cases q⟩
theorem wcmp_drop {a b : List Str} {k : Nat} {x y : Str} (hx : a[k]? = some x) (hy : b[k]? = some y) : wcmp (a.drop k) (b.drop k) = if scmp x y ≠ 0 then scmp x y else wcmp (a.drop (k + 1)) (b.drop (k + 1)) := by
  rw [drop_of_some hx, drop_of_some hy]; rfl
theorem wcmp_end1 {a b : List Str} {k : Nat} {x : Str} (hx : a[k]? = some x) (hb : b.length ≤ k) : wcmp (a.drop k) (b.drop k) = 1 := by
  rw [drop_of_some hx, List.drop_of_length_le hb]; rfl
theorem wcmp_end2 {a b : List Str} {k : Nat} (ha : a.length ≤ k) (hb : k < b.length) : wcmp (a.drop k) (b.drop k) = -1 := by
  obtain ⟨y, hy⟩ := some_of_lt hb
  rw [drop_of_some hy, List.drop_of_length_le ha]; rfl
theorem wcmp_end0 {a b : List Str} {k : Nat} (ha : a.length ≤ k) (hb : b.length ≤ k) : wcmp (a.drop k) (b.drop k) = 0 := by
  rw [List.drop_of_length_le ha, List.drop_of_length_le hb]; rfl
/-- the sign of the difference of the lengths, where all before is alike -/
theorem wlt_len {a b : List Str} {k : Nat} (ha : a.length ≤ k ∨ b.length ≤ k) (hk : a.take k = b.take k) : wlt a b = decide (a.length < b.length) ∧ (a = b ↔ a.length = b.length) := by
  induction k generalizing a b with
  | zero =>
    cases a with
    | nil => cases b <;> simp [wlt]
    | cons x a => cases b with
      | nil => simp [wlt]
      | cons y b => simp at ha
  | succ k ih =>
    cases a with
    | nil => cases b <;> simp [wlt]
    | cons x a => cases b with
      | nil => simp [wlt]
      | cons y b =>
        simp only [List.take_succ_cons, List.cons.injEq] at hk
        obtain ⟨rfl, hk⟩ := hk
        simp only [List.length_cons] at ha
        have := ih (by omega) hk
        simp only [wlt, slt_irrefl, Bool.false_or, beq_self_eq_true, Bool.true_and, List.length_cons, List.cons.injEq, true_and, this.1]
        exact ⟨by simp, by rw [this.2]; omega⟩
theorem wlt_at {a b : List Str} {k : Nat} {x y : Str} (hx : a[k]? = some x) (hy : b[k]? = some y) (hk : a.take k = b.take k) (h : Op.bytesLess x y = true) : wlt a b = true := by
  induction k generalizing a b with
  | zero =>
    cases a with
    | nil => simp at hx
    | cons x' a => cases b with
      | nil => simp at hy
      | cons y' b => simp at hx hy; subst hx; subst hy; simp [wlt, h]
  | succ k ih =>
    cases a with
    | nil => simp at hx
    | cons x' a => cases b with
      | nil => simp at hy
      | cons y' b =>
        simp only [List.take_succ_cons, List.cons.injEq] at hk
        obtain ⟨rfl, hk⟩ := hk
        simp only [List.getElem?_cons_succ] at hx hy
        simp [wlt, slt_irrefl, ih hx hy hk]
end Go.J
