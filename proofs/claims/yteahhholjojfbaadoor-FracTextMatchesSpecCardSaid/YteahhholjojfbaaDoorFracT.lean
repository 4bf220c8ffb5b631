/-
  Fractions as texts: written in decimal digits, read digit by digit, and read by the library's own way: plain facts, no program stands here.
  Conditions: none.
-/
import Derived.Test.YteahhholjojfbaaDoorFracP
import Derived.Lib.AtoiAll
import Derived.Lib.ItoaNum
import Derived.Lib.IndexMore
namespace Go.J
open Go Go.Lib
theorem toNat_ofNat' {k : Nat} (h : k < 256) : (UInt8.ofNat k).toNat = k := by simp [UInt8.toNat_ofNat', Nat.mod_eq_of_lt h]
theorem dec_big {u : Nat} (h : ¬ u < 10) : decDigits u = decDigits (u / 10) ++ [UInt8.ofNat (48 + u % 10)] := by
  conv => lhs; rw [decDigits, dif_neg h]
theorem dec_digit : ∀ (u : Nat), ∀ c ∈ decDigits u, 48 ≤ c.toNat ∧ c.toNat ≤ 57 := by
  intro u
  induction u using Nat.strongRecOn with
  | _ u ih =>
    intro c hc
    by_cases h : u < 10
    · rw [decDigits_one h] at hc
      obtain rfl := List.mem_singleton.1 hc
      rw [toNat_ofNat' (by omega)]; omega
    · rw [dec_big h] at hc
      rcases List.mem_append.1 hc with hc | hc
      · exact ih (u / 10) (by omega) c hc
      · obtain rfl := List.mem_singleton.1 hc
        rw [toNat_ofNat' (by omega)]; omega
theorem dec_pos (u : Nat) : 0 < (decDigits u).length := by rw [decDigits_length]; exact nDigits_pos u
theorem dec_cons (u : Nat) : ∃ c r, decDigits u = c :: r ∧ 48 ≤ c.toNat ∧ c.toNat ≤ 57 := by
  have h := dec_pos u
  cases hd : decDigits u with
  | nil => rw [hd] at h; exact absurd h (by decide)
  | cons c r => exact ⟨c, r, rfl, dec_digit u c (by rw [hd]; exact List.mem_cons_self ..)⟩
theorem parse_snoc : ∀ (l : Str) (acc : Nat) (c : UInt8) (v : Nat), parseUint10 acc l = .ok v → parseUint10 acc (l ++ [c]) = parseUint10 v [c]
  | [], acc, c, v, h => by
    rw [parseUint10] at h
    cases h
    rfl
  | x :: l, acc, c, v, h => by
    rw [List.cons_append]
    rw [parseUint10] at h ⊢
    split at h
    · rename_i h1
      rw [if_pos h1]
      split at h
      · cases h
      · rename_i h2
        rw [if_neg h2]
        split at h
        · cases h
        · rename_i h3
          rw [if_neg h3]
          exact parse_snoc l _ c v h
    · cases h
theorem parse_dec : ∀ (u : Nat), u < 18446744073709551616 → parseUint10 0 (decDigits u) = .ok u := by
  intro u
  induction u using Nat.strongRecOn with
  | _ u ih =>
    intro hu
    by_cases h : u < 10
    · rw [decDigits_one h, parseUint10, toNat_ofNat' (by omega), if_pos (by omega), if_neg (by omega), if_neg (by omega), parseUint10]
      congr 1; omega
    · rw [dec_big h, parse_snoc _ 0 _ _ (ih (u / 10) (by omega) (by omega))]
      rw [parseUint10, toNat_ofNat' (by omega), if_pos (by omega), if_neg (by omega), if_neg (by omega), parseUint10]
      congr 1; omega
theorem mag_dec {u : Nat} (h : u < 18446744073709551616) : parseMag (decDigits u) = .ok u := by
  unfold parseMag
  rw [if_neg (fun e => by have := dec_pos u; rw [e] at this; exact absurd this (by decide)), parse_dec u h]
theorem atoi_itoa {n : Int} (h : -1152921504606846976 ≤ n ∧ n ≤ 1152921504606846976) : atoiAll (itoa n) = .ok n := by
  unfold itoa
  by_cases hn : n < 0
  · rw [if_pos hn]
    unfold atoiAll
    simp only [show (45 : UInt8).toNat = 45 from rfl, or_true, if_true]
    rw [mag_dec (by omega)]
    simp only [not_true_eq_false, false_and, if_false, true_and]
    rw [if_neg (by omega)]
    try simp only [if_true]
    congr 1; omega
  · rw [if_neg hn]
    obtain ⟨c, r, hd, h1, h2⟩ := dec_cons n.toNat
    have hm := mag_dec (u := n.toNat) (by omega)
    rw [hd] at hm ⊢
    unfold atoiAll
    simp only
    rw [if_neg (by omega), hm]
    simp only
    rw [if_neg (by omega), if_neg (by omega), if_neg (by omega)]
    congr 1; omega
/-- a fraction's text -/
def frText (x : Pr) : Str := if 1 < x.2 then itoa x.1 ++ 47 :: itoa x.2 else itoa x.1
theorem itoa_len {n : Int} (h : -1152921504606846976 ≤ n ∧ n ≤ 1152921504606846976) : (itoa n).length ≤ 20 := by
  have key : ∀ u : Nat, u ≤ 1152921504606846976 → (decDigits u).length ≤ 19 := by
    intro u hu
    rw [decDigits_length]
    rcases Nat.lt_or_ge (nDigits u) 20 with q | q
    · omega
    · exfalso
      have : ∀ k v : Nat, k + 1 ≤ nDigits v → 10 ^ k ≤ v ∨ k = 0 := by
        intro k
        induction k with
        | zero => intro v _; exact .inr rfl
        | succ k ih =>
          intro v hv
          left
          by_cases hv10 : v < 10
          · rw [nDigits_small hv10] at hv; omega
          · rw [nDigits_big hv10] at hv
            rcases ih (v / 10) (by omega) with t | t
            · rw [Nat.pow_succ]; omega
            · subst t; simp; omega
      rcases this 19 u q with t | t
      · have : (10 : Nat) ^ 19 = 10000000000000000000 := by decide
        omega
      · cases t
  unfold itoa
  split
  · rw [List.length_cons]; have := key n.natAbs (by omega); omega
  · have := key n.toNat (by omega); omega
theorem frText_len {x : Pr} (h : Fr1 x) : (frText x).length ≤ 41 := by
  have h1 := itoa_len (n := x.1) ⟨h.lo, h.hi⟩
  have h2 := itoa_len (n := x.2) ⟨by have := h.pos; omega, h.big⟩
  unfold frText
  split
  · rw [List.length_append, List.length_cons]; omega
  · omega
theorem itoa_slash (n : Int) : (47 : UInt8) ∉ itoa n := by
  unfold itoa
  split
  · intro h
    rcases List.mem_cons.1 h with q | q
    · cases q
    · have := dec_digit _ _ q; simp at this
  · intro h
    have := dec_digit _ _ h; simp at this
theorem index_none : ∀ {a : Str}, (47 : UInt8) ∉ a → index a [47] = -1
  | [], _ => rfl
  | c :: a, h => by
    have h1 : (47 : UInt8) ≠ c := fun e => h (by rw [e]; exact List.mem_cons_self ..)
    have ih := index_none (a := a) (fun e => h (List.mem_cons_of_mem _ e))
    unfold index
    rw [if_neg (by simp [List.isPrefixOf, h1]), ih]; rfl
theorem index_at : ∀ {a b : Str}, (47 : UInt8) ∉ a → index (a ++ 47 :: b) [47] = a.length
  | [], b, _ => by simp [index, List.isPrefixOf]
  | c :: a, b, h => by
    have h1 : (47 : UInt8) ≠ c := fun e => h (by rw [e]; exact List.mem_cons_self ..)
    have ih := index_at (a := a) (b := b) (fun e => h (List.mem_cons_of_mem _ e))
    rw [List.cons_append]
    unfold index
    rw [if_neg (by simp [List.isPrefixOf, h1]), ih, if_neg (by simp), List.length_cons]; omega
theorem cut_none {a : Str} (h : (47 : UInt8) ∉ a) : cut a [47] = (a, [], false) := by unfold cut; rw [index_none h, if_neg (by decide)]
theorem cut_at {a b : Str} (h : (47 : UInt8) ∉ a) : cut (a ++ 47 :: b) [47] = (a, b, true) := by
  unfold cut
  rw [index_at h, if_pos (by omega)]
  simp
/-- what the code's Parse makes of a text, behind the cut -/
def frChk (s : Str) (x : Pr) : Option Pr := if (frBad x.1 x.2 (-1)).1 = 0 ∧ frText x = s then some x else none
def progRead (s : Str) : Option Pr :=
  if 50 < s.length then none else match atoiAll (cut s [47]).1 with
  | .ok n => if (cut s [47]).2.2 = true then match atoiAll (cut s [47]).2.1 with
    | .ok d => frChk s (n, d)
    | _ => none
    else frChk s (n, 1)
  | _ => none
theorem frChk_some {s : Str} {x y : Pr} (h : frChk s x = some y) : Fr1 y ∧ frText y = s := by
  unfold frChk at h
  split at h
  · rename_i h1
    simp only [Option.some.injEq] at h
    subst h
    exact ⟨frBad_iff.1 h1.1, h1.2⟩
  · cases h
theorem progRead_some {s : Str} {x : Pr} (h : progRead s = some x) : Fr1 x ∧ frText x = s := by
  unfold progRead at h
  split at h
  · cases h
  · split at h
    · split at h
      · split at h
        · exact frChk_some h
        · cases h
      · exact frChk_some h
    · cases h
theorem progRead_text {x : Pr} (h : Fr1 x) : progRead (frText x) = some x := by
  have hl := frText_len h
  have hc : frChk (frText x) x = some x := by unfold frChk; rw [if_pos ⟨frBad_iff.2 h, rfl⟩]
  unfold progRead
  rw [if_neg (by omega)]
  by_cases hx : 1 < x.2
  · have ht : frText x = itoa x.1 ++ 47 :: itoa x.2 := by unfold frText; rw [if_pos hx]
    have hcut : cut (frText x) [47] = (itoa x.1, itoa x.2, true) := by rw [ht]; exact cut_at (itoa_slash _)
    rw [hcut]
    simp only [atoi_itoa ⟨h.lo, h.hi⟩, atoi_itoa (n := x.2) ⟨by omega, h.big⟩, if_true]
    exact hc
  · have ht : frText x = itoa x.1 := by unfold frText; rw [if_neg hx]
    have hcut : cut (frText x) [47] = (itoa x.1, [], false) := by rw [ht]; exact cut_none (itoa_slash _)
    rw [hcut]
    simp only [atoi_itoa ⟨h.lo, h.hi⟩, Bool.false_eq_true, if_false]
    have hx1 : x.2 = 1 := by have := h.pos; omega
    rw [← hx1]; exact hc
/-- where the reference stands in a text: the part, the numbers so far, how many digits, a sign -/
structure RS where
  part : Bool
  l0 : Nat
  l1 : Nat
  m0 : Nat
  m1 : Nat
  neg : Bool
def rs0 : RS := ⟨false, 0, 0, 0, 0, false⟩
def curL (st : RS) : Nat := if st.part then st.l1 else st.l0
def curM (st : RS) : Nat := if st.part then st.m1 else st.m0
def addD (st : RS) (d : Nat) : RS := if st.part then { st with l1 := st.l1 * 10 + d, m1 := st.m1 + 1 } else { st with l0 := st.l0 * 10 + d, m0 := st.m0 + 1 }
theorem curL_t {st : RS} (h : st.part = true) : curL st = st.l1 ∧ curM st = st.m1 ∧ ∀ d, addD st d = { st with l1 := st.l1 * 10 + d, m1 := st.m1 + 1 } := by
  unfold curL curM addD; rw [h]; exact ⟨rfl, rfl, fun _ => rfl⟩
theorem curL_f {st : RS} (h : st.part = false) : curL st = st.l0 ∧ curM st = st.m0 ∧ ∀ d, addD st d = { st with l0 := st.l0 * 10 + d, m0 := st.m0 + 1 } := by
  unfold curL curM addD; rw [h]; exact ⟨rfl, rfl, fun _ => rfl⟩
def stepR (first : Bool) (st : RS) (c : UInt8) : Option RS :=
  if c.toNat = 45 ∧ first = true then some { st with neg := true }
  else if c.toNat = 47 ∧ st.part = false ∧ 0 < st.m0 then some { st with part := true }
  else if 48 ≤ c.toNat ∧ c.toNat ≤ 57 then
    if (0 < curM st ∧ curL st = 0) ∨ 115292150460684697 < curL st then none
    else if 1152921504606846976 < curL st * 10 + (c.toNat - 48) then none
    else some (addD st (c.toNat - 48))
  else none
def runR : Nat → RS → Str → Option RS
  | _, st, [] => some st
  | i, st, c :: r => match stepR (decide (i = 0)) st c with
    | some st' => runR (i + 1) st' r
    | none => none
theorem runR_append : ∀ (a b : Str) (i : Nat) (st : RS), runR i st (a ++ b) = match runR i st a with | some st' => runR (i + a.length) st' b | none => none
  | [], b, i, st => rfl
  | c :: a, b, i, st => by
    rw [List.cons_append, runR, runR]
    cases stepR (decide (i = 0)) st c with
    | none => rfl
    | some st' =>
      simp only
      rw [runR_append a b (i + 1) st', List.length_cons, show i + 1 + a.length = i + (a.length + 1) by omega]
def finX (st : RS) : Pr := (if st.neg then -(st.l0 : Int) else st.l0, if st.part then (st.l1 : Int) else 1)
def finR (st : RS) : Option Pr :=
  if st.m0 = 0 ∨ (st.part = true ∧ (st.m1 = 0 ∨ st.l1 < 2)) ∨ (st.neg = true ∧ st.l0 = 0) then none
  else if (frBad (finX st).1 (finX st).2 (-1)).1 = 0 then some (finX st) else none
def refRead (s : Str) : Option Pr := match runR 0 rs0 s with
  | some st => finR st
  | none => none
/-- the digits read so far -/
def Dig (D : Str) (l m : Nat) : Prop := (D = [] ∧ l = 0 ∧ m = 0) ∨ (D = decDigits l ∧ 0 < m)
theorem Dig.snoc {D : Str} {l m : Nat} {c : UInt8} (h : Dig D l m) (hc : 48 ≤ c.toNat ∧ c.toNat ≤ 57) (hz : ¬ (0 < m ∧ l = 0)) : Dig (D ++ [c]) (l * 10 + (c.toNat - 48)) (m + 1) := by
  have hcc : c = UInt8.ofNat (48 + (c.toNat - 48)) := by rw [← UInt8.toNat_inj, toNat_ofNat' (by omega)]; omega
  rcases h with ⟨rfl, rfl, rfl⟩ | ⟨rfl, hm⟩
  · right
    refine ⟨?_, by omega⟩
    rw [List.nil_append, Nat.zero_mul, Nat.zero_add, decDigits_one (by omega), ← hcc]
  · right
    refine ⟨?_, by omega⟩
    have hl : 0 < l := by omega
    have e := dec_big (u := l * 10 + (c.toNat - 48)) (by omega)
    rw [e, show (l * 10 + (c.toNat - 48)) / 10 = l by omega, show (l * 10 + (c.toNat - 48)) % 10 = c.toNat - 48 by omega, ← hcc]
structure InvR (st : RS) (pre : Str) : Prop where
  ex : ∃ D0 D1, pre = (if st.neg then [45] else []) ++ D0 ++ (if st.part then 47 :: D1 else []) ∧ Dig D0 st.l0 st.m0 ∧ Dig D1 st.l1 st.m1
  low : st.part = false → st.m1 = 0
  first : st.m0 = 0 → st.part = false
theorem InvR.zero : InvR rs0 [] := ⟨⟨[], [], rfl, .inl ⟨rfl, rfl, rfl⟩, .inl ⟨rfl, rfl, rfl⟩⟩, fun _ => rfl, fun _ => rfl⟩
theorem InvR.step {st st' : RS} {pre : Str} {c : UInt8} (h : InvR st pre) (hs : stepR (decide (pre.length = 0)) st c = some st') : InvR st' (pre ++ [c]) := by
  obtain ⟨⟨D0, D1, hp, h0, h1⟩, hlow, hfirst⟩ := h
  unfold stepR at hs
  split at hs
  · rename_i q
    simp only [Option.some.injEq] at hs
    subst hs
    have hl : pre = [] := List.eq_nil_of_length_eq_zero (of_decide_eq_true q.2)
    rw [hl] at hp
    have hc : c = 45 := by rw [← UInt8.toNat_inj]; exact q.1
    have hpart : st.part = false := by
      cases hq : st.part with
      | false => rfl
      | true => rw [hq] at hp; have := congrArg List.length hp; simp at this
    have hD0 : D0 = [] := by
      have := congrArg List.length hp; simp at this; exact List.eq_nil_of_length_eq_zero (by omega)
    refine ⟨⟨[], D1, ?_, ?_, h1⟩, hlow, hfirst⟩
    · rw [hl, hc, hpart]; rfl
    · rw [hD0] at h0; exact h0
  · split at hs
    · rename_i q1 q
      simp only [Option.some.injEq] at hs
      subst hs
      have hc : c = 47 := by rw [← UInt8.toNat_inj]; exact q.1
      have hm1 := hlow q.2.1
      have hD1 : Dig [] st.l1 st.m1 := by
        rcases h1 with ⟨_, t1, t2⟩ | ⟨_, t⟩
        · exact .inl ⟨rfl, t1, t2⟩
        · omega
      refine ⟨⟨D0, [], ?_, h0, hD1⟩, (fun t => by cases t), (fun t => by have h9 := q.2.2; have h8 : st.m0 = 0 := t; omega)⟩
      rw [hp, hc, q.2.1]; simp
    · split at hs
      · rename_i q1 q2 q
        split at hs
        · cases hs
        · rename_i q3
          split at hs
          · cases hs
          · rename_i q4
            simp only [Option.some.injEq] at hs
            cases hpt : st.part with
            | true =>
              obtain ⟨k1, k2, k3⟩ := curL_t hpt
              rw [k3] at hs
              rw [k1, k2] at q3
              subst hs
              refine ⟨⟨D0, D1 ++ [c], ?_, h0, h1.snoc q (fun t => q3 (.inl t))⟩, (fun t => by rw [show st.part = false from t] at hpt; cases hpt), hfirst⟩
              rw [hp]; simp [hpt]
            | false =>
              obtain ⟨k1, k2, k3⟩ := curL_f hpt
              rw [k3] at hs
              rw [k1, k2] at q3
              subst hs
              refine ⟨⟨D0 ++ [c], D1, ?_, h0.snoc q (fun t => q3 (.inl t)), h1⟩, (fun _ => hlow hpt), (fun t => absurd t (Nat.succ_ne_zero _))⟩
              rw [hp]; simp [hpt]
      · cases hs
theorem InvR.run : ∀ (rest : Str) {st st' : RS} {pre : Str}, InvR st pre → runR pre.length st rest = some st' → InvR st' (pre ++ rest)
  | [], st, st', pre, h, hr => by simp only [runR, Option.some.injEq] at hr; subst hr; rw [List.append_nil]; exact h
  | c :: r, st, st', pre, h, hr => by
    rw [runR] at hr
    split at hr
    · rename_i st1 hs
      have h1 := h.step hs
      have := InvR.run r (pre := pre ++ [c]) h1 (by rw [List.length_append]; exact hr)
      rw [List.append_assoc] at this
      exact this
    · cases hr
theorem refRead_some {s : Str} {x : Pr} (h : refRead s = some x) : Fr1 x ∧ frText x = s := by
  unfold refRead at h
  split at h
  · rename_i st hr
    have hi := InvR.run s (pre := []) InvR.zero hr
    rw [List.nil_append] at hi
    obtain ⟨⟨D0, D1, hp, h0, h1⟩, hlow, hfirst⟩ := hi
    unfold finR at h
    split at h
    · cases h
    · rename_i q
      split at h
      · rename_i qf
        simp only [Option.some.injEq] at h
        subst h
        refine ⟨frBad_iff.1 qf, ?_⟩
        have hD0 : D0 = decDigits st.l0 := by rcases h0 with ⟨_, _, t⟩ | ⟨t, _⟩; exact absurd (.inl t) q; exact t
        have hnum : itoa (if st.neg then -(st.l0 : Int) else st.l0) = (if st.neg then [45] else []) ++ decDigits st.l0 := by
          cases hn : st.neg with
          | true =>
            have : st.l0 ≠ 0 := fun t => q (.inr (.inr ⟨hn, t⟩))
            unfold itoa
            simp only [if_true]
            rw [if_pos (by omega)]
            simp
          | false =>
            unfold itoa
            simp only [Bool.false_eq_true, if_false]
            rw [if_neg (by omega)]
            simp
        unfold frText finX
        cases hpt : st.part with
        | true =>
          have hD1 : D1 = decDigits st.l1 := by rcases h1 with ⟨_, _, t⟩ | ⟨t, _⟩; exact absurd (.inr (.inl ⟨hpt, .inl t⟩)) q; exact t
          have h2 : ¬ st.l1 < 2 := fun t => q (.inr (.inl ⟨hpt, .inr t⟩))
          simp only [if_true]
          rw [if_pos (by omega), hnum, hp, hpt, hD0, hD1]
          have hden : itoa (st.l1 : Int) = decDigits st.l1 := by unfold itoa; rw [if_neg (by omega)]; rfl
          rw [hden]; simp
        | false =>
          simp only [Bool.false_eq_true, if_false]
          rw [if_neg (by omega), hnum, hp, hpt, hD0]; simp
      · cases h
  · cases h
theorem run_dec0 : ∀ (u : Nat), u ≤ 1152921504606846976 → ∀ (i : Nat) (st : RS), st.part = false → st.l0 = 0 → st.m0 = 0 → runR i st (decDigits u) = some { st with l0 := u, m0 := (decDigits u).length } := by
  intro u
  induction u using Nat.strongRecOn with
  | _ u ih =>
    intro hu i st hp hl hm
    have one : ∀ (v : Nat) (j : Nat) (st1 : RS), st1.part = false → ¬ (0 < st1.m0 ∧ st1.l0 = 0) → st1.l0 ≤ 115292150460684697 → st1.l0 * 10 + v % 10 ≤ 1152921504606846976 → runR j st1 [UInt8.ofNat (48 + v % 10)] = some { st1 with l0 := st1.l0 * 10 + v % 10, m0 := st1.m0 + 1 } := by
      intro v j st1 h1 h2 h3 h4
      rw [runR]
      have hs : stepR (decide (j = 0)) st1 (UInt8.ofNat (48 + v % 10)) = some { st1 with l0 := st1.l0 * 10 + v % 10, m0 := st1.m0 + 1 } := by
        unfold stepR
        obtain ⟨k1, k2, k3⟩ := curL_f h1
        rw [toNat_ofNat' (by omega), if_neg (by omega), if_neg (by omega), if_pos (by omega), k1, k2, k3, if_neg (by omega), if_neg (by omega), show 48 + v % 10 - 48 = v % 10 by omega]
      rw [hs]; rfl
    by_cases h : u < 10
    · have := one u i st hp (by omega) (by omega) (by omega)
      rw [decDigits_one h, show 48 + u = 48 + u % 10 by omega, this, hl, hm]
      simp; omega
    · rw [dec_big h, runR_append, ih (u / 10) (by omega) (by omega) i st hp hl hm]
      show runR (i + (decDigits (u / 10)).length) { st with l0 := u / 10, m0 := (decDigits (u / 10)).length } [UInt8.ofNat (48 + u % 10)] = _
      rw [one u _ { st with l0 := u / 10, m0 := (decDigits (u / 10)).length } hp (show ¬ (0 < (decDigits (u / 10)).length ∧ u / 10 = 0) by omega) (show u / 10 ≤ 115292150460684697 by omega) (show u / 10 * 10 + u % 10 ≤ 1152921504606846976 by omega)]
      simp only [List.length_append, List.length_singleton]
      rw [show u / 10 * 10 + u % 10 = u by omega]
theorem run_dec1 : ∀ (u : Nat), u ≤ 1152921504606846976 → ∀ (i : Nat) (st : RS), st.part = true → st.l1 = 0 → st.m1 = 0 → runR i st (decDigits u) = some { st with l1 := u, m1 := (decDigits u).length } := by
  intro u
  induction u using Nat.strongRecOn with
  | _ u ih =>
    intro hu i st hp hl hm
    have one : ∀ (v : Nat) (j : Nat) (st1 : RS), st1.part = true → ¬ (0 < st1.m1 ∧ st1.l1 = 0) → st1.l1 ≤ 115292150460684697 → st1.l1 * 10 + v % 10 ≤ 1152921504606846976 → runR j st1 [UInt8.ofNat (48 + v % 10)] = some { st1 with l1 := st1.l1 * 10 + v % 10, m1 := st1.m1 + 1 } := by
      intro v j st1 h1 h2 h3 h4
      rw [runR]
      have hs : stepR (decide (j = 0)) st1 (UInt8.ofNat (48 + v % 10)) = some { st1 with l1 := st1.l1 * 10 + v % 10, m1 := st1.m1 + 1 } := by
        unfold stepR
        obtain ⟨k1, k2, k3⟩ := curL_t h1
        rw [toNat_ofNat' (by omega), if_neg (by omega), if_neg (by omega), if_pos (by omega), k1, k2, k3, if_neg (by omega), if_neg (by omega), show 48 + v % 10 - 48 = v % 10 by omega]
      rw [hs]; rfl
    by_cases h : u < 10
    · have := one u i st hp (by omega) (by omega) (by omega)
      rw [decDigits_one h, show 48 + u = 48 + u % 10 by omega, this, hl, hm]
      simp; omega
    · rw [dec_big h, runR_append, ih (u / 10) (by omega) (by omega) i st hp hl hm]
      show runR (i + (decDigits (u / 10)).length) { st with l1 := u / 10, m1 := (decDigits (u / 10)).length } [UInt8.ofNat (48 + u % 10)] = _
      rw [one u _ { st with l1 := u / 10, m1 := (decDigits (u / 10)).length } hp (show ¬ (0 < (decDigits (u / 10)).length ∧ u / 10 = 0) by omega) (show u / 10 ≤ 115292150460684697 by omega) (show u / 10 * 10 + u % 10 ≤ 1152921504606846976 by omega)]
      simp only [List.length_append, List.length_singleton]
      rw [show u / 10 * 10 + u % 10 = u by omega]
theorem run_itoa {n : Int} (h : -1152921504606846976 ≤ n ∧ n ≤ 1152921504606846976) : ∃ st, runR 0 rs0 (itoa n) = some st ∧ st.part = false ∧ st.l0 = n.natAbs ∧ 0 < st.m0 ∧ st.l1 = 0 ∧ st.m1 = 0 ∧ st.neg = decide (n < 0) := by
  unfold itoa
  by_cases hn : n < 0
  · rw [if_pos hn, runR]
    have hs : stepR (decide ((0 : Nat) = 0)) rs0 45 = some { rs0 with neg := true } := by unfold stepR; rw [if_pos ⟨rfl, rfl⟩]
    rw [hs]
    simp only
    rw [run_dec0 n.natAbs (by omega) _ _ rfl rfl rfl]
    exact ⟨_, rfl, rfl, rfl, dec_pos _, rfl, rfl, (decide_eq_true hn).symm⟩
  · rw [if_neg hn, run_dec0 n.toNat (by omega) _ _ rfl rfl rfl]
    exact ⟨_, rfl, rfl, (show n.toNat = n.natAbs by omega), dec_pos _, rfl, rfl, (decide_eq_false hn).symm⟩
theorem refRead_text {x : Pr} (h : Fr1 x) : refRead (frText x) = some x := by
  obtain ⟨st, hr, hp, hl0, hm0, hl1, hm1, hn⟩ := run_itoa (n := x.1) ⟨h.lo, h.hi⟩
  have hnum : (if st.neg then -(st.l0 : Int) else st.l0) = x.1 := by
    rw [hn, hl0]
    by_cases q : x.1 < 0
    · rw [decide_eq_true q]; simp only [if_true]; omega
    · rw [decide_eq_false q]; simp only [Bool.false_eq_true, if_false]; omega
  have hneg : ¬ (st.neg = true ∧ st.l0 = 0) := by
    rintro ⟨t1, t2⟩
    rw [hn, decide_eq_true_eq] at t1
    omega
  unfold refRead
  by_cases hx : 1 < x.2
  · have ht : frText x = itoa x.1 ++ 47 :: itoa x.2 := by unfold frText; rw [if_pos hx]
    rw [ht, runR_append, hr]
    simp only
    rw [runR]
    have hs : stepR (decide (0 + (itoa x.1).length = 0)) st 47 = some { st with part := true } := by
      unfold stepR
      rw [if_neg (by rintro ⟨t, _⟩; cases t), if_pos ⟨rfl, hp, hm0⟩]
    rw [hs]
    simp only
    have hden : itoa x.2 = decDigits x.2.toNat := by unfold itoa; rw [if_neg (by omega)]
    rw [hden, run_dec1 x.2.toNat (by have := h.big; omega) _ { st with part := true } rfl hl1 hm1]
    have hd2 := dec_pos x.2.toNat
    have hX : finX { st with part := true, l1 := x.2.toNat, m1 := (decDigits x.2.toNat).length } = x := by
      unfold finX
      show ((if st.neg then -(st.l0 : Int) else st.l0), ((x.2.toNat : Nat) : Int)) = x
      rw [hnum, show ((x.2.toNat : Nat) : Int) = x.2 by omega]
    show finR { st with part := true, l1 := x.2.toNat, m1 := (decDigits x.2.toNat).length } = some x
    unfold finR
    rw [hX, if_neg (by
      rintro (t | ⟨_, t | t⟩ | t)
      · have t2 : st.m0 = 0 := t
        omega
      · have t2 : (decDigits x.2.toNat).length = 0 := t
        omega
      · have t2 : x.2.toNat < 2 := t
        omega
      · exact hneg t), if_pos (frBad_iff.2 h)]
  · have ht : frText x = itoa x.1 := by unfold frText; rw [if_neg hx]
    rw [ht, hr]
    simp only
    have hx1 : x.2 = 1 := by have := h.pos; omega
    have hX : finX st = x := by
      unfold finX
      rw [hnum, hp]
      show (x.1, (1 : Int)) = x
      rw [← hx1]
    unfold finR
    rw [hX, if_neg (by
      rintro (t | ⟨t, _⟩ | t)
      · omega
      · rw [hp] at t; cases t
      · exact hneg t), if_pos (frBad_iff.2 h)]
/-- both read alike -/
theorem read_same (s : Str) : progRead s = refRead s := by
  cases h : refRead s with
  | some x =>
    obtain ⟨h1, rfl⟩ := refRead_some h
    exact progRead_text h1
  | none =>
    cases k : progRead s with
    | none => rfl
    | some x =>
      obtain ⟨h1, rfl⟩ := progRead_some k
      rw [refRead_text h1] at h; cases h
end Go.J
