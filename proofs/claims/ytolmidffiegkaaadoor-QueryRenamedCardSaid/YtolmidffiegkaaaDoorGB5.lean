/-
  Several texts in one: YtolmidffiegkaaaDoorWordK, YtolmidffiegkaaaDoorWordK2, YtolmidffiegkaaaDoorLay3, YtolmidffiegkaaaDoorFactsW, YtolmidffiegkaaaDoorWordW, YtolmidffiegkaaaDoorQ23, YtolmidffiegkaaaDoorQ24, YtolmidffiegkaaaDoorQ25, YtolmidffiegkaaaDoorQ30, YtolmidffiegkaaaDoorQ31, YtolmidffiegkaaaDoorJ34, YtolmidffiegkaaaDoorLay4, YtolmidffiegkaaaDoorFactsS, YtolmidffiegkaaaDoorQ32, YtolmidffiegkaaaDoorQ2.
  Conditions: none.
-/
import Derived.Test.YtolmidffiegkaaaDoorGB1
import Derived.Shelf.Strings.IndexAnyAll
import Derived.Lib.OthersKept
import Derived.Shelf.Small.Utf8
import Derived.Laws.RangeAny
import Derived.Laws.Cover4
import Derived.Scope
import Derived.Handy
import Derived.Shelf.RegionOpen
import Derived.Shelf.RegionOpenPlain
import Derived.Shelf.Utf8.RuneCount
import Derived.Shelf.Unicode.ValidAny
import Derived.Test.YtolmidffiegkaaaDoorChecked
import Derived.Test.YtolmidffiegkaaaDoorGB4
import Derived.Test.YtolmidffiegkaaaDoorGB2
import Derived.Lib.Join
import Derived.Shelf.Strings.OnBuilder
/-
  (YtolmidffiegkaaaDoorWordK)
  The library's search for a rune beyond the first 128 in a text of the first 128 alone: it is not there. The search for any of such texts' bytes in a valid text.
  Conditions: none but those that each theorem names.
-/
namespace Go.Proofs
open Go.Shelf Go.RowKit Go.Lib
variable {P : Program} {ρ : Ren}
theorem enc_last {r : Int} (h : 128 ≤ r) : ∃ (n : Nat) (x : UInt8), (Utf8.encode r).size = n ∧ 2 ≤ n ∧ n ≤ 4 ∧ (Utf8.encode r).data.toList[n - 1]? = some x ∧ 128 ≤ x.toNat := by
 have key : ∀ c : Nat, 128 ≤ c → c < 1114112 → ∃ (n : Nat) (x : UInt8), (if c < 0x80 then (⟨#[UInt8.ofNat c]⟩ : ByteArray) else if c < 0x800 then ⟨#[UInt8.ofNat (0xC0 + c / 64), UInt8.ofNat (0x80 + c % 64)]⟩
   else if c < 0x10000 then ⟨#[UInt8.ofNat (0xE0 + c / 4096), UInt8.ofNat (0x80 + c / 64 % 64), UInt8.ofNat (0x80 + c % 64)]⟩
   else ⟨#[UInt8.ofNat (0xF0 + c / 262144), UInt8.ofNat (0x80 + c / 4096 % 64), UInt8.ofNat (0x80 + c / 64 % 64), UInt8.ofNat (0x80 + c % 64)]⟩).size = n ∧ 2 ≤ n ∧ n ≤ 4 ∧
   (if c < 0x80 then (⟨#[UInt8.ofNat c]⟩ : ByteArray) else if c < 0x800 then ⟨#[UInt8.ofNat (0xC0 + c / 64), UInt8.ofNat (0x80 + c % 64)]⟩
   else if c < 0x10000 then ⟨#[UInt8.ofNat (0xE0 + c / 4096), UInt8.ofNat (0x80 + c / 64 % 64), UInt8.ofNat (0x80 + c % 64)]⟩
   else ⟨#[UInt8.ofNat (0xF0 + c / 262144), UInt8.ofNat (0x80 + c / 4096 % 64), UInt8.ofNat (0x80 + c / 64 % 64), UInt8.ofNat (0x80 + c % 64)]⟩).data.toList[n - 1]? = some x ∧ 128 ≤ x.toNat := by
  intro c h1 h2
  have hx : 128 ≤ (UInt8.ofNat (0x80 + c % 64)).toNat := by simp [UInt8.toNat_ofNat']; omega
  rw [if_neg (by omega)]
  by_cases k : c < 0x800
  ·rw [if_pos k]; exact ⟨2, _, rfl, by omega, by omega, rfl, hx⟩
  ·rw [if_neg k]
   by_cases k2 : c < 0x10000
   ·rw [if_pos k2]; exact ⟨3, _, rfl, by omega, by omega, rfl, hx⟩
   ·rw [if_neg k2]; exact ⟨4, _, rfl, by omega, by omega, rfl, hx⟩
 unfold Utf8.encode
 by_cases hv : Utf8.valid r = true
 ·simp only [hv, if_true]
  refine key r.toNat (by omega) ?_
  simp [Utf8.valid] at hv
  omega
 ·simp only [hv]
  exact key Utf8.runeError (by decide) (by decide)
theorem run_convert_rune {w : World} {s d : TypeId} {k : IntKind} {r : Int} (hs : P.underlying s = some (.int k)) (hd : P.underlying d = some .string) : (convert s d (.int k r)).run P w = .ok (.string (Utf8.encode r)) w := by
 simp [convert, run_underlying hs, run_underlying hd, Conv.intToString]
theorem idx_at {w : World} {t : TypeId} {s : ByteArray} {i : Int} {k : Nat} {b : UInt8} (ht : P.underlying t = some .string) (hi : i = k) (hb : s.data.toList[k]? = some b) : (Instr.index t (.string s) (.int .i64 i)).run P w = .ok (.int .u8 (b.toNat : Int)) w := by
 subst hi
 have hlt : k < s.size := by have := (List.getElem?_eq_some_iff.1 hb).1; rwa [← Lib.size_eq] at this
 have h1 : s[k]? = some b := by
  rw [ByteArray.getElem?_lt' _ _ hlt]
  have := (List.getElem?_eq_some_iff.1 hb).2
  simpa [ByteArray.getElem_eq_getElem_data] using this
 simp [Instr.index, asIntOf, run_underlying ht, h1]
theorem indexByte_neg {l : List UInt8} {c : UInt8} (h : ∀ x ∈ l, x ≠ c) : Lib.indexByte l c < 0 := by
 have h1 := Lib.contains_iff_indexByte l c
 have h2 : l.contains c = false := by
  rw [Bool.eq_false_iff]
  intro h3
  exact h c (List.contains_iff_mem.1 h3) rfl
 rw [h2] at h1
 have := of_decide_eq_false h1.symm
 omega
set_option maxHeartbeats 8000000 in
set_option maxRecDepth 1000000 in
theorem Any.indexRune_high (L : Lays.n152 P ρ) (s : ByteArray) (r : Int) (w : World) (h0 : 128 ≤ r) (h1 : r ≠ 65533) (hv : Lib.validRune r = true) (hs : ∀ (j : Nat) b, s.data.toList[j]? = some b → b.toNat < 128) (hsz : s.size ≤ 100) :
  Calls P (ρ.f 152) #[.string s, .int .i32 r] w fun e w' => e = .returned (.int .i64 (-1)) ∧ ∃ k, w' = w.drewN k := by
 have t3 := L.t3; have a3 := L.a3; have z3 := L.z3; have v3 := L.v3
 have t4 := L.t4; have a4 := L.a4; have z4 := L.z4; have v4 := L.v4
 have t5 := L.t5; have a5 := L.a5; have z5 := L.z5; have v5 := L.v5
 have t9 := L.t9; have a9 := L.a9; have z9 := L.z9; have v9 := L.v9
 have t21 := L.t21; have a21 := L.a21; have z21 := L.z21; have v21 := L.v21
 have e137 : ∀ args w, (callFunc (ρ.f 137) args).run P w = .ok (.enter (ρ.f 137) args) w := enters_of L.f137 (by kernel_rfl) rfl
 have e119 : ∀ args w, (callFunc (ρ.f 119) args).run P w = .ok (.enter (ρ.f 119) args) w := enters_of L.f119 (by kernel_rfl) rfl
 have mixed := L.mixed
 have d1 : decide ((0 : Int) ≤ r) = true := decide_eq_true (by omega)
 have d2 : decide (r < 128) = false := decide_eq_false (by omega)
 have d3 : (r == (65533 : Int)) = false := beq_eq_false_iff_ne.2 h1
 obtain ⟨n, x, hn, hn2, hn4, hx, hx128⟩ := enc_last h0
 have hc := fun (w : World) => run_convert_rune (P := P) (w := w) (r := r) t21 t9
 generalize Utf8.encode r = rs at hn hx hc
 subst hn
 go_enter L.f152, Body.n152_ntmps ρ
 go_wp2_with (go_at_fn (ρ.f 119); refine (Any.utf8_ValidRune { L with } _ _).mono ?_; rintro e w' ⟨rfl, hw⟩; rw [hw, hv])
 subst hw
 refine wp_scope_straight ?_
 go_wp2
 by_cases hl : rs.size - 1 < s.size
 ·have hi0 : (0 : Int) ≤ (rs.size : Int) - 1 := by omega
  have hi1 : (rs.size : Int) - 1 < (s.size : Int) := by omega
  obtain ⟨y, hy⟩ : ∃ y : UInt8, s.data.toList[rs.size - 1]? = some y := ⟨_, List.getElem?_eq_getElem (by rw [← Lib.size_eq]; exact hl)⟩
  have hy128 := hs _ _ hy
  refine wp_loop_rounds 1 ?_
  rw [rounds_succ]
  go_wp2
  refine wp_scope_straight ?_
  have kx : ∀ w, (Instr.index (ρ.t 9) (.string rs) (.int .i64 ((rs.size : Int) - 1))).run P w = .ok (.int .u8 (x.toNat : Int)) w := fun w => idx_at t9 (by omega) hx
  have ky : ∀ w, (Instr.index (ρ.t 9) (.string s) (.int .i64 ((rs.size : Int) - 1))).run P w = .ok (.int .u8 (y.toNat : Int)) w := fun w => idx_at t9 (by omega) hy
  have hne : ((y.toNat : Int) == (x.toNat : Int)) = false := beq_eq_false_iff_ne.2 (by omega)
  go_wp2
  go_region_o
  have e137 : ∀ args w, (callFunc (ρ.f 137) args).run P w = .ok (.enter (ρ.f 137) args) w := enters_of L.f137 (by kernel_rfl) rfl
  have hw1 : IntKind.i64.wrap (rs.size : Int) = (rs.size : Int) := by
   simp only [IntKind.wrap, IntKind.bits, IntKind.signed]
   simp
   omega
  have s1 : (0 : Int) ≤ (rs.size : Int) - 1 + 1 := by omega
  have s2 : (rs.size : Int) - 1 + 1 ≤ (s.size : Int) := by omega
  have s3 : (0 : Int) ≤ (rs.size : Int) := by omega
  have s4 : (rs.size : Int) ≤ (s.size : Int) := by omega
  obtain ⟨z, hz⟩ : ∃ z, Lib.indexByte (s.extract rs.size s.size).data.toList ((x.toNat : Int).toNat.toUInt8) = z := ⟨_, rfl⟩
  have hz0 : z < 0 := by
   rw [← hz]
   refine indexByte_neg fun b hb => ?_
   have hb2 : b ∈ s.data.toList := by
    have : (s.extract rs.size s.size).data.toList = (s.data.toList.drop rs.size).take (s.size - rs.size) := by simp
    rw [this] at hb
    exact List.mem_of_mem_drop (List.mem_of_mem_take hb)
   obtain ⟨k, hk⟩ := List.getElem?_of_mem hb2
   have h5 := hs k b hk
   intro e
   have h6 : ((x.toNat : Int)).toNat.toUInt8 = x := by simp
   rw [h6] at e
   rw [e] at h5
   omega
  go_wp2
  go_region_with_o (
   go_at_fn (ρ.f 137)
   refine (Any.strings_IndexByte { L with } _ _ _).mono ?_
   rintro e w' ⟨rfl, hw⟩
   rw [hw, hz])
  go_wp2
  simp only [Exit.noGoto, Exit.inBlock, Exit.then]
  go_ret
  exact ⟨rfl, 2, rfl⟩
 ·have hi1 : decide ((rs.size : Int) - 1 < (s.size : Int)) = false := decide_eq_false (by omega)
  refine wp_loop_rounds 1 ?_
  rw [rounds_succ]
  go_wp2
  show Exit.inBlock 0 _ Exit.ret _ _
  go_ret
  exact ⟨rfl, 0, rfl⟩
set_option maxHeartbeats 8000000 in
set_option maxRecDepth 1000000 in
theorem Any.indexRune_bad (L : Lays.n152 P ρ) (s : ByteArray) (r : Int) (w : World) (h0 : 128 ≤ r) (h1 : r ≠ 65533) (hv : Lib.validRune r = false) :
  Calls P (ρ.f 152) #[.string s, .int .i32 r] w fun e w' => e = .returned (.int .i64 (-1)) ∧ ∃ k, w' = w.drewN k := by
 have t3 := L.t3; have a3 := L.a3; have z3 := L.z3; have v3 := L.v3
 have t4 := L.t4; have a4 := L.a4; have z4 := L.z4; have v4 := L.v4
 have t5 := L.t5; have a5 := L.a5; have z5 := L.z5; have v5 := L.v5
 have t9 := L.t9; have a9 := L.a9; have z9 := L.z9; have v9 := L.v9
 have t21 := L.t21; have a21 := L.a21; have z21 := L.z21; have v21 := L.v21
 have e119 : ∀ args w, (callFunc (ρ.f 119) args).run P w = .ok (.enter (ρ.f 119) args) w := enters_of L.f119 (by kernel_rfl) rfl
 have d1 : decide ((0 : Int) ≤ r) = true := decide_eq_true (by omega)
 have d2 : decide (r < 128) = false := decide_eq_false (by omega)
 have d3 : (r == (65533 : Int)) = false := beq_eq_false_iff_ne.2 h1
 go_enter L.f152, Body.n152_ntmps ρ
 go_wp2_with (go_at_fn (ρ.f 119); refine (Any.utf8_ValidRune { L with } _ _).mono ?_; rintro e w' ⟨rfl, hw⟩; rw [hw, hv])
 subst hw
 go_ret
 exact ⟨rfl, 0, rfl⟩
set_option maxHeartbeats 8000000 in
set_option maxRecDepth 1000000 in
theorem Any.indexRune_error (L : Lays.n152 P ρ) (s : ByteArray) (w : World) (hs : ∀ (j : Nat) b, s.data.toList[j]? = some b → b.toNat < 128) :
  Calls P (ρ.f 152) #[.string s, .int .i32 65533] w fun e w' => e = .returned (.int .i64 (-1)) ∧ ∃ pos, w' = w.iter s pos := by
 have HA : Aside (∀ (j : Nat) b, s.data.toList[j]? = some b → b.toNat < 128) := hs
 clear hs
 have t3 := L.t3; have a3 := L.a3; have z3 := L.z3; have v3 := L.v3
 have t4 := L.t4; have a4 := L.a4; have z4 := L.z4; have v4 := L.v4
 have t5 := L.t5; have a5 := L.a5; have z5 := L.z5; have v5 := L.v5
 have t9 := L.t9; have a9 := L.a9; have z9 := L.z9; have v9 := L.v9
 have t21 := L.t21; have a21 := L.a21; have z21 := L.z21; have v21 := L.v21
 go_enter L.f152, Body.n152_ntmps ρ
 go_wp2
 go_loopg [5, 6] s.size (fun g _ _ wx => ∃ i : Nat, i + g = s.size ∧ wx = w.iter s i)
 case atStart => exact ⟨0, by omega, rfl⟩
 case round =>
  obtain ⟨i, hig, rfl⟩ := hrel
  cases gk with
  | zero =>
   obtain rfl : i = s.size := by omega
   have hnx := run_next_end (P := P) w s s.size
   go_wp2
   go_ret
   exact ⟨rfl, _, rfl⟩
  | succ g =>
   have hi : i < s.size := by omega
   obtain ⟨x, hx⟩ : ∃ x : UInt8, s[i]'hi = x := ⟨_, rfl⟩
   have hxl : s.data.toList[i]? = some x := by rw [← hx]; exact Lib.data_getElem? s i hi
   have hx128 : x.toNat < 128 := HA.out i x hxl
   have hnx := fun ty => run_next_ascii (P := P) w s i ty hi (by rw [hx]; exact hx128)
   rw [hx] at hnx
   have hne : ((x.toNat : Int) == (65533 : Int)) = false := beq_eq_false_iff_ne.2 (by omega)
   go_wp2
   go_roundg g
   case measure => omega
   case rel => exact ⟨i + 1, by omega, rfl⟩
theorem Any.indexRune_beyond (L : Lays.n152 P ρ) (s : ByteArray) (r : Int) (w : World) (h0 : 128 ≤ r) (hs : ∀ (j : Nat) b, s.data.toList[j]? = some b → b.toNat < 128) (hsz : s.size ≤ 100) :
  Calls P (ρ.f 152) #[.string s, .int .i32 r] w fun e w' => e = .returned (.int .i64 (-1)) ∧ Below w.heap.size w w' := by
 by_cases h1 : r = 65533
 ·subst h1
  refine (Any.indexRune_error L s w hs).mono ?_
  rintro e w' ⟨rfl, pos, rfl⟩
  exact ⟨rfl, (Below.refl _ w).alloc (Nat.le_refl _) _⟩
 ·cases hv : Lib.validRune r with
  | true =>
   refine (Any.indexRune_high L s r w h0 h1 hv hs hsz).mono ?_
   rintro e w' ⟨rfl, k, rfl⟩
   exact ⟨rfl, rfl, rfl, rfl, Nat.le_refl _, fun _ _ => rfl⟩
  | false =>
   refine (Any.indexRune_bad L s r w h0 h1 hv).mono ?_
   rintro e w' ⟨rfl, k, rfl⟩
   exact ⟨rfl, rfl, rfl, rfl, Nat.le_refl _, fun _ _ => rfl⟩
theorem iterAt_self {w : World} {k : Nat} {s : ByteArray} {p : Nat} {o : Obj} (h : w.heap[k]? = some o) : (w.iterAt k s p).heap[k]? = some (.stringIter s p) := by
 have hk := (Array.getElem?_eq_some_iff.1 h).1
 show (w.heap.setIfInBounds k _)[k]? = _
 simp [hk]
theorem iterAt_size {w : World} {k : Nat} {s : ByteArray} {p : Nat} : (w.iterAt k s p).heap.size = w.heap.size := by
 show (w.heap.setIfInBounds k _).size = _
 simp
theorem iterAt_below {w wx : World} {k : Nat} {s : ByteArray} {p : Nat} (h : Below k w wx) : Below k w (wx.iterAt k s p) :=
 ⟨h.os, h.tape, h.output, by rw [iterAt_size]; exact h.size, fun j hj => by
  show (wx.heap.setIfInBounds k _)[j]? = _
  rw [Array.getElem?_setIfInBounds_ne (by omega)]
  exact h.block j hj⟩
theorem noAny_more {s chars : List UInt8} {i n : Nat} (h : NoAny s chars i) (hc : ∀ (j : Nat) b, chars[j]? = some b → b.toNat < 128) (hb : ∀ j, j < n → 128 ≤ J.bt s (i + j)) : NoAny s chars (i + n) := by
 intro j b hj hjb
 by_cases k : j < i
 ·exact h j b k hjb
 ·have h1 := hb (j - i) (by omega)
  rw [show i + (j - i) = j by omega] at h1
  have h2 : J.bt s j = b.toNat := by unfold J.bt; rw [List.getD_eq_getElem?_getD, hjb]; rfl
  rw [h2] at h1
  rw [Bool.eq_false_iff]
  intro h3
  obtain ⟨q, hq⟩ := List.getElem?_of_mem (List.contains_iff_mem.1 h3)
  have := hc q b hq
  omega
theorem below_on {B : Nat} {w w2 w3 : World} (h : Below B w w2) (hB : B ≤ w2.heap.size) (k : Below w2.heap.size w2 w3) : Below B w w3 :=
 ⟨k.os.trans h.os, k.tape.trans h.tape, k.output.trans h.output, Nat.le_trans h.size k.size, fun j hj => (k.block j (by omega)).trans (h.block j hj)⟩
end Go.Proofs

/-
  (YtolmidffiegkaaaDoorWordK2)
  The search for any of a text's bytes in a text of at most 8 bytes, whatever they are.
  Conditions: none but those that the theorem names.
-/
namespace Go.Proofs
open Go.Shelf Go.RowKit Go.Lib
variable {P : Program} {ρ : Ren}
set_option maxHeartbeats 16000000 in
set_option maxRecDepth 1000000 in
theorem Any.indexAny_short_any (L : Lays.n153 P ρ) (s chars : ByteArray) (w : World) (h2 : 2 ≤ chars.size) (hc100 : chars.size ≤ 100) (h8 : s.size ≤ 8) (hascii : ∀ (j : Nat) b, chars.data.toList[j]? = some b → b.toNat < 128) :
  Calls P (ρ.f 153) #[.string s, .string chars] w fun e w' => e = .returned (.int .i64 (Lib.indexAny s.data.toList chars.data.toList)) ∧ Below w.heap.size w w' := by
 have HA : Aside (∀ (j : Nat) b, chars.data.toList[j]? = some b → b.toNat < 128) := hascii
 clear hascii
 have hemp : chars.toList.isEmpty = false := by
  rw [Lib.toList_data]
  cases h : chars.data.toList with
  | nil => have := Lib.size_eq chars; rw [h, List.length_nil] at this; omega
  | cons _ _ => rfl
 have hn1 : ((chars.size : Int) == 1) = false := beq_eq_false_iff_ne.2 (by omega)
 have h8z : decide ((8 : Int) < (s.size : Int)) = false := decide_eq_false (by omega)
 have t3 := L.t3; have a3 := L.a3; have z3 := L.z3; have v3 := L.v3
 have t4 := L.t4; have a4 := L.a4; have z4 := L.z4; have v4 := L.v4
 have t5 := L.t5; have a5 := L.a5; have z5 := L.z5; have v5 := L.v5
 have t9 := L.t9; have a9 := L.a9; have z9 := L.z9; have v9 := L.v9
 have t21 := L.t21; have a21 := L.a21; have z21 := L.z21; have v21 := L.v21
 have e152 : ∀ args w, (callFunc (ρ.f 152) args).run P w = .ok (.enter (ρ.f 152) args) w := enters_of L.f152 (by kernel_rfl) rfl
 have e226 : ∀ args w, (callFunc (ρ.f 226) args).run P w = .ok (.enter (ρ.f 226) args) w := enters_of L.f226 (by kernel_rfl) rfl
 go_enter L.f153, Body.n153_ntmps ρ
 go_wp2_with (go_at_fn (ρ.f 226); refine (Any.strings_shouldUseASCIISet { L with } _ _).mono ?_; rintro e w' ⟨rfl, hw⟩; rw [hw, h8z])
 go_loopg [9, 10] s.size (fun g _ _ wx => ∃ i : Nat, i + g = s.size ∧ wx.heap[w.heap.size]? = some (.stringIter s i) ∧ Below w.heap.size w wx ∧ Lib.NoAny s.data.toList chars.data.toList i)
 case atStart => exact ⟨0, by omega, World.iter_heap w s 0, (Below.refl _ w).alloc (Nat.le_refl _) _, Lib.NoAny.zero _ _⟩
 case round =>
  obtain ⟨i, hig, hk, hbel, hno⟩ := hrel
  have HN : Aside (Lib.NoAny s.data.toList chars.data.toList i) := hno
  clear hno
  have HB : Aside (Below w.heap.size w wr) := hbel
  clear hbel
  cases gk with
  | zero =>
   obtain rfl : i = s.size := by omega
   have hnx := fun ty => run_next_end_at (P := P) wr w.heap.size s s.size ty hk (by omega)
   go_wp2
   go_ret
   exact ⟨by rw [Lib.indexAny_none (by rw [← Lib.size_eq]; exact HN.out)]; rfl, HB.out⟩
  | succ g =>
   have hi : i < s.size := by omega
   have hil : i < s.data.toList.length := by rw [← Lib.size_eq]; exact hi
   have hnx := fun ty => run_next_any_at (P := P) wr w.heap.size s i ty hk hi
   obtain ⟨b1, b2, b3⟩ := J.dec_bytes hil
   have hdec := decodeL_drop s i
   have hsz := Lib.size_eq s
   rw [hdec] at b1 b2 b3
   obtain ⟨r, wd, hd⟩ : ∃ r wd, Utf8.decode s i = (r, wd) := ⟨_, _, rfl⟩
   rw [hd] at hnx b1 b2 b3
   simp only at hnx b1 b2 b3
   obtain ⟨w2, hw2⟩ : ∃ w2, wr.iterAt w.heap.size s (i + wd) = w2 := ⟨_, rfl⟩
   have hk2 : w2.heap[w.heap.size]? = some (.stringIter s (i + wd)) := hw2 ▸ iterAt_self hk
   have hb2 : Below w.heap.size w w2 := hw2 ▸ iterAt_below HB.out
   rw [hw2] at hnx
   clear hw2 hdec hd
   have HK2 : Aside (w2.heap[w.heap.size]? = some (.stringIter s (i + wd))) := hk2
   have HB2 : Aside (Below w.heap.size w w2) := hb2
   clear hk2 hb2
   rcases b3 with ⟨c1, c2⟩ | ⟨c1, c2⟩
   ·obtain ⟨x, hxl⟩ : ∃ x, s.data.toList[i]? = some x := ⟨_, List.getElem?_eq_getElem hil⟩
    have hbx : J.bt s.data.toList i = x.toNat := by unfold J.bt; rw [List.getD_eq_getElem?_getD, hxl]; rfl
    rw [hbx] at c1 c2
    obtain ⟨rfl, rfl⟩ := Prod.mk.inj c2
    have Hx : Aside (s.data.toList[i]? = some x) := hxl
    clear hxl hbx c2
    have hcon := Lib.contains_iff_indexByte chars.data.toList x
    have hback : ((x.toNat : Int)).toNat.toUInt8 = x := by simp
    cases hin : chars.data.toList.contains x
    ·rw [hin] at hcon
     have hlt : ¬ ((0 : Int) ≤ Lib.indexByte chars.data.toList x) := of_decide_eq_false hcon.symm
     clear hcon
     go_wp2_with (go_at_fn (ρ.f 152); refine (Any.strings_IndexRune_ascii { L with } _ _ _ (by omega) (by omega)).mono ?_; rintro e w' ⟨rfl, rfl⟩; rw [hback]; dsimp only)
     go_wp2
     go_roundg g
     case measure => omega
     case rel => exact ⟨i + 1, by omega, HK2.out, HB2.out, HN.out.succ Hx.out hin⟩
    ·rw [hin] at hcon
     have hge : (0 : Int) ≤ Lib.indexByte chars.data.toList x := of_decide_eq_true hcon.symm
     clear hcon
     go_wp2_with (go_at_fn (ρ.f 152); refine (Any.strings_IndexRune_ascii { L with } _ _ _ (by omega) (by omega)).mono ?_; rintro e w' ⟨rfl, rfl⟩; rw [hback]; dsimp only)
     go_wp2
     go_ret
     exact ⟨by rw [Lib.indexAny_hit HN.out Hx.out hin]; rfl, HB2.out⟩
   ·have HC : Aside (∀ j, j < wd → 128 ≤ J.bt s.data.toList (i + j)) := c2
    clear c2
    go_wp2_with (go_at_fn (ρ.f 152); refine (Any.indexRune_beyond { L with } _ _ _ (by omega) HA.out hc100).mono ?_; rintro e w3 ⟨rfl, hb3⟩; dsimp only)
    go_wp2
    go_roundg (s.size - (i + wd))
    case measure => omega
    case rel => exact ⟨i + wd, by omega, by rw [hb3.block _ (Array.getElem?_eq_some_iff.1 HK2.out).1]; exact HK2.out, below_on HB2.out HB2.out.size hb3, noAny_more HN.out HA.out HC.out⟩
theorem Any.indexAny_any (L : Lays.n153 P ρ) (h116 : (P.info? (ρ.t 116)).map (fun i => (i.zero, i.size)) = some (some (.agg (Array.replicate 256 (.bool false))), 256)) (s chars : ByteArray) (w : World) (h2 : 2 ≤ chars.size) (hc100 : chars.size ≤ 100) (hs : s.size < 4294967281)
  (hac : ∀ (j : Nat) b, chars.data.toList[j]? = some b → b.toNat < 128) :
  Calls P (ρ.f 153) #[.string s, .string chars] w fun e w' => e = .returned (.int .i64 (Lib.indexAny s.data.toList chars.data.toList)) ∧ Below w.heap.size w w' := by
 by_cases h8 : s.size ≤ 8
 ·exact Any.indexAny_short_any L s chars w h2 hc100 h8 hac
 ·refine (Any.strings_IndexAny_long L (zero_of_info h116).1 (zero_of_info h116).2 s chars w (by omega) (by omega) hs (by omega) hac).mono ?_
  rintro e w' ⟨h3, h4⟩
  refine ⟨h3, ?_⟩
  rw [h4]
  exact ((Below.refl _ _).alloc (Nat.le_refl _) _).alloc (by simp) _
set_option maxHeartbeats 4000000 in
theorem Any.containsAny_any (L : Lays.n150 P ρ) (h116 : (P.info? (ρ.t 116)).map (fun i => (i.zero, i.size)) = some (some (.agg (Array.replicate 256 (.bool false))), 256)) (s chars : ByteArray) (w : World) (h2 : 2 ≤ chars.size) (hc100 : chars.size ≤ 100) (hs : s.size < 4294967281)
  (hac : ∀ (j : Nat) b, chars.data.toList[j]? = some b → b.toNat < 128) :
  Calls P (ρ.f 150) #[.string s, .string chars] w fun e w' => e = .returned (.bool (Lib.containsAny s.data.toList chars.data.toList)) ∧ Below w.heap.size w w' := by
 have c := Any.indexAny_any { L with } h116 s chars w h2 hc100 hs hac
 have t3 := L.t3; have a3 := L.a3; have z3 := L.z3; have v3 := L.v3
 have t4 := L.t4; have a4 := L.a4; have z4 := L.z4; have v4 := L.v4
 have t9 := L.t9; have a9 := L.a9; have z9 := L.z9; have v9 := L.v9
 have e153 : ∀ args w, (callFunc (ρ.f 153) args).run P w = .ok (.enter (ρ.f 153) args) w := enters_of L.f153 (by kernel_rfl) rfl
 go_enter L.f150, Body.n150_ntmps ρ
 go_wp2_with (go_at_fn (ρ.f 153); refine c.mono ?_; rintro e w' ⟨rfl, hw⟩)
 go_ret
 exact ⟨rfl, hw⟩
theorem containsAny_seps (s : List UInt8) : Lib.containsAny s J.seps = s.any J.isSep := by
 rw [Bool.eq_iff_iff]
 unfold Lib.containsAny
 rw [decide_eq_true_iff, List.any_eq_true]
 constructor
 ·have key2 : ∀ l : List UInt8, 0 ≤ Lib.indexAny l J.seps → ∃ b, b ∈ l ∧ J.isSep b = true := by
   intro l
   induction l with
   | nil => intro h; exact absurd h (by decide)
   | cons c l ih =>
    intro h
    unfold Lib.indexAny at h
    have hge := Lib.indexAny_ge J.seps l
    split at h
    ·rename_i hcc
     exact ⟨c, List.mem_cons_self .., by unfold J.isSep; exact hcc⟩
    ·split at h
     ·omega
     ·rename_i he
      have hne : Lib.indexAny l J.seps ≠ -1 := fun e => he (by rw [e]; rfl)
      obtain ⟨b, hb, hc⟩ := ih (by omega)
      exact ⟨b, List.mem_cons_of_mem _ hb, hc⟩
  exact key2 s
 ·rintro ⟨b, hb, hc⟩
  rcases Int.lt_or_le (Lib.indexAny s J.seps) 0 with h | h
  ·exfalso
   have key : ∀ l : List UInt8, Lib.indexAny l J.seps < 0 → ∀ b ∈ l, J.isSep b = false := by
    intro l
    induction l with
    | nil => intro _ b hb; cases hb
    | cons c l ih =>
     intro h b hb
     unfold Lib.indexAny at h
     have hge := Lib.indexAny_ge J.seps l
     split at h
     ·omega
     ·rename_i hcc
      rcases List.mem_cons.1 hb with rfl | hb
      ·unfold J.isSep; simpa using hcc
      ·refine ih ?_ b hb
       split at h
       ·rename_i he; rw [beq_iff_eq] at he; omega
       ·rename_i he; omega
   rw [key s h b hb] at hc; cases hc
  ·exact h
end Go.Proofs

/-
  (YtolmidffiegkaaaDoorLay3)
  The count of runes, the check of a text, the search for any of some bytes, laid at this program: its functions are those that the contracts were proved of.
  Conditions: none.
-/
namespace Go.Proofs
open Go.Shelf
def Tryd.lays195_ren : Go.Shelf.Ren := ⟨fun | 195 => 60 | n => n, fun | 9 => 9 | 3 => 3 | 0 => 0 | 4 => 4 | n => n, fun | n => n⟩
theorem Tryd.lays195 : Go.Proofs.Lays.n195 Tryd.prog Tryd.lays195_ren := {
 mixed := by kernel_rfl
 f195 := Tryd.func60.trans (congrArg some (by kernel_rfl))
 t0 := Tryd.underlying0
 a0 := Tryd.isAgg0
 z0 := Tryd.sizeOf0
 v0 := Tryd.zeroValue0
 t3 := Tryd.underlying3
 a3 := Tryd.isAgg3
 z3 := Tryd.sizeOf3
 v3 := Tryd.zeroValue3
 t4 := Tryd.underlying4
 a4 := Tryd.isAgg4
 z4 := Tryd.sizeOf4
 v4 := Tryd.zeroValue4
 t9 := Tryd.underlying9
 a9 := Tryd.isAgg9
 z9 := Tryd.sizeOf9
 v9 := Tryd.zeroValue9 }
def Tryd.lays196_ren : Go.Shelf.Ren := ⟨fun | 196 => 61 | 259 => 73 | n => n, fun | 9 => 9 | 4 => 4 | 3 => 3 | 5 => 5 | 12 => 12 | 119 => 150 | 0 => 0 | 46 => 154 | 139 => 153 | 138 => 152 | 53 => 130 | n => n, fun | 3 => 1 | 4 => 2 | n => n⟩
theorem Tryd.lays196 : Go.Proofs.Lays.n196 Tryd.prog Tryd.lays196_ren := {
 mixed := by kernel_rfl
 f196 := Tryd.func61.trans (congrArg some (by kernel_rfl))
 f259 := Tryd.func73.trans (congrArg some (by kernel_rfl))
 t0 := Tryd.underlying0
 a0 := Tryd.isAgg0
 z0 := Tryd.sizeOf0
 v0 := Tryd.zeroValue0
 t3 := Tryd.underlying3
 a3 := Tryd.isAgg3
 z3 := Tryd.sizeOf3
 v3 := Tryd.zeroValue3
 t4 := Tryd.underlying4
 a4 := Tryd.isAgg4
 z4 := Tryd.sizeOf4
 v4 := Tryd.zeroValue4
 t5 := Tryd.underlying5
 a5 := Tryd.isAgg5
 z5 := Tryd.sizeOf5
 v5 := Tryd.zeroValue5
 t9 := Tryd.underlying9
 a9 := Tryd.isAgg9
 z9 := Tryd.sizeOf9
 v9 := Tryd.zeroValue9
 t12 := Tryd.underlying12
 a12 := Tryd.isAgg12
 z12 := Tryd.sizeOf12
 v12 := Tryd.zeroValue12
 t46 := Tryd.underlying154
 a46 := Tryd.isAgg154
 z46 := Tryd.sizeOf154
 v46 := Tryd.zeroValue154
 t53 := Tryd.underlying130
 a53 := Tryd.isAgg130
 z53 := Tryd.sizeOf130
 v53 := Tryd.zeroValue130
 t119 := Tryd.underlying150
 a119 := Tryd.isAgg150
 z119 := Tryd.sizeOf150
 t138 := Tryd.underlying152
 a138 := Tryd.isAgg152
 z138 := Tryd.sizeOf152
 v138 := Tryd.zeroValue152
 t139 := Tryd.underlying153
 a139 := Tryd.isAgg153
 z139 := Tryd.sizeOf153
 v139 := Tryd.zeroValue153
 g3 := by kernel_rfl
 g4 := by kernel_rfl }
def Tryd.lays150_ren : Go.Shelf.Ren := ⟨fun | 150 => 62 | 153 => 74 | 152 => 82 | 226 => 83 | 227 => 84 | 228 => 85 | 137 => 87 | 119 => 88 | 224 => 89 | 225 => 90 | 217 => 91 | 266 => 92 | n => n, fun | 9 => 9 | 4 => 4 | 3 => 3 | 5 => 5 | 21 => 21 | 117 => 169 | 116 => 168 | 0 => 0 | 46 => 154 | 124 => 175 | n => n, fun | n => n⟩
theorem Tryd.lays150 : Go.Proofs.Lays.n150 Tryd.prog Tryd.lays150_ren := {
 mixed := by kernel_rfl
 f119 := Tryd.func88.trans (congrArg some (by kernel_rfl))
 f137 := Tryd.func87.trans (congrArg some (by kernel_rfl))
 f150 := Tryd.func62.trans (congrArg some (by kernel_rfl))
 f152 := Tryd.func82.trans (congrArg some (by kernel_rfl))
 f153 := Tryd.func74.trans (congrArg some (by kernel_rfl))
 f217 := Tryd.func91.trans (congrArg some (by kernel_rfl))
 f224 := Tryd.func89.trans (congrArg some (by kernel_rfl))
 f225 := Tryd.func90.trans (congrArg some (by kernel_rfl))
 f226 := Tryd.func83.trans (congrArg some (by kernel_rfl))
 f227 := Tryd.func84.trans (congrArg some (by kernel_rfl))
 f228 := Tryd.func85.trans (congrArg some (by kernel_rfl))
 f266 := Tryd.func92.trans (congrArg some (by kernel_rfl))
 t0 := Tryd.underlying0
 a0 := Tryd.isAgg0
 z0 := Tryd.sizeOf0
 v0 := Tryd.zeroValue0
 t3 := Tryd.underlying3
 a3 := Tryd.isAgg3
 z3 := Tryd.sizeOf3
 v3 := Tryd.zeroValue3
 t4 := Tryd.underlying4
 a4 := Tryd.isAgg4
 z4 := Tryd.sizeOf4
 v4 := Tryd.zeroValue4
 t5 := Tryd.underlying5
 a5 := Tryd.isAgg5
 z5 := Tryd.sizeOf5
 v5 := Tryd.zeroValue5
 t9 := Tryd.underlying9
 a9 := Tryd.isAgg9
 z9 := Tryd.sizeOf9
 v9 := Tryd.zeroValue9
 t21 := Tryd.underlying21
 a21 := Tryd.isAgg21
 z21 := Tryd.sizeOf21
 v21 := Tryd.zeroValue21
 t46 := Tryd.underlying154
 a46 := Tryd.isAgg154
 z46 := Tryd.sizeOf154
 v46 := Tryd.zeroValue154
 t116 := Tryd.underlying168
 a116 := Tryd.isAgg168
 z116 := Tryd.sizeOf168
 t117 := Tryd.underlying169
 a117 := Tryd.isAgg169
 z117 := Tryd.sizeOf169
 v117 := Tryd.zeroValue169
 t124 := Tryd.underlying175
 a124 := Tryd.isAgg175
 z124 := Tryd.sizeOf175
 v124 := Tryd.zeroValue175 }
end Go.Proofs

/-
  (YtolmidffiegkaaaDoorFactsW)
  Closed facts on the tables of the program: sizes, zero values, where fields lie, which functions have bodies.
  Conditions: none.
-/
set_option maxRecDepth 20000
set_option linter.unusedSimpArgs false
set_option linter.unusedVariables false
namespace Go.Proofs.YtolmidffiegkaaaDoor
open Go Go.J
theorem cb60 : Callable Tryd.prog 60 := ⟨_, Tryd.func60, rfl, by kernel_rfl⟩
theorem cb61 : Callable Tryd.prog 61 := ⟨_, Tryd.func61, rfl, by kernel_rfl⟩
theorem cb62 : Callable Tryd.prog 62 := ⟨_, Tryd.func62, rfl, by kernel_rfl⟩
end Go.Proofs.YtolmidffiegkaaaDoor

/-
  (YtolmidffiegkaaaDoorWordW)
  The walk of lexrule.Word: a word is what the bytes say.
  Conditions: the library's tables hold what the program lays.
-/
set_option maxRecDepth 20000
set_option linter.unusedSimpArgs false
set_option linter.unusedVariables false
namespace Go.Proofs.YtolmidffiegkaaaDoor
open Go Go.J
def U8Ok (w : World) : Prop := Lib.Utf8Tabs (Tryd.lays196_ren.g 3) (Tryd.lays196_ren.g 4) w
abbrev u8 : Dat := Dat.of U8Ok
theorem tab256 : (Tryd.prog.info? (Tryd.lays150_ren.t 116)).map (fun i => (i.zero, i.size)) = some (some (.agg (Array.replicate 256 (.bool false))), 256) := by kernel_rfl
theorem sizeS (s : Str) : (⟨s.toArray⟩ : ByteArray).size = s.length := by simp [ByteArray.size]
theorem rc_spec (s : Str) (hs : s.length < 9223372036854775807) : FnVw Tryd.prog 60 #[sv s] [u8] (iv (Lib.runeCountL s)) :=
 FnVw.of_calls fun w _ => by
  refine (Any.utf8_RuneCountInString Tryd.lays195 ⟨s.toArray⟩ w (by rw [sizeS]; exact hs)).mono ?_
  rintro e w' ⟨rfl, pos, rfl⟩
  exact ⟨rfl, (RowKit.Below.refl _ w).alloc (Nat.le_refl _) _⟩
theorem valid_spec (s : Str) (hs : s.length < 9223372036854775807) : FnVw Tryd.prog 61 #[sv s] [u8] (.bool (Lib.validD s)) :=
 FnVw.of_calls fun w hw => Any.utf8_ValidString Tryd.lays196 ⟨s.toArray⟩ w (by rw [sizeS]; omega) hw
theorem any_spec (s : Str) (hs : s.length < 4294967281) : FnVw Tryd.prog 62 #[sv s, sv seps] [u8] (.bool (s.any isSep)) :=
 FnVw.of_calls fun w _ => by
  have := Any.containsAny_any Tryd.lays150 tab256 ⟨s.toArray⟩ ⟨seps.toArray⟩ w (by decide) (by decide) (by rw [sizeS]; exact hs) (fun j b h => by
   have : ∀ b ∈ seps, b.toNat < 128 := by decide
   exact this b (List.mem_of_getElem? h))
  rw [← containsAny_seps]
  exact this
theorem rc_len (s : Str) : s.length ≤ 4 * Lib.runeCountL s := by
 have key : ∀ (f p : Nat), s.length - p ≤ f → s.length - p ≤ 4 * Lib.runeCountFrom ⟨s.toArray⟩ f p := by
  intro f
  induction f with
  | zero => intro p h; omega
  | succ f ih =>
   intro p h
   by_cases hp : p < s.length
   ·have hsz : p < (⟨s.toArray⟩ : ByteArray).size := by rw [sizeS]; exact hp
    obtain ⟨d1, d2, _⟩ := dec_bytes hp
    have hdec := Lib.decodeL_drop ⟨s.toArray⟩ p
    simp only at hdec
    have hw : (Lib.decodeL (s.drop p)).2 ≤ 4 := by
     rw [decode_bt]
     rcases decN_spec (n := s.length - p) (bt_lt s p) (bt_lt s (p + 1)) (bt_lt s (p + 2)) (bt_lt s (p + 3)) with ⟨_, e⟩ | ⟨_, _, _, _, e⟩ | ⟨_, r, _, e⟩ | ⟨_, r, _, e⟩ | ⟨_, r, _, e⟩ <;> rw [e] <;> simp
    have := ih (p + (Lib.decodeL (s.drop p)).2) (by omega)
    rw [Lib.runeCountFrom, if_pos hsz, ← hdec]
    omega
   ·omega
 have := key s.length 0 (by omega)
 have e : Lib.runeCountFrom ⟨s.toArray⟩ s.length 0 = Lib.runeCountL s := by unfold Lib.runeCountL Lib.runeCount; congr 1
 rw [e] at this
 omega
theorem word_end (s : Str) : (((decide ((1 : Int) ≤ (Lib.runeCountL s : Int)) && decide ((Lib.runeCountL s : Int) ≤ 30)) && Lib.validD s) && !(s.any isSep)) = isWord s := by
 rw [isWord_eq]
 have h1 : decide ((1 : Int) ≤ (Lib.runeCountL s : Int)) = decide (1 ≤ Lib.runeCountL s) := decide_eq_decide.2 (by omega)
 have h2 : decide ((Lib.runeCountL s : Int) ≤ 30) = decide (Lib.runeCountL s ≤ 30) := decide_eq_decide.2 (by omega)
 rw [h1, h2]
theorem Word_spec (s : Str) (hs : s.length < 9223372036854775807) : FnVw Tryd.prog 44 #[sv s] [u8] (.bool (isWord s)) := by
 refine FnVw.body (args := [sv s]) (ds := [u8]) 21 Tryd.func44 rfl Tryd.ntmps44 rfl (fun c hdr => ?_)
 change St _ _ (Mm c [dat u8]) _
 refine St.seq (St.rg ?_)
 refine St.asg ?_
 refine St.nil (St.then_normal (St.seq (St.rg ?_)))
 refine St.mv ?_
 refine St.ev _ (Ev.callW hdr (rc_spec s hs) cb60 (.cons (.mk rfl) .nil)) rfl ?_
 refine St.asg ?_
 refine St.nil (St.then_normal (St.seq (St.rg ?_)))
 refine St.mv ?_
 refine St.ev _ (Ev.geq (.mk rfl) (.mk rfl)) rfl ?_
 refine St.mv ?_
 refine St.gt _ rfl rfl (fun hg => Ev.move (.mk rfl)) rfl ?_
 refine St.gt _ rfl rfl (fun hg => Ev.leq (Opd.gv rfl hg) (.mk rfl)) rfl ?_
 refine St.ev _ (Ev.and (.mk rfl) (fun hp => Opd.gv rfl hp)) rfl ?_
 refine St.mv ?_
 refine St.gt _ rfl rfl (fun hg => Ev.move (.mk rfl)) rfl ?_
 refine St.gt _ rfl rfl (fun hg => Ev.callW hdr (valid_spec s hs) cb61 (.cons (Opd.gv rfl hg) .nil)) rfl ?_
 refine St.ev _ (Ev.and (.mk rfl) (fun hp => Opd.gv rfl hp)) rfl ?_
 refine St.mv ?_
 refine St.gt _ rfl rfl (fun hg => Ev.move (.mk rfl)) rfl ?_
 refine St.gt _ rfl rfl (fun hg => Ev.callW hdr (any_spec s (by have hq := rc_len s; first | omega | (simp only [Bool.and_eq_true, decide_eq_true_eq] at hg; omega) | (simp at hg; omega) | (trace_state; omega))) cb62 (.cons (Opd.gv rfl hg) (.cons (.mk rfl) .nil))) rfl ?_
 refine St.gt _ rfl rfl (fun hg => Ev.not (Opd.gv rfl hg)) rfl ?_
 refine St.ev _ (Ev.and (.mk rfl) (fun hp => Opd.gv rfl hp)) rfl ?_
 refine St.asg ?_
 refine St.nil (St.then_normal (St.rett ?_))
 refine St.rets [_] [] Tryd.results44 ⟨rfl, trivial⟩ ?_ (fun _ hw => hw.sub)
 exact be (by first | exact word_end s | (simp [word_end]))
end Go.Proofs.YtolmidffiegkaaaDoor

/-
  (YtolmidffiegkaaaDoorQ23)
  The walks of the checks of entries and rules.
  Conditions: none beyond the sizes.
-/
set_option maxRecDepth 20000
set_option linter.unusedSimpArgs false
set_option linter.unusedVariables false
namespace Go.Proofs.YtolmidffiegkaaaDoor
open Go Go.J
theorem lexF_eq (T : List Ty0) (Fs : List Ft0) (x : LexD) : lexF T Fs (lxE x) = if isWord x.word = false then 10 else if x.weight < 0 ∨ 1000000 < x.weight then 3 else if (withinF T Fs (grE x.graph)).1 ≠ 0 then (withinF T Fs (grE x.graph)).1 else (termF (termE x.mean)).1 := rfl
theorem ruleF_eq (T : List Ty0) (Fs : List Ft0) (x : RuleD) : ruleF T Fs (ruE x) = if x.kids < 1 ∨ 3 < x.kids ∨ x.weight < 0 ∨ 1000000 < x.weight then 3 else if (withinF T Fs (grE x.graph)).1 ≠ 0 then (withinF T Fs (grE x.graph)).1 else if placesB (grE x.graph) x.kids = false then 5 else (termF (termE x.mean)).1 := rfl
theorem within_loose {T : List Ty0} {Fs : List Ft0} {G : Gr0} (h : (withinF T Fs G).1 = 0) : (looseF T.length Fs.length G).1 = 0 := by
 rcases Decidable.em ((looseF T.length Fs.length G).1 = 0) with h1 | h1
 ·exact h1
 ·rw [withinF_l h1] at h; exact h
theorem within_places {T : List Ty0} {Fs : List Ft0} (hFs : Fs.length ≤ 40) {g : GraphD} (h : (withinF T Fs (grE g)).1 = 0) : 0 < g.nodes.length ∧ ∀ n ∈ g.nodes, Asc n.links ∧ n.links.length ≤ 1000000 := by
 have h1 := within_loose h
 obtain ⟨h2, _, h3⟩ := loose_ok h1
 refine ⟨by rw [grE_len] at h2; exact h2, fun n hn => ⟨loose_asc h1 n hn, ?_⟩⟩
 have h4 := (h3 (ndE n) (List.mem_map_of_mem hn)).2
 have := asc_len (loose_asc h1 n hn) (nf := Fs.length) (fun x hx => by
  have := h4 (lkE x) (List.mem_map_of_mem hx)
  exact ⟨this.1, this.2.1⟩)
 omega
set_option maxHeartbeats 2000000 in
theorem Entry_spec (tv xv w1 w2 : OneV) (ts : List TyD) (fs : List FeatD) (x : LexD) (hT : TyOK (ts.map tyE)) (hF : ∀ f ∈ fs, 0 ≤ f.of_ ∧ f.of_ < ts.length ∧ 0 ≤ f.value ∧ f.value < ts.length) (hw : lexR.wf x) : FnVw Tryd.prog 42 #[.agg #[tv.1, xv.1], tabV w1 w2, lexV x] [sl tyR tv.1 ts, sl featR xv.1 fs, sl u64R w1.1 (upsL (ts.map tyE)), sl u64R w2.1 (dnsL (ts.map tyE)), lexD x, u8] (iv (lexF (ts.map tyE) (fs.map ftE) (lxE x))) := by
 refine FnVw.body (args := [.agg #[tv.1, xv.1], tabV w1 w2, lexV x]) (ds := [sl tyR tv.1 ts, sl featR xv.1 fs, sl u64R w1.1 (upsL (ts.map tyE)), sl u64R w2.1 (dnsL (ts.map tyE)), lexD x, u8]) 34 Tryd.func42 rfl Tryd.ntmps42 rfl (fun c hdr => ?_)
 refine St.cast (H' := [dat (sl tyR tv.1 ts), dat (sl featR xv.1 fs), dat (sl u64R w1.1 (upsL (ts.map tyE))), dat (sl u64R w2.1 (dnsL (ts.map tyE))), dat (lexD x), dat (u8)]) rfl ?_
 refine St.seq ?_
 refine St.openD (lexD x) (fun _ : Unit => lexL x) (fun ρ h => ⟨(), h⟩) fun _ => ?_
 refine St.cast (H' := [dat (graphD x.graph), dat (termD x.mean), dat (sl tyR tv.1 ts), dat (sl featR xv.1 fs), dat (sl u64R w1.1 (upsL (ts.map tyE))), dat (sl u64R w2.1 (dnsL (ts.map tyE))), dat (lexD x), dat (u8)]) rfl ?_
 have hlx := lexF_eq (ts.map tyE) (fs.map ftE) x
 obtain ⟨hw1, hw2, hw3⟩ := hw
 replace hw1 : x.word.length ≤ 140737488351232 := hw1
 refine St.rg ?_
 refine St.boxA (.mk rfl) rfl (fun b3 => ?_)
 refine St.boxA (.mk rfl) rfl (fun b4 => ?_)
 refine St.boxA (.mk rfl) rfl (fun b5 => ?_)
 refine St.asg ?_
 refine St.nil (St.then_normal (St.seq (St.seq (St.rg ?_))))
 refine St.ev _ (Ev.fldb0 (.mk rfl) fo82_0) rfl ?_
 refine St.ev _ (Ev.ldb (.mk rfl) Tryd.underlying9 trivial (by rfl)) rfl ?_
 refine St.ev _ (Ev.callW hdr (Word_spec x.word (by omega)) cb44 (.cons (.mk rfl) .nil)) rfl ?_
 refine St.ev _ (Ev.not (.mk rfl)) rfl ?_
 refine St.nil (St.then_normal ?_)
 refine St.cond _ rfl (fun h11 => ?_) (fun h11 => ?_)
 ·skip
  skip
  rw [if_pos (by simpa using h11)] at hlx
  refine St.seq (St.rg ?_)
  refine St.asg ?_
  refine St.nil (St.then_normal (St.rett (St.then_ret ?_)))
  refine St.rets [_] [] Tryd.results42 ⟨rfl, trivial⟩ ?_ (fun _ hw => hw.sub)
  exact ie hlx.symm
 ·skip
  skip
  rw [if_neg (by simpa using h11)] at hlx
  refine St.skip (St.then_normal (St.seq (St.seq (St.rg ?_))))
  refine St.ev _ (Ev.fldb0 (.mk rfl) fo82_2) rfl ?_
  refine St.ev _ (Ev.ldb (.mk rfl) Tryd.underlying3 trivial (by rfl)) rfl ?_
  refine St.ev _ (Ev.lss (.mk rfl) (.mk rfl)) rfl ?_
  refine St.mv ?_
  refine St.gf _ rfl rfl (fun hg => Ev.fldb0 (.mk rfl) fo82_2) rfl ?_
  refine St.gf _ rfl rfl (fun hg => Ev.ldb (Opd.gv rfl hg) Tryd.underlying3 trivial (by rfl)) rfl ?_
  refine St.gf _ rfl rfl (fun hg => Ev.gtr (Opd.gv rfl hg) (.mk rfl)) rfl ?_
  refine St.ev _ (Ev.or (.mk rfl) (fun hp => Opd.gv rfl hp)) rfl ?_
  refine St.nil (St.then_normal ?_)
  refine St.cond _ rfl (fun h19 => ?_) (fun h19 => ?_)
  ·skip
   try simp only [jbAll] at h19
   rw [if_pos (by omega)] at hlx
   refine St.seq (St.rg ?_)
   refine St.asg ?_
   refine St.nil (St.then_normal (St.rett (St.then_ret ?_)))
   refine St.rets [_] [] Tryd.results42 ⟨rfl, trivial⟩ ?_ (fun _ hw => hw.sub)
   exact ie hlx.symm
  ·skip
   try simp only [jbAll] at h19
   rw [if_neg (by omega)] at hlx
   refine St.skip (St.then_normal (St.seq (St.seq (St.rg ?_))))
   refine St.ev _ (Ev.ldbA (.mk rfl) Tryd.underlying25 trivial (by exact sz25)) rfl ?_
   refine St.ev _ (Ev.ldbA (.mk rfl) Tryd.underlying102 trivial (by exact sz102)) rfl ?_
   refine St.ev _ (Ev.fldb0 (.mk rfl) fo82_1) rfl ?_
   refine St.ev _ (Ev.ldbP 1 (.mk rfl) Tryd.underlying30 trivial sz30 rfl rfl) rfl ?_
   refine St.slot 23 (graphV x.graph) rfl rfl ?_
   refine St.ev _ (Ev.call (Within_spec tv xv w1 w2 ts fs x.graph hT hF) cb43 (.cons (.mk rfl) (.cons (.mk rfl) (.cons (.mk rfl) .nil)))) rfl ?_
   refine St.alloc zc42 rfl (fun b7 => ?_)
   refine St.storeA (Opd.mk rfl) (Opd.mk rfl) sz42 (by first | simp only [List.length_cons, List.length_nil] | rfl) rfl ?_
   refine St.nil (St.then_normal (St.seq (St.rg ?_)))
   refine St.ev _ (Ev.fldb0 (.mk rfl) fo42_0) rfl ?_
   refine St.ev _ (Ev.ldb (.mk rfl) Tryd.underlying3 trivial (by rfl)) rfl ?_
   refine St.ev _ (Ev.neq (.mk rfl) (.mk rfl)) rfl ?_
   refine St.nil (St.then_normal ?_)
   refine St.cond _ rfl (fun h27 => ?_) (fun h27 => ?_)
   ·skip
    skip
    have hb : (withinF (ts.map tyE) (fs.map ftE) (grE x.graph)).1 ≠ 0 := by simpa using h27
    rw [if_pos hb] at hlx
    refine St.seq (St.rg ?_)
    refine St.ev _ (Ev.fldb0 (.mk rfl) fo42_0) rfl ?_
    refine St.ev _ (Ev.ldb (.mk rfl) Tryd.underlying3 trivial (by rfl)) rfl ?_
    refine St.asg ?_
    refine St.nil (St.then_normal (St.rett (St.then_ret ?_)))
    refine St.rets [_] [] Tryd.results42 ⟨rfl, trivial⟩ ?_ (fun _ hw => hw.sub)
    exact ie hlx.symm
   ·skip
    skip
    have hb : ¬ (withinF (ts.map tyE) (fs.map ftE) (grE x.graph)).1 ≠ 0 := by simpa using h27
    rw [if_neg hb] at hlx
    refine St.skip (St.then_normal (St.seq (St.rg ?_)))
    refine St.ev _ (Ev.fldb0 (.mk rfl) fo82_3) rfl ?_
    refine St.ev _ (Ev.ldbP 6 (.mk rfl) Tryd.underlying80 trivial sz80 rfl rfl) rfl ?_
    refine St.slot 31 (termV x.mean) rfl rfl ?_
    refine St.ev _ (Ev.call (termVal_spec x.mean hw3) cb55 (.cons (.mk rfl) .nil)) rfl ?_
    refine St.ev _ (Ev.field1 (.mk rfl) Tryd.underlying42 rfl (by first | rw [Tryd.underlying3] | (dsimp only; rw [Tryd.underlying3]) | kernel_rfl) rfl) rfl ?_
    refine St.asg ?_
    refine St.nil (St.then_normal (St.rett ?_))
    refine St.rets [_] [] Tryd.results42 ⟨rfl, trivial⟩ ?_ (fun _ hw => hw.sub)
    exact ie hlx.symm
set_option maxHeartbeats 2000000 in
theorem Rule_spec (tv xv w1 w2 : OneV) (ts : List TyD) (fs : List FeatD) (x : RuleD) (hT : TyOK (ts.map tyE)) (hF : ∀ f ∈ fs, 0 ≤ f.of_ ∧ f.of_ < ts.length ∧ 0 ≤ f.value ∧ f.value < ts.length) (hFl : fs.length ≤ 40) (hw : ruleR.wf x) : FnV Tryd.prog 41 #[.agg #[tv.1, xv.1], tabV w1 w2, ruleV x] [sl tyR tv.1 ts, sl featR xv.1 fs, sl u64R w1.1 (upsL (ts.map tyE)), sl u64R w2.1 (dnsL (ts.map tyE)), ruleD x] (iv (ruleF (ts.map tyE) (fs.map ftE) (ruE x))) := by
 unfold FnV
 refine FnH.body (args := [.agg #[tv.1, xv.1], tabV w1 w2, ruleV x]) 46 Tryd.func41 rfl Tryd.ntmps41 rfl (fun c => ?_)
 refine St.cast (H' := [dat (sl tyR tv.1 ts), dat (sl featR xv.1 fs), dat (sl u64R w1.1 (upsL (ts.map tyE))), dat (sl u64R w2.1 (dnsL (ts.map tyE))), dat (ruleD x)]) rfl ?_
 refine St.seq ?_
 refine St.openD (ruleD x) (fun _ : Unit => ruleL x) (fun ρ h => ⟨(), h⟩) fun _ => ?_
 refine St.cast (H' := [dat (graphD x.graph), dat (termD x.mean), dat (sl tyR tv.1 ts), dat (sl featR xv.1 fs), dat (sl u64R w1.1 (upsL (ts.map tyE))), dat (sl u64R w2.1 (dnsL (ts.map tyE))), dat (ruleD x)]) rfl ?_
 have hlx := ruleF_eq (ts.map tyE) (fs.map ftE) x
 obtain ⟨hw1, hwk, hwg, hw3⟩ := hw
 refine St.rg ?_
 refine St.boxA (.mk rfl) rfl (fun b3 => ?_)
 refine St.boxA (.mk rfl) rfl (fun b4 => ?_)
 refine St.boxA (.mk rfl) rfl (fun b5 => ?_)
 refine St.asg ?_
 refine St.nil (St.then_normal (St.seq (St.seq (St.rg ?_))))
 refine St.ev _ (Ev.fldb0 (.mk rfl) fo91_2) rfl ?_
 refine St.ev _ (Ev.ldb (.mk rfl) Tryd.underlying3 trivial (by rfl)) rfl ?_
 refine St.ev _ (Ev.lss (.mk rfl) (.mk rfl)) rfl ?_
 refine St.mv ?_
 refine St.gf _ rfl rfl (fun hg => Ev.fldb0 (.mk rfl) fo91_2) rfl ?_
 refine St.gf _ rfl rfl (fun hg => Ev.ldb (Opd.gv rfl hg) Tryd.underlying3 trivial (by rfl)) rfl ?_
 refine St.gf _ rfl rfl (fun hg => Ev.gtr (Opd.gv rfl hg) (.mk rfl)) rfl ?_
 refine St.ev _ (Ev.or (.mk rfl) (fun hp => Opd.gv rfl hp)) rfl ?_
 refine St.mv ?_
 refine St.gf _ rfl rfl (fun hg => Ev.fldb0 (.mk rfl) fo91_3) rfl ?_
 refine St.gf _ rfl rfl (fun hg => Ev.ldb (Opd.gv rfl hg) Tryd.underlying3 trivial (by rfl)) rfl ?_
 refine St.gf _ rfl rfl (fun hg => Ev.lss (Opd.gv rfl hg) (.mk rfl)) rfl ?_
 refine St.ev _ (Ev.or (.mk rfl) (fun hp => Opd.gv rfl hp)) rfl ?_
 refine St.mv ?_
 refine St.gf _ rfl rfl (fun hg => Ev.fldb0 (.mk rfl) fo91_3) rfl ?_
 refine St.gf _ rfl rfl (fun hg => Ev.ldb (Opd.gv rfl hg) Tryd.underlying3 trivial (by rfl)) rfl ?_
 refine St.gf _ rfl rfl (fun hg => Ev.gtr (Opd.gv rfl hg) (.mk rfl)) rfl ?_
 refine St.ev _ (Ev.or (.mk rfl) (fun hp => Opd.gv rfl hp)) rfl ?_
 refine St.nil (St.then_normal ?_)
 refine St.cond _ rfl (fun h25 => ?_) (fun h25 => ?_)
 ·skip
  try simp only [jbAll] at h25
  rw [if_pos (by omega)] at hlx
  refine St.seq (St.rg ?_)
  refine St.asg ?_
  refine St.nil (St.then_normal (St.rett (St.then_ret ?_)))
  refine St.rets [_] [] Tryd.results41 ⟨rfl, trivial⟩ ?_ (fun _ hw => hw.sub)
  exact ie hlx.symm
 ·skip
  try simp only [jbAll] at h25
  rw [if_neg (by omega)] at hlx
  refine St.skip (St.then_normal (St.seq (St.seq (St.rg ?_))))
  refine St.ev _ (Ev.ldbA (.mk rfl) Tryd.underlying25 trivial (by exact sz25)) rfl ?_
  refine St.ev _ (Ev.ldbA (.mk rfl) Tryd.underlying102 trivial (by exact sz102)) rfl ?_
  refine St.ev _ (Ev.fldb0 (.mk rfl) fo91_1) rfl ?_
  refine St.ev _ (Ev.ldbP 1 (.mk rfl) Tryd.underlying30 trivial sz30 rfl rfl) rfl ?_
  refine St.slot 29 (graphV x.graph) rfl rfl ?_
  refine St.ev _ (Ev.call (Within_spec tv xv w1 w2 ts fs x.graph hT hF) cb43 (.cons (.mk rfl) (.cons (.mk rfl) (.cons (.mk rfl) .nil)))) rfl ?_
  refine St.alloc zc42 rfl (fun b7 => ?_)
  refine St.storeA (Opd.mk rfl) (Opd.mk rfl) sz42 (by first | simp only [List.length_cons, List.length_nil] | rfl) rfl ?_
  refine St.nil (St.then_normal (St.seq (St.rg ?_)))
  refine St.ev _ (Ev.fldb0 (.mk rfl) fo42_0) rfl ?_
  refine St.ev _ (Ev.ldb (.mk rfl) Tryd.underlying3 trivial (by rfl)) rfl ?_
  refine St.ev _ (Ev.neq (.mk rfl) (.mk rfl)) rfl ?_
  refine St.nil (St.then_normal ?_)
  refine St.cond _ rfl (fun h33 => ?_) (fun h33 => ?_)
  ·skip
   skip
   have hb : (withinF (ts.map tyE) (fs.map ftE) (grE x.graph)).1 ≠ 0 := by simpa using h33
   rw [if_pos hb] at hlx
   refine St.seq (St.rg ?_)
   refine St.ev _ (Ev.fldb0 (.mk rfl) fo42_0) rfl ?_
   refine St.ev _ (Ev.ldb (.mk rfl) Tryd.underlying3 trivial (by rfl)) rfl ?_
   refine St.asg ?_
   refine St.nil (St.then_normal (St.rett (St.then_ret ?_)))
   refine St.rets [_] [] Tryd.results41 ⟨rfl, trivial⟩ ?_ (fun _ hw => hw.sub)
   exact ie hlx.symm
  ·skip
   skip
   have hb : ¬ (withinF (ts.map tyE) (fs.map ftE) (grE x.graph)).1 ≠ 0 := by simpa using h33
   rw [if_neg hb] at hlx
   obtain ⟨hn0, hna⟩ := within_places (by rw [List.length_map]; exact hFl) (Decidable.not_not.1 hb)
   refine St.skip (St.then_normal (St.seq (St.seq (St.rg ?_))))
   refine St.ev _ (Ev.fldb0 (.mk rfl) fo91_1) rfl ?_
   refine St.ev _ (Ev.ldbP 1 (.mk rfl) Tryd.underlying30 trivial sz30 rfl rfl) rfl ?_
   refine St.slot 37 (graphV x.graph) rfl rfl ?_
   refine St.ev _ (Ev.fldb0 (.mk rfl) fo91_2) rfl ?_
   refine St.ev _ (Ev.ldb (.mk rfl) Tryd.underlying3 trivial (by rfl)) rfl ?_
   refine St.ev _ (Ev.call (Places_spec x.graph x.kids hn0 hna) cb54 (.cons (.mk rfl) (.cons (.mk rfl) .nil))) rfl ?_
   refine St.ev _ (Ev.not (.mk rfl)) rfl ?_
   refine St.nil (St.then_normal ?_)
   refine St.cond _ rfl (fun h41 => ?_) (fun h41 => ?_)
   ·skip
    skip
    rw [if_pos (by simpa using h41)] at hlx
    refine St.seq (St.rg ?_)
    refine St.asg ?_
    refine St.nil (St.then_normal (St.rett (St.then_ret ?_)))
    refine St.rets [_] [] Tryd.results41 ⟨rfl, trivial⟩ ?_ (fun _ hw => hw.sub)
    exact ie hlx.symm
   ·skip
    skip
    rw [if_neg (by simpa using h41)] at hlx
    refine St.skip (St.then_normal (St.seq (St.rg ?_)))
    refine St.ev _ (Ev.fldb0 (.mk rfl) fo91_4) rfl ?_
    refine St.ev _ (Ev.ldbP 6 (.mk rfl) Tryd.underlying80 trivial sz80 rfl rfl) rfl ?_
    refine St.slot 43 (termV x.mean) rfl rfl ?_
    refine St.ev _ (Ev.call (termVal_spec x.mean hw3) cb55 (.cons (.mk rfl) .nil)) rfl ?_
    refine St.ev _ (Ev.field1 (.mk rfl) Tryd.underlying42 rfl (by first | rw [Tryd.underlying3] | (dsimp only; rw [Tryd.underlying3]) | kernel_rfl) rfl) rfl ?_
    refine St.asg ?_
    refine St.nil (St.then_normal (St.rett ?_))
    refine St.rets [_] [] Tryd.results41 ⟨rfl, trivial⟩ ?_ (fun _ hw => hw.sub)
    exact ie hlx.symm
end Go.Proofs.YtolmidffiegkaaaDoor

/-
  (YtolmidffiegkaaaDoorQ24)
  The walk of the check of a grammar.
  Conditions: none beyond the sizes.
-/
set_option maxRecDepth 20000
set_option linter.unusedSimpArgs false
set_option linter.unusedVariables false
namespace Go.Proofs.YtolmidffiegkaaaDoor
open Go Go.J
theorem ruFrom_drop {T : List Ty0} {Fs : List Ft0} {l : List Ru0} {k : Nat} {t : Ru0} (ht : l[k]? = some t) (known : List Str) : ruFrom T Fs known k (l.drop k) = if isName t.name = false then (10, (k : Int)) else if t.name ∈ known then (7, (k : Int)) else if ruleF T Fs t ≠ 0 then (ruleF T Fs t, (k : Int)) else ruFrom T Fs (known ++ [t.name]) (k + 1) (l.drop (k + 1)) := by rw [drop_of_some ht, ruFrom]
theorem ruFrom_end {T : List Ty0} {Fs : List Ft0} {l : List Ru0} {k : Nat} (h : l.length ≤ k) (known : List Str) : ruFrom T Fs known k (l.drop k) = (0, 0) := by rw [List.drop_of_length_le h, ruFrom]
theorem lxFrom_drop {T : List Ty0} {Fs : List Ft0} {l : List Lx0} {k : Nat} {t : Lx0} (ht : l[k]? = some t) : lxFrom T Fs k (l.drop k) = if lexF T Fs t ≠ 0 then (lexF T Fs t, (k : Int)) else lxFrom T Fs (k + 1) (l.drop (k + 1)) := by rw [drop_of_some ht, lxFrom]
theorem lxFrom_end {T : List Ty0} {Fs : List Ft0} {l : List Lx0} {k : Nat} (h : l.length ≤ k) : lxFrom T Fs k (l.drop k) = (0, 0) := by rw [List.drop_of_length_le h, lxFrom]
theorem grmF_eq (g : GrmD) : grmF (gmE g) = if (hierF (g.types.map tyE) (g.feats.map ftE)).1 ≠ 0 then hierF (g.types.map tyE) (g.feats.map ftE) else if (g.feats.map ftE).length ≤ 3 then (9, -1) else if 40 < (g.rules.map ruE).length ∨ 100 < (g.lexes.map lxE).length then (2, -1)
 else if (ruFrom (g.types.map tyE) (g.feats.map ftE) [] 0 (g.rules.map ruE)).1 ≠ 0 then ruFrom (g.types.map tyE) (g.feats.map ftE) [] 0 (g.rules.map ruE) else if (lxFrom (g.types.map tyE) (g.feats.map ftE) 0 (g.lexes.map lxE)).1 ≠ 0 then lxFrom (g.types.map tyE) (g.feats.map ftE) 0 (g.lexes.map lxE)
 else if (withinF (g.types.map tyE) (g.feats.map ftE) (grE g.start)).1 ≠ 0 then ((withinF (g.types.map tyE) (g.feats.map ftE) (grE g.start)).1, -1) else (0, 0) := rfl
theorem if_code {r x E : Int × Int} {c i : Int} (h : x = if r.1 ≠ 0 then r else E) (e : r = (c, i)) (hc : c ≠ 0) : x = (c, i) := by rw [h, if_pos (by rw [e]; exact hc), e]
theorem if_fine {r x E : Int × Int} (h : x = if r.1 ≠ 0 then r else E) (e : r = (0, 0)) : x = E := by rw [h, if_neg (by rw [e]; simp)]
set_option maxHeartbeats 4000000 in
theorem grmVal_spec (g : GrmD) : FnVw Tryd.prog 14 #[grmV g] [grmD g, tz, u8] (fv (grmF (gmE g))) := by
 refine FnVw.body (args := [grmV g]) (ds := [grmD g, tz, u8]) 112 Tryd.func14 rfl Tryd.ntmps14 rfl (fun c hdr => ?_)
 refine St.cast (H' := [dat (grmD g), dat (tz), dat (u8)]) rfl ?_
 refine St.seq ?_
 refine St.openD (grmD g) (fun _ : Unit => grmL g) (fun ρ h => ⟨(), h⟩) fun _ => ?_
 refine St.cast (H' := [dat (sl tyR g.tv.1 g.types), dat (dall tyD g.types), dat (sl featR g.fv.1 g.feats), dat (sl ruleR g.rv.1 g.rules), dat (dall ruleD g.rules), dat (sl lexR g.xv.1 g.lexes), dat (dall lexD g.lexes), dat (graphD g.start), dat (grmD g), dat (tz), dat (u8)]) rfl ?_
 have hgf := grmF_eq g
 have hTl : (g.types.map tyE).length = g.types.length := List.length_map ..
 have hFl : (g.feats.map ftE).length = g.feats.length := List.length_map ..
 have hRl : (g.rules.map ruE).length = g.rules.length := List.length_map ..
 have hXl : (g.lexes.map lxE).length = g.lexes.length := List.length_map ..
 refine St.wf g.rv.1 (fun hrw hrl => ?_)
 refine St.wf g.xv.1 (fun hxw hxl => ?_)
 refine St.rg ?_
 refine St.boxA (.mk rfl) rfl (fun b1 => ?_)
 refine St.alloc zc42 rfl (fun b2 => ?_)
 refine St.nil (St.then_normal (St.seq (St.rg ?_)))
 refine St.ev _ (Ev.fldb0 (.mk rfl) fo32_0) rfl ?_
 refine St.ev _ (Ev.ldbP 2 (.mk rfl) Tryd.underlying25 trivial sz25 rfl rfl) rfl ?_
 refine St.slot 17 (.agg #[g.tv.1, g.fv.1]) rfl rfl ?_
 refine St.alloc zc25 rfl (fun b3 => ?_)
 refine St.storeA (Opd.mk rfl) (Opd.mk rfl) sz25 (by first | simp only [List.length_cons, List.length_nil] | rfl) (by simp only [List.all_cons, List.all_nil, Bool.and_true, Bool.and_eq_true]; exact ⟨g.tv.2, g.fv.2⟩) ?_
 refine St.nil (St.then_normal (St.seq (St.seq (St.rg ?_))))
 refine St.ev _ (Ev.ldbA (.mk rfl) Tryd.underlying25 trivial (by exact sz25)) rfl ?_
 refine St.ev _ (Ev.call (hierVal_spec g.tv g.fv g.types g.feats) cb37 (.cons (.mk rfl) .nil)) rfl ?_
 refine St.alloc zc42 rfl (fun b4 => ?_)
 refine St.storeA (Opd.mk rfl) (Opd.mk rfl) sz42 (by first | simp only [List.length_cons, List.length_nil] | rfl) rfl ?_
 refine St.nil (St.then_normal (St.seq (St.rg ?_)))
 refine St.ev _ (Ev.fldb0 (.mk rfl) fo42_0) rfl ?_
 refine St.ev _ (Ev.ldb (.mk rfl) Tryd.underlying3 trivial (by rfl)) rfl ?_
 refine St.ev _ (Ev.neq (.mk rfl) (.mk rfl)) rfl ?_
 refine St.nil (St.then_normal ?_)
 refine St.cond _ rfl (fun h22 => ?_) (fun h22 => ?_)
 ·skip
  skip
  have hb : (hierF (g.types.map tyE) (g.feats.map ftE)).1 ≠ 0 := by simpa using h22
  rw [if_pos hb] at hgf
  refine St.seq (St.rg ?_)
  refine St.ev _ (Ev.ldbA (.mk rfl) Tryd.underlying42 trivial (by exact sz42)) rfl ?_
  refine St.storeA (Opd.mk rfl) (Opd.mk rfl) sz42 (by first | simp only [List.length_cons, List.length_nil] | rfl) rfl ?_
  refine St.nil (St.then_normal (St.rett (St.then_ret ?_)))
  refine St.rets [_] [] Tryd.results14 ⟨⟨_, _, _, _, rfl, InB.mem, .inl ⟨⟨_, Tryd.underlying42⟩, sz42, rfl⟩⟩, trivial⟩ ?_ (fun _ hw => hw.sub)
  exact congrArg fv hgf.symm
 ·skip
  skip
  have hb : ¬ (hierF (g.types.map tyE) (g.feats.map ftE)).1 ≠ 0 := by simpa using h22
  rw [if_neg hb] at hgf
  obtain ⟨_, hT, hF40, hF0⟩ := hier_ok (Decidable.not_not.1 hb)
  have hF : ∀ f ∈ g.feats, 0 ≤ f.of_ ∧ f.of_ < g.types.length ∧ 0 ≤ f.value ∧ f.value < g.types.length := fun f hf => by have := hF0 (ftE f) (List.mem_map_of_mem hf); rw [hTl] at this; exact this
  refine St.skip (St.then_normal (St.seq (St.seq (St.rg ?_))))
  refine St.ev _ (Ev.fldb0 (.mk rfl) fo25_1) rfl ?_
  refine St.ev _ (Ev.ldb (.mk rfl) Tryd.underlying23 trivial (by rfl)) rfl ?_
  refine St.ev _ (Ev.lensl (.mk rfl) Tryd.underlying23) rfl ?_
  refine St.ev _ (Ev.leq (.mk rfl) (.mk rfl)) rfl ?_
  refine St.nil (St.then_normal ?_)
  refine St.cond _ rfl (fun h27 => ?_) (fun h27 => ?_)
  ·skip
   try simp only [jbAll] at h27
   rw [if_pos (by omega)] at hgf
   refine St.seq (St.rg ?_)
   refine St.ev _ (Ev.call (grammarFault_spec 9 (-1)) cb38 (.cons (.mk rfl) (.cons (.mk rfl) .nil))) rfl ?_
   refine St.storeA (Opd.mk rfl) (Opd.mk rfl) sz42 (by first | simp only [List.length_cons, List.length_nil] | rfl) rfl ?_
   refine St.nil (St.then_normal (St.rett (St.then_ret ?_)))
   refine St.rets [_] [] Tryd.results14 ⟨⟨_, _, _, _, rfl, InB.mem, .inl ⟨⟨_, Tryd.underlying42⟩, sz42, rfl⟩⟩, trivial⟩ ?_ (fun _ hw => hw.sub)
   exact congrArg fv hgf.symm
  ·skip
   try simp only [jbAll] at h27
   rw [if_neg (by omega)] at hgf
   refine St.skip (St.then_normal (St.seq (St.seq (St.rg ?_))))
   refine St.ev _ (Ev.fldb0 (.mk rfl) fo32_1) rfl ?_
   refine St.ev _ (Ev.ldb (.mk rfl) Tryd.underlying26 trivial (by rfl)) rfl ?_
   refine St.ev _ (Ev.lensl (.mk rfl) Tryd.underlying26) rfl ?_
   refine St.ev _ (Ev.gtr (.mk rfl) (.mk rfl)) rfl ?_
   refine St.mv ?_
   refine St.gf _ rfl rfl (fun hg => Ev.fldb0 (.mk rfl) fo32_2) rfl ?_
   refine St.gf _ rfl rfl (fun hg => Ev.ldb (Opd.gv rfl hg) Tryd.underlying27 trivial (by rfl)) rfl ?_
   refine St.gf _ rfl rfl (fun hg => Ev.lensl (Opd.gv rfl hg) Tryd.underlying27) rfl ?_
   refine St.gf _ rfl rfl (fun hg => Ev.gtr (Opd.gv rfl hg) (.mk rfl)) rfl ?_
   refine St.ev _ (Ev.or (.mk rfl) (fun hp => Opd.gv rfl hp)) rfl ?_
   refine St.nil (St.then_normal ?_)
   refine St.cond _ rfl (fun h38 => ?_) (fun h38 => ?_)
   ·skip
    try simp only [jbAll] at h38
    rw [if_pos (by omega)] at hgf
    refine St.seq (St.rg ?_)
    refine St.ev _ (Ev.call (grammarFault_spec 2 (-1)) cb38 (.cons (.mk rfl) (.cons (.mk rfl) .nil))) rfl ?_
    refine St.storeA (Opd.mk rfl) (Opd.mk rfl) sz42 (by first | simp only [List.length_cons, List.length_nil] | rfl) rfl ?_
    refine St.nil (St.then_normal (St.rett (St.then_ret ?_)))
    refine St.rets [_] [] Tryd.results14 ⟨⟨_, _, _, _, rfl, InB.mem, .inl ⟨⟨_, Tryd.underlying42⟩, sz42, rfl⟩⟩, trivial⟩ ?_ (fun _ hw => hw.sub)
    exact congrArg fv hgf.symm
   ·skip
    try simp only [jbAll] at h38
    rw [if_neg (by omega)] at hgf
    refine St.skip (St.then_normal (St.seq (St.rg ?_)))
    refine St.ev _ (Ev.fldb0 (.mk rfl) fo25_0) rfl ?_
    refine St.ev _ (Ev.ldb (.mk rfl) Tryd.underlying22 trivial (by rfl)) rfl ?_
    refine St.calld (Tables_spec g.tv.1 g.types hT) cb39 (.cons (.mk rfl) .nil) rfl ?_
    rintro v42 _ ⟨w1, w2, rfl, rfl⟩
    refine St.app2 ?_
    refine St.alloc zc102 rfl (fun b5 => ?_)
    refine St.storeA (Opd.mk rfl) (Opd.mk rfl) sz102 (by first | simp only [List.length_cons, List.length_nil] | rfl) (by simp only [List.all_cons, List.all_nil, Bool.and_true, Bool.and_eq_true]; exact ⟨w1.2, w2.2⟩) ?_
    refine St.nil (St.then_normal (St.seq (St.rg ?_)))
    refine St.makeMap mkStr rfl (fun b43 => ?_)
    refine St.asg ?_
    refine St.nil (St.then_normal (St.seq (St.seq (St.rg ?_))))
    refine St.ev _ (Ev.fldb0 (.mk rfl) fo32_1) rfl ?_
    refine St.ev _ (Ev.ldb (.mk rfl) Tryd.underlying26 trivial (by rfl)) rfl ?_
    refine St.ev _ (Ev.lensl (.mk rfl) Tryd.underlying26) rfl ?_
    refine St.mv ?_
    refine St.nil (St.then_normal (St.block ?_))
    refine St.loopH2 (ι := Nat) (κ := List (Str × Value)) (fun k m T => (47, iv k) :: T) (fun k m => [blk b43 (mobj mkStr m), blk b1 (.cells [g.tv.1, g.fv.1, g.rv.1, g.xv.1, g.start.nv.1].toArray 32 (0, 0)), blk b2 (.cells [iv 0, iv 0].toArray 42 (0, 0)), blk b3 (.cells [g.tv.1, g.fv.1].toArray 25 (0, 0)), blk b5 (.cells [w1.1, w2.1].toArray 102 (0, 0)), dat (sl tyR g.tv.1 g.types), dat (dall tyD g.types), dat (sl featR g.fv.1 g.feats), dat (sl ruleR g.rv.1 g.rules), dat (dall ruleD g.rules), dat (sl lexR g.xv.1 g.lexes), dat (dall lexD g.lexes), dat (graphD g.start), dat (sl u64R w1.1 (upsL (g.types.map tyE))), dat (sl u64R w2.1 (dnsL (g.types.map tyE))), dat (u8)]) (fun k m => k ≤ g.rules.length ∧ ruFrom (g.types.map tyE) (g.feats.map ftE) [] 0 (g.rules.map ruE) = ruFrom (g.types.map tyE) (g.feats.map ftE) ((g.rules.take k).map RuleD.name) k ((g.rules.map ruE).drop k) ∧ KnM m ((g.rules.take k).map RuleD.name)) (fun k m => g.rules.length - k) 0 [] (Keep.cons 1 rfl (Keep.cons 2 rfl (Keep.cons 3 rfl (Keep.cons 5 rfl (Keep.cons 6 rfl (Keep.cons 45 rfl (Keep.cons 46 rfl Keep.nil))))))) ⟨Nat.zero_le _, rfl, KnM.nil⟩ (by repeat (first | exact Sub.nil | refine Sub.cons (by first | rfl | exact congrArg (fun z => some (iv z)) (by first | omega | (dsimp only; omega)) | exact congrArg (fun z => some (Value.bool z)) (by first | assumption | exact Eq.symm (by assumption))) ?_)) (fun _ hw => hw.sub) ?_
    rintro k m ⟨hk, hv, hkn⟩
    refine St.seq (St.rg ?_)
    refine St.ev _ (Ev.lss (.mk rfl) (.mk rfl)) rfl ?_
    refine St.nil (St.then_normal (St.seq ?_))
    refine St.cond _ rfl (fun h48 => ?_) (fun h48 => ?_)
    ·skip
     try simp only [jbAll] at h48
     obtain ⟨t, ht⟩ := some_of_lt (show k < g.rules.length by omega)
     have htm := List.mem_of_getElem? ht
     have hst := ruFrom_drop (T := (g.types.map tyE)) (Fs := (g.feats.map ftE)) (l := g.rules.map ruE) (k := k) (t := ruE t) (by rw [List.getElem?_map, ht]; rfl) ((g.rules.take k).map RuleD.name)
     have hnl : t.name.length ≤ 9223372036854775807 := by have := (hrw t htm).1; simp only [slen] at this; omega
     refine St.dallAt ruleD g.rules (x := t) htm ?_
     refine St.skip (St.then_normal (St.seq (St.block (St.seq (St.rg ?_)))))
     refine St.mv ?_
     refine St.ev _ (Ev.idxaddr (k := k) (.mk rfl) (.mk rfl) Tryd.underlying26 sz91 (by omega) (by omega)) rfl ?_
     refine St.ev _ (Ev.ldA (.mk rfl) ht Tryd.underlying91 trivial sz91 Cel.eq) rfl ?_
     refine St.alloc zc91 rfl (fun b8 => ?_)
     refine St.asg ?_
     refine St.storeA (Opd.mk rfl) (Opd.mk rfl) sz91 (by first | simp only [List.length_cons, List.length_nil] | rfl) (by simp only [List.all_cons, List.all_nil, Bool.and_true, Bool.and_eq_true]; exact ⟨rfl, t.graph.nv.2, rfl, rfl, rfl, rfl, rfl, rfl, t.mean.type.av.2, t.mean.av.2⟩) ?_
     refine St.nil (St.then_normal (St.seq (St.seq (St.rg ?_))))
     refine St.ev _ (Ev.fldb0 (.mk rfl) fo91_0) rfl ?_
     refine St.ev _ (Ev.ldb (.mk rfl) Tryd.underlying9 trivial (by rfl)) rfl ?_
     refine St.ev _ (Ev.call (Name_spec t.name hnl) cb40 (.cons (.mk rfl) .nil)) rfl ?_
     refine St.ev _ (Ev.not (.mk rfl)) rfl ?_
     refine St.nil (St.then_normal ?_)
     refine St.cond _ rfl (fun h55 => ?_) (fun h55 => ?_)
     ·skip
      try simp only [jbAll] at h55
      rw [if_pos (show isName (ruE t).name = false from (by simpa using h55 : isName t.name = false))] at hst
      refine St.seq (St.rg ?_)
      refine St.mv ?_
      refine St.ev _ (Ev.call (grammarFault_spec 10 k) cb38 (.cons (.mk rfl) (.cons (.mk rfl) .nil))) rfl ?_
      refine St.storeA (Opd.mk rfl) (Opd.mk rfl) sz42 (by first | simp only [List.length_cons, List.length_nil] | rfl) rfl ?_
      refine St.nil (St.then_normal (St.rett (St.then_ret (St.in_ret (St.then_ret (St.then_ret (St.in_ret (St.then_ret ?_))))))))
      refine St.rets [_] [] Tryd.results14 ⟨⟨_, _, _, _, rfl, InB.mem, .inl ⟨⟨_, Tryd.underlying42⟩, sz42, rfl⟩⟩, trivial⟩ ?_ (fun _ hw => hw.sub)
      exact congrArg fv (if_code hgf (hv.trans hst) (by decide)).symm
     ·skip
      try simp only [jbAll] at h55
      rw [if_neg (show ¬ isName (ruE t).name = false from (by simpa using h55 : ¬ isName t.name = false))] at hst
      refine St.skip (St.then_normal (St.seq (St.seq (St.rg ?_))))
      refine St.mv ?_
      refine St.ev _ (Ev.fldb0 (.mk rfl) fo91_0) rfl ?_
      refine St.ev _ (Ev.ldb (.mk rfl) Tryd.underlying9 trivial (by rfl)) rfl ?_
      refine St.ev _ (Ev.lookup2 mkStr (k := t.name) (.mk rfl) (.mk rfl) Tryd.underlying104 (by exact Tryd.underlying9) zv3) rfl ?_
      refine St.mv ?_
      refine St.ev _ (Ev.extract (.mk rfl) rfl) rfl ?_
      refine St.ev _ (Ev.extract (.mk rfl) rfl) rfl ?_
      refine St.slot 64 (.bool (decide (t.name ∈ (g.rules.take k).map RuleD.name))) rfl (congrArg Value.bool (hkn t.name)) ?_
      refine St.asg ?_
      refine St.asg ?_
      refine St.nil (St.then_normal (St.seq (St.rg ?_)))
      refine St.mv ?_
      refine St.nil (St.then_normal ?_)
      refine St.cond _ rfl (fun h65 => ?_) (fun h65 => ?_)
      ·skip
       try simp only [jbAll] at h65
       rw [if_pos (show (ruE t).name ∈ (g.rules.take k).map RuleD.name from h65)] at hst
       refine St.seq (St.rg ?_)
       refine St.mv ?_
       refine St.ev _ (Ev.call (grammarFault_spec 7 k) cb38 (.cons (.mk rfl) (.cons (.mk rfl) .nil))) rfl ?_
       refine St.storeA (Opd.mk rfl) (Opd.mk rfl) sz42 (by first | simp only [List.length_cons, List.length_nil] | rfl) rfl ?_
       refine St.nil (St.then_normal (St.rett (St.then_ret (St.in_ret (St.then_ret (St.then_ret (St.in_ret (St.then_ret ?_))))))))
       refine St.rets [_] [] Tryd.results14 ⟨⟨_, _, _, _, rfl, InB.mem, .inl ⟨⟨_, Tryd.underlying42⟩, sz42, rfl⟩⟩, trivial⟩ ?_ (fun _ hw => hw.sub)
       exact congrArg fv (if_code hgf (hv.trans hst) (by decide)).symm
      ·skip
       try simp only [jbAll] at h65
       rw [if_neg (show ¬ (ruE t).name ∈ (g.rules.take k).map RuleD.name from h65)] at hst
       refine St.skip (St.then_normal (St.seq (St.rg ?_)))
       refine St.mv ?_
       refine St.ev _ (Ev.fldb0 (.mk rfl) fo91_0) rfl ?_
       refine St.ev _ (Ev.ldb (.mk rfl) Tryd.underlying9 trivial (by rfl)) rfl ?_
       refine St.mv ?_
       refine St.mapUpdate mkStr (k := t.name) (.mk rfl) (.mk rfl) (.mk rfl) Tryd.underlying104 (by exact Tryd.underlying9) ?_
       refine St.nil (St.then_normal (St.seq (St.rg ?_)))
       refine St.ev _ (Ev.ldbA (.mk rfl) Tryd.underlying25 trivial (by exact sz25)) rfl ?_
       refine St.ev _ (Ev.ldbA (.mk rfl) Tryd.underlying102 trivial (by exact sz102)) rfl ?_
       refine St.ev _ (Ev.ldbA (.mk rfl) Tryd.underlying91 trivial (by exact sz91)) rfl ?_
       refine St.ev _ (Ev.call (Rule_spec g.tv g.fv w1 w2 g.types g.feats t hT hF (by omega) (hrw t htm)) cb41 (.cons (.mk rfl) (.cons (.mk rfl) (.cons (.mk rfl) .nil)))) rfl ?_
       refine St.asg ?_
       refine St.nil (St.then_normal (St.seq (St.rg ?_)))
       refine St.mv ?_
       refine St.ev _ (Ev.neq (.mk rfl) (.mk rfl)) rfl ?_
       refine St.nil (St.then_normal ?_)
       refine St.cond _ rfl (fun h77 => ?_) (fun h77 => ?_)
       ·skip
        skip
        have hrb : ruleF (g.types.map tyE) (g.feats.map ftE) (ruE t) ≠ 0 := by simpa using h77
        rw [if_pos hrb] at hst
        refine St.seq (St.rg ?_)
        refine St.mv ?_
        refine St.mv ?_
        refine St.ev _ (Ev.call (grammarFault_spec (ruleF (g.types.map tyE) (g.feats.map ftE) (ruE t)) k) cb38 (.cons (.mk rfl) (.cons (.mk rfl) .nil))) rfl ?_
        refine St.storeA (Opd.mk rfl) (Opd.mk rfl) sz42 (by first | simp only [List.length_cons, List.length_nil] | rfl) rfl ?_
        refine St.nil (St.then_normal (St.rett (St.in_ret (St.then_ret (St.then_ret (St.in_ret (St.then_ret ?_)))))))
        refine St.rets [_] [] Tryd.results14 ⟨⟨_, _, _, _, rfl, InB.mem, .inl ⟨⟨_, Tryd.underlying42⟩, sz42, rfl⟩⟩, trivial⟩ ?_ (fun _ hw => hw.sub)
        exact congrArg fv (if_code hgf (hv.trans hst) hrb).symm
       ·skip
        skip
        have hrb : ¬ ruleF (g.types.map tyE) (g.feats.map ftE) (ruE t) ≠ 0 := by simpa using h77
        rw [if_neg hrb] at hst
        refine St.skip (St.in_normal (St.then_normal (St.rg ?_)))
        refine St.ev _ (Ev.add (.mk rfl) (.mk rfl) (by omega)) rfl ?_
        refine St.mv ?_
        refine St.nil (St.then_normal ?_)
        refine St.againH2 (k + 1) (mset m t.name (iv k)) ⟨by omega, by rw [hv, hst, map_take_snoc RuleD.name ht]; rfl, by rw [map_take_snoc RuleD.name ht]; exact hkn.snoc _ _⟩ (by first | omega | (dsimp only; omega)) (by repeat (first | exact Sub.nil | refine Sub.cons (by first | rfl | exact congrArg (fun z => some (iv z)) (by first | omega | (dsimp only; omega)) | exact congrArg (fun z => some (Value.bool z)) (by first | assumption | exact Eq.symm (by assumption))) ?_)) (fun _ hw => hw.sub)
    ·skip
     try simp only [jbAll] at h48
     rw [ruFrom_end (by omega)] at hv
     replace hgf := if_fine hgf hv
     refine St.exit (St.then_exit (St.then_exit (St.in_hit (St.then_normal (St.seq (St.seq (St.rg ?_)))))))
     refine St.ev _ (Ev.fldb0 (.mk rfl) fo32_2) rfl ?_
     refine St.ev _ (Ev.ldb (.mk rfl) Tryd.underlying27 trivial (by rfl)) rfl ?_
     refine St.ev _ (Ev.lensl (.mk rfl) Tryd.underlying27) rfl ?_
     refine St.mv ?_
     refine St.nil (St.then_normal (St.block ?_))
     refine St.loopH (ι := Nat) (fun q T => (85, iv q) :: T) (fun q => [blk b1 (.cells [g.tv.1, g.fv.1, g.rv.1, g.xv.1, g.start.nv.1].toArray 32 (0, 0)), blk b2 (.cells [iv 0, iv 0].toArray 42 (0, 0)), blk b3 (.cells [g.tv.1, g.fv.1].toArray 25 (0, 0)), blk b5 (.cells [w1.1, w2.1].toArray 102 (0, 0)), dat (sl tyR g.tv.1 g.types), dat (dall tyD g.types), dat (sl featR g.fv.1 g.feats), dat (sl ruleR g.rv.1 g.rules), dat (dall ruleD g.rules), dat (sl lexR g.xv.1 g.lexes), dat (dall lexD g.lexes), dat (graphD g.start), dat (sl u64R w1.1 (upsL (g.types.map tyE))), dat (sl u64R w2.1 (dnsL (g.types.map tyE))), dat (u8)]) (fun q => q ≤ g.lexes.length ∧ lxFrom (g.types.map tyE) (g.feats.map ftE) 0 (g.lexes.map lxE) = lxFrom (g.types.map tyE) (g.feats.map ftE) q ((g.lexes.map lxE).drop q)) (fun q => g.lexes.length - q) 0 (Keep.cons 1 rfl (Keep.cons 2 rfl (Keep.cons 3 rfl (Keep.cons 5 rfl (Keep.cons 83 rfl (Keep.cons 84 rfl Keep.nil)))))) ⟨Nat.zero_le _, rfl⟩ (by repeat (first | exact Sub.nil | refine Sub.cons (by first | rfl | exact congrArg (fun z => some (iv z)) (by first | omega | (dsimp only; omega)) | exact congrArg (fun z => some (Value.bool z)) (by first | assumption | exact Eq.symm (by assumption))) ?_)) (fun _ hw => hw.sub) ?_
     rintro q ⟨hq, hv2⟩
     refine St.seq (St.rg ?_)
     refine St.ev _ (Ev.lss (.mk rfl) (.mk rfl)) rfl ?_
     refine St.nil (St.then_normal (St.seq ?_))
     refine St.cond _ rfl (fun h86 => ?_) (fun h86 => ?_)
     ·skip
      try simp only [jbAll] at h86
      obtain ⟨x, hx⟩ := some_of_lt (show q < g.lexes.length by omega)
      have hxm := List.mem_of_getElem? hx
      have hst := lxFrom_drop (T := (g.types.map tyE)) (Fs := (g.feats.map ftE)) (l := g.lexes.map lxE) (k := q) (t := lxE x) (by rw [List.getElem?_map, hx]; rfl)
      refine St.dallAt lexD g.lexes (x := x) hxm ?_
      refine St.skip (St.then_normal (St.seq (St.block (St.seq (St.rg ?_)))))
      refine St.mv ?_
      refine St.ev _ (Ev.idxaddr (k := q) (.mk rfl) (.mk rfl) Tryd.underlying27 sz82 (by omega) (by omega)) rfl ?_
      refine St.ev _ (Ev.ldA (.mk rfl) hx Tryd.underlying82 trivial sz82 Cel.eq) rfl ?_
      refine St.alloc zc82 rfl (fun b13 => ?_)
      refine St.asg ?_
      refine St.storeA (Opd.mk rfl) (Opd.mk rfl) sz82 (by first | simp only [List.length_cons, List.length_nil] | rfl) (by simp only [List.all_cons, List.all_nil, Bool.and_true, Bool.and_eq_true]; exact ⟨rfl, x.graph.nv.2, rfl, rfl, rfl, rfl, rfl, x.mean.type.av.2, x.mean.av.2⟩) ?_
      refine St.nil (St.then_normal (St.seq (St.rg ?_)))
      refine St.ev _ (Ev.ldbA (.mk rfl) Tryd.underlying25 trivial (by exact sz25)) rfl ?_
      refine St.ev _ (Ev.ldbA (.mk rfl) Tryd.underlying102 trivial (by exact sz102)) rfl ?_
      refine St.ev _ (Ev.ldbA (.mk rfl) Tryd.underlying82 trivial (by exact sz82)) rfl ?_
      refine St.ev _ (Ev.callW hdr (Entry_spec g.tv g.fv w1 w2 g.types g.feats x hT hF (hxw x hxm)) cb42 (.cons (.mk rfl) (.cons (.mk rfl) (.cons (.mk rfl) .nil)))) rfl ?_
      refine St.asg ?_
      refine St.nil (St.then_normal (St.seq (St.rg ?_)))
      refine St.mv ?_
      refine St.ev _ (Ev.neq (.mk rfl) (.mk rfl)) rfl ?_
      refine St.nil (St.then_normal ?_)
      refine St.cond _ rfl (fun h95 => ?_) (fun h95 => ?_)
      ·skip
       skip
       have hrb : lexF (g.types.map tyE) (g.feats.map ftE) (lxE x) ≠ 0 := by simpa using h95
       rw [if_pos hrb] at hst
       refine St.seq (St.rg ?_)
       refine St.mv ?_
       refine St.mv ?_
       refine St.ev _ (Ev.call (grammarFault_spec (lexF (g.types.map tyE) (g.feats.map ftE) (lxE x)) q) cb38 (.cons (.mk rfl) (.cons (.mk rfl) .nil))) rfl ?_
       refine St.storeA (Opd.mk rfl) (Opd.mk rfl) sz42 (by first | simp only [List.length_cons, List.length_nil] | rfl) rfl ?_
       refine St.nil (St.then_normal (St.rett (St.in_ret (St.then_ret (St.then_ret (St.in_ret (St.then_ret ?_)))))))
       refine St.rets [_] [] Tryd.results14 ⟨⟨_, _, _, _, rfl, InB.mem, .inl ⟨⟨_, Tryd.underlying42⟩, sz42, rfl⟩⟩, trivial⟩ ?_ (fun _ hw => hw.sub)
       exact congrArg fv (if_code hgf (hv2.trans hst) hrb).symm
      ·skip
       skip
       have hrb : ¬ lexF (g.types.map tyE) (g.feats.map ftE) (lxE x) ≠ 0 := by simpa using h95
       rw [if_neg hrb] at hst
       refine St.skip (St.in_normal (St.then_normal (St.rg ?_)))
       refine St.ev _ (Ev.add (.mk rfl) (.mk rfl) (by omega)) rfl ?_
       refine St.mv ?_
       refine St.nil (St.then_normal ?_)
       refine St.againH (q + 1) ⟨by omega, hv2.trans hst⟩ (by first | omega | (dsimp only; omega)) (by repeat (first | exact Sub.nil | refine Sub.cons (by first | rfl | exact congrArg (fun z => some (iv z)) (by first | omega | (dsimp only; omega)) | exact congrArg (fun z => some (Value.bool z)) (by first | assumption | exact Eq.symm (by assumption))) ?_)) (fun _ hw => hw.sub)
     ·skip
      try simp only [jbAll] at h86
      rw [lxFrom_end (by omega)] at hv2
      replace hgf := if_fine hgf hv2
      refine St.exit (St.then_exit (St.then_exit (St.in_hit (St.then_normal (St.seq (St.seq (St.rg ?_)))))))
      refine St.ev _ (Ev.ldbA (.mk rfl) Tryd.underlying25 trivial (by exact sz25)) rfl ?_
      refine St.ev _ (Ev.ldbA (.mk rfl) Tryd.underlying102 trivial (by exact sz102)) rfl ?_
      refine St.ev _ (Ev.fldb0 (.mk rfl) fo32_3) rfl ?_
      refine St.ev _ (Ev.ldbP 1 (.mk rfl) Tryd.underlying30 trivial sz30 rfl rfl) rfl ?_
      refine St.slot 103 (graphV g.start) rfl rfl ?_
      refine St.ev _ (Ev.call (Within_spec g.tv g.fv w1 w2 g.types g.feats g.start hT hF) cb43 (.cons (.mk rfl) (.cons (.mk rfl) (.cons (.mk rfl) .nil)))) rfl ?_
      refine St.alloc zc42 rfl (fun b15 => ?_)
      refine St.storeA (Opd.mk rfl) (Opd.mk rfl) sz42 (by first | simp only [List.length_cons, List.length_nil] | rfl) rfl ?_
      refine St.nil (St.then_normal (St.seq (St.rg ?_)))
      refine St.ev _ (Ev.fldb0 (.mk rfl) fo42_0) rfl ?_
      refine St.ev _ (Ev.ldb (.mk rfl) Tryd.underlying3 trivial (by rfl)) rfl ?_
      refine St.ev _ (Ev.neq (.mk rfl) (.mk rfl)) rfl ?_
      refine St.nil (St.then_normal ?_)
      refine St.cond _ rfl (fun h107 => ?_) (fun h107 => ?_)
      ·skip
       skip
       have hwb : (withinF (g.types.map tyE) (g.feats.map ftE) (grE g.start)).1 ≠ 0 := by simpa using h107
       rw [if_pos hwb] at hgf
       refine St.seq (St.rg ?_)
       refine St.ev _ (Ev.fldb0 (.mk rfl) fo42_0) rfl ?_
       refine St.ev _ (Ev.ldb (.mk rfl) Tryd.underlying3 trivial (by rfl)) rfl ?_
       refine St.ev _ (Ev.call (grammarFault_spec (withinF (g.types.map tyE) (g.feats.map ftE) (grE g.start)).1 (-1)) cb38 (.cons (.mk rfl) (.cons (.mk rfl) .nil))) rfl ?_
       refine St.storeA (Opd.mk rfl) (Opd.mk rfl) sz42 (by first | simp only [List.length_cons, List.length_nil] | rfl) rfl ?_
       refine St.nil (St.then_normal (St.rett (St.then_ret ?_)))
       refine St.rets [_] [] Tryd.results14 ⟨⟨_, _, _, _, rfl, InB.mem, .inl ⟨⟨_, Tryd.underlying42⟩, sz42, rfl⟩⟩, trivial⟩ ?_ (fun _ hw => hw.sub)
       exact congrArg fv hgf.symm
      ·skip
       skip
       have hwb : ¬ (withinF (g.types.map tyE) (g.feats.map ftE) (grE g.start)).1 ≠ 0 := by simpa using h107
       rw [if_neg hwb] at hgf
       refine St.skip (St.then_normal (St.seq (St.rg ?_)))
       refine St.ev _ (Ev.build (ps := []) (Opds.nil) (fun w => bld42_  w)) rfl ?_
       refine St.storeA (Opd.mk rfl) (Opd.mk rfl) sz42 (by first | simp only [List.length_cons, List.length_nil] | rfl) rfl ?_
       refine St.nil (St.then_normal (St.rett ?_))
       refine St.rets [_] [] Tryd.results14 ⟨⟨_, _, _, _, rfl, InB.mem, .inl ⟨⟨_, Tryd.underlying42⟩, sz42, rfl⟩⟩, trivial⟩ ?_ (fun _ hw => hw.sub)
       exact congrArg fv hgf.symm
end Go.Proofs.YtolmidffiegkaaaDoor

/-
  (YtolmidffiegkaaaDoorQ25)
  The walk of the check of a query.
  Conditions: none beyond the sizes.
-/
set_option maxRecDepth 20000
set_option linter.unusedSimpArgs false
set_option linter.unusedVariables false
namespace Go.Proofs.YtolmidffiegkaaaDoor
open Go Go.J
theorem vrFrom_drop {l : List VarD} {k : Nat} {v : VarD} (ht : l[k]? = some v) (known : List Str) : vrFrom known k (l.drop k) = if v.kind < 1 ∨ 4 < v.kind then (4, (k : Int)) else if isName v.name = false ∨ (v.kind = 2 ∧ isName v.label = false) ∨ (v.kind = 3 ∧ isWord v.label = false) then (10, (k : Int))
  else if v.name ∈ known then (7, (k : Int)) else if (v.kind = 1 ∨ v.kind = 4) ∧ v.label ≠ [] then (5, (k : Int)) else vrFrom (known ++ [v.name]) (k + 1) (l.drop (k + 1)) := by rw [drop_of_some ht, vrFrom]
theorem vrFrom_end {l : List VarD} {k : Nat} (h : l.length ≤ k) (known : List Str) : vrFrom known k (l.drop k) = (0, 0) := by rw [List.drop_of_length_le h, vrFrom]
theorem qlFrom_drop {n : Int} {m : Nat} {l : List QLnD} {k : Nat} {x : QLnD} (ht : l[k]? = some x) : qlFrom n (m + k) (l.drop k) = if x.kind < 1 ∨ 5 < x.kind then (4, ((m + k : Nat) : Int)) else if x.a < 0 ∨ n ≤ x.a ∨ x.b < 0 ∨ n ≤ x.b then (3, ((m + k : Nat) : Int)) else if x.a = x.b then (5, ((m + k : Nat) : Int)) else qlFrom n (m + (k + 1)) (l.drop (k + 1)) := by rw [drop_of_some ht, qlFrom]; rfl
theorem qlFrom_end {n : Int} {l : List QLnD} {k m : Nat} (h : l.length ≤ k) : qlFrom n m (l.drop k) = (0, 0) := by rw [List.drop_of_length_le h, qlFrom]
theorem qryF_eq (vs : List VarD) (ks : List QLnD) : qryF vs ks = if 4 < vs.length ∨ 8 < ks.length then (2, -1) else if vs.length = 0 then (9, -1) else if (vrFrom [] 0 vs).1 ≠ 0 then vrFrom [] 0 vs else qlFrom vs.length vs.length ks := rfl
set_option maxHeartbeats 4000000 in
theorem qryVal_spec (q : QryD) : FnVw Tryd.prog 15 #[queryV q] [queryD q, u8] (fv (qryF q.vars q.links)) := by
 refine FnVw.body (args := [queryV q]) (ds := [queryD q, u8]) 165 Tryd.func15 rfl Tryd.ntmps15 rfl (fun c hdr => ?_)
 refine St.cast (H' := [dat (queryD q), dat (u8)]) rfl ?_
 refine St.seq ?_
 refine St.openD (queryD q) (fun _ : Unit => queryL q) (fun ρ h => ⟨(), h⟩) fun _ => ?_
 refine St.cast (H' := [dat (sl varR q.vv.1 q.vars), dat (sl qlnR q.kv.1 q.links), dat (queryD q), dat (u8)]) rfl ?_
 have hqf := qryF_eq q.vars q.links
 refine St.wf q.vv.1 (fun hvw hvl => ?_)
 refine St.wf q.kv.1 (fun hkw hkl => ?_)
 refine St.rg ?_
 refine St.boxA (.mk rfl) rfl (fun b1 => ?_)
 refine St.alloc zc42 rfl (fun b2 => ?_)
 refine St.nil (St.then_normal (St.seq (St.seq (St.rg ?_))))
 refine St.ev _ (Ev.fldb0 (.mk rfl) fo49_0) rfl ?_
 refine St.ev _ (Ev.ldb (.mk rfl) Tryd.underlying39 trivial (by rfl)) rfl ?_
 refine St.ev _ (Ev.lensl (.mk rfl) Tryd.underlying39) rfl ?_
 refine St.ev _ (Ev.gtr (.mk rfl) (.mk rfl)) rfl ?_
 refine St.mv ?_
 refine St.gf _ rfl rfl (fun hg => Ev.fldb0 (.mk rfl) fo49_1) rfl ?_
 refine St.gf _ rfl rfl (fun hg => Ev.ldb (Opd.gv rfl hg) Tryd.underlying47 trivial (by rfl)) rfl ?_
 refine St.gf _ rfl rfl (fun hg => Ev.lensl (Opd.gv rfl hg) Tryd.underlying47) rfl ?_
 refine St.gf _ rfl rfl (fun hg => Ev.gtr (Opd.gv rfl hg) (.mk rfl)) rfl ?_
 refine St.ev _ (Ev.or (.mk rfl) (fun hp => Opd.gv rfl hp)) rfl ?_
 refine St.nil (St.then_normal ?_)
 refine St.cond _ rfl (fun h20 => ?_) (fun h20 => ?_)
 ·skip
  try simp only [jbAll] at h20
  rw [if_pos (by omega)] at hqf
  refine St.seq (St.rg ?_)
  refine St.ev _ (Ev.call (queryFault_spec 2 (-1)) cb21 (.cons (.mk rfl) (.cons (.mk rfl) .nil))) rfl ?_
  refine St.storeA (Opd.mk rfl) (Opd.mk rfl) sz42 (by first | simp only [List.length_cons, List.length_nil] | rfl) rfl ?_
  refine St.nil (St.then_normal (St.rett (St.then_ret ?_)))
  refine St.rets [_] [] Tryd.results15 ⟨⟨_, _, _, _, rfl, InB.mem, .inl ⟨⟨_, Tryd.underlying42⟩, sz42, rfl⟩⟩, trivial⟩ ?_ (fun _ hw => hw.sub)
  exact congrArg fv hqf.symm
 ·skip
  try simp only [jbAll] at h20
  rw [if_neg (by omega)] at hqf
  have hv4 : q.vars.length ≤ 4 := by omega
  have hk8 : q.links.length ≤ 8 := by omega
  refine St.skip (St.then_normal (St.seq (St.seq (St.rg ?_))))
  refine St.ev _ (Ev.fldb0 (.mk rfl) fo49_0) rfl ?_
  refine St.ev _ (Ev.ldb (.mk rfl) Tryd.underlying39 trivial (by rfl)) rfl ?_
  refine St.ev _ (Ev.lensl (.mk rfl) Tryd.underlying39) rfl ?_
  refine St.ev _ (Ev.eql (.mk rfl) (.mk rfl)) rfl ?_
  refine St.nil (St.then_normal ?_)
  refine St.cond _ rfl (fun h25 => ?_) (fun h25 => ?_)
  ·skip
   try simp only [jbAll] at h25
   rw [if_pos (by omega)] at hqf
   refine St.seq (St.rg ?_)
   refine St.ev _ (Ev.call (queryFault_spec 9 (-1)) cb21 (.cons (.mk rfl) (.cons (.mk rfl) .nil))) rfl ?_
   refine St.storeA (Opd.mk rfl) (Opd.mk rfl) sz42 (by first | simp only [List.length_cons, List.length_nil] | rfl) rfl ?_
   refine St.nil (St.then_normal (St.rett (St.then_ret ?_)))
   refine St.rets [_] [] Tryd.results15 ⟨⟨_, _, _, _, rfl, InB.mem, .inl ⟨⟨_, Tryd.underlying42⟩, sz42, rfl⟩⟩, trivial⟩ ?_ (fun _ hw => hw.sub)
   exact congrArg fv hqf.symm
  ·skip
   try simp only [jbAll] at h25
   rw [if_neg (by omega)] at hqf
   refine St.skip (St.then_normal (St.seq (St.rg ?_)))
   refine St.makeMap mkStr rfl (fun b27 => ?_)
   refine St.asg ?_
   refine St.nil (St.then_normal (St.seq (St.seq (St.rg ?_))))
   refine St.ev _ (Ev.fldb0 (.mk rfl) fo49_0) rfl ?_
   refine St.ev _ (Ev.ldb (.mk rfl) Tryd.underlying39 trivial (by rfl)) rfl ?_
   refine St.ev _ (Ev.lensl (.mk rfl) Tryd.underlying39) rfl ?_
   refine St.mv ?_
   refine St.nil (St.then_normal (St.block ?_))
   refine St.loopH2 (ι := Nat) (κ := List (Str × Value)) (fun k m T => (31, iv k) :: T) (fun k m => [blk b27 (mobj mkStr m), blk b1 (.cells [q.vv.1, q.kv.1].toArray 49 (0, 0)), blk b2 (.cells [iv 0, iv 0].toArray 42 (0, 0)), dat (sl varR q.vv.1 q.vars), dat (sl qlnR q.kv.1 q.links), dat (u8)]) (fun k m => k ≤ q.vars.length ∧ vrFrom [] 0 q.vars = vrFrom ((q.vars.take k).map VarD.name) k (q.vars.drop k) ∧ KnM m ((q.vars.take k).map VarD.name)) (fun k m => q.vars.length - k) 0 [] (Keep.cons 1 rfl (Keep.cons 2 rfl (Keep.cons 3 rfl (Keep.cons 29 rfl (Keep.cons 30 rfl Keep.nil))))) ⟨Nat.zero_le _, rfl, KnM.nil⟩ (by repeat (first | exact Sub.nil | refine Sub.cons (by first | rfl | exact congrArg (fun z => some (iv z)) (by first | omega | (dsimp only; omega)) | exact congrArg (fun z => some (Value.bool z)) (by first | assumption | exact Eq.symm (by assumption))) ?_)) (fun _ hw => hw.sub) ?_
   rintro k m ⟨hk, hv, hkn⟩
   refine St.seq (St.rg ?_)
   refine St.ev _ (Ev.lss (.mk rfl) (.mk rfl)) rfl ?_
   refine St.nil (St.then_normal (St.seq ?_))
   refine St.cond _ rfl (fun h32 => ?_) (fun h32 => ?_)
   ·skip
    try simp only [jbAll] at h32
    obtain ⟨va, ht⟩ := some_of_lt (show k < q.vars.length by omega)
    have htm := List.mem_of_getElem? ht
    have hst := vrFrom_drop ht ((q.vars.take k).map VarD.name)
    obtain ⟨hn1, hn2, hn3⟩ := hvw va htm
    replace hn1 : va.name.length ≤ 140737488351232 := hn1
    replace hn3 : va.label.length ≤ 140737488351232 := hn3
    refine St.skip (St.then_normal (St.seq (St.block (St.seq (St.rg ?_)))))
    refine St.mv ?_
    refine St.ev _ (Ev.idxaddr (k := k) (.mk rfl) (.mk rfl) Tryd.underlying39 sz38 (by omega) (by omega)) rfl ?_
    refine St.ev _ (Ev.ldA (.mk rfl) ht Tryd.underlying38 trivial sz38 Cel.eq) rfl ?_
    refine St.alloc zc38 rfl (fun b5 => ?_)
    refine St.asg ?_
    refine St.storeA (Opd.mk rfl) (Opd.mk rfl) sz38 (by first | simp only [List.length_cons, List.length_nil] | rfl) (by simp only [List.all_cons, List.all_nil, Bool.and_true, Bool.and_eq_true]; exact ⟨rfl, rfl, rfl⟩) ?_
    refine St.nil (St.then_normal (St.seq (St.rg ?_)))
    refine St.mv ?_
    refine St.ev _ (Ev.fldb0 (.mk rfl) fo38_0) rfl ?_
    refine St.ev _ (Ev.ldb (.mk rfl) Tryd.underlying9 trivial (by rfl)) rfl ?_
    refine St.ev _ (Ev.lookup2 mkStr (k := va.name) (.mk rfl) (.mk rfl) Tryd.underlying104 (by exact Tryd.underlying9) zv3) rfl ?_
    refine St.mv ?_
    refine St.ev _ (Ev.extract (.mk rfl) rfl) rfl ?_
    refine St.ev _ (Ev.extract (.mk rfl) rfl) rfl ?_
    refine St.slot 42 (.bool (decide (va.name ∈ (q.vars.take k).map VarD.name))) rfl (congrArg Value.bool (hkn va.name)) ?_
    refine St.asg ?_
    refine St.asg ?_
    refine St.nil (St.then_normal (St.seq (St.rg ?_)))
    refine St.mv ?_
    refine St.ev _ (Ev.fldb0 (.mk rfl) fo38_0) rfl ?_
    refine St.ev _ (Ev.ldb (.mk rfl) Tryd.underlying9 trivial (by rfl)) rfl ?_
    refine St.mv ?_
    refine St.mapUpdate mkStr (k := va.name) (.mk rfl) (.mk rfl) (.mk rfl) Tryd.underlying104 (by exact Tryd.underlying9) ?_
    refine St.nil (St.then_normal (St.block (St.seq (St.rg ?_))))
    refine St.ev _ (Ev.fldb0 (.mk rfl) fo38_1) rfl ?_
    refine St.ev _ (Ev.ldb (.mk rfl) Tryd.underlying3 trivial (by rfl)) rfl ?_
    refine St.ev _ (Ev.lss (.mk rfl) (.mk rfl)) rfl ?_
    refine St.mv ?_
    refine St.gf _ rfl rfl (fun hg => Ev.fldb0 (.mk rfl) fo38_1) rfl ?_
    refine St.gf _ rfl rfl (fun hg => Ev.ldb (Opd.gv rfl hg) Tryd.underlying3 trivial (by rfl)) rfl ?_
    refine St.gf _ rfl rfl (fun hg => Ev.gtr (Opd.gv rfl hg) (.mk rfl)) rfl ?_
    refine St.ev _ (Ev.or (.mk rfl) (fun hp => Opd.gv rfl hp)) rfl ?_
    refine St.asg ?_
    refine St.nil (St.then_normal ?_)
    refine St.cond _ rfl (fun h47 => ?_) (fun h47 => ?_)
    ·skip
     try simp only [jbAll] at h47
     rw [if_pos (by omega)] at hst
     refine St.seq (St.rg ?_)
     refine St.mv ?_
     refine St.ev _ (Ev.call (queryFault_spec 4 k) cb21 (.cons (.mk rfl) (.cons (.mk rfl) .nil))) rfl ?_
     refine St.storeA (Opd.mk rfl) (Opd.mk rfl) sz42 (by first | simp only [List.length_cons, List.length_nil] | rfl) rfl ?_
     refine St.nil (St.then_normal (St.rett (St.in_ret (St.in_ret (St.then_ret (St.then_ret (St.in_ret (St.then_ret ?_))))))))
     refine St.rets [_] [] Tryd.results15 ⟨⟨_, _, _, _, rfl, InB.mem, .inl ⟨⟨_, Tryd.underlying42⟩, sz42, rfl⟩⟩, trivial⟩ ?_ (fun _ hw => hw.sub)
     exact congrArg fv (if_code hqf (hv.trans hst) (by decide)).symm
    ·skip
     try simp only [jbAll] at h47
     rw [if_neg (by omega)] at hst
     refine St.join (ι := Bool) (fun bq T => (58, .bool bq) :: T) (fun bq => [blk b5 (.cells [sv va.name, iv va.kind, sv va.label].toArray 38 (0, 0)), blk b27 (mobj mkStr (mset m va.name (iv k))), blk b1 (.cells [q.vv.1, q.kv.1].toArray 49 (0, 0)), blk b2 (.cells [iv 0, iv 0].toArray 42 (0, 0)), dat (sl varR q.vv.1 q.vars), dat (sl qlnR q.kv.1 q.links), dat (u8)]) (fun bq => (bq = true ↔ (isName va.name = false ∨ (va.kind = 2 ∧ isName va.label = false) ∨ (va.kind = 3 ∧ isWord va.label = false)))) (Keep.cons 1 rfl (Keep.cons 2 rfl (Keep.cons 3 rfl (Keep.cons 4 rfl (Keep.cons 5 rfl (Keep.cons 7 rfl (Keep.cons 29 rfl (Keep.cons 30 rfl (Keep.cons 31 rfl Keep.nil))))))))) ?_ ?_
     ·skip
      refine St.seq (St.rg ?_)
      refine St.ev _ (Ev.fldb0 (.mk rfl) fo38_0) rfl ?_
      refine St.ev _ (Ev.ldb (.mk rfl) Tryd.underlying9 trivial (by rfl)) rfl ?_
      refine St.ev _ (Ev.call (Name_spec va.name (by omega)) cb40 (.cons (.mk rfl) .nil)) rfl ?_
      refine St.ev _ (Ev.not (.mk rfl)) rfl ?_
      refine St.asg ?_
      refine St.nil (St.then_normal ?_)
      refine St.cond _ rfl (fun h58 => ?_) (fun h58 => ?_)
      ·skip
       skip
       refine St.skip (St.then_normal ?_)
       refine St.met true (by first | (simp only [Bool.and_eq_true, decide_eq_true_eq, Bool.not_eq_true'] at h58b; exact ⟨fun _ => Or.inr (Or.inl h58b), fun _ => rfl⟩) | (simp only [Bool.not_eq_true'] at h58; exact ⟨fun _ => Or.inl h58, fun _ => rfl⟩)) (by repeat (first | exact Sub.nil | refine Sub.cons (by first | rfl | exact congrArg (fun z => some (iv z)) (by first | omega | (dsimp only; omega)) | exact congrArg (fun z => some (Value.bool z)) (by first | assumption | exact Eq.symm (by assumption))) ?_)) (fun _ hw => hw.sub)
      ·skip
       skip
       refine St.seq (St.rg ?_)
       refine St.ev _ (Ev.fldb0 (.mk rfl) fo38_1) rfl ?_
       refine St.ev _ (Ev.ldb (.mk rfl) Tryd.underlying3 trivial (by rfl)) rfl ?_
       refine St.ev _ (Ev.eql (.mk rfl) (.mk rfl)) rfl ?_
       refine St.mv ?_
       refine St.gt _ rfl rfl (fun hg => Ev.fldb0 (.mk rfl) fo38_2) rfl ?_
       refine St.gt _ rfl rfl (fun hg => Ev.ldb (Opd.gv rfl hg) Tryd.underlying9 trivial (by rfl)) rfl ?_
       refine St.gt _ rfl rfl (fun hg => Ev.call (Name_spec va.label (by omega)) cb40 (.cons (Opd.gv rfl hg) .nil)) rfl ?_
       refine St.gt _ rfl rfl (fun hg => Ev.not (Opd.gv rfl hg)) rfl ?_
       refine St.ev _ (Ev.and (.mk rfl) (fun hp => Opd.gv rfl hp)) rfl ?_
       refine St.asg ?_
       refine St.nil (St.then_normal ?_)
       refine St.cond _ rfl (fun h58b => ?_) (fun h58b => ?_)
       ·skip
        skip
        refine St.skip (St.then_normal ?_)
        refine St.met true (by first | (simp only [Bool.and_eq_true, decide_eq_true_eq, Bool.not_eq_true'] at h58b; exact ⟨fun _ => Or.inr (Or.inl h58b), fun _ => rfl⟩) | (simp only [Bool.not_eq_true'] at h58; exact ⟨fun _ => Or.inl h58, fun _ => rfl⟩)) (by repeat (first | exact Sub.nil | refine Sub.cons (by first | rfl | exact congrArg (fun z => some (iv z)) (by first | omega | (dsimp only; omega)) | exact congrArg (fun z => some (Value.bool z)) (by first | assumption | exact Eq.symm (by assumption))) ?_)) (fun _ hw => hw.sub)
       ·skip
        skip
        refine St.rg ?_
        refine St.ev _ (Ev.fldb0 (.mk rfl) fo38_1) rfl ?_
        refine St.ev _ (Ev.ldb (.mk rfl) Tryd.underlying3 trivial (by rfl)) rfl ?_
        refine St.ev _ (Ev.eql (.mk rfl) (.mk rfl)) rfl ?_
        refine St.mv ?_
        refine St.gt _ rfl rfl (fun hg => Ev.fldb0 (.mk rfl) fo38_2) rfl ?_
        refine St.gt _ rfl rfl (fun hg => Ev.ldb (Opd.gv rfl hg) Tryd.underlying9 trivial (by rfl)) rfl ?_
        refine St.gt _ rfl rfl (fun hg => Ev.callW hdr (Word_spec va.label (by omega)) cb44 (.cons (Opd.gv rfl hg) .nil)) rfl ?_
        refine St.gt _ rfl rfl (fun hg => Ev.not (Opd.gv rfl hg)) rfl ?_
        refine St.ev _ (Ev.and (.mk rfl) (fun hp => Opd.gv rfl hp)) rfl ?_
        refine St.asg ?_
        refine St.nil (St.then_normal ?_)
        refine St.met (decide (va.kind = 3) && !isWord va.label) (by simp only [Bool.not_eq_false', Bool.and_eq_false_iff, decide_eq_false_iff_not] at h58 h58b; simp only [Bool.and_eq_true, decide_eq_true_eq, Bool.not_eq_true']; exact ⟨fun h => Or.inr (Or.inr h), fun h => by rcases h with h | ⟨h, h2⟩ | h; (rw [h58] at h; cases h); (rcases h58b with h3 | h3; exact absurd h h3; rw [h3] at h2; cases h2); exact h⟩) (by repeat (first | exact Sub.nil | refine Sub.cons (by first | rfl | exact congrArg (fun z => some (iv z)) (by first | omega | (dsimp only; omega)) | exact congrArg (fun z => some (Value.bool z)) (by first | assumption | exact Eq.symm (by assumption))) ?_)) (fun _ hw => hw.sub)
     ·skip
      intro bq hbq
      refine St.cond _ rfl (fun h58 => ?_) (fun h58 => ?_)
      ·skip
       skip
       refine St.seq ?_
       rw [if_pos (hbq.1 h58)] at hst
       refine St.rg ?_
       refine St.mv ?_
       refine St.ev _ (Ev.call (queryFault_spec 10 k) cb21 (.cons (.mk rfl) (.cons (.mk rfl) .nil))) rfl ?_
       refine St.storeA (Opd.mk rfl) (Opd.mk rfl) sz42 (by first | simp only [List.length_cons, List.length_nil] | rfl) rfl ?_
       refine St.nil (St.then_normal (St.rett (St.in_ret (St.in_ret (St.then_ret (St.then_ret (St.in_ret (St.then_ret ?_))))))))
       refine St.rets [_] [] Tryd.results15 ⟨⟨_, _, _, _, rfl, InB.mem, .inl ⟨⟨_, Tryd.underlying42⟩, sz42, rfl⟩⟩, trivial⟩ ?_ (fun _ hw => hw.sub)
       exact congrArg fv (if_code hqf (hv.trans hst) (by decide)).symm
      ·skip
       skip
       refine St.seq ?_
       rw [if_neg (fun hp => by rw [hbq.2 hp] at h58; cases h58)] at hst
       refine St.rg ?_
       refine St.mv ?_
       refine St.asg ?_
       refine St.nil (St.then_normal ?_)
       refine St.cond _ rfl (fun h83 => ?_) (fun h83 => ?_)
       ·skip
        try simp only [jbAll] at h83
        rw [if_pos h83] at hst
        refine St.seq (St.rg ?_)
        refine St.mv ?_
        refine St.ev _ (Ev.call (queryFault_spec 7 k) cb21 (.cons (.mk rfl) (.cons (.mk rfl) .nil))) rfl ?_
        refine St.storeA (Opd.mk rfl) (Opd.mk rfl) sz42 (by first | simp only [List.length_cons, List.length_nil] | rfl) rfl ?_
        refine St.nil (St.then_normal (St.rett (St.in_ret (St.in_ret (St.then_ret (St.then_ret (St.in_ret (St.then_ret ?_))))))))
        refine St.rets [_] [] Tryd.results15 ⟨⟨_, _, _, _, rfl, InB.mem, .inl ⟨⟨_, Tryd.underlying42⟩, sz42, rfl⟩⟩, trivial⟩ ?_ (fun _ hw => hw.sub)
        exact congrArg fv (if_code hqf (hv.trans hst) (by decide)).symm
       ·skip
        try simp only [jbAll] at h83
        rw [if_neg h83] at hst
        refine St.seq (St.rg ?_)
        refine St.ev _ (Ev.fldb0 (.mk rfl) fo38_1) rfl ?_
        refine St.ev _ (Ev.ldb (.mk rfl) Tryd.underlying3 trivial (by rfl)) rfl ?_
        refine St.ev _ (Ev.eql (.mk rfl) (.mk rfl)) rfl ?_
        refine St.mv ?_
        refine St.gf _ rfl rfl (fun hg => Ev.fldb0 (.mk rfl) fo38_1) rfl ?_
        refine St.gf _ rfl rfl (fun hg => Ev.ldb (Opd.gv rfl hg) Tryd.underlying3 trivial (by rfl)) rfl ?_
        refine St.gf _ rfl rfl (fun hg => Ev.eql (Opd.gv rfl hg) (.mk rfl)) rfl ?_
        refine St.ev _ (Ev.or (.mk rfl) (fun hp => Opd.gv rfl hp)) rfl ?_
        refine St.mv ?_
        refine St.gt _ rfl rfl (fun hg => Ev.fldb0 (.mk rfl) fo38_2) rfl ?_
        refine St.gt _ rfl rfl (fun hg => Ev.ldb (Opd.gv rfl hg) Tryd.underlying9 trivial (by rfl)) rfl ?_
        refine St.gt _ rfl rfl (fun hg => Ev.strne (Opd.gv rfl hg) (.mk rfl)) rfl ?_
        refine St.ev _ (Ev.and (.mk rfl) (fun hp => Opd.gv rfl hp)) rfl ?_
        refine St.asg ?_
        refine St.nil (St.then_normal ?_)
        refine St.cond _ rfl (fun h87 => ?_) (fun h87 => ?_)
        ·skip
         skip
         rw [if_pos (by simpa using h87)] at hst
         refine St.seq (St.rg ?_)
         refine St.mv ?_
         refine St.ev _ (Ev.call (queryFault_spec 5 k) cb21 (.cons (.mk rfl) (.cons (.mk rfl) .nil))) rfl ?_
         refine St.storeA (Opd.mk rfl) (Opd.mk rfl) sz42 (by first | simp only [List.length_cons, List.length_nil] | rfl) rfl ?_
         refine St.nil (St.then_normal (St.rett (St.in_ret (St.in_ret (St.then_ret (St.then_ret (St.in_ret (St.then_ret ?_))))))))
         refine St.rets [_] [] Tryd.results15 ⟨⟨_, _, _, _, rfl, InB.mem, .inl ⟨⟨_, Tryd.underlying42⟩, sz42, rfl⟩⟩, trivial⟩ ?_ (fun _ hw => hw.sub)
         exact congrArg fv (if_code hqf (hv.trans hst) (by decide)).symm
        ·skip
         skip
         rw [if_neg (by simpa using h87)] at hst
         refine St.skip (St.in_normal (St.in_normal (St.then_normal (St.rg ?_))))
         refine St.ev _ (Ev.add (.mk rfl) (.mk rfl) (by omega)) rfl ?_
         refine St.mv ?_
         refine St.nil (St.then_normal ?_)
         refine St.againH2 (k + 1) (mset m va.name (iv k)) ⟨by omega, by rw [hv, hst, map_take_snoc VarD.name ht], by rw [map_take_snoc VarD.name ht]; exact hkn.snoc _ _⟩ (by first | omega | (dsimp only; omega)) (by repeat (first | exact Sub.nil | refine Sub.cons (by first | rfl | exact congrArg (fun z => some (iv z)) (by first | omega | (dsimp only; omega)) | exact congrArg (fun z => some (Value.bool z)) (by first | assumption | exact Eq.symm (by assumption))) ?_)) (fun _ hw => hw.sub)
   ·skip
    try simp only [jbAll] at h32
    rw [vrFrom_end (by omega)] at hv
    replace hqf := if_fine hqf hv
    refine St.exit (St.then_exit (St.then_exit (St.in_hit (St.then_normal (St.seq (St.seq (St.rg ?_)))))))
    refine St.ev _ (Ev.fldb0 (.mk rfl) fo49_1) rfl ?_
    refine St.ev _ (Ev.ldb (.mk rfl) Tryd.underlying47 trivial (by rfl)) rfl ?_
    refine St.ev _ (Ev.lensl (.mk rfl) Tryd.underlying47) rfl ?_
    refine St.mv ?_
    refine St.nil (St.then_normal (St.block ?_))
    refine St.loopH (ι := Nat) (fun p T => (107, iv p) :: T) (fun p => [blk b1 (.cells [q.vv.1, q.kv.1].toArray 49 (0, 0)), blk b2 (.cells [iv 0, iv 0].toArray 42 (0, 0)), dat (sl varR q.vv.1 q.vars), dat (sl qlnR q.kv.1 q.links), dat (u8)]) (fun p => p ≤ q.links.length ∧ qlFrom q.vars.length q.vars.length q.links = qlFrom q.vars.length (q.vars.length + p) (q.links.drop p)) (fun p => q.links.length - p) 0 (Keep.cons 1 rfl (Keep.cons 2 rfl (Keep.cons 105 rfl (Keep.cons 106 rfl Keep.nil)))) ⟨Nat.zero_le _, rfl⟩ (by repeat (first | exact Sub.nil | refine Sub.cons (by first | rfl | exact congrArg (fun z => some (iv z)) (by first | omega | (dsimp only; omega)) | exact congrArg (fun z => some (Value.bool z)) (by first | assumption | exact Eq.symm (by assumption))) ?_)) (fun _ hw => hw.sub) ?_
    rintro p ⟨hp, hv2⟩
    refine St.seq (St.rg ?_)
    refine St.ev _ (Ev.lss (.mk rfl) (.mk rfl)) rfl ?_
    refine St.nil (St.then_normal (St.seq ?_))
    refine St.cond _ rfl (fun h108 => ?_) (fun h108 => ?_)
    ·skip
     try simp only [jbAll] at h108
     obtain ⟨x, hx⟩ := some_of_lt (show p < q.links.length by omega)
     have hst := qlFrom_drop (n := q.vars.length) (m := q.vars.length) hx
     refine St.skip (St.then_normal (St.seq (St.block (St.seq (St.rg ?_)))))
     refine St.mv ?_
     refine St.ev _ (Ev.idxaddr (k := p) (.mk rfl) (.mk rfl) Tryd.underlying47 sz46 (by omega) (by omega)) rfl ?_
     refine St.ev _ (Ev.ldA (.mk rfl) hx Tryd.underlying46 trivial sz46 Cel.eq) rfl ?_
     refine St.alloc zc46 rfl (fun b9 => ?_)
     refine St.asg ?_
     refine St.storeA (Opd.mk rfl) (Opd.mk rfl) sz46 (by first | simp only [List.length_cons, List.length_nil] | rfl) (by simp only [List.all_cons, List.all_nil, Bool.and_true, Bool.and_eq_true]; exact ⟨rfl, rfl, rfl⟩) ?_
     refine St.nil (St.then_normal (St.seq (St.rg ?_)))
     refine St.ev _ (Ev.fldb0 (.mk rfl) fo49_0) rfl ?_
     refine St.ev _ (Ev.ldb (.mk rfl) Tryd.underlying39 trivial (by rfl)) rfl ?_
     refine St.ev _ (Ev.lensl (.mk rfl) Tryd.underlying39) rfl ?_
     refine St.mv ?_
     refine St.ev _ (Ev.add (.mk rfl) (.mk rfl) (by omega)) rfl ?_
     refine St.slot 116 (iv ((q.vars.length + p : Nat) : Int)) rfl rfl ?_
     refine St.asg ?_
     refine St.nil (St.then_normal (St.block (St.seq (St.rg ?_))))
     refine St.ev _ (Ev.fldb0 (.mk rfl) fo46_0) rfl ?_
     refine St.ev _ (Ev.ldb (.mk rfl) Tryd.underlying3 trivial (by rfl)) rfl ?_
     refine St.ev _ (Ev.lss (.mk rfl) (.mk rfl)) rfl ?_
     refine St.mv ?_
     refine St.gf _ rfl rfl (fun hg => Ev.fldb0 (.mk rfl) fo46_0) rfl ?_
     refine St.gf _ rfl rfl (fun hg => Ev.ldb (Opd.gv rfl hg) Tryd.underlying3 trivial (by rfl)) rfl ?_
     refine St.gf _ rfl rfl (fun hg => Ev.gtr (Opd.gv rfl hg) (.mk rfl)) rfl ?_
     refine St.ev _ (Ev.or (.mk rfl) (fun hp => Opd.gv rfl hp)) rfl ?_
     refine St.asg ?_
     refine St.nil (St.then_normal ?_)
     refine St.cond _ rfl (fun h117 => ?_) (fun h117 => ?_)
     ·skip
      try simp only [jbAll] at h117
      rw [if_pos (by omega)] at hst
      refine St.seq (St.rg ?_)
      refine St.mv ?_
      refine St.ev _ (Ev.call (queryFault_spec 4 ((q.vars.length + p : Nat) : Int)) cb21 (.cons (.mk rfl) (.cons (.mk rfl) .nil))) rfl ?_
      refine St.storeA (Opd.mk rfl) (Opd.mk rfl) sz42 (by first | simp only [List.length_cons, List.length_nil] | rfl) rfl ?_
      refine St.nil (St.then_normal (St.rett (St.in_ret (St.in_ret (St.then_ret (St.then_ret (St.in_ret (St.then_ret ?_))))))))
      refine St.rets [_] [] Tryd.results15 ⟨⟨_, _, _, _, rfl, InB.mem, .inl ⟨⟨_, Tryd.underlying42⟩, sz42, rfl⟩⟩, trivial⟩ ?_ (fun _ hw => hw.sub)
      exact congrArg fv (hqf.trans (hv2.trans hst)).symm
     ·skip
      try simp only [jbAll] at h117
      rw [if_neg (by omega)] at hst
      refine St.seq (St.rg ?_)
      refine St.ev _ (Ev.fldb0 (.mk rfl) fo46_1) rfl ?_
      refine St.ev _ (Ev.ldb (.mk rfl) Tryd.underlying3 trivial (by rfl)) rfl ?_
      refine St.ev _ (Ev.lss (.mk rfl) (.mk rfl)) rfl ?_
      refine St.mv ?_
      refine St.gf _ rfl rfl (fun hg => Ev.fldb0 (.mk rfl) fo46_1) rfl ?_
      refine St.gf _ rfl rfl (fun hg => Ev.ldb (Opd.gv rfl hg) Tryd.underlying3 trivial (by rfl)) rfl ?_
      refine St.gf _ rfl rfl (fun hg => Ev.fldb0 (.mk rfl) fo49_0) rfl ?_
      refine St.gf _ rfl rfl (fun hg => Ev.ldb (Opd.gv rfl hg) Tryd.underlying39 trivial (by rfl)) rfl ?_
      refine St.gf _ rfl rfl (fun hg => Ev.lensl (Opd.gv rfl hg) Tryd.underlying39) rfl ?_
      refine St.gf _ rfl rfl (fun hg => Ev.geq (Opd.gv rfl hg) (Opd.gv rfl hg)) rfl ?_
      refine St.ev _ (Ev.or (.mk rfl) (fun hp => Opd.gv rfl hp)) rfl ?_
      refine St.mv ?_
      refine St.gf _ rfl rfl (fun hg => Ev.fldb0 (.mk rfl) fo46_2) rfl ?_
      refine St.gf _ rfl rfl (fun hg => Ev.ldb (Opd.gv rfl hg) Tryd.underlying3 trivial (by rfl)) rfl ?_
      refine St.gf _ rfl rfl (fun hg => Ev.lss (Opd.gv rfl hg) (.mk rfl)) rfl ?_
      refine St.ev _ (Ev.or (.mk rfl) (fun hp => Opd.gv rfl hp)) rfl ?_
      refine St.mv ?_
      refine St.gf _ rfl rfl (fun hg => Ev.fldb0 (.mk rfl) fo46_2) rfl ?_
      refine St.gf _ rfl rfl (fun hg => Ev.ldb (Opd.gv rfl hg) Tryd.underlying3 trivial (by rfl)) rfl ?_
      refine St.gf _ rfl rfl (fun hg => Ev.fldb0 (.mk rfl) fo49_0) rfl ?_
      refine St.gf _ rfl rfl (fun hg => Ev.ldb (Opd.gv rfl hg) Tryd.underlying39 trivial (by rfl)) rfl ?_
      refine St.gf _ rfl rfl (fun hg => Ev.lensl (Opd.gv rfl hg) Tryd.underlying39) rfl ?_
      refine St.gf _ rfl rfl (fun hg => Ev.geq (Opd.gv rfl hg) (Opd.gv rfl hg)) rfl ?_
      refine St.ev _ (Ev.or (.mk rfl) (fun hp => Opd.gv rfl hp)) rfl ?_
      refine St.asg ?_
      refine St.nil (St.then_normal ?_)
      refine St.cond _ rfl (fun h128 => ?_) (fun h128 => ?_)
      ·skip
       try simp only [jbAll] at h128
       rw [if_pos (by omega)] at hst
       refine St.seq (St.rg ?_)
       refine St.mv ?_
       refine St.ev _ (Ev.call (queryFault_spec 3 ((q.vars.length + p : Nat) : Int)) cb21 (.cons (.mk rfl) (.cons (.mk rfl) .nil))) rfl ?_
       refine St.storeA (Opd.mk rfl) (Opd.mk rfl) sz42 (by first | simp only [List.length_cons, List.length_nil] | rfl) rfl ?_
       refine St.nil (St.then_normal (St.rett (St.in_ret (St.in_ret (St.then_ret (St.then_ret (St.in_ret (St.then_ret ?_))))))))
       refine St.rets [_] [] Tryd.results15 ⟨⟨_, _, _, _, rfl, InB.mem, .inl ⟨⟨_, Tryd.underlying42⟩, sz42, rfl⟩⟩, trivial⟩ ?_ (fun _ hw => hw.sub)
       exact congrArg fv (hqf.trans (hv2.trans hst)).symm
      ·skip
       try simp only [jbAll] at h128
       rw [if_neg (by omega)] at hst
       refine St.seq (St.rg ?_)
       refine St.ev _ (Ev.fldb0 (.mk rfl) fo46_1) rfl ?_
       refine St.ev _ (Ev.ldb (.mk rfl) Tryd.underlying3 trivial (by rfl)) rfl ?_
       refine St.ev _ (Ev.fldb0 (.mk rfl) fo46_2) rfl ?_
       refine St.ev _ (Ev.ldb (.mk rfl) Tryd.underlying3 trivial (by rfl)) rfl ?_
       refine St.ev _ (Ev.eql (.mk rfl) (.mk rfl)) rfl ?_
       refine St.asg ?_
       refine St.nil (St.then_normal ?_)
       refine St.cond _ rfl (fun h155 => ?_) (fun h155 => ?_)
       ·skip
        try simp only [jbAll] at h155
        rw [if_pos (by omega)] at hst
        refine St.seq (St.rg ?_)
        refine St.mv ?_
        refine St.ev _ (Ev.call (queryFault_spec 5 ((q.vars.length + p : Nat) : Int)) cb21 (.cons (.mk rfl) (.cons (.mk rfl) .nil))) rfl ?_
        refine St.storeA (Opd.mk rfl) (Opd.mk rfl) sz42 (by first | simp only [List.length_cons, List.length_nil] | rfl) rfl ?_
        refine St.nil (St.then_normal (St.rett (St.in_ret (St.in_ret (St.then_ret (St.then_ret (St.in_ret (St.then_ret ?_))))))))
        refine St.rets [_] [] Tryd.results15 ⟨⟨_, _, _, _, rfl, InB.mem, .inl ⟨⟨_, Tryd.underlying42⟩, sz42, rfl⟩⟩, trivial⟩ ?_ (fun _ hw => hw.sub)
        exact congrArg fv (hqf.trans (hv2.trans hst)).symm
       ·skip
        try simp only [jbAll] at h155
        rw [if_neg (by omega)] at hst
        refine St.skip (St.in_normal (St.in_normal (St.then_normal (St.rg ?_))))
        refine St.ev _ (Ev.add (.mk rfl) (.mk rfl) (by omega)) rfl ?_
        refine St.mv ?_
        refine St.nil (St.then_normal ?_)
        refine St.againH (p + 1) ⟨by omega, hv2.trans hst⟩ (by first | omega | (dsimp only; omega)) (by repeat (first | exact Sub.nil | refine Sub.cons (by first | rfl | exact congrArg (fun z => some (iv z)) (by first | omega | (dsimp only; omega)) | exact congrArg (fun z => some (Value.bool z)) (by first | assumption | exact Eq.symm (by assumption))) ?_)) (fun _ hw => hw.sub)
    ·skip
     try simp only [jbAll] at h108
     rw [qlFrom_end (by omega)] at hv2
     have hqe := hqf.trans hv2
     refine St.exit (St.then_exit (St.then_exit (St.in_hit (St.then_normal (St.seq (St.rg ?_))))))
     refine St.ev _ (Ev.build (ps := []) (Opds.nil) (fun w => bld42_  w)) rfl ?_
     refine St.storeA (Opd.mk rfl) (Opd.mk rfl) sz42 (by first | simp only [List.length_cons, List.length_nil] | rfl) rfl ?_
     refine St.nil (St.then_normal (St.rett ?_))
     refine St.rets [_] [] Tryd.results15 ⟨⟨_, _, _, _, rfl, InB.mem, .inl ⟨⟨_, Tryd.underlying42⟩, sz42, rfl⟩⟩, trivial⟩ ?_ (fun _ hw => hw.sub)
     exact congrArg fv hqe.symm
end Go.Proofs.YtolmidffiegkaaaDoor

/-
  (YtolmidffiegkaaaDoorQ30)
  The walk of Match.
  Conditions: none beyond the sizes.
-/
set_option maxRecDepth 20000
set_option linter.unusedSimpArgs false
set_option linter.unusedVariables false
namespace Go.Proofs.YtolmidffiegkaaaDoor
open Go Go.J
theorem matF_eq (g : Gm0) (vs : List VarD) (ks : List QLnD) (t : Tr0) : matF g vs ks t = if (grmF g).1 ≠ 0 then ([], grmF g) else if (qryF vs ks).1 ≠ 0 then ([], qryF vs ks) else if (treeF g t).1 ≠ 0 then ([], treeF g t)
 else if 500 < (matchL g vs ks t).length then ([], (17, 0)) else (matchL g vs ks t, (0, 0)) := rfl
set_option maxHeartbeats 4000000 in
theorem Match_spec (g : GrmD) (q : QryD) (t : TreeD) (hw : treeR.wf t) : FnW Tryd.prog 7 #[grmV g, queryV q, treeV t] ([grmD g, queryD q, treeD t, tz, u8].map dat) (fun r H' => ∃ vo, r = .tuple #[vo, fv (matF (gmE g) q.vars q.links (treeE t)).2] ∧ vo.oneCell' = true ∧ H' = [dat (nsl intR vo ((matF (gmE g) q.vars q.links (treeE t)).1.map ints))]) := by
 refine FnW.body (args := [grmV g, queryV q, treeV t]) 50 Tryd.func7 rfl Tryd.ntmps7 rfl (fun c hdr => ?_)
 refine St.cast (H' := [dat (grmD g), dat (queryD q), dat (treeD t), dat (tz), dat (u8)]) rfl ?_
 refine St.seq ?_
 refine St.openD (queryD q) (fun _ : Unit => queryL q) (fun ρ h => ⟨(), h⟩) fun _ => ?_
 refine St.cast (H' := [dat (sl varR q.vv.1 q.vars), dat (sl qlnR q.kv.1 q.links), dat (grmD g), dat (queryD q), dat (treeD t), dat (tz), dat (u8)]) rfl ?_
 have hmf := matF_eq (gmE g) q.vars q.links (treeE t)
 refine St.rg ?_
 refine St.boxA (.mk rfl) rfl (fun b3 => ?_)
 refine St.boxA (.mk rfl) rfl (fun b4 => ?_)
 refine St.boxA (.mk rfl) rfl (fun b5 => ?_)
 refine St.asg ?_
 refine St.alloc zc42 rfl (fun b7 => ?_)
 refine St.nil (St.then_normal (St.seq (St.seq (St.rg ?_))))
 refine St.ev _ (Ev.ldbA (.mk rfl) Tryd.underlying32 trivial (by exact sz32)) rfl ?_
 refine St.ev _ (Ev.callW hdr (grmVal_spec g) cb14 (.cons (.mk rfl) .nil)) rfl ?_
 refine St.alloc zc42 rfl (fun b8 => ?_)
 refine St.storeA (Opd.mk rfl) (Opd.mk rfl) sz42 (by first | simp only [List.length_cons, List.length_nil] | rfl) rfl ?_
 refine St.nil (St.then_normal (St.seq (St.rg ?_)))
 refine St.ev _ (Ev.fldb0 (.mk rfl) fo42_0) rfl ?_
 refine St.ev _ (Ev.ldb (.mk rfl) Tryd.underlying3 trivial (by rfl)) rfl ?_
 refine St.ev _ (Ev.neq (.mk rfl) (.mk rfl)) rfl ?_
 refine St.nil (St.then_normal ?_)
 refine St.cond _ rfl (fun h19 => ?_) (fun h19 => ?_)
 ·skip
  skip
  rw [if_pos (show (grmF (gmE g)).1 ≠ 0 by simpa using h19)] at hmf
  refine St.seq ?_
  refine St.par [b7] mixed ?_
  refine SW.defer 0 (by repeat (first | refine NP.then ?_ | refine NP.inBlock ?_ | exact NP.body)) (by kernel_rfl) rfl (fun R => Ev.ldbA (.mk rfl) Tryd.underlying42 trivial (by exact sz42)) (by kernel_rfl) rfl ?_
  refine SW.defer 1 (by repeat (first | refine NP.then ?_ | refine NP.inBlock ?_ | exact NP.body)) (by kernel_rfl) rfl (fun R => Ev.assign (.mk rfl)) (by kernel_rfl) rfl ?_
  refine SW.turn1 (i := 2) (by kernel_rfl) rfl ?_
  refine St.storeA (Opd.mk rfl) (Opd.mk rfl) sz42 (by first | simp only [List.length_cons, List.length_nil] | rfl) rfl ?_
  refine St.nil (St.then_normal ?_)
  refine SW.go ?_
  refine SW.done (by kernel_rfl) ?_
  refine St.then_normal (St.rett (St.then_ret ?_))
  refine St.slNil valR ?_
  refine St.ptwNil intR ?_
  refine St.mkNs (Rr := intR) (l := []) (.slice none 0 0) (vs := []) rfl ?_
  refine St.rets [_, _] [dat (nsl intR (.slice none 0 0) [])] Tryd.results7 ⟨rfl, ⟨⟨_, _, _, _, rfl, InB.mem, .inl ⟨⟨_, Tryd.underlying42⟩, sz42, rfl⟩⟩, trivial⟩⟩ ?_ (fun _ hw => hw.sub)
  exact ⟨_, congrArg (fun z => Value.tuple #[(.slice none 0 0), fv z]) (by rw [hmf]), rfl, by rw [hmf]; rfl⟩
 ·skip
  skip
  have hz19 : ¬ (grmF (gmE g)).1 ≠ 0 := by simpa using h19
  rw [if_neg hz19] at hmf
  refine St.skip (St.then_normal (St.seq (St.seq (St.rg ?_))))
  refine St.ev _ (Ev.ldbA (.mk rfl) Tryd.underlying49 trivial (by exact sz49)) rfl ?_
  refine St.ev _ (Ev.callW hdr (qryVal_spec q) cb15 (.cons (.mk rfl) .nil)) rfl ?_
  refine St.alloc zc42 rfl (fun b9 => ?_)
  refine St.storeA (Opd.mk rfl) (Opd.mk rfl) sz42 (by first | simp only [List.length_cons, List.length_nil] | rfl) rfl ?_
  refine St.nil (St.then_normal (St.seq (St.rg ?_)))
  refine St.ev _ (Ev.fldb0 (.mk rfl) fo42_0) rfl ?_
  refine St.ev _ (Ev.ldb (.mk rfl) Tryd.underlying3 trivial (by rfl)) rfl ?_
  refine St.ev _ (Ev.neq (.mk rfl) (.mk rfl)) rfl ?_
  refine St.nil (St.then_normal ?_)
  refine St.cond _ rfl (fun h25 => ?_) (fun h25 => ?_)
  ·skip
   skip
   rw [if_pos (show (qryF q.vars q.links).1 ≠ 0 by simpa using h25)] at hmf
   refine St.seq ?_
   refine St.par [b7] mixed ?_
   refine SW.defer 0 (by repeat (first | refine NP.then ?_ | refine NP.inBlock ?_ | exact NP.body)) (by kernel_rfl) rfl (fun R => Ev.ldbA (.mk rfl) Tryd.underlying42 trivial (by exact sz42)) (by kernel_rfl) rfl ?_
   refine SW.defer 1 (by repeat (first | refine NP.then ?_ | refine NP.inBlock ?_ | exact NP.body)) (by kernel_rfl) rfl (fun R => Ev.assign (.mk rfl)) (by kernel_rfl) rfl ?_
   refine SW.turn1 (i := 2) (by kernel_rfl) rfl ?_
   refine St.storeA (Opd.mk rfl) (Opd.mk rfl) sz42 (by first | simp only [List.length_cons, List.length_nil] | rfl) rfl ?_
   refine St.nil (St.then_normal ?_)
   refine SW.go ?_
   refine SW.done (by kernel_rfl) ?_
   refine St.then_normal (St.rett (St.then_ret ?_))
   refine St.slNil valR ?_
   refine St.ptwNil intR ?_
   refine St.mkNs (Rr := intR) (l := []) (.slice none 0 0) (vs := []) rfl ?_
   refine St.rets [_, _] [dat (nsl intR (.slice none 0 0) [])] Tryd.results7 ⟨rfl, ⟨⟨_, _, _, _, rfl, InB.mem, .inl ⟨⟨_, Tryd.underlying42⟩, sz42, rfl⟩⟩, trivial⟩⟩ ?_ (fun _ hw => hw.sub)
   exact ⟨_, congrArg (fun z => Value.tuple #[(.slice none 0 0), fv z]) (by rw [hmf]), rfl, by rw [hmf]; rfl⟩
  ·skip
   skip
   have hz25 : ¬ (qryF q.vars q.links).1 ≠ 0 := by simpa using h25
   rw [if_neg hz25] at hmf
   have hq := (qryF_ok (Decidable.not_not.1 hz25)).2
   refine St.skip (St.then_normal (St.seq (St.seq (St.rg ?_))))
   refine St.ev _ (Ev.ldbA (.mk rfl) Tryd.underlying32 trivial (by exact sz32)) rfl ?_
   refine St.ev _ (Ev.ldbA (.mk rfl) Tryd.underlying35 trivial (by exact sz35)) rfl ?_
   refine St.ev _ (Ev.call (Fits_spec g t hw) cb16 (.cons (.mk rfl) (.cons (.mk rfl) .nil))) rfl ?_
   refine St.alloc zc42 rfl (fun b10 => ?_)
   refine St.storeA (Opd.mk rfl) (Opd.mk rfl) sz42 (by first | simp only [List.length_cons, List.length_nil] | rfl) rfl ?_
   refine St.nil (St.then_normal (St.seq (St.rg ?_)))
   refine St.ev _ (Ev.fldb0 (.mk rfl) fo42_0) rfl ?_
   refine St.ev _ (Ev.ldb (.mk rfl) Tryd.underlying3 trivial (by rfl)) rfl ?_
   refine St.ev _ (Ev.neq (.mk rfl) (.mk rfl)) rfl ?_
   refine St.nil (St.then_normal ?_)
   refine St.cond _ rfl (fun h32 => ?_) (fun h32 => ?_)
   ·skip
    skip
    rw [if_pos (show (treeF (gmE g) (treeE t)).1 ≠ 0 by simpa using h32)] at hmf
    refine St.seq ?_
    refine St.par [b7] mixed ?_
    refine SW.defer 0 (by repeat (first | refine NP.then ?_ | refine NP.inBlock ?_ | exact NP.body)) (by kernel_rfl) rfl (fun R => Ev.ldbA (.mk rfl) Tryd.underlying42 trivial (by exact sz42)) (by kernel_rfl) rfl ?_
    refine SW.defer 1 (by repeat (first | refine NP.then ?_ | refine NP.inBlock ?_ | exact NP.body)) (by kernel_rfl) rfl (fun R => Ev.assign (.mk rfl)) (by kernel_rfl) rfl ?_
    refine SW.turn1 (i := 2) (by kernel_rfl) rfl ?_
    refine St.storeA (Opd.mk rfl) (Opd.mk rfl) sz42 (by first | simp only [List.length_cons, List.length_nil] | rfl) rfl ?_
    refine St.nil (St.then_normal ?_)
    refine SW.go ?_
    refine SW.done (by kernel_rfl) ?_
    refine St.then_normal (St.rett (St.then_ret ?_))
    refine St.slNil valR ?_
    refine St.ptwNil intR ?_
    refine St.mkNs (Rr := intR) (l := []) (.slice none 0 0) (vs := []) rfl ?_
    refine St.rets [_, _] [dat (nsl intR (.slice none 0 0) [])] Tryd.results7 ⟨rfl, ⟨⟨_, _, _, _, rfl, InB.mem, .inl ⟨⟨_, Tryd.underlying42⟩, sz42, rfl⟩⟩, trivial⟩⟩ ?_ (fun _ hw => hw.sub)
    exact ⟨_, congrArg (fun z => Value.tuple #[(.slice none 0 0), fv z]) (by rw [hmf]), rfl, by rw [hmf]; rfl⟩
   ·skip
    skip
    have hz32 : ¬ (treeF (gmE g) (treeE t)).1 ≠ 0 := by simpa using h32
    rw [if_neg hz32] at hmf
    have htg := treeF_ok (Decidable.not_not.1 hz19) (Decidable.not_not.1 hz32)
    obtain ⟨htg1, htg2, htg3⟩ := htg
    rw [show (gmE g).rules.length = g.rules.length from List.length_map _, show (gmE g).lexes.length = g.lexes.length from List.length_map _] at htg1
    have hvn := hq.few
    have hvp := hq.pos
    refine St.skip (St.then_normal (St.seq (St.rg ?_)))
    refine St.ev _ (Ev.ldbA (.mk rfl) Tryd.underlying32 trivial (by exact sz32)) rfl ?_
    refine St.ev _ (Ev.ldbA (.mk rfl) Tryd.underlying35 trivial (by exact sz35)) rfl ?_
    refine St.calld (nodes_spec g t hw htg1 htg2 (by omega)) cb17 (.cons (.mk rfl) (.cons (.mk rfl) .nil)) rfl ?_
    rintro v36 _ ⟨h36, rfl⟩
    refine St.app1 ?_
    refine St.alloc zc66 rfl (fun b11 => ?_)
    refine St.store1 (.mk rfl) (.mk rfl) sz66 h36 (by rfl) ?_
    refine St.nil (St.then_normal (St.seq (St.rg ?_)))
    refine St.alloc zc40 rfl (fun b12 => ?_)
    refine St.nil (St.then_normal (St.seq (St.rg ?_)))
    refine St.ev _ (Ev.fldb0 (.mk rfl) fo49_0) rfl ?_
    refine St.ev _ (Ev.ldb (.mk rfl) Tryd.underlying39 trivial (by rfl)) rfl ?_
    refine St.ev _ (Ev.lensl (.mk rfl) Tryd.underlying39) rfl ?_
    refine St.makeSl (m := q.vars.length) (.mk rfl) (.mk rfl) Tryd.underlying57 sz3 zv3 by3 rfl rfl (by omega) rfl rfl (fun b40 => ?_)
    refine St.rowEqN (.slice (some ⟨b40, 0, none⟩) q.vars.length q.vars.length) rfl (rowI_rep _) ?_
    refine St.alloc zc57 rfl (fun b13 => ?_)
    refine St.store1 (.mk rfl) (.mk rfl) sz57 rfl (by rfl) ?_
    refine St.nil (St.then_normal (St.seq (St.rg ?_)))
    refine St.alloc zc68 rfl (fun b14 => ?_)
    refine St.nil (St.then_normal (St.seq (St.rg ?_)))
    refine St.ev _ (Ev.func (.cons (.mk rfl) (.cons (.mk rfl) (.cons (.mk rfl) (.cons (.mk rfl) (.cons (.mk rfl) .nil)))))) rfl ?_
    refine St.store1 (.mk rfl) (.mk rfl) sz68 rfl (by rfl) ?_
    refine St.nil (St.then_normal (St.seq ?_))
    refine St.nilrow 57 1 ?_
    refine St.rowEqN (.slice none 0 0) (show _ = ([] : List (List Nat)).length from rfl) (show _ = rows valR [] from rfl) ?_
    refine St.ptwNil intR ?_
    refine St.cast (H' := _ :: _) (show dat (ptw intR [] []) :: _ = dat (ptw intR [] (([] : List (List Nat)).map ints)) :: _ from rfl) ?_
    obtain ⟨T, hT⟩ : ∃ T, T = tryF (ndT (gmE g) (treeE t) 0 (-1) 0) q.links q.vars [] [] := ⟨_, rfl⟩
    have hTe := tryF_eq (ndT (gmE g) (treeE t) 0 (-1) 0) q.links q.vars [] [] (by simp) (by simp)
    rw [← hT, List.nil_append] at hTe
    replace hTe : T = (matchL (gmE g) q.vars q.links (treeE t)).take 501 := hTe
    refine St.rg ?_
    refine St.ev _ (Ev.ldb (.mk rfl) Tryd.underlying68 trivial (by rfl)) rfl ?_
    refine St.callc (tryWalk_spec b13 b12 b11 b4 b14 (.slice (some ⟨b40, 0, none⟩) q.vars.length q.vars.length) v36 (ndT (gmE g) (treeE t) 0 (-1) 0) q hq q.vars.length q.vars [] [] (List.replicate q.vars.length 0) (.slice none 0 0) [] T rfl hT rfl (by simp) (by simp) rfl (fun y hy => by cases hy) rfl rfl (by simp) (fun _ => by simp)) cb18 (.mk rfl) (.cons (.mk rfl) .nil) rfl ?_
    rintro v43 _ ⟨A2, vo2, us2, hA2, _, hvo2, hul2, rfl⟩
    refine St.app8 ?_
    refine St.nil (St.then_normal (St.seq (St.seq (St.rg ?_))))
    refine St.ev _ (Ev.ldb (.mk rfl) Tryd.underlying40 trivial (by rfl)) rfl ?_
    refine St.ev _ (Ev.lenrow (.mk rfl) Tryd.underlying40) rfl ?_
    refine St.ev _ (Ev.gtr (.mk rfl) (.mk rfl)) rfl ?_
    refine St.nil (St.then_normal ?_)
    refine St.cond _ rfl (fun h46 => ?_) (fun h46 => ?_)
    ·skip
     try simp only [jbAll] at h46
     have hbig : 500 < (matchL (gmE g) q.vars q.links (treeE t)).length := by have := congrArg List.length hTe; rw [List.length_take] at this; omega
     rw [if_pos hbig] at hmf
     refine St.seq (St.rg ?_)
     refine St.ev _ (Ev.call (queryFault_spec 17 0) cb21 (.cons (.mk rfl) (.cons (.mk rfl) .nil))) rfl ?_
     refine St.asg ?_
     refine St.storeA (Opd.mk rfl) (Opd.mk rfl) sz42 (by first | simp only [List.length_cons, List.length_nil] | rfl) rfl ?_
     refine St.nil (St.then_normal (St.rett (St.then_ret ?_)))
     refine St.slNil valR ?_
     refine St.ptwNil intR ?_
     refine St.mkNs (Rr := intR) (l := []) (.slice none 0 0) (vs := []) rfl ?_
     refine St.rets [_, _] [dat (nsl intR (.slice none 0 0) [])] Tryd.results7 ⟨rfl, ⟨⟨_, _, _, _, rfl, InB.mem, .inl ⟨⟨_, Tryd.underlying42⟩, sz42, rfl⟩⟩, trivial⟩⟩ ?_ (fun _ hw => hw.sub)
     exact ⟨_, congrArg (fun z => Value.tuple #[(.slice none 0 0), fv z]) (by rw [hmf]), rfl, by rw [hmf]; rfl⟩
    ·skip
     try simp only [jbAll] at h46
     have hTs : T = matchL (gmE g) q.vars q.links (treeE t) := by rw [hTe, List.take_of_length_le]; have := congrArg List.length hTe; rw [List.length_take] at this; omega
     rw [if_neg (by rw [← hTs]; omega)] at hmf
     refine St.skip (St.then_normal (St.seq (St.rg ?_)))
     refine St.ev _ (Ev.ldb (.mk rfl) Tryd.underlying40 trivial (by rfl)) rfl ?_
     refine St.ev _ (Ev.build (ps := []) (Opds.nil) (fun w => bld42_  w)) rfl ?_
     refine St.asg ?_
     refine St.storeA (Opd.mk rfl) (Opd.mk rfl) sz42 (by first | simp only [List.length_cons, List.length_nil] | rfl) rfl ?_
     refine St.nil (St.then_normal (St.rett ?_))
     refine St.publish vo2 valR us2 rfl hul2.symm (fun _ _ => trivial) ?_
     refine St.mkNs (Rr := intR) (l := T.map ints) vo2 (vs := us2) (by rw [List.length_map]; exact hul2) ?_
     refine St.rets [_, _] [dat (nsl intR vo2 (T.map ints))] Tryd.results7 ⟨rfl, ⟨⟨_, _, _, _, rfl, InB.mem, .inl ⟨⟨_, Tryd.underlying42⟩, sz42, rfl⟩⟩, trivial⟩⟩ ?_ (fun _ hw => hw.sub)
     exact ⟨vo2, by rw [hmf]; rfl, hvo2, by rw [hmf, hTs]⟩
end Go.Proofs.YtolmidffiegkaaaDoor

/-
  (YtolmidffiegkaaaDoorQ31)
  The walks of the words of a tree; of what compares numbers.
  Conditions: none beyond the sizes.
-/
set_option maxRecDepth 20000
set_option linter.unusedSimpArgs false
set_option linter.unusedVariables false
namespace Go.Proofs.YtolmidffiegkaaaDoor
open Go Go.J
theorem rowsS_snoc (l : List Str) (w : Str) : rows strR l ++ [sv w] = rows strR (l ++ [w]) := by rw [rows_snoc]; rfl
theorem sameInts_spec (v0 v1 : Value) (a b : List Int) : FnV Tryd.prog 10 #[v0, v1] [sl intR v0 a, sl intR v1 b] (.bool (decide (a = b))) := by
 refine FnV.body2 (args := [v0, v1]) 26 Tryd.func10 rfl Tryd.ntmps10 rfl (fun c => ?_)
 refine St.seq ?_
 refine St.wf v0 (fun hwf0 hlen0 => ?_)
 refine St.wf v1 (fun hwf1 hlen1 => ?_)
 refine St.rg ?_
 refine St.asg ?_
 refine St.nil (St.then_normal (St.seq (St.seq (St.rg ?_))))
 refine St.mv ?_
 refine St.ev _ (Ev.lensl (.mk rfl) Tryd.underlying57) rfl ?_
 refine St.mv ?_
 refine St.ev _ (Ev.lensl (.mk rfl) Tryd.underlying57) rfl ?_
 refine St.ev _ (Ev.neq (.mk rfl) (.mk rfl)) rfl ?_
 refine St.nil (St.then_normal ?_)
 refine St.cond _ rfl (fun h10 => ?_) (fun h10 => ?_)
 ·skip
  try simp only [jbAll] at h10
  refine St.seq (St.rg ?_)
  refine St.asg ?_
  refine St.nil (St.then_normal (St.rett (St.then_ret ?_)))
  refine St.rets [_] [] Tryd.results10 ⟨rfl, trivial⟩ ?_ (fun _ hw => hw.sub)
  exact be (by rw [eq_comm, decide_eq_false_iff_not]; rintro rfl; omega)
 ·skip
  try simp only [jbAll] at h10
  refine St.skip (St.then_normal (St.seq (St.seq (St.rg ?_))))
  refine St.asg ?_
  refine St.nil (St.then_normal (St.block ?_))
  refine St.loopS (ι := Nat) (fun k T => (5, iv k) :: T) (fun k => k ≤ a.length ∧ a.take k = b.take k) (fun k => a.length - k) 0 (Keep.cons 0 rfl (Keep.cons 1 rfl Keep.nil)) ⟨Nat.zero_le _, rfl⟩ (by repeat (first | exact Sub.nil | refine Sub.cons (by first | rfl | exact congrArg (fun z => some (iv z)) (by first | omega | (dsimp only; omega)) | exact congrArg (fun z => some (Value.bool z)) (by first | assumption | exact Eq.symm (by assumption))) ?_)) ?_
  intro k hphi
  obtain ⟨hk, hv⟩ := hphi
  refine St.seq (St.seq (St.rg ?_))
  refine St.mv ?_
  refine St.mv ?_
  refine St.ev _ (Ev.lensl (.mk rfl) Tryd.underlying57) rfl ?_
  refine St.ev _ (Ev.lss (.mk rfl) (.mk rfl)) rfl ?_
  refine St.nil (St.then_normal ?_)
  refine St.cond _ rfl (fun h14 => ?_) (fun h14 => ?_)
  ·skip
   try simp only [jbAll] at h14
   obtain ⟨x, hx⟩ := some_of_lt (show k < a.length by omega)
   obtain ⟨y, hy⟩ := some_of_lt (show k < b.length by omega)
   refine St.skip (St.then_normal (St.seq (St.block (St.seq ?_))))
   refine St.rq mixed (by kernel_rfl) (Mm.drawn _ _) ?_
   refine Sq.ev _ (Ev.move (.mk rfl)) rfl ?_
   refine Sq.ev _ (Ev.move (.mk rfl)) rfl ?_
   refine Sq.ev _ (Ev.idxaddr (k := k) (.mk rfl) (.mk rfl) Tryd.underlying57 sz3 (by omega) (by omega)) rfl ?_
   refine Sq.ev _ (Ev.ld1 (.mk rfl) hx Tryd.underlying3 trivial rfl) rfl ?_
   refine Sq.ev _ (Ev.move (.mk rfl)) rfl ?_
   refine Sq.ev _ (Ev.move (.mk rfl)) rfl ?_
   refine Sq.ev _ (Ev.idxaddr (k := k) (.mk rfl) (.mk rfl) Tryd.underlying57 sz3 (by omega) (by omega)) rfl ?_
   refine Sq.ev _ (Ev.ld1 (.mk rfl) hy Tryd.underlying3 trivial rfl) rfl ?_
   refine Sq.ev _ (Ev.neq (.mk rfl) (.mk rfl)) rfl ?_
   refine Sq.nil ?_
   refine St.then_normal ?_
   refine St.cond _ rfl (fun h25 => ?_) (fun h25 => ?_)
   ·skip
    skip
    refine St.seq (St.rg ?_)
    refine St.asg ?_
    refine St.nil (St.then_normal (St.rett (St.in_ret (St.then_ret (St.then_ret (St.in_ret (St.then_ret ?_)))))))
    refine St.rets [_] [] Tryd.results10 ⟨rfl, trivial⟩ ?_ (fun _ hw => hw.sub)
    exact be (by rw [eq_comm, decide_eq_false_iff_not]; rintro rfl; rw [hx] at hy; simp only [Option.some.injEq] at hy; simp [hy] at h25)
   ·skip
    skip
    refine St.skip (St.in_normal (St.then_normal (St.rg ?_)))
    refine St.mv ?_
    refine St.ev _ (Ev.add (.mk rfl) (.mk rfl) (by omega)) rfl ?_
    refine St.asg ?_
    refine St.nil (St.then_normal ?_)
    refine St.againS (k + 1) ⟨by omega, by rw [take_of_some hx, take_of_some hy, hv, show x = y by simpa using h25]⟩ (by first | omega | (dsimp only; omega)) (by repeat (first | exact Sub.nil | refine Sub.cons (by first | rfl | exact congrArg (fun z => some (iv z)) (by first | omega | (dsimp only; omega)) | exact congrArg (fun z => some (Value.bool z)) (by first | assumption | exact Eq.symm (by assumption))) ?_)) (fun _ hw => hw.sub)
  ·skip
   try simp only [jbAll] at h14
   refine St.exit (St.then_exit (St.then_exit (St.in_hit (St.then_normal (St.seq (St.rg ?_))))))
   refine St.asg ?_
   refine St.nil (St.then_normal (St.rett ?_))
   refine St.rets [_] [] Tryd.results10 ⟨rfl, trivial⟩ ?_ (fun _ hw => hw.sub)
   exact be (by rw [eq_comm, decide_eq_true_eq]; rw [List.take_of_length_le (by omega), List.take_of_length_le (by omega)] at hv; exact hv)
theorem sameIntLists_spec (v0 v1 : Value) (a b : List (List Int)) : FnV Tryd.prog 8 #[v0, v1] [nsl intR v0 a, nsl intR v1 b] (.bool (decide (a = b))) := by
 refine FnV.body2 (args := [v0, v1]) 27 Tryd.func8 rfl Tryd.ntmps8 rfl (fun c => ?_)
 refine St.seq ?_
 refine St.openNs v0 (fun vs hvl => ?_)
 refine St.openNs v1 (fun us hul => ?_)
 refine St.wf v0 (fun _ hlen0 => ?_)
 refine St.wf v1 (fun _ hlen1 => ?_)
 refine St.rg ?_
 refine St.asg ?_
 refine St.nil (St.then_normal (St.seq (St.seq (St.rg ?_))))
 refine St.mv ?_
 refine St.ev _ (Ev.lensl (.mk rfl) Tryd.underlying40) rfl ?_
 refine St.mv ?_
 refine St.ev _ (Ev.lensl (.mk rfl) Tryd.underlying40) rfl ?_
 refine St.ev _ (Ev.neq (.mk rfl) (.mk rfl)) rfl ?_
 refine St.nil (St.then_normal ?_)
 refine St.cond _ rfl (fun h10 => ?_) (fun h10 => ?_)
 ·skip
  try simp only [jbAll] at h10
  refine St.seq (St.rg ?_)
  refine St.asg ?_
  refine St.nil (St.then_normal (St.rett (St.then_ret ?_)))
  refine St.rets [_] [] Tryd.results8 ⟨rfl, trivial⟩ ?_ (fun _ hw => hw.sub)
  exact be (by rw [eq_comm, decide_eq_false_iff_not]; rintro rfl; omega)
 ·skip
  try simp only [jbAll] at h10
  refine St.skip (St.then_normal (St.seq (St.seq (St.rg ?_))))
  refine St.asg ?_
  refine St.nil (St.then_normal (St.block ?_))
  refine St.loopS (ι := Nat) (fun k T => (5, iv k) :: T) (fun k => k ≤ a.length ∧ a.take k = b.take k) (fun k => a.length - k) 0 (Keep.cons 0 rfl (Keep.cons 1 rfl Keep.nil)) ⟨Nat.zero_le _, rfl⟩ (by repeat (first | exact Sub.nil | refine Sub.cons (by first | rfl | exact congrArg (fun z => some (iv z)) (by first | omega | (dsimp only; omega)) | exact congrArg (fun z => some (Value.bool z)) (by first | assumption | exact Eq.symm (by assumption))) ?_)) ?_
  intro k hphi
  obtain ⟨hk, hv⟩ := hphi
  refine St.seq (St.seq (St.rg ?_))
  refine St.mv ?_
  refine St.mv ?_
  refine St.ev _ (Ev.lensl (.mk rfl) Tryd.underlying40) rfl ?_
  refine St.ev _ (Ev.lss (.mk rfl) (.mk rfl)) rfl ?_
  refine St.nil (St.then_normal ?_)
  refine St.cond _ rfl (fun h14 => ?_) (fun h14 => ?_)
  ·skip
   try simp only [jbAll] at h14
   obtain ⟨x, hx⟩ := some_of_lt (show k < a.length by omega)
   obtain ⟨y, hy⟩ := some_of_lt (show k < b.length by omega)
   obtain ⟨u, hu⟩ := some_of_lt (show k < vs.length by omega)
   obtain ⟨w, hw⟩ := some_of_lt (show k < us.length by omega)
   refine St.ptw (vs := vs) k hu hx ?_
   refine St.ptw (vs := us) k hw hy ?_
   refine St.skip (St.then_normal (St.seq (St.block (St.seq ?_))))
   refine St.rq mixed (by kernel_rfl) (Mm.drawn _ _) ?_
   refine Sq.ev _ (Ev.move (.mk rfl)) rfl ?_
   refine Sq.ev _ (Ev.move (.mk rfl)) rfl ?_
   refine Sq.ev _ (Ev.idxaddr (k := k) (.mk rfl) (.mk rfl) Tryd.underlying40 sz57 (by omega) (by omega)) rfl ?_
   refine Sq.ev _ (Ev.ld1 (.mk rfl) hu Tryd.underlying57 trivial rfl) rfl ?_
   refine Sq.ev _ (Ev.move (.mk rfl)) rfl ?_
   refine Sq.ev _ (Ev.move (.mk rfl)) rfl ?_
   refine Sq.ev _ (Ev.idxaddr (k := k) (.mk rfl) (.mk rfl) Tryd.underlying40 sz57 (by omega) (by omega)) rfl ?_
   refine Sq.ev _ (Ev.ld1 (.mk rfl) hw Tryd.underlying57 trivial rfl) rfl ?_
   refine Sq.ev _ (Ev.call (sameInts_spec u.1 w.1 x y) cb10 (.cons (.mk rfl) (.cons (.mk rfl) .nil))) rfl ?_
   refine Sq.ev _ (Ev.not (.mk rfl)) rfl ?_
   refine Sq.nil ?_
   refine St.then_normal ?_
   refine St.cond _ rfl (fun h26 => ?_) (fun h26 => ?_)
   ·skip
    skip
    refine St.seq (St.rg ?_)
    refine St.asg ?_
    refine St.nil (St.then_normal (St.rett (St.in_ret (St.then_ret (St.then_ret (St.in_ret (St.then_ret ?_)))))))
    refine St.rets [_] [] Tryd.results8 ⟨rfl, trivial⟩ ?_ (fun _ hw => hw.sub)
    exact be (by rw [eq_comm, decide_eq_false_iff_not]; rintro rfl; rw [hx] at hy; simp only [Option.some.injEq] at hy; simp [hy] at h26)
   ·skip
    skip
    refine St.skip (St.in_normal (St.then_normal (St.rg ?_)))
    refine St.mv ?_
    refine St.ev _ (Ev.add (.mk rfl) (.mk rfl) (by omega)) rfl ?_
    refine St.asg ?_
    refine St.nil (St.then_normal ?_)
    refine St.againS (k + 1) ⟨by omega, by rw [take_of_some hx, take_of_some hy, hv, show x = y by simpa using h26]⟩ (by first | omega | (dsimp only; omega)) (by repeat (first | exact Sub.nil | refine Sub.cons (by first | rfl | exact congrArg (fun z => some (iv z)) (by first | omega | (dsimp only; omega)) | exact congrArg (fun z => some (Value.bool z)) (by first | assumption | exact Eq.symm (by assumption))) ?_)) (fun _ hw => hw.sub)
  ·skip
   try simp only [jbAll] at h14
   refine St.exit (St.then_exit (St.then_exit (St.in_hit (St.then_normal (St.seq (St.rg ?_))))))
   refine St.asg ?_
   refine St.nil (St.then_normal (St.rett ?_))
   refine St.rets [_] [] Tryd.results8 ⟨rfl, trivial⟩ ?_ (fun _ hw => hw.sub)
   exact be (by rw [eq_comm, decide_eq_true_eq]; rw [List.take_of_length_le (by omega), List.take_of_length_le (by omega)] at hv; exact hv)
def rexE : Tr0 := .mk 0 0 [.mk (-1) 19 [], .mk 2 0 [.mk (-1) 9 []]]
theorem tree_wf (r x : Int) (v : OneV) (l : List TreeD) (h1 : -100 ≤ r ∧ r ≤ 100) (h2 : -100 ≤ x ∧ x ≤ 100) : treeR.wf (.mk r x v l) := ⟨by show i64ok r; unfold i64ok; omega, by show i64ok x; unfold i64ok; omega⟩
theorem rexBarks_spec : FnH Tryd.prog 12 #[] ([].map dat) (fun v H' => ∃ t : TreeD, v = treeV t ∧ treeE t = rexE ∧ treeR.wf t ∧ H' = [dat (treeD t)]) := by
 refine FnH.body (args := []) 9 Tryd.func12 rfl Tryd.ntmps12 rfl (fun c => ?_)
 refine St.cast (H' := []) rfl ?_
 refine St.seq (St.rg ?_)
 refine St.alloc zc35 rfl (fun b0 => ?_)
 refine St.nil (St.then_normal (St.seq (St.rg ?_)))
 refine St.ev _ (Ev.build (ps := [(0, (.const (.int .i64 (-1)))), (1, (.const (.int .i64 9)))]) (Opds.cons (Opd.mk rfl) (Opds.cons (Opd.mk rfl) Opds.nil)) (fun w => bld35_0_1 rfl rfl w)) rfl ?_
 refine St.alloc zc35 rfl (fun b1 => ?_)
 refine St.storeA (Opd.mk rfl) (Opd.mk rfl) sz35 (by first | simp only [List.length_cons, List.length_nil] | rfl) (by simp only [List.all_cons, List.all_nil, Bool.and_true, Bool.and_eq_true]; exact ⟨rfl, rfl, rfl⟩) ?_
 refine St.nil (St.then_normal (St.seq (St.rg ?_)))
 refine St.ev _ (Ev.build (ps := [(0, (.const (.int .i64 (-1)))), (1, (.const (.int .i64 19)))]) (Opds.cons (Opd.mk rfl) (Opds.cons (Opd.mk rfl) Opds.nil)) (fun w => bld35_0_1 rfl rfl w)) rfl ?_
 refine St.ev _ (Ev.ldbA (.mk rfl) Tryd.underlying35 trivial (by exact sz35)) rfl ?_
 refine St.bsl rfl (.cons (.mk rfl) .nil) Tryd.underlying33 sz35 zv35 rfl rfl (by simp [Value.cells]) rfl rfl (fun b5 => ?_)
 refine St.slNil treeR ?_
 refine St.dallNil treeD ?_
 refine St.mkTree (-1) 9 (.slice none 0 0) rfl [] ?_
 refine St.publish (.slice (some ⟨b5, 0, none⟩) 1 1) treeR [(.mk (-1) 9 nilV [] : TreeD)] rfl rfl (fun y hy => by rw [List.mem_singleton.1 hy]; exact tree_wf _ _ _ _ (by decide) (by decide)) ?_
 refine St.dallCons treeD (xs := []) (x := (.mk (-1) 9 nilV [] : TreeD)) ?_
 refine St.mkTree 2 0 (.slice (some ⟨b5, 0, none⟩) 1 1) rfl [(.mk (-1) 9 nilV [] : TreeD)] ?_
 refine St.ev _ (Ev.build (ps := [(0, (.const (.int .i64 2))), (2, (.tmp 5))]) (Opds.cons (Opd.mk rfl) (Opds.cons (Opd.mk rfl) Opds.nil)) (fun w => bld35_0_2 rfl rfl w)) rfl ?_
 refine St.bsl rfl (.cons (.mk rfl) (.cons (.mk rfl) .nil)) Tryd.underlying33 sz35 zv35 rfl rfl (by simp [Value.cells]) rfl rfl (fun b7 => ?_)
 refine St.mkTree (-1) 19 (.slice none 0 0) rfl [] ?_
 refine St.publish (.slice (some ⟨b7, 0, none⟩) 2 2) treeR [(.mk (-1) 19 nilV [] : TreeD), (.mk 2 0 ⟨(.slice (some ⟨b5, 0, none⟩) 1 1), rfl⟩ [(.mk (-1) 9 nilV [] : TreeD)] : TreeD)] rfl rfl (fun y hy => by rcases List.mem_cons.1 hy with rfl | hy; exact tree_wf _ _ _ _ (by decide) (by decide); rw [List.mem_singleton.1 hy]; exact tree_wf _ _ _ _ (by decide) (by decide)) ?_
 refine St.dallCons treeD (xs := []) (x := (.mk 2 0 ⟨(.slice (some ⟨b5, 0, none⟩) 1 1), rfl⟩ [(.mk (-1) 9 nilV [] : TreeD)] : TreeD)) ?_
 refine St.dallCons treeD (xs := [(.mk 2 0 ⟨(.slice (some ⟨b5, 0, none⟩) 1 1), rfl⟩ [(.mk (-1) 9 nilV [] : TreeD)] : TreeD)]) (x := (.mk (-1) 19 nilV [] : TreeD)) ?_
 refine St.mkTree 0 0 (.slice (some ⟨b7, 0, none⟩) 2 2) rfl [(.mk (-1) 19 nilV [] : TreeD), (.mk 2 0 ⟨(.slice (some ⟨b5, 0, none⟩) 1 1), rfl⟩ [(.mk (-1) 9 nilV [] : TreeD)] : TreeD)] ?_
 refine St.ev _ (Ev.build (ps := [(2, (.tmp 7))]) (Opds.cons (Opd.mk rfl) Opds.nil) (fun w => bld35_2 rfl w)) rfl ?_
 refine St.storeA (Opd.mk rfl) (Opd.mk rfl) sz35 (by first | simp only [List.length_cons, List.length_nil] | rfl) (by simp only [List.all_cons, List.all_nil, Bool.and_true, Bool.and_eq_true]; exact ⟨rfl, rfl, rfl⟩) ?_
 refine St.nil (St.then_normal (St.rett ?_))
 refine St.rets [_] [dat (treeD (.mk 0 0 ⟨(.slice (some ⟨b7, 0, none⟩) 2 2), rfl⟩ [(.mk (-1) 19 nilV [] : TreeD), (.mk 2 0 ⟨(.slice (some ⟨b5, 0, none⟩) 1 1), rfl⟩ [(.mk (-1) 9 nilV [] : TreeD)] : TreeD)] : TreeD))] Tryd.results12 ⟨⟨_, _, _, _, rfl, InB.mem, .inl ⟨⟨_, Tryd.underlying35⟩, sz35, rfl⟩⟩, trivial⟩ ?_ (fun _ hw => hw.sub)
 exact ⟨(.mk 0 0 ⟨(.slice (some ⟨b7, 0, none⟩) 2 2), rfl⟩ [(.mk (-1) 19 nilV [] : TreeD), (.mk 2 0 ⟨(.slice (some ⟨b5, 0, none⟩) 1 1), rfl⟩ [(.mk (-1) 9 nilV [] : TreeD)] : TreeD)] : TreeD), rfl, rfl, tree_wf _ _ _ _ (by decide) (by decide), rfl⟩
end Go.Proofs.YtolmidffiegkaaaDoor

/-
  (YtolmidffiegkaaaDoorJ34)
  A library's contract over the world as a contract over data.
  Conditions: none; everything holds of any program.
-/
namespace Go.J
open Go.RowKit
open Go
theorem FnW.of_dats {P : Program} {f : FuncId} {args : Array Value} {ds : List Dat} {post : Value → List Ent → Prop} (h : ∀ w (ρ : Ro), (∀ k o, ρ k = some o → w.heap[k]? = some o) → (∀ d ∈ ds, d.f ρ) → Calls P f args w fun e w' => ∃ v, e = .returned v ∧ post v [] ∧ Below w.heap.size w w') :
  FnW P f args (ds.map dat) post := by
 intro w ρ hs
 refine (h w ρ hs.fits fun d hd => dat_ok.1 (hs.ents (dat d) (List.mem_map_of_mem hd))).mono ?_
 rintro e w' ⟨v, rfl, hp, hb⟩
 refine ⟨v, [], rfl, hp, Mm.mk (ρ := ρ) ⟨hb.os, ⟨hb.tape, fun h => h.elim⟩, hb.output, hb.size, fun k hk _ => hb.block k hk, fun k o hk => ?_, Ro.le_refl _, fun _ _ _ => rfl, fun _ h => by simp at h, fun _ h => by simp at h, .nil⟩⟩
 rw [hb.block k (hs.rlt hk)]
 exact hs.fits k o hk
theorem FnVw.of_dats {P : Program} {f : FuncId} {args : Array Value} {ds : List Dat} {v : Value} (h : ∀ w (ρ : Ro), (∀ k o, ρ k = some o → w.heap[k]? = some o) → (∀ d ∈ ds, d.f ρ) → Calls P f args w fun e w' => e = .returned v ∧ Below w.heap.size w w') : FnVw P f args ds v :=
 FnW.of_dats fun w ρ h1 h2 => (h w ρ h1 h2).mono fun _ _ ⟨h1, h2⟩ => ⟨v, h1, rfl, h2⟩
theorem rowS_at {l : List Str} {k : Nat} {x : Str} (h : l[k]? = some x) : (rows strR l)[k * 1 + 0]? = some (sv x) := by
 have e : rows strR l = l.map fun s => sv s := by
  show l.flatMap (fun s => [sv s]) = _
  clear h
  induction l with
  | nil => rfl
  | cons a l ih => rw [List.flatMap_cons, ih]; rfl
 rw [e, Nat.mul_one, Nat.add_zero, List.getElem?_map, h]; rfl
theorem join_len (sep : List UInt8) (m : Nat) : ∀ l : List (List UInt8), (∀ s ∈ l, s.length ≤ m) → (Lib.join l sep).length ≤ l.length * (m + sep.length)
 | [], _ => by rw [Lib.join_nil]; simp
 | x :: r, h => by
  rw [Lib.join_cons, List.length_append]
  have h1 := h x (List.mem_cons_self ..)
  have h2 : (Lib.joinTail sep r).length ≤ r.length * (m + sep.length) := by
   have h3 : ∀ s ∈ r, s.length ≤ m := fun s hs => h s (List.mem_cons_of_mem _ hs)
   clear h h1
   induction r with
   | nil => simp [Lib.joinTail]
   | cons y r ih =>
    have e : Lib.joinTail sep (y :: r) = (sep ++ y) ++ Lib.joinTail sep r := by simp [Lib.joinTail]
    rw [e, List.length_append, List.length_append, List.length_cons, Nat.add_mul, Nat.one_mul]
    have h4 := ih fun s hs => h3 s (List.mem_cons_of_mem _ hs)
    have h5 := h3 y (List.mem_cons_self ..)
    omega
  rw [List.length_cons, Nat.add_mul, Nat.one_mul]
  omega
end Go.J

/-
  (YtolmidffiegkaaaDoorLay4)
  strings.Join, laid at this program: its functions are those that the contract was proved of.
  Conditions: none.
-/
namespace Go.Proofs
open Go.Shelf
def Tryd.lays156_ren : Go.Shelf.Ren := ⟨fun | 156 => 36 | 165 => 48 | 166 => 49 | 169 => 50 | 240 => 63 | 241 => 64 | 276 => 75 | 277 => 76 | n => n, fun | 31 => 54 | 9 => 9 | 3 => 3 | 4 => 4 | 0 => 0 | 20 => 20 | 72 => 121 | 76 => 124 | 70 => 119 | 37 => 51 | 75 => 123 | 127 => 138 | 164 => 156 | 5 => 5 | 80 => 126 | n => n, fun | n => n⟩
theorem Tryd.lays156 : Go.Proofs.Lays.n156 Tryd.prog Tryd.lays156_ren := {
 mixed := by kernel_rfl
 f156 := Tryd.func36.trans (congrArg some (by kernel_rfl))
 f165 := Tryd.func48.trans (congrArg some (by kernel_rfl))
 f166 := Tryd.func49.trans (congrArg some (by kernel_rfl))
 f169 := Tryd.func50.trans (congrArg some (by kernel_rfl))
 f240 := Tryd.func63.trans (congrArg some (by kernel_rfl))
 f241 := Tryd.func64.trans (congrArg some (by kernel_rfl))
 f276 := Tryd.func75.trans (congrArg some (by kernel_rfl))
 f277 := Tryd.func76.trans (congrArg some (by kernel_rfl))
 t0 := Tryd.underlying0
 a0 := Tryd.isAgg0
 z0 := Tryd.sizeOf0
 v0 := Tryd.zeroValue0
 t3 := Tryd.underlying3
 a3 := Tryd.isAgg3
 z3 := Tryd.sizeOf3
 v3 := Tryd.zeroValue3
 t4 := Tryd.underlying4
 a4 := Tryd.isAgg4
 z4 := Tryd.sizeOf4
 v4 := Tryd.zeroValue4
 t9 := Tryd.underlying9
 a9 := Tryd.isAgg9
 z9 := Tryd.sizeOf9
 v9 := Tryd.zeroValue9
 t20 := Tryd.underlying20
 a20 := Tryd.isAgg20
 z20 := Tryd.sizeOf20
 v20 := Tryd.zeroValue20
 t31 := Tryd.underlying54
 a31 := Tryd.isAgg54
 z31 := Tryd.sizeOf54
 v31 := Tryd.zeroValue54
 t37 := Tryd.underlying51
 a37 := Tryd.isAgg51
 z37 := Tryd.sizeOf51
 v37 := Tryd.zeroValue51
 t70 := Tryd.underlying119
 a70 := Tryd.isAgg119
 z70 := Tryd.sizeOf119
 v70 := Tryd.zeroValue119
 t72 := Tryd.underlying121
 a72 := Tryd.isAgg121
 z72 := Tryd.sizeOf121
 v72 := Tryd.zeroValue121
 t75 := Tryd.underlying123
 a75 := Tryd.isAgg123
 z75 := Tryd.sizeOf123
 v75 := Tryd.zeroValue123
 t76 := Tryd.underlying124
 a76 := Tryd.isAgg124
 z76 := Tryd.sizeOf124
 v76 := Tryd.zeroValue124
 t127 := Tryd.underlying138
 a127 := Tryd.isAgg138
 z127 := Tryd.sizeOf138
 v127 := Tryd.zeroValue138
 t164 := Tryd.underlying156
 a164 := Tryd.isAgg156
 z164 := Tryd.sizeOf156
 v164 := Tryd.zeroValue156 }
theorem Tryd.Builder_Extra_156 : Builder.Extra Tryd.prog Tryd.lays156_ren where
 sizeBuilder := by kernel_rfl
 liesBuilder := by kernel_rfl
 t5 := Tryd.underlying5
 a5 := Tryd.isAgg5
 z5 := Tryd.sizeOf5
 v5 := Tryd.zeroValue5
 infoByte := by kernel_rfl
 cellsByte := by kernel_rfl
 sizeByte := by kernel_rfl
 neB5 := by decide
end Go.Proofs

/-
  (YtolmidffiegkaaaDoorFactsS)
  Closed facts on the tables of the program: sizes, zero values, where fields lie, which functions have bodies.
  Conditions: none.
-/
set_option maxRecDepth 20000
set_option linter.unusedSimpArgs false
set_option linter.unusedVariables false
namespace Go.Proofs.YtolmidffiegkaaaDoor
open Go Go.J
theorem cb36 : Callable Tryd.prog 36 := ⟨_, Tryd.func36, rfl, by kernel_rfl⟩
theorem pl38 (w : World) : placesRun Tryd.prog 38 w = .ok #[(0, 1), (1, 1), (2, 1)] w := by kernel_rfl
theorem zv38 : (Tryd.prog.info? 38).bind (·.zero) = some (Value.agg #[.string ⟨#[]⟩, .int .i64 0, .string ⟨#[]⟩]) := by kernel_rfl
theorem pl46 (w : World) : placesRun Tryd.prog 46 w = .ok #[(0, 1), (1, 1), (2, 1)] w := by kernel_rfl
theorem zv46 : (Tryd.prog.info? 46).bind (·.zero) = some (Value.agg #[.int .i64 0, .int .i64 0, .int .i64 0]) := by kernel_rfl
theorem pl49 (w : World) : placesRun Tryd.prog 49 w = .ok #[(0, 1), (1, 1)] w := by kernel_rfl
theorem zc49 : (Tryd.prog.info? 49).bind (fun i => i.zero.map Value.cells) = some #[.slice none 0 0, .slice none 0 0] := by kernel_rfl
theorem cb11 : Callable Tryd.prog 11 := ⟨_, Tryd.func11, rfl, by kernel_rfl⟩
theorem cb12 : Callable Tryd.prog 12 := ⟨_, Tryd.func12, rfl, by kernel_rfl⟩
theorem cb7 : Callable Tryd.prog 7 := ⟨_, Tryd.func7, rfl, by kernel_rfl⟩
theorem cb13 : Callable Tryd.prog 13 := ⟨_, Tryd.func13, rfl, by kernel_rfl⟩
theorem cb6 : Callable Tryd.prog 6 := ⟨_, Tryd.func6, rfl, by kernel_rfl⟩
theorem sz5 : (Tryd.prog.info? 5).map (·.size) = some 1 := by kernel_rfl
theorem zv5 : (Tryd.prog.info? 5).bind (·.zero) = some (Value.int .u8 0) := by kernel_rfl
theorem by38 : (Tryd.prog.info? 38).map (·.bytes) = some 40 := by kernel_rfl
theorem sz39 : (Tryd.prog.info? 39).map (·.size) = some 1 := by kernel_rfl
theorem cb8 : Callable Tryd.prog 8 := ⟨_, Tryd.func8, rfl, by kernel_rfl⟩
theorem bld49_1 {u1 : Value} (h1 : u1.oneCell' = true) (w : World) : (Instr.build 49 #[(1, u1)]).run Tryd.prog w = .ok (.agg #[.slice none 0 0, u1]) w :=
 run_buildS zc49 (pl49 w) (by simp [Instr.fill, J.cells_agg, J.cells_one h1])
theorem bld38_0_1_2 {u0 u1 u2 : Value} (h0 : u0.oneCell' = true) (h1 : u1.oneCell' = true) (h2 : u2.oneCell' = true) (w : World) : (Instr.build 38 #[(0, u0), (1, u1), (2, u2)]).run Tryd.prog w = .ok (.agg #[u0, u1, u2]) w :=
 run_buildS zc38 (pl38 w) (by simp [Instr.fill, J.cells_agg, J.cells_one h0, J.cells_one h1, J.cells_one h2])
theorem bld46_0_1_2 {u0 u1 u2 : Value} (h0 : u0.oneCell' = true) (h1 : u1.oneCell' = true) (h2 : u2.oneCell' = true) (w : World) : (Instr.build 46 #[(0, u0), (1, u1), (2, u2)]).run Tryd.prog w = .ok (.agg #[u0, u1, u2]) w :=
 run_buildS zc46 (pl46 w) (by simp [Instr.fill, J.cells_agg, J.cells_one h0, J.cells_one h1, J.cells_one h2])
theorem bld49_0_1 {u0 u1 : Value} (h0 : u0.oneCell' = true) (h1 : u1.oneCell' = true) (w : World) : (Instr.build 49 #[(0, u0), (1, u1)]).run Tryd.prog w = .ok (.agg #[u0, u1]) w :=
 run_buildS zc49 (pl49 w) (by simp [Instr.fill, J.cells_agg, J.cells_one h0, J.cells_one h1])
end Go.Proofs.YtolmidffiegkaaaDoor

/-
  (YtolmidffiegkaaaDoorQ32)
  The walk of the text of a query.
  Conditions: the signs are those that the program lays.
-/
set_option maxRecDepth 20000
set_option linter.unusedSimpArgs false
set_option linter.unusedVariables false
namespace Go.Proofs.YtolmidffiegkaaaDoor
open Go Go.J
theorem Join_spec (v : Value) (l : List Str) (sep : Str) (hlen : (Lib.join l sep).length ≤ 140737488355328) (hl : l.length ≤ 140737488355328) : FnVw Tryd.prog 36 #[v, sv sep] [sl strR v l] (sv (Lib.join l sep)) :=
 FnVw.of_dats fun w ρ hf hd => by
  obtain ⟨a, cap, rfl, h2, h3, h4, h5⟩ := hd (sl strR v l) (List.mem_cons_self ..)
  have hm : (l.map fun s => (⟨s.toArray⟩ : ByteArray)).map (·.data.toList) = l := by rw [List.map_map]; exact List.map_id _
  have hsep : (⟨sep.toArray⟩ : ByteArray).data.toList = sep := rfl
  cases l with
  | nil =>
   refine (Any.strings_Join_none Tryd.lays156 Tryd.Builder_Extra_156 a cap ⟨sep.toArray⟩ w).mono ?_
   rintro e w' ⟨rfl, rfl⟩
   exact ⟨rfl, Go.RowKit.Below.refl _ _⟩
  | cons x l =>
   rcases h5 with h5 | ⟨b, off, C, e, fr, rfl, h6, h7⟩
   ·cases h5
   have hb := hf _ _ h6
   have hcells : ∀ (j : Nat) y, ((x :: l).map fun s => (⟨s.toArray⟩ : ByteArray))[j]? = some y → w.cell? ⟨b, off + j, none⟩ = some (.string y) := fun j y hy => by
    rw [List.getElem?_map] at hy
    obtain ⟨s, hs, rfl⟩ := Option.map_eq_some_iff.1 hy
    rw [cell?_of_blk hb]
    refine h7 j _ ?_
    have := rowS_at hs
    rw [Nat.mul_one, Nat.add_zero] at this
    exact this
   have hj := Any.strings_Join Tryd.lays156 Tryd.Builder_Extra_156 b off cap ((x :: l).map fun s => (⟨s.toArray⟩ : ByteArray)) ⟨sep.toArray⟩ w hcells (Array.getElem?_eq_some_iff.1 hb).1 (by rw [List.length_map]; exact hl) (by rw [List.length_map]; exact h2) (by rw [hm]; exact hlen)
   rw [hm, List.length_map] at hj
   exact hj
def signsQ : List Str := [[], [62], [62, 62], [60], [60, 60], [126]]
def sgn : Dat := ⟨fun ρ => ∃ u : OneV, (cel 0 u.1).f ρ ∧ (sl strR u.1 signsQ).f ρ, fun ρ ρ' h ⟨u, a, b⟩ => ⟨u, (cel 0 u.1).mono _ _ h a, (sl strR u.1 signsQ).mono _ _ h b⟩⟩
def preQ (k : Int) : Str := if k = 1 then [42] else if k = 3 then [39] else if k = 4 then [46] else []
def itemV (v : VarD) : Str := ((v.name ++ [58]) ++ preQ v.kind) ++ v.label
def va0 : VarD := ⟨[], 0, []⟩
def itemL (vs : List VarD) (l : QLnD) : Str := ((vs.getD l.a.toNat va0).name ++ signsQ.getD l.kind.toNat []) ++ (vs.getD l.b.toNat va0).name
def itemsQ (vs : List VarD) (ks : List QLnD) : List Str := vs.map itemV ++ ks.map (itemL vs)
def textQ (vs : List VarD) (ks : List QLnD) : Str := Lib.join (itemsQ vs ks) [32]
def prnF (vs : List VarD) (ks : List QLnD) : Str := if (qryF vs ks).1 ≠ 0 then [] else textQ vs ks
theorem pre_at {k : Int} (h1 : 1 ≤ k) (h4 : k ≤ 4) : ([[], [42], [], [39], [46]] : List Str)[k.toNat]? = some (preQ k) := by
 rcases (show k = 1 ∨ k = 2 ∨ k = 3 ∨ k = 4 by omega) with rfl | rfl | rfl | rfl <;> rfl
theorem isWord_len {s : Str} (h : isWord s = true) : s.length ≤ 120 := by
 have h1 := rc_len s
 rw [isWord_eq] at h
 simp only [Bool.and_eq_true, decide_eq_true_eq] at h
 have h2 : Lib.runeCountL s ≤ 30 := h.1.1.2
 omega
theorem var_len {vs : List VarD} {ks : List QLnD} (hq : QryOK vs ks) : ∀ v ∈ vs, v.name.length ≤ 30 ∧ v.label.length ≤ 120 := fun v hv => by
 obtain ⟨h1, h2, h3, h4, h5, h6⟩ := hq.var v hv
 refine ⟨(isName_len h3).2, ?_⟩
 rcases (show v.kind = 1 ∨ v.kind = 2 ∨ v.kind = 3 ∨ v.kind = 4 by omega) with h | h | h | h
 ·rw [h6 (Or.inl h)]; simp
 ·have := (isName_len (h4 h)).2; omega
 ·exact isWord_len (h5 h)
 ·rw [h6 (Or.inr h)]; simp
theorem preQ_len (k : Int) : (preQ k).length ≤ 1 := by unfold preQ; repeat (first | split | simp)
theorem sgn_len (k : Nat) : (signsQ.getD k []).length ≤ 2 := by
 match k with
 | 0 => decide
 | 1 => decide
 | 2 => decide
 | 3 => decide
 | 4 => decide
 | 5 => decide
 | k + 6 => exact Nat.zero_le _
theorem itemV_len {v : VarD} (h1 : v.name.length ≤ 30) (h2 : v.label.length ≤ 120) : (itemV v).length ≤ 200 := by
 have := preQ_len v.kind
 unfold itemV; rw [List.length_append, List.length_append, List.length_append]; simp only [List.length_cons, List.length_nil]; omega
theorem getD_va {vs : List VarD} {i : Nat} (h : i < vs.length) : vs[i]? = some (vs.getD i va0) := by rw [List.getD_eq_getElem?_getD, List.getElem?_eq_getElem h]; rfl
theorem items_len {vs : List VarD} {ks : List QLnD} (hq : QryOK vs ks) : (∀ s ∈ itemsQ vs ks, s.length ≤ 200) ∧ (itemsQ vs ks).length ≤ 12 := by
 refine ⟨fun s hs => ?_, ?_⟩
 ·unfold itemsQ at hs
  rcases List.mem_append.1 hs with hs | hs
  ·obtain ⟨v, hv, rfl⟩ := List.mem_map.1 hs
   exact itemV_len (var_len hq v hv).1 (var_len hq v hv).2
  ·obtain ⟨l, hl, rfl⟩ := List.mem_map.1 hs
   obtain ⟨_, _, a1, a2, b1, b2, _⟩ := hq.link l hl
   have ha := (var_len hq _ (List.mem_of_getElem? (getD_va (show l.a.toNat < vs.length by omega)))).1
   have hb := (var_len hq _ (List.mem_of_getElem? (getD_va (show l.b.toNat < vs.length by omega)))).1
   have hs := sgn_len l.kind.toNat
   unfold itemL; rw [List.length_append, List.length_append]; omega
 ·have h1 := hq.few
  have h2 := hq.links
  unfold itemsQ; rw [List.length_append, List.length_map, List.length_map]; omega
theorem text_len {vs : List VarD} {ks : List QLnD} (hq : QryOK vs ks) : (textQ vs ks).length ≤ 10000 := by
 obtain ⟨h1, h2⟩ := items_len hq
 have h3 := join_len [32] 200 (itemsQ vs ks) h1
 have h4 : (itemsQ vs ks).length * (200 + ([32] : List UInt8).length) ≤ 12 * 201 := Nat.mul_le_mul h2 (by simp)
 unfold textQ; omega
set_option maxHeartbeats 4000000 in
theorem Print_spec (q : QryD) : FnVw Tryd.prog 13 #[queryV q] [queryD q, u8, sgn] (.tuple #[sv (prnF q.vars q.links), fv (qryF q.vars q.links)]) := by
 refine FnVw.body (args := [queryV q]) (ds := [queryD q, u8, sgn]) 74 Tryd.func13 rfl Tryd.ntmps13 rfl (fun c hdr => ?_)
 refine St.cast (H' := [dat (queryD q), dat (u8), dat (sgn)]) rfl ?_
 refine St.seq ?_
 refine St.openD sgn (fun u : OneV => [cel 0 u.1, sl strR u.1 signsQ]) (fun ρ ⟨u, h1, h2⟩ => ⟨u, fun e he => by simp only [List.mem_cons, List.not_mem_nil, or_false] at he; rcases he with rfl | rfl; exact h1; exact h2⟩) fun us => ?_
 refine St.cast (H' := [dat (cel 0 us.1), dat (sl strR us.1 signsQ), dat (queryD q), dat u8, dat sgn]) rfl ?_
 refine St.openD (queryD q) (fun _ : Unit => queryL q) (fun ρ h => ⟨(), h⟩) fun _ => ?_
 refine St.cast (H' := [dat (sl varR q.vv.1 q.vars), dat (sl qlnR q.kv.1 q.links), dat (cel 0 us.1), dat (sl strR us.1 signsQ), dat (queryD q), dat (u8), dat (sgn)]) rfl ?_
 have hpf : prnF q.vars q.links = if (qryF q.vars q.links).1 ≠ 0 then [] else textQ q.vars q.links := rfl
 refine St.rg ?_
 refine St.boxA (.mk rfl) rfl (fun b1 => ?_)
 refine St.asg ?_
 refine St.alloc zc42 rfl (fun b3 => ?_)
 refine St.nil (St.then_normal (St.seq (St.seq (St.rg ?_))))
 refine St.ev _ (Ev.ldbA (.mk rfl) Tryd.underlying49 trivial (by exact sz49)) rfl ?_
 refine St.ev _ (Ev.callW hdr (qryVal_spec q) cb15 (.cons (.mk rfl) .nil)) rfl ?_
 refine St.alloc zc42 rfl (fun b4 => ?_)
 refine St.storeA (Opd.mk rfl) (Opd.mk rfl) sz42 (by first | simp only [List.length_cons, List.length_nil] | rfl) rfl ?_
 refine St.nil (St.then_normal (St.seq (St.rg ?_)))
 refine St.ev _ (Ev.fldb0 (.mk rfl) fo42_0) rfl ?_
 refine St.ev _ (Ev.ldb (.mk rfl) Tryd.underlying3 trivial (by rfl)) rfl ?_
 refine St.ev _ (Ev.neq (.mk rfl) (.mk rfl)) rfl ?_
 refine St.nil (St.then_normal ?_)
 refine St.cond _ rfl (fun h14 => ?_) (fun h14 => ?_)
 ·skip
  skip
  have hb : (qryF q.vars q.links).1 ≠ 0 := by simpa using h14
  rw [if_pos hb] at hpf
  refine St.seq ?_
  refine St.par [b3] mixed ?_
  refine SW.defer 0 (by repeat (first | refine NP.then ?_ | refine NP.inBlock ?_ | exact NP.body)) (by kernel_rfl) rfl (fun R => Ev.ldbA (.mk rfl) Tryd.underlying42 trivial (by exact sz42)) (by kernel_rfl) rfl ?_
  refine SW.defer 1 (by repeat (first | refine NP.then ?_ | refine NP.inBlock ?_ | exact NP.body)) (by kernel_rfl) rfl (fun R => Ev.assign (.mk rfl)) (by kernel_rfl) rfl ?_
  refine SW.turn1 (i := 2) (by kernel_rfl) rfl ?_
  refine St.storeA (Opd.mk rfl) (Opd.mk rfl) sz42 (by first | simp only [List.length_cons, List.length_nil] | rfl) rfl ?_
  refine St.nil (St.then_normal ?_)
  refine SW.go ?_
  refine SW.done (by kernel_rfl) ?_
  refine St.then_normal (St.rett (St.then_ret ?_))
  refine St.rets [_, _] [] Tryd.results13 ⟨rfl, ⟨⟨_, _, _, _, rfl, InB.mem, .inl ⟨⟨_, Tryd.underlying42⟩, sz42, rfl⟩⟩, trivial⟩⟩ ?_ (fun _ hw => hw.sub)
  rw [hpf]; rfl
 ·skip
  skip
  have hb : ¬ (qryF q.vars q.links).1 ≠ 0 := by simpa using h14
  rw [if_neg hb] at hpf
  obtain ⟨hq0, hq⟩ := qryF_ok (Decidable.not_not.1 hb)
  have hvl := var_len hq
  have hN4 := hq.few
  have hK8 := hq.links
  refine St.skip (St.then_normal (St.seq (St.rg ?_)))
  refine St.asg ?_
  refine St.nil (St.then_normal (St.seq (St.seq (St.rg ?_))))
  refine St.ev _ (Ev.fldb0 (.mk rfl) fo49_0) rfl ?_
  refine St.ev _ (Ev.ldb (.mk rfl) Tryd.underlying39 trivial (by rfl)) rfl ?_
  refine St.ev _ (Ev.lensl (.mk rfl) Tryd.underlying39) rfl ?_
  refine St.mv ?_
  refine St.nil (St.then_normal (St.block ?_))
  refine St.nilrow 9 1 ?_
  refine St.rowEqN (.slice none 0 0) (show _ = ((q.vars.take 0).map itemV).length from rfl) (show _ = rows strR ((q.vars.take 0).map itemV) from rfl) ?_
  refine St.loopH2 (ι := Nat) (κ := Value) (fun k z T => (19, iv k) :: (5, z) :: T) (fun k z => [row z 9 1 ((q.vars.take k).map itemV).length (rows strR ((q.vars.take k).map itemV)), blk b1 (.cells [q.vv.1, q.kv.1].toArray 49 (0, 0)), blk b3 (.cells [iv 0, iv 0].toArray 42 (0, 0)), dat (sl varR q.vv.1 q.vars), dat (sl qlnR q.kv.1 q.links), dat (u8), dat (cel 0 us.1), dat (sl strR us.1 signsQ)]) (fun k z => k ≤ q.vars.length ∧ z.oneCell' = true) (fun k z => q.vars.length - k) 0 (.slice none 0 0) (Keep.cons 1 rfl (Keep.cons 2 rfl (Keep.cons 3 rfl (Keep.cons 17 rfl (Keep.cons 18 rfl Keep.nil))))) ⟨Nat.zero_le _, rfl⟩ (by repeat (first | exact Sub.nil | refine Sub.cons (by first | rfl | exact congrArg (fun z => some (iv z)) (by first | omega | (dsimp only; omega)) | exact congrArg (fun z => some (Value.bool z)) (by first | assumption | exact Eq.symm (by assumption))) ?_)) (fun _ hw => hw.sub) ?_
  rintro k z ⟨hk, hz⟩
  refine St.seq (St.rg ?_)
  refine St.ev _ (Ev.lss (.mk rfl) (.mk rfl)) rfl ?_
  refine St.nil (St.then_normal (St.seq ?_))
  refine St.cond _ rfl (fun h20 => ?_) (fun h20 => ?_)
  ·skip
   try simp only [jbAll] at h20
   obtain ⟨va, hva⟩ := some_of_lt (show k < q.vars.length by omega)
   obtain ⟨hv1, hv2⟩ := hvl va (List.mem_of_getElem? hva)
   obtain ⟨hk1, hk4, _⟩ := hq.var va (List.mem_of_getElem? hva)
   have hpl := preQ_len va.kind
   have hIl : ((q.vars.take k).map itemV).length ≤ 4 := by rw [List.length_map, List.length_take]; omega
   refine St.skip (St.then_normal (St.seq (St.block (St.seq (St.rg ?_)))))
   refine St.ev _ (Ev.idxaddr (k := k) (.mk rfl) (.mk rfl) Tryd.underlying39 sz38 (by omega) (by omega)) rfl ?_
   refine St.ev _ (Ev.ldA (.mk rfl) hva Tryd.underlying38 trivial sz38 Cel.eq) rfl ?_
   refine St.alloc zc38 rfl (fun b7 => ?_)
   refine St.storeA (Opd.mk rfl) (Opd.mk rfl) sz38 (by first | simp only [List.length_cons, List.length_nil] | rfl) (by simp only [List.all_cons, List.all_nil, Bool.and_true, Bool.and_eq_true]; exact ⟨rfl, rfl, rfl⟩) ?_
   refine St.nil (St.then_normal ?_)
   refine St.parL [row z 9 1 ((q.vars.take k).map itemV).length (rows strR ((q.vars.take k).map itemV))] mixed ?_
   refine SW.defer 0 (by repeat (first | refine NP.then ?_ | refine NP.inBlock ?_ | exact NP.body)) (by kernel_rfl) rfl (fun R => Ev.move (.mk rfl)) (by kernel_rfl) rfl ?_
   refine SW.defer 1 (by repeat (first | refine NP.then ?_ | refine NP.inBlock ?_ | exact NP.body)) (by kernel_rfl) rfl (fun R => Ev.fldb0 (.mk rfl) fo38_0) (by kernel_rfl) rfl ?_
   refine SW.defer 2 (by repeat (first | refine NP.then ?_ | refine NP.inBlock ?_ | exact NP.body)) (by kernel_rfl) rfl (fun R => Ev.ldb (.mk rfl) Tryd.underlying9 trivial (by rfl)) (by kernel_rfl) rfl ?_
   refine SW.defer 3 (by repeat (first | refine NP.then ?_ | refine NP.inBlock ?_ | exact NP.body)) (by kernel_rfl) rfl (fun R => Ev.strcat (.mk rfl) (.mk rfl) (by first | omega | (simp only [List.length_append, List.length_cons, List.length_nil]; omega))) (by kernel_rfl) rfl ?_
   refine SW.defer 5 (by repeat (first | refine NP.then ?_ | refine NP.inBlock ?_ | exact NP.body)) (by kernel_rfl) rfl (fun R => Ev.fldb0 (.mk rfl) fo38_1) (by kernel_rfl) rfl ?_
   refine SW.defer 6 (by repeat (first | refine NP.then ?_ | refine NP.inBlock ?_ | exact NP.body)) (by kernel_rfl) rfl (fun R => Ev.ldb (.mk rfl) Tryd.underlying3 trivial (by rfl)) (by kernel_rfl) rfl ?_
   refine SW.defer 10 (by repeat (first | refine NP.then ?_ | refine NP.inBlock ?_ | exact NP.body)) (by kernel_rfl) rfl (fun R => Ev.fldb0 (.mk rfl) fo38_2) (by kernel_rfl) rfl ?_
   refine SW.defer 11 (by repeat (first | refine NP.then ?_ | refine NP.inBlock ?_ | exact NP.body)) (by kernel_rfl) rfl (fun R => Ev.ldb (.mk rfl) Tryd.underlying9 trivial (by rfl)) (by kernel_rfl) rfl ?_
   refine SW.turn1 (i := 4) (by kernel_rfl) rfl ?_
   refine St.bsl rfl (.cons (.mk rfl) (.cons (.mk rfl) (.cons (.mk rfl) (.cons (.mk rfl) (.cons (.mk rfl) .nil))))) Tryd.underlying54 sz9 zv9 rfl rfl (by simp [Value.cells]) rfl rfl (fun b27 => ?_)
   refine St.rowEqN (.slice (some ⟨b27, 0, none⟩) 5 5) (show _ = 5 from rfl) (show _ = rows strR [[], [42], [], [39], [46]] from rfl) ?_
   refine St.nil (St.then_normal ?_)
   refine SW.go ?_
   refine SW.turn1 (i := 7) (by kernel_rfl) rfl ?_
   refine St.ev _ (Ev.idxaddrrow (k := va.kind.toNat) (.mk rfl) (.mk rfl) Tryd.underlying54 sz9 (by omega) (by omega)) rfl ?_
   refine St.nil (St.then_normal ?_)
   refine SW.go ?_
   refine SW.turn1 (i := 8) (by kernel_rfl) rfl ?_
   refine St.ev _ (Ev.ldrow (.mk rfl) Tryd.underlying9 trivial (by omega) (rowS_at (pre_at hk1 hk4))) rfl ?_
   refine St.nil (St.then_normal ?_)
   refine SW.go ?_
   refine SW.defer 9 (by repeat (first | refine NP.then ?_ | refine NP.inBlock ?_ | exact NP.body)) (by kernel_rfl) rfl (fun R => Ev.strcat (.mk rfl) (.mk rfl) (by first | omega | (simp only [List.length_append, List.length_cons, List.length_nil]; omega))) (by kernel_rfl) rfl ?_
   refine SW.defer 12 (by repeat (first | refine NP.then ?_ | refine NP.inBlock ?_ | exact NP.body)) (by kernel_rfl) rfl (fun R => Ev.strcat (.mk rfl) (.mk rfl) (by first | omega | (simp only [List.length_append, List.length_cons, List.length_nil]; omega))) (by kernel_rfl) rfl ?_
   refine SW.slot 35 (sv (itemV va)) rfl rfl ?_
   refine SW.turn1 (i := 13) (by kernel_rfl) rfl ?_
   refine St.bsl rfl (.cons (.mk rfl) .nil) Tryd.underlying54 sz9 zv9 rfl rfl (by simp [Value.cells]) rfl rfl (fun b36 => ?_)
   refine St.nil (St.then_normal ?_)
   refine SW.go ?_
   refine SW.turn1 (i := 14) (by kernel_rfl) rfl ?_
   refine St.appendRow (.mk rfl) (.mk rfl) Tryd.underlying54 sz9 zv9 by9 (by simp [Value.oneCell', Value.cells]) (by omega) (by omega) rfl rfl rfl rfl (fun v37 hv37 => ?_)
   refine St.rowEqN v37 (show _ = ((q.vars.take (k + 1)).map itemV).length by rw [map_take_snoc itemV hva]; exact len_snoc) (show _ = rows strR ((q.vars.take (k + 1)).map itemV) by rw [map_take_snoc itemV hva]; exact rowsS_snoc _ _) ?_
   refine St.rowOne v37 (fun h37 _ => ?_)
   refine St.nil (St.then_normal ?_)
   refine SW.go ?_
   refine SW.defer 15 (by repeat (first | refine NP.then ?_ | refine NP.inBlock ?_ | exact NP.body)) (by kernel_rfl) rfl (fun R => Ev.assign (.mk rfl)) (by kernel_rfl) rfl ?_
   refine SW.done (by kernel_rfl) ?_
   refine St.in_normal (St.then_normal (St.rg ?_))
   refine St.ev _ (Ev.add (.mk rfl) (.mk rfl) (by omega)) rfl ?_
   refine St.mv ?_
   refine St.nil (St.then_normal ?_)
   refine St.againH2 (k + 1) v37 ⟨by omega, h37⟩ (by first | omega | (dsimp only; omega)) (by repeat (first | exact Sub.nil | refine Sub.cons (by first | rfl | exact congrArg (fun z => some (iv z)) (by first | omega | (dsimp only; omega)) | exact congrArg (fun z => some (Value.bool z)) (by first | assumption | exact Eq.symm (by assumption))) ?_)) (fun _ hw => hw.sub)
  ·skip
   try simp only [jbAll] at h20
   rw [List.take_of_length_le (show q.vars.length ≤ k by omega)]
   refine St.exit (St.then_exit (St.then_exit (St.in_hit (St.then_normal (St.seq (St.seq (St.rg ?_)))))))
   refine St.ev _ (Ev.fldb0 (.mk rfl) fo49_1) rfl ?_
   refine St.ev _ (Ev.ldb (.mk rfl) Tryd.underlying47 trivial (by rfl)) rfl ?_
   refine St.ev _ (Ev.lensl (.mk rfl) Tryd.underlying47) rfl ?_
   refine St.mv ?_
   refine St.nil (St.then_normal (St.block ?_))
   refine St.rowEqN z (show _ = (q.vars.map itemV ++ (q.links.take 0).map (itemL q.vars)).length by rw [List.take_zero, List.map_nil, List.append_nil]) (show _ = rows strR (q.vars.map itemV ++ (q.links.take 0).map (itemL q.vars)) by rw [List.take_zero, List.map_nil, List.append_nil]) ?_
   refine St.loopH2 (ι := Nat) (κ := Value) (fun j z2 T => (42, iv j) :: (5, z2) :: T) (fun j z2 => [row z2 9 1 (q.vars.map itemV ++ (q.links.take j).map (itemL q.vars)).length (rows strR (q.vars.map itemV ++ (q.links.take j).map (itemL q.vars))), blk b1 (.cells [q.vv.1, q.kv.1].toArray 49 (0, 0)), blk b3 (.cells [iv 0, iv 0].toArray 42 (0, 0)), dat (sl varR q.vv.1 q.vars), dat (sl qlnR q.kv.1 q.links), dat (u8), dat (cel 0 us.1), dat (sl strR us.1 signsQ)]) (fun j z2 => j ≤ q.links.length ∧ z2.oneCell' = true) (fun j z2 => q.links.length - j) 0 z (Keep.cons 1 rfl (Keep.cons 2 rfl (Keep.cons 3 rfl (Keep.cons 40 rfl (Keep.cons 41 rfl Keep.nil))))) ⟨Nat.zero_le _, hz⟩ (by repeat (first | exact Sub.nil | refine Sub.cons (by first | rfl | exact congrArg (fun z => some (iv z)) (by first | omega | (dsimp only; omega)) | exact congrArg (fun z => some (Value.bool z)) (by first | assumption | exact Eq.symm (by assumption))) ?_)) (fun _ hw => hw.sub) ?_
   rintro j z2 ⟨hj, hz2⟩
   refine St.seq (St.rg ?_)
   refine St.ev _ (Ev.lss (.mk rfl) (.mk rfl)) rfl ?_
   refine St.nil (St.then_normal (St.seq ?_))
   refine St.cond _ rfl (fun h43 => ?_) (fun h43 => ?_)
   ·skip
    try simp only [jbAll] at h43
    obtain ⟨l, hl⟩ := some_of_lt (show j < q.links.length by omega)
    obtain ⟨g1, g5, a1, a2, b1, b2, _⟩ := hq.link l (List.mem_of_getElem? hl)
    have hga := getD_va (vs := q.vars) (show l.a.toNat < q.vars.length by omega)
    have hgb := getD_va (vs := q.vars) (show l.b.toNat < q.vars.length by omega)
    have hla := (hvl _ (List.mem_of_getElem? hga)).1
    have hlb := (hvl _ (List.mem_of_getElem? hgb)).1
    have hsl := sgn_len l.kind.toNat
    have hgs : signsQ[l.kind.toNat]? = some (signsQ.getD l.kind.toNat []) := by rw [List.getD_eq_getElem?_getD, List.getElem?_eq_getElem (show l.kind.toNat < signsQ.length by show _ < 6; omega)]; rfl
    have hs6 : signsQ.length = 6 := rfl
    have hIl : (q.vars.map itemV ++ (q.links.take j).map (itemL q.vars)).length ≤ 12 := by rw [List.length_append, List.length_map, List.length_map, List.length_take]; omega
    refine St.skip (St.then_normal (St.seq (St.block (St.seq (St.rg ?_)))))
    refine St.ev _ (Ev.idxaddr (k := j) (.mk rfl) (.mk rfl) Tryd.underlying47 sz46 (by omega) (by omega)) rfl ?_
    refine St.ev _ (Ev.ldA (.mk rfl) hl Tryd.underlying46 trivial sz46 Cel.eq) rfl ?_
    refine St.alloc zc46 rfl (fun b9 => ?_)
    refine St.storeA (Opd.mk rfl) (Opd.mk rfl) sz46 (by first | simp only [List.length_cons, List.length_nil] | rfl) (by simp only [List.all_cons, List.all_nil, Bool.and_true, Bool.and_eq_true]; exact ⟨rfl, rfl, rfl⟩) ?_
    refine St.nil (St.then_normal ?_)
    refine St.parL [row z2 9 1 (q.vars.map itemV ++ (q.links.take j).map (itemL q.vars)).length (rows strR (q.vars.map itemV ++ (q.links.take j).map (itemL q.vars)))] mixed ?_
    refine SW.defer 0 (by repeat (first | refine NP.then ?_ | refine NP.inBlock ?_ | exact NP.body)) (by kernel_rfl) rfl (fun R => Ev.move (.mk rfl)) (by kernel_rfl) rfl ?_
    refine SW.defer 1 (by repeat (first | refine NP.then ?_ | refine NP.inBlock ?_ | exact NP.body)) (by kernel_rfl) rfl (fun R => Ev.fldb0 (.mk rfl) fo49_0) (by kernel_rfl) rfl ?_
    refine SW.defer 2 (by repeat (first | refine NP.then ?_ | refine NP.inBlock ?_ | exact NP.body)) (by kernel_rfl) rfl (fun R => Ev.ldb (.mk rfl) Tryd.underlying39 trivial (by rfl)) (by kernel_rfl) rfl ?_
    refine SW.defer 3 (by repeat (first | refine NP.then ?_ | refine NP.inBlock ?_ | exact NP.body)) (by kernel_rfl) rfl (fun R => Ev.fldb0 (.mk rfl) fo46_1) (by kernel_rfl) rfl ?_
    refine SW.defer 4 (by repeat (first | refine NP.then ?_ | refine NP.inBlock ?_ | exact NP.body)) (by kernel_rfl) rfl (fun R => Ev.ldb (.mk rfl) Tryd.underlying3 trivial (by rfl)) (by kernel_rfl) rfl ?_
    refine SW.defer 5 (by repeat (first | refine NP.then ?_ | refine NP.inBlock ?_ | exact NP.body)) (by kernel_rfl) rfl (fun R => Ev.idxaddr (k := l.a.toNat) (.mk rfl) (.mk rfl) Tryd.underlying39 sz38 (by omega) (by omega)) (by kernel_rfl) rfl ?_
    refine SW.defer 6 (by repeat (first | refine NP.then ?_ | refine NP.inBlock ?_ | exact NP.body)) (by kernel_rfl) rfl (fun R => Ev.fldel (.mk rfl) (by omega) fo38_0) (by kernel_rfl) rfl ?_
    refine SW.defer 7 (by repeat (first | refine NP.then ?_ | refine NP.inBlock ?_ | exact NP.body)) (by kernel_rfl) rfl (fun R => Ev.ld1 (.mk rfl) hga Tryd.underlying9 trivial rfl) (by kernel_rfl) rfl ?_
    refine SW.defer 8 (by repeat (first | refine NP.then ?_ | refine NP.inBlock ?_ | exact NP.body)) (by kernel_rfl) rfl (fun R => Ev.ldcel (.mk rfl) Tryd.underlying54 trivial) (by kernel_rfl) rfl ?_
    refine SW.defer 9 (by repeat (first | refine NP.then ?_ | refine NP.inBlock ?_ | exact NP.body)) (by kernel_rfl) rfl (fun R => Ev.fldb0 (.mk rfl) fo46_0) (by kernel_rfl) rfl ?_
    refine SW.defer 10 (by repeat (first | refine NP.then ?_ | refine NP.inBlock ?_ | exact NP.body)) (by kernel_rfl) rfl (fun R => Ev.ldb (.mk rfl) Tryd.underlying3 trivial (by rfl)) (by kernel_rfl) rfl ?_
    refine SW.defer 11 (by repeat (first | refine NP.then ?_ | refine NP.inBlock ?_ | exact NP.body)) (by kernel_rfl) rfl (fun R => Ev.idxaddr (k := l.kind.toNat) (.mk rfl) (.mk rfl) Tryd.underlying54 sz9 (by omega) (by omega)) (by kernel_rfl) rfl ?_
    refine SW.defer 12 (by repeat (first | refine NP.then ?_ | refine NP.inBlock ?_ | exact NP.body)) (by kernel_rfl) rfl (fun R => Ev.ld1 (.mk rfl) hgs Tryd.underlying9 trivial rfl) (by kernel_rfl) rfl ?_
    refine SW.defer 13 (by repeat (first | refine NP.then ?_ | refine NP.inBlock ?_ | exact NP.body)) (by kernel_rfl) rfl (fun R => Ev.strcat (.mk rfl) (.mk rfl) (by first | omega | (simp only [List.length_append, List.length_cons, List.length_nil]; omega))) (by kernel_rfl) rfl ?_
    refine SW.defer 14 (by repeat (first | refine NP.then ?_ | refine NP.inBlock ?_ | exact NP.body)) (by kernel_rfl) rfl (fun R => Ev.fldb0 (.mk rfl) fo49_0) (by kernel_rfl) rfl ?_
    refine SW.defer 15 (by repeat (first | refine NP.then ?_ | refine NP.inBlock ?_ | exact NP.body)) (by kernel_rfl) rfl (fun R => Ev.ldb (.mk rfl) Tryd.underlying39 trivial (by rfl)) (by kernel_rfl) rfl ?_
    refine SW.defer 16 (by repeat (first | refine NP.then ?_ | refine NP.inBlock ?_ | exact NP.body)) (by kernel_rfl) rfl (fun R => Ev.fldb0 (.mk rfl) fo46_2) (by kernel_rfl) rfl ?_
    refine SW.defer 17 (by repeat (first | refine NP.then ?_ | refine NP.inBlock ?_ | exact NP.body)) (by kernel_rfl) rfl (fun R => Ev.ldb (.mk rfl) Tryd.underlying3 trivial (by rfl)) (by kernel_rfl) rfl ?_
    refine SW.defer 18 (by repeat (first | refine NP.then ?_ | refine NP.inBlock ?_ | exact NP.body)) (by kernel_rfl) rfl (fun R => Ev.idxaddr (k := l.b.toNat) (.mk rfl) (.mk rfl) Tryd.underlying39 sz38 (by omega) (by omega)) (by kernel_rfl) rfl ?_
    refine SW.defer 19 (by repeat (first | refine NP.then ?_ | refine NP.inBlock ?_ | exact NP.body)) (by kernel_rfl) rfl (fun R => Ev.fldel (.mk rfl) (by omega) fo38_0) (by kernel_rfl) rfl ?_
    refine SW.defer 20 (by repeat (first | refine NP.then ?_ | refine NP.inBlock ?_ | exact NP.body)) (by kernel_rfl) rfl (fun R => Ev.ld1 (.mk rfl) hgb Tryd.underlying9 trivial rfl) (by kernel_rfl) rfl ?_
    refine SW.defer 21 (by repeat (first | refine NP.then ?_ | refine NP.inBlock ?_ | exact NP.body)) (by kernel_rfl) rfl (fun R => Ev.strcat (.mk rfl) (.mk rfl) (by first | omega | (simp only [List.length_append, List.length_cons, List.length_nil]; omega))) (by kernel_rfl) rfl ?_
    refine SW.slot 67 (sv (itemL q.vars l)) rfl rfl ?_
    refine SW.turn1 (i := 22) (by kernel_rfl) rfl ?_
    refine St.bsl rfl (.cons (.mk rfl) .nil) Tryd.underlying54 sz9 zv9 rfl rfl (by simp [Value.cells]) rfl rfl (fun b68 => ?_)
    refine St.nil (St.then_normal ?_)
    refine SW.go ?_
    refine SW.turn1 (i := 23) (by kernel_rfl) rfl ?_
    refine St.appendRow (.mk rfl) (.mk rfl) Tryd.underlying54 sz9 zv9 by9 (by simp [Value.oneCell', Value.cells]) (by omega) (by omega) rfl rfl rfl rfl (fun v69 hv69 => ?_)
    refine St.rowEqN v69 (show _ = (q.vars.map itemV ++ (q.links.take (j + 1)).map (itemL q.vars)).length by rw [map_take_snoc (itemL q.vars) hl, ← List.append_assoc]; exact len_snoc) (show _ = rows strR (q.vars.map itemV ++ (q.links.take (j + 1)).map (itemL q.vars)) by rw [map_take_snoc (itemL q.vars) hl, ← List.append_assoc]; exact rowsS_snoc _ _) ?_
    refine St.rowOne v69 (fun h69 _ => ?_)
    refine St.nil (St.then_normal ?_)
    refine SW.go ?_
    refine SW.defer 24 (by repeat (first | refine NP.then ?_ | refine NP.inBlock ?_ | exact NP.body)) (by kernel_rfl) rfl (fun R => Ev.assign (.mk rfl)) (by kernel_rfl) rfl ?_
    refine SW.done (by kernel_rfl) ?_
    refine St.in_normal (St.then_normal (St.rg ?_))
    refine St.ev _ (Ev.add (.mk rfl) (.mk rfl) (by omega)) rfl ?_
    refine St.mv ?_
    refine St.nil (St.then_normal ?_)
    refine St.againH2 (j + 1) v69 ⟨by omega, h69⟩ (by first | omega | (dsimp only; omega)) (by repeat (first | exact Sub.nil | refine Sub.cons (by first | rfl | exact congrArg (fun z => some (iv z)) (by first | omega | (dsimp only; omega)) | exact congrArg (fun z => some (Value.bool z)) (by first | assumption | exact Eq.symm (by assumption))) ?_)) (fun _ hw => hw.sub)
   ·skip
    try simp only [jbAll] at h43
    rw [List.take_of_length_le (show q.links.length ≤ j by omega)]
    have hit := items_len hq
    have htl := text_len hq
    refine St.exit (St.then_exit (St.then_exit (St.in_hit (St.then_normal (St.seq ?_)))))
    refine St.publish z2 strR (itemsQ q.vars q.links) rfl rfl (fun s hs => by have := hit.1 s hs; show s.length ≤ 140737488351232; omega) ?_
    refine St.rg ?_
    refine St.mv ?_
    refine St.ev _ (Ev.callW hdr (Join_spec z2 (itemsQ q.vars q.links) [32] (by have e : (Lib.join (itemsQ q.vars q.links) [32]).length ≤ 10000 := htl; omega) (by omega)) cb36 (.cons (.mk rfl) (.cons (.mk rfl) .nil))) rfl ?_
    refine St.ev _ (Ev.build (ps := []) (Opds.nil) (fun w => bld42_  w)) rfl ?_
    refine St.asg ?_
    refine St.storeA (Opd.mk rfl) (Opd.mk rfl) sz42 (by first | simp only [List.length_cons, List.length_nil] | rfl) rfl ?_
    refine St.nil (St.then_normal (St.rett ?_))
    refine St.rets [_, _] [] Tryd.results13 ⟨rfl, ⟨⟨_, _, _, _, rfl, InB.mem, .inl ⟨⟨_, Tryd.underlying42⟩, sz42, rfl⟩⟩, trivial⟩⟩ ?_ (fun _ hw => hw.sub)
    rw [hpf, hq0]; rfl
end Go.Proofs.YtolmidffiegkaaaDoor

/-
  (YtolmidffiegkaaaDoorQ2)
  The walk of the meanings of determiners.
  Conditions: none beyond the sizes.
-/
set_option maxRecDepth 20000
set_option linter.unusedSimpArgs false
set_option linter.unusedVariables false
namespace Go.Proofs.YtolmidffiegkaaaDoor
open Go Go.J
abbrev e0 : Sm0 := .mk sE []
abbrev t0 : Sm0 := .mk sT []
abbrev fn0 (a b : Sm0) : Sm0 := .mk [] [a, b]
abbrev bd0 (i : Int) : Tm0 := .mk 2 [] i S0 []
abbrev app0 (a b : Tm0) : Tm0 := .mk 4 [] 0 S0 [a, b]
abbrev abs0 (s : Sm0) (t : Tm0) : Tm0 := .mk 3 [] 0 s [t]
abbrev con0 (n : Str) (s : Sm0) : Tm0 := .mk 1 n 0 s []
abbrev p0 : Sm0 := fn0 e0 t0
abbrev qin0 (q c : Str) : Tm0 := app0 (con0 q (fn0 p0 t0)) (abs0 e0 (app0 (app0 (con0 c (fn0 t0 (fn0 t0 t0))) (app0 (bd0 2) (bd0 0))) (app0 (bd0 1) (bd0 0))))
abbrev not0 : Str := [110, 111, 116]
def quant0 (q c : Str) (no : Bool) : Tm0 := abs0 p0 (abs0 p0 (if no then app0 (con0 not0 (fn0 t0 t0)) (qin0 q c) else qin0 q c))
set_option maxHeartbeats 2000000 in
theorem quantified_spec (q cc : Str) (no : Bool) (hq : slen q) (hcc : slen cc) : FnH Tryd.prog 31 #[sv q, sv cc, .bool no] ([].map dat) (fun v H' => H' = [dat (isTerm (quant0 q cc no) v)]) := by
 refine FnH.body (args := [sv q, sv cc, .bool no]) 51 Tryd.func31 rfl Tryd.ntmps31 rfl (fun c => ?_)
 refine St.cast (H' := []) rfl ?_
 refine St.seq (St.rg ?_)
 refine St.alloc zc80 rfl (fun b6 => ?_)
 refine St.nil (St.then_normal (St.seq (St.rg ?_)))
 refine St.calld (base_spec [101] (by decide)) cb25 (.cons (.mk rfl) .nil) rfl ?_
 rintro v11 _ rfl
 refine St.app1 ?_
 refine St.isSim e0 v11 (fun xe hxe => ?_)
 obtain ⟨hxeV, hxeE, hxew⟩ := hxe
 subst hxeV
 refine St.calld (base_spec [116] (by decide)) cb25 (.cons (.mk rfl) .nil) rfl ?_
 rintro v12 _ rfl
 refine St.app1 ?_
 refine St.isSim t0 v12 (fun xt hxt => ?_)
 obtain ⟨hxtV, hxtE, hxtw⟩ := hxt
 subst hxtV
 refine St.alloc zc77 rfl (fun b7 => ?_)
 refine St.alloc zc77 rfl (fun b8 => ?_)
 refine St.storeA (Opd.mk rfl) (Opd.mk rfl) sz77 (by first | simp only [List.length_cons, List.length_nil] | rfl) (by simp only [List.all_cons, List.all_nil, Bool.and_true, Bool.and_eq_true]; exact ⟨rfl, xe.av.2⟩) ?_
 refine St.storeA (Opd.mk rfl) (Opd.mk rfl) sz77 (by first | simp only [List.length_cons, List.length_nil] | rfl) (by simp only [List.all_cons, List.all_nil, Bool.and_true, Bool.and_eq_true]; exact ⟨rfl, xt.av.2⟩) ?_
 refine St.nil (St.then_normal (St.seq (St.rg ?_)))
 refine St.ev _ (Ev.ldbA (.mk rfl) Tryd.underlying77 trivial (by exact sz77)) rfl ?_
 refine St.ev _ (Ev.ldbA (.mk rfl) Tryd.underlying77 trivial (by exact sz77)) rfl ?_
 refine St.calld (fun_spec (simV xe) (simV xt) e0 t0) cb26 (.cons (.mk rfl) (.cons (.mk rfl) .nil)) rfl ?_
 rintro v15 _ rfl
 refine St.app1 ?_
 refine St.isSim p0 v15 (fun xp hxp => ?_)
 obtain ⟨hxpV, hxpE, hxpw⟩ := hxp
 subst hxpV
 refine St.alloc zc77 rfl (fun b9 => ?_)
 refine St.storeA (Opd.mk rfl) (Opd.mk rfl) sz77 (by first | simp only [List.length_cons, List.length_nil] | rfl) (by simp only [List.all_cons, List.all_nil, Bool.and_true, Bool.and_eq_true]; exact ⟨rfl, xp.av.2⟩) ?_
 refine St.nil (St.then_normal (St.seq ?_))
 refine St.bagA 23 24 16 [10] (⟨16, [], fun u => eqD u ((sv q))⟩::⟨17, [], fun u => eqD u ((simV xp))⟩::⟨18, [], fun u => eqD u ((simV xt))⟩::⟨19, [1, 2], fun u => isSim (fn0 p0 t0) u⟩::⟨20, [0, 3], fun u => isTerm (con0 q (fn0 p0 t0)) u⟩::⟨21, [], fun u => eqD u ((simV xe))⟩::⟨22, [], fun u => eqD u ((sv cc))⟩::⟨23, [], fun u => eqD u ((simV xt))⟩::⟨24, [], fun u => eqD u ((simV xt))⟩::⟨25, [], fun u => eqD u ((simV xt))⟩::⟨26, [8, 9], fun u => isSim (fn0 t0 t0) u⟩::⟨27, [7, 10], fun u => isSim (fn0 t0 (fn0 t0 t0)) u⟩::⟨28, [6, 11], fun u => isTerm (con0 cc (fn0 t0 (fn0 t0 t0))) u⟩::⟨29, [], fun u => isTerm (bd0 2) u⟩::⟨30, [], fun u => isTerm (bd0 0) u⟩::⟨31, [13, 14], fun u => isTerm (app0 (bd0 2) (bd0 0)) u⟩::⟨32, [12, 15], fun u => isTerm (app0 (con0 cc (fn0 t0 (fn0 t0 t0))) (app0 (bd0 2) (bd0 0))) u⟩::⟨33, [], fun u => isTerm (bd0 1) u⟩::⟨34, [], fun u => isTerm (bd0 0) u⟩::⟨35, [17, 18], fun u => isTerm (app0 (bd0 1) (bd0 0)) u⟩::⟨36, [16, 19], fun u => isTerm (app0 (app0 (con0 cc (fn0 t0 (fn0 t0 t0))) (app0 (bd0 2) (bd0 0))) (app0 (bd0 1) (bd0 0))) u⟩::⟨37, [5, 20], fun u => isTerm (abs0 e0 (app0 (app0 (con0 cc (fn0 t0 (fn0 t0 t0))) (app0 (bd0 2) (bd0 0))) (app0 (bd0 1) (bd0 0)))) u⟩::⟨38, [4, 21], fun u => isTerm (app0 (con0 q (fn0 p0 t0)) (abs0 e0 (app0 (app0 (con0 cc (fn0 t0 (fn0 t0 t0))) (app0 (bd0 2) (bd0 0))) (app0 (bd0 1) (bd0 0))))) u⟩::⟨10, [], fun u => eqD u u⟩::[]) ((16, [])::(17, [])::(18, [])::(19, [1, 2])::(20, [0, 3])::(21, [])::(22, [])::(23, [])::(24, [])::(25, [])::(26, [8, 9])::(27, [7, 10])::(28, [6, 11])::(29, [])::(30, [])::(31, [13, 14])::(32, [12, 15])::(33, [])::(34, [])::(35, [17, 18])::(36, [16, 19])::(37, [5, 20])::(38, [4, 21])::(10, [])::[]) [23, 22] rfl rfl zc80 rfl (by kernel_rfl) rfl rfl mixed (by kernel_rfl) (by kernel_rfl) (by rfl) (fun e => [(10, e 23), (38, e 22)]) (fun e => [dat (eqD (e 23) (e 23)), dat (isTerm (app0 (con0 q (fn0 p0 t0)) (abs0 e0 (app0 (app0 (con0 cc (fn0 t0 (fn0 t0 t0))) (app0 (bd0 2) (bd0 0))) (app0 (bd0 1) (bd0 0))))) (e 22))]) (fun _ => rfl) (fun _ => rfl) ?_ (fun e b10 hb10 => ?_)
 ·skip
  refine Hops.cons (Hop.mk (fun e => []) (fun e => []) (fun _ => rfl) (fun _ => rfl) (fun c e hdr2 => ?_)) ?_
  ·skip
   refine St.app0 ?_
   refine St.mv ?_
   refine St.fact (eqD ((sv q)) ((sv q))) (fun _ _ _ => rfl) ?_
   refine St.nil (St.then_normal ?_)
   exact St.bagged _ rfl _ rfl
  refine Hops.cons (Hop.mk (fun e => []) (fun e => []) (fun _ => rfl) (fun _ => rfl) (fun c e hdr2 => ?_)) ?_
  ·skip
   refine St.app0 ?_
   refine St.ev _ (Ev.ldbA (.mk rfl) Tryd.underlying77 trivial (by exact sz77)) rfl ?_
   refine St.fact (eqD ((simV xp)) ((simV xp))) (fun _ _ _ => rfl) ?_
   refine St.nil (St.then_normal ?_)
   exact St.bagged _ rfl _ rfl
  refine Hops.cons (Hop.mk (fun e => []) (fun e => []) (fun _ => rfl) (fun _ => rfl) (fun c e hdr2 => ?_)) ?_
  ·skip
   refine St.app0 ?_
   refine St.ev _ (Ev.ldbA (.mk rfl) Tryd.underlying77 trivial (by exact sz77)) rfl ?_
   refine St.fact (eqD ((simV xt)) ((simV xt))) (fun _ _ _ => rfl) ?_
   refine St.nil (St.then_normal ?_)
   exact St.bagged _ rfl _ rfl
  refine Hops.cons (Hop.mk (fun e => [(17, e 1), (18, e 2)]) (fun e => [dat (eqD (e 1) ((simV xp))), dat (eqD (e 2) ((simV xt)))]) (fun _ => rfl) (fun _ => rfl) (fun c e hdr2 => ?_)) ?_
  ·skip
   refine St.app2 ?_
   refine St.eqSlot (P := Tryd.prog) 17 (e 1) ((simV xp)) rfl ?_
   refine St.eqSlot (P := Tryd.prog) 18 (e 2) ((simV xt)) rfl ?_
   refine St.calld (fun_spec (simV xp) (simV xt) p0 t0) cb26 (.cons (.mk rfl) (.cons (.mk rfl) .nil)) rfl ?_
   rintro v19 _ rfl
   refine St.app1 ?_
   refine St.nil (St.then_normal ?_)
   exact St.bagged _ rfl _ rfl
  refine Hops.cons (Hop.mk (fun e => [(16, e 0), (19, e 3)]) (fun e => [dat (eqD (e 0) ((sv q))), dat (isSim (fn0 p0 t0) (e 3))]) (fun _ => rfl) (fun _ => rfl) (fun c e hdr2 => ?_)) ?_
  ·skip
   refine St.app2 ?_
   refine St.eqSlot (P := Tryd.prog) 16 (e 0) ((sv q)) rfl ?_
   refine St.calld (con_spec q hq (e 3) (fn0 p0 t0)) cb32 (.cons (.mk rfl) (.cons (.mk rfl) .nil)) rfl ?_
   rintro v20 _ rfl
   refine St.app1 ?_
   refine St.nil (St.then_normal ?_)
   exact St.bagged _ rfl _ rfl
  refine Hops.cons (Hop.mk (fun e => []) (fun e => []) (fun _ => rfl) (fun _ => rfl) (fun c e hdr2 => ?_)) ?_
  ·skip
   refine St.app0 ?_
   refine St.ev _ (Ev.ldbA (.mk rfl) Tryd.underlying77 trivial (by exact sz77)) rfl ?_
   refine St.fact (eqD ((simV xe)) ((simV xe))) (fun _ _ _ => rfl) ?_
   refine St.nil (St.then_normal ?_)
   exact St.bagged _ rfl _ rfl
  refine Hops.cons (Hop.mk (fun e => []) (fun e => []) (fun _ => rfl) (fun _ => rfl) (fun c e hdr2 => ?_)) ?_
  ·skip
   refine St.app0 ?_
   refine St.mv ?_
   refine St.fact (eqD ((sv cc)) ((sv cc))) (fun _ _ _ => rfl) ?_
   refine St.nil (St.then_normal ?_)
   exact St.bagged _ rfl _ rfl
  refine Hops.cons (Hop.mk (fun e => []) (fun e => []) (fun _ => rfl) (fun _ => rfl) (fun c e hdr2 => ?_)) ?_
  ·skip
   refine St.app0 ?_
   refine St.ev _ (Ev.ldbA (.mk rfl) Tryd.underlying77 trivial (by exact sz77)) rfl ?_
   refine St.fact (eqD ((simV xt)) ((simV xt))) (fun _ _ _ => rfl) ?_
   refine St.nil (St.then_normal ?_)
   exact St.bagged _ rfl _ rfl
  refine Hops.cons (Hop.mk (fun e => []) (fun e => []) (fun _ => rfl) (fun _ => rfl) (fun c e hdr2 => ?_)) ?_
  ·skip
   refine St.app0 ?_
   refine St.ev _ (Ev.ldbA (.mk rfl) Tryd.underlying77 trivial (by exact sz77)) rfl ?_
   refine St.fact (eqD ((simV xt)) ((simV xt))) (fun _ _ _ => rfl) ?_
   refine St.nil (St.then_normal ?_)
   exact St.bagged _ rfl _ rfl
  refine Hops.cons (Hop.mk (fun e => []) (fun e => []) (fun _ => rfl) (fun _ => rfl) (fun c e hdr2 => ?_)) ?_
  ·skip
   refine St.app0 ?_
   refine St.ev _ (Ev.ldbA (.mk rfl) Tryd.underlying77 trivial (by exact sz77)) rfl ?_
   refine St.fact (eqD ((simV xt)) ((simV xt))) (fun _ _ _ => rfl) ?_
   refine St.nil (St.then_normal ?_)
   exact St.bagged _ rfl _ rfl
  refine Hops.cons (Hop.mk (fun e => [(24, e 8), (25, e 9)]) (fun e => [dat (eqD (e 8) ((simV xt))), dat (eqD (e 9) ((simV xt)))]) (fun _ => rfl) (fun _ => rfl) (fun c e hdr2 => ?_)) ?_
  ·skip
   refine St.app2 ?_
   refine St.eqSlot (P := Tryd.prog) 24 (e 8) ((simV xt)) rfl ?_
   refine St.eqSlot (P := Tryd.prog) 25 (e 9) ((simV xt)) rfl ?_
   refine St.calld (fun_spec (simV xt) (simV xt) t0 t0) cb26 (.cons (.mk rfl) (.cons (.mk rfl) .nil)) rfl ?_
   rintro v26 _ rfl
   refine St.app1 ?_
   refine St.nil (St.then_normal ?_)
   exact St.bagged _ rfl _ rfl
  refine Hops.cons (Hop.mk (fun e => [(23, e 7), (26, e 10)]) (fun e => [dat (eqD (e 7) ((simV xt))), dat (isSim (fn0 t0 t0) (e 10))]) (fun _ => rfl) (fun _ => rfl) (fun c e hdr2 => ?_)) ?_
  ·skip
   refine St.app2 ?_
   refine St.eqSlot (P := Tryd.prog) 23 (e 7) ((simV xt)) rfl ?_
   refine St.calld (fun_spec (simV xt) (e 10) t0 (fn0 t0 t0)) cb26 (.cons (.mk rfl) (.cons (.mk rfl) .nil)) rfl ?_
   rintro v27 _ rfl
   refine St.app1 ?_
   refine St.nil (St.then_normal ?_)
   exact St.bagged _ rfl _ rfl
  refine Hops.cons (Hop.mk (fun e => [(22, e 6), (27, e 11)]) (fun e => [dat (eqD (e 6) ((sv cc))), dat (isSim (fn0 t0 (fn0 t0 t0)) (e 11))]) (fun _ => rfl) (fun _ => rfl) (fun c e hdr2 => ?_)) ?_
  ·skip
   refine St.app2 ?_
   refine St.eqSlot (P := Tryd.prog) 22 (e 6) ((sv cc)) rfl ?_
   refine St.calld (con_spec cc hcc (e 11) (fn0 t0 (fn0 t0 t0))) cb32 (.cons (.mk rfl) (.cons (.mk rfl) .nil)) rfl ?_
   rintro v28 _ rfl
   refine St.app1 ?_
   refine St.nil (St.then_normal ?_)
   exact St.bagged _ rfl _ rfl
  refine Hops.cons (Hop.mk (fun e => []) (fun e => []) (fun _ => rfl) (fun _ => rfl) (fun c e hdr2 => ?_)) ?_
  ·skip
   refine St.app0 ?_
   refine St.calld (bound_spec 2 (by unfold i64ok; decide)) cb35 (.cons (.mk rfl) .nil) rfl ?_
   rintro v29 _ rfl
   refine St.app1 ?_
   refine St.nil (St.then_normal ?_)
   exact St.bagged _ rfl _ rfl
  refine Hops.cons (Hop.mk (fun e => []) (fun e => []) (fun _ => rfl) (fun _ => rfl) (fun c e hdr2 => ?_)) ?_
  ·skip
   refine St.app0 ?_
   refine St.calld (bound_spec 0 (by unfold i64ok; decide)) cb35 (.cons (.mk rfl) .nil) rfl ?_
   rintro v30 _ rfl
   refine St.app1 ?_
   refine St.nil (St.then_normal ?_)
   exact St.bagged _ rfl _ rfl
  refine Hops.cons (Hop.mk (fun e => [(29, e 13), (30, e 14)]) (fun e => [dat (isTerm (bd0 2) (e 13)), dat (isTerm (bd0 0) (e 14))]) (fun _ => rfl) (fun _ => rfl) (fun c e hdr2 => ?_)) ?_
  ·skip
   refine St.app2 ?_
   refine St.calld (app_spec (e 13) (e 14) (bd0 2) (bd0 0)) cb34 (.cons (.mk rfl) (.cons (.mk rfl) .nil)) rfl ?_
   rintro v31 _ rfl
   refine St.app1 ?_
   refine St.nil (St.then_normal ?_)
   exact St.bagged _ rfl _ rfl
  refine Hops.cons (Hop.mk (fun e => [(28, e 12), (31, e 15)]) (fun e => [dat (isTerm (con0 cc (fn0 t0 (fn0 t0 t0))) (e 12)), dat (isTerm (app0 (bd0 2) (bd0 0)) (e 15))]) (fun _ => rfl) (fun _ => rfl) (fun c e hdr2 => ?_)) ?_
  ·skip
   refine St.app2 ?_
   refine St.calld (app_spec (e 12) (e 15) (con0 cc (fn0 t0 (fn0 t0 t0))) (app0 (bd0 2) (bd0 0))) cb34 (.cons (.mk rfl) (.cons (.mk rfl) .nil)) rfl ?_
   rintro v32 _ rfl
   refine St.app1 ?_
   refine St.nil (St.then_normal ?_)
   exact St.bagged _ rfl _ rfl
  refine Hops.cons (Hop.mk (fun e => []) (fun e => []) (fun _ => rfl) (fun _ => rfl) (fun c e hdr2 => ?_)) ?_
  ·skip
   refine St.app0 ?_
   refine St.calld (bound_spec 1 (by unfold i64ok; decide)) cb35 (.cons (.mk rfl) .nil) rfl ?_
   rintro v33 _ rfl
   refine St.app1 ?_
   refine St.nil (St.then_normal ?_)
   exact St.bagged _ rfl _ rfl
  refine Hops.cons (Hop.mk (fun e => []) (fun e => []) (fun _ => rfl) (fun _ => rfl) (fun c e hdr2 => ?_)) ?_
  ·skip
   refine St.app0 ?_
   refine St.calld (bound_spec 0 (by unfold i64ok; decide)) cb35 (.cons (.mk rfl) .nil) rfl ?_
   rintro v34 _ rfl
   refine St.app1 ?_
   refine St.nil (St.then_normal ?_)
   exact St.bagged _ rfl _ rfl
  refine Hops.cons (Hop.mk (fun e => [(33, e 17), (34, e 18)]) (fun e => [dat (isTerm (bd0 1) (e 17)), dat (isTerm (bd0 0) (e 18))]) (fun _ => rfl) (fun _ => rfl) (fun c e hdr2 => ?_)) ?_
  ·skip
   refine St.app2 ?_
   refine St.calld (app_spec (e 17) (e 18) (bd0 1) (bd0 0)) cb34 (.cons (.mk rfl) (.cons (.mk rfl) .nil)) rfl ?_
   rintro v35 _ rfl
   refine St.app1 ?_
   refine St.nil (St.then_normal ?_)
   exact St.bagged _ rfl _ rfl
  refine Hops.cons (Hop.mk (fun e => [(32, e 16), (35, e 19)]) (fun e => [dat (isTerm (app0 (con0 cc (fn0 t0 (fn0 t0 t0))) (app0 (bd0 2) (bd0 0))) (e 16)), dat (isTerm (app0 (bd0 1) (bd0 0)) (e 19))]) (fun _ => rfl) (fun _ => rfl) (fun c e hdr2 => ?_)) ?_
  ·skip
   refine St.app2 ?_
   refine St.calld (app_spec (e 16) (e 19) (app0 (con0 cc (fn0 t0 (fn0 t0 t0))) (app0 (bd0 2) (bd0 0))) (app0 (bd0 1) (bd0 0))) cb34 (.cons (.mk rfl) (.cons (.mk rfl) .nil)) rfl ?_
   rintro v36 _ rfl
   refine St.app1 ?_
   refine St.nil (St.then_normal ?_)
   exact St.bagged _ rfl _ rfl
  refine Hops.cons (Hop.mk (fun e => [(21, e 5), (36, e 20)]) (fun e => [dat (eqD (e 5) ((simV xe))), dat (isTerm (app0 (app0 (con0 cc (fn0 t0 (fn0 t0 t0))) (app0 (bd0 2) (bd0 0))) (app0 (bd0 1) (bd0 0))) (e 20))]) (fun _ => rfl) (fun _ => rfl) (fun c e hdr2 => ?_)) ?_
  ·skip
   refine St.app2 ?_
   refine St.eqSlot (P := Tryd.prog) 21 (e 5) ((simV xe)) rfl ?_
   refine St.calld (abs_spec (simV xe) (e 20) e0 (app0 (app0 (con0 cc (fn0 t0 (fn0 t0 t0))) (app0 (bd0 2) (bd0 0))) (app0 (bd0 1) (bd0 0)))) cb33 (.cons (.mk rfl) (.cons (.mk rfl) .nil)) rfl ?_
   rintro v37 _ rfl
   refine St.app1 ?_
   refine St.nil (St.then_normal ?_)
   exact St.bagged _ rfl _ rfl
  refine Hops.cons (Hop.mk (fun e => [(20, e 4), (37, e 21)]) (fun e => [dat (isTerm (con0 q (fn0 p0 t0)) (e 4)), dat (isTerm (abs0 e0 (app0 (app0 (con0 cc (fn0 t0 (fn0 t0 t0))) (app0 (bd0 2) (bd0 0))) (app0 (bd0 1) (bd0 0)))) (e 21))]) (fun _ => rfl) (fun _ => rfl) (fun c e hdr2 => ?_)) ?_
  ·skip
   refine St.app2 ?_
   refine St.calld (app_spec (e 4) (e 21) (con0 q (fn0 p0 t0)) (abs0 e0 (app0 (app0 (con0 cc (fn0 t0 (fn0 t0 t0))) (app0 (bd0 2) (bd0 0))) (app0 (bd0 1) (bd0 0))))) cb34 (.cons (.mk rfl) (.cons (.mk rfl) .nil)) rfl ?_
   rintro v38 _ rfl
   refine St.app1 ?_
   refine St.nil (St.then_normal ?_)
   exact St.bagged _ rfl _ rfl
  refine Hops.cons (Hop.mk (fun e => []) (fun e => []) (fun _ => rfl) (fun _ => rfl) (fun c e hdr2 => ?_)) ?_
  ·skip
   refine St.app0 ?_
   refine St.alloc zc80 rfl (fun b10 => ?_)
   refine St.fact (eqD (.pointer (some ⟨b10, 0, none⟩)) (.pointer (some ⟨b10, 0, none⟩))) (fun _ _ _ => rfl) ?_
   refine St.nil (St.then_normal ?_)
   exact St.bagged _ rfl _ rfl
  exact Hops.nil
 refine St.app2 ?_
 refine St.slot 10 _ rfl hb10 ?_
 refine St.isTerm (app0 (con0 q (fn0 p0 t0)) (abs0 e0 (app0 (app0 (con0 cc (fn0 t0 (fn0 t0 t0))) (app0 (bd0 2) (bd0 0))) (app0 (bd0 1) (bd0 0))))) (e 22) (fun xm hxm => ?_)
 obtain ⟨hxmV, hxmE, hxmw⟩ := hxm
 rw [hxmV]
 refine St.storeA (Opd.mk rfl) (Opd.mk rfl) sz80 (by first | simp only [List.length_cons, List.length_nil] | rfl) (by simp only [List.all_cons, List.all_nil, Bool.and_true, Bool.and_eq_true]; exact ⟨rfl, rfl, rfl, rfl, xm.type.av.2, xm.av.2⟩) ?_
 refine St.nil (St.then_normal (St.seq (St.seq (St.rg ?_))))
 refine St.mv ?_
 refine St.nil (St.then_normal ?_)
 refine St.cond _ rfl (fun h39 => ?_) (fun h39 => ?_)
 ·skip
  skip
  refine St.bag 6 40 [] (⟨40, [], fun u => eqD u ((simV xt))⟩::⟨41, [], fun u => eqD u ((simV xt))⟩::⟨42, [0, 1], fun u => isSim (fn0 t0 t0) u⟩::⟨43, [2], fun u => isTerm (con0 [110, 111, 116] (fn0 t0 t0)) u⟩::⟨44, [], fun u => eqD u ((termV xm))⟩::⟨45, [3, 4], fun u => isTerm (app0 (con0 [110, 111, 116] (fn0 t0 t0)) (app0 (con0 q (fn0 p0 t0)) (abs0 e0 (app0 (app0 (con0 cc (fn0 t0 (fn0 t0 t0))) (app0 (bd0 2) (bd0 0))) (app0 (bd0 1) (bd0 0)))))) u⟩::[]) ((40, [])::(41, [])::(42, [0, 1])::(43, [2])::(44, [])::(45, [3, 4])::[]) [5] rfl rfl mixed (by kernel_rfl) (by kernel_rfl) (by rfl) (fun e => [(45, e 5)]) (fun e => [dat (isTerm (app0 (con0 [110, 111, 116] (fn0 t0 t0)) (app0 (con0 q (fn0 p0 t0)) (abs0 e0 (app0 (app0 (con0 cc (fn0 t0 (fn0 t0 t0))) (app0 (bd0 2) (bd0 0))) (app0 (bd0 1) (bd0 0)))))) (e 5))]) (fun _ => rfl) (fun _ => rfl) ?_ (fun e => ?_)
  ·skip
   refine Hops.cons (Hop.mk (fun e => []) (fun e => []) (fun _ => rfl) (fun _ => rfl) (fun c e hdr2 => ?_)) ?_
   ·skip
    refine St.app0 ?_
    refine St.ev _ (Ev.ldbA (.mk rfl) Tryd.underlying77 trivial (by exact sz77)) rfl ?_
    refine St.fact (eqD ((simV xt)) ((simV xt))) (fun _ _ _ => rfl) ?_
    refine St.nil (St.then_normal ?_)
    exact St.bagged _ rfl _ rfl
   refine Hops.cons (Hop.mk (fun e => []) (fun e => []) (fun _ => rfl) (fun _ => rfl) (fun c e hdr2 => ?_)) ?_
   ·skip
    refine St.app0 ?_
    refine St.ev _ (Ev.ldbA (.mk rfl) Tryd.underlying77 trivial (by exact sz77)) rfl ?_
    refine St.fact (eqD ((simV xt)) ((simV xt))) (fun _ _ _ => rfl) ?_
    refine St.nil (St.then_normal ?_)
    exact St.bagged _ rfl _ rfl
   refine Hops.cons (Hop.mk (fun e => [(40, e 0), (41, e 1)]) (fun e => [dat (eqD (e 0) ((simV xt))), dat (eqD (e 1) ((simV xt)))]) (fun _ => rfl) (fun _ => rfl) (fun c e hdr2 => ?_)) ?_
   ·skip
    refine St.app2 ?_
    refine St.eqSlot (P := Tryd.prog) 40 (e 0) ((simV xt)) rfl ?_
    refine St.eqSlot (P := Tryd.prog) 41 (e 1) ((simV xt)) rfl ?_
    refine St.calld (fun_spec (simV xt) (simV xt) t0 t0) cb26 (.cons (.mk rfl) (.cons (.mk rfl) .nil)) rfl ?_
    rintro v42 _ rfl
    refine St.app1 ?_
    refine St.nil (St.then_normal ?_)
    exact St.bagged _ rfl _ rfl
   refine Hops.cons (Hop.mk (fun e => [(42, e 2)]) (fun e => [dat (isSim (fn0 t0 t0) (e 2))]) (fun _ => rfl) (fun _ => rfl) (fun c e hdr2 => ?_)) ?_
   ·skip
    refine St.app1 ?_
    refine St.calld (con_spec [110, 111, 116] (by decide) (e 2) (fn0 t0 t0)) cb32 (.cons (.mk rfl) (.cons (.mk rfl) .nil)) rfl ?_
    rintro v43 _ rfl
    refine St.app1 ?_
    refine St.nil (St.then_normal ?_)
    exact St.bagged _ rfl _ rfl
   refine Hops.cons (Hop.mk (fun e => []) (fun e => []) (fun _ => rfl) (fun _ => rfl) (fun c e hdr2 => ?_)) ?_
   ·skip
    refine St.app0 ?_
    refine St.ev _ (Ev.ldbA (.mk rfl) Tryd.underlying80 trivial (by exact sz80)) rfl ?_
    refine St.fact (eqD ((termV xm)) ((termV xm))) (fun _ _ _ => rfl) ?_
    refine St.nil (St.then_normal ?_)
    exact St.bagged _ rfl _ rfl
   refine Hops.cons (Hop.mk (fun e => [(43, e 3), (44, e 4)]) (fun e => [dat (isTerm (con0 [110, 111, 116] (fn0 t0 t0)) (e 3)), dat (eqD (e 4) ((termV xm)))]) (fun _ => rfl) (fun _ => rfl) (fun c e hdr2 => ?_)) ?_
   ·skip
    refine St.app2 ?_
    refine St.eqSlot (P := Tryd.prog) 44 (e 4) ((termV xm)) rfl ?_
    refine St.calld (app_spec (e 3) (termV xm) (con0 [110, 111, 116] (fn0 t0 t0)) (app0 (con0 q (fn0 p0 t0)) (abs0 e0 (app0 (app0 (con0 cc (fn0 t0 (fn0 t0 t0))) (app0 (bd0 2) (bd0 0))) (app0 (bd0 1) (bd0 0)))))) cb34 (.cons (.mk rfl) (.cons (.mk rfl) .nil)) rfl ?_
    rintro v45 _ rfl
    refine St.app1 ?_
    refine St.nil (St.then_normal ?_)
    exact St.bagged _ rfl _ rfl
   exact Hops.nil
  refine St.app1 ?_
  refine St.isTerm (app0 (con0 [110, 111, 116] (fn0 t0 t0)) (app0 (con0 q (fn0 p0 t0)) (abs0 e0 (app0 (app0 (con0 cc (fn0 t0 (fn0 t0 t0))) (app0 (bd0 2) (bd0 0))) (app0 (bd0 1) (bd0 0)))))) (e 5) (fun xn hxn => ?_)
  obtain ⟨hxnV, hxnE, hxnw⟩ := hxn
  rw [hxnV]
  refine St.storeA (Opd.mk rfl) (Opd.mk rfl) sz80 (by first | simp only [List.length_cons, List.length_nil] | rfl) (by simp only [List.all_cons, List.all_nil, Bool.and_true, Bool.and_eq_true]; exact ⟨rfl, rfl, rfl, rfl, xn.type.av.2, xn.av.2⟩) ?_
  refine St.nil (St.then_normal (St.seq ?_))
  refine St.bag 5 46 [] (⟨46, [], fun u => eqD u ((simV xp))⟩::⟨47, [], fun u => eqD u ((simV xp))⟩::⟨48, [], fun u => eqD u ((termV xn))⟩::⟨49, [1, 2], fun u => isTerm (abs0 p0 (app0 (con0 [110, 111, 116] (fn0 t0 t0)) (app0 (con0 q (fn0 p0 t0)) (abs0 e0 (app0 (app0 (con0 cc (fn0 t0 (fn0 t0 t0))) (app0 (bd0 2) (bd0 0))) (app0 (bd0 1) (bd0 0))))))) u⟩::⟨50, [0, 3], fun u => isTerm (abs0 p0 (abs0 p0 (app0 (con0 [110, 111, 116] (fn0 t0 t0)) (app0 (con0 q (fn0 p0 t0)) (abs0 e0 (app0 (app0 (con0 cc (fn0 t0 (fn0 t0 t0))) (app0 (bd0 2) (bd0 0))) (app0 (bd0 1) (bd0 0)))))))) u⟩::[]) ((46, [])::(47, [])::(48, [])::(49, [1, 2])::(50, [0, 3])::[]) [4] rfl rfl mixed (by kernel_rfl) (by kernel_rfl) (by rfl) (fun e => [(50, e 4)]) (fun e => [dat (isTerm (abs0 p0 (abs0 p0 (app0 (con0 [110, 111, 116] (fn0 t0 t0)) (app0 (con0 q (fn0 p0 t0)) (abs0 e0 (app0 (app0 (con0 cc (fn0 t0 (fn0 t0 t0))) (app0 (bd0 2) (bd0 0))) (app0 (bd0 1) (bd0 0)))))))) (e 4))]) (fun _ => rfl) (fun _ => rfl) ?_ (fun e => ?_)
  ·skip
   refine Hops.cons (Hop.mk (fun e => []) (fun e => []) (fun _ => rfl) (fun _ => rfl) (fun c e hdr2 => ?_)) ?_
   ·skip
    refine St.app0 ?_
    refine St.ev _ (Ev.ldbA (.mk rfl) Tryd.underlying77 trivial (by exact sz77)) rfl ?_
    refine St.fact (eqD ((simV xp)) ((simV xp))) (fun _ _ _ => rfl) ?_
    refine St.nil (St.then_normal ?_)
    exact St.bagged _ rfl _ rfl
   refine Hops.cons (Hop.mk (fun e => []) (fun e => []) (fun _ => rfl) (fun _ => rfl) (fun c e hdr2 => ?_)) ?_
   ·skip
    refine St.app0 ?_
    refine St.ev _ (Ev.ldbA (.mk rfl) Tryd.underlying77 trivial (by exact sz77)) rfl ?_
    refine St.fact (eqD ((simV xp)) ((simV xp))) (fun _ _ _ => rfl) ?_
    refine St.nil (St.then_normal ?_)
    exact St.bagged _ rfl _ rfl
   refine Hops.cons (Hop.mk (fun e => []) (fun e => []) (fun _ => rfl) (fun _ => rfl) (fun c e hdr2 => ?_)) ?_
   ·skip
    refine St.app0 ?_
    refine St.ev _ (Ev.ldbA (.mk rfl) Tryd.underlying80 trivial (by exact sz80)) rfl ?_
    refine St.fact (eqD ((termV xn)) ((termV xn))) (fun _ _ _ => rfl) ?_
    refine St.nil (St.then_normal ?_)
    exact St.bagged _ rfl _ rfl
   refine Hops.cons (Hop.mk (fun e => [(47, e 1), (48, e 2)]) (fun e => [dat (eqD (e 1) ((simV xp))), dat (eqD (e 2) ((termV xn)))]) (fun _ => rfl) (fun _ => rfl) (fun c e hdr2 => ?_)) ?_
   ·skip
    refine St.app2 ?_
    refine St.eqSlot (P := Tryd.prog) 47 (e 1) ((simV xp)) rfl ?_
    refine St.eqSlot (P := Tryd.prog) 48 (e 2) ((termV xn)) rfl ?_
    refine St.calld (abs_spec (simV xp) (termV xn) p0 (app0 (con0 [110, 111, 116] (fn0 t0 t0)) (app0 (con0 q (fn0 p0 t0)) (abs0 e0 (app0 (app0 (con0 cc (fn0 t0 (fn0 t0 t0))) (app0 (bd0 2) (bd0 0))) (app0 (bd0 1) (bd0 0))))))) cb33 (.cons (.mk rfl) (.cons (.mk rfl) .nil)) rfl ?_
    rintro v49 _ rfl
    refine St.app1 ?_
    refine St.nil (St.then_normal ?_)
    exact St.bagged _ rfl _ rfl
   refine Hops.cons (Hop.mk (fun e => [(46, e 0), (49, e 3)]) (fun e => [dat (eqD (e 0) ((simV xp))), dat (isTerm (abs0 p0 (app0 (con0 [110, 111, 116] (fn0 t0 t0)) (app0 (con0 q (fn0 p0 t0)) (abs0 e0 (app0 (app0 (con0 cc (fn0 t0 (fn0 t0 t0))) (app0 (bd0 2) (bd0 0))) (app0 (bd0 1) (bd0 0))))))) (e 3))]) (fun _ => rfl) (fun _ => rfl) (fun c e hdr2 => ?_)) ?_
   ·skip
    refine St.app2 ?_
    refine St.eqSlot (P := Tryd.prog) 46 (e 0) ((simV xp)) rfl ?_
    refine St.calld (abs_spec (simV xp) (e 3) p0 (abs0 p0 (app0 (con0 [110, 111, 116] (fn0 t0 t0)) (app0 (con0 q (fn0 p0 t0)) (abs0 e0 (app0 (app0 (con0 cc (fn0 t0 (fn0 t0 t0))) (app0 (bd0 2) (bd0 0))) (app0 (bd0 1) (bd0 0)))))))) cb33 (.cons (.mk rfl) (.cons (.mk rfl) .nil)) rfl ?_
    rintro v50 _ rfl
    refine St.app1 ?_
    refine St.nil (St.then_normal ?_)
    exact St.bagged _ rfl _ rfl
   exact Hops.nil
  refine St.app1 ?_
  refine St.isTerm (abs0 p0 (abs0 p0 (app0 (con0 [110, 111, 116] (fn0 t0 t0)) (app0 (con0 q (fn0 p0 t0)) (abs0 e0 (app0 (app0 (con0 cc (fn0 t0 (fn0 t0 t0))) (app0 (bd0 2) (bd0 0))) (app0 (bd0 1) (bd0 0)))))))) (e 4) (fun xr hxr => ?_)
  obtain ⟨hxrV, hxrE, hxrw⟩ := hxr
  rw [hxrV]
  refine St.storeA (Opd.mk rfl) (Opd.mk rfl) sz80 (by first | simp only [List.length_cons, List.length_nil] | rfl) (by simp only [List.all_cons, List.all_nil, Bool.and_true, Bool.and_eq_true]; exact ⟨rfl, rfl, rfl, rfl, xr.type.av.2, xr.av.2⟩) ?_
  refine St.nil (St.then_normal (St.rett ?_))
  have hq : (abs0 p0 (abs0 p0 (app0 (con0 [110, 111, 116] (fn0 t0 t0)) (app0 (con0 q (fn0 p0 t0)) (abs0 e0 (app0 (app0 (con0 cc (fn0 t0 (fn0 t0 t0))) (app0 (bd0 2) (bd0 0))) (app0 (bd0 1) (bd0 0)))))))) = quant0 q cc no := by rw [h39]; rfl
  rw [hq]
  refine St.rets [_] [dat (isTerm (quant0 q cc no) (termV xr))] Tryd.results31 ⟨⟨_, _, _, _, rfl, InB.mem, .inl ⟨⟨_, Tryd.underlying80⟩, sz80, rfl⟩⟩, trivial⟩ ?_ (fun _ hw => hw.sub)
  rfl
 ·skip
  skip
  refine St.skip (St.then_normal (St.seq ?_))
  refine St.bag 5 46 [] (⟨46, [], fun u => eqD u ((simV xp))⟩::⟨47, [], fun u => eqD u ((simV xp))⟩::⟨48, [], fun u => eqD u ((termV xm))⟩::⟨49, [1, 2], fun u => isTerm (abs0 p0 (app0 (con0 q (fn0 p0 t0)) (abs0 e0 (app0 (app0 (con0 cc (fn0 t0 (fn0 t0 t0))) (app0 (bd0 2) (bd0 0))) (app0 (bd0 1) (bd0 0)))))) u⟩::⟨50, [0, 3], fun u => isTerm (abs0 p0 (abs0 p0 (app0 (con0 q (fn0 p0 t0)) (abs0 e0 (app0 (app0 (con0 cc (fn0 t0 (fn0 t0 t0))) (app0 (bd0 2) (bd0 0))) (app0 (bd0 1) (bd0 0))))))) u⟩::[]) ((46, [])::(47, [])::(48, [])::(49, [1, 2])::(50, [0, 3])::[]) [4] rfl rfl mixed (by kernel_rfl) (by kernel_rfl) (by rfl) (fun e => [(50, e 4)]) (fun e => [dat (isTerm (abs0 p0 (abs0 p0 (app0 (con0 q (fn0 p0 t0)) (abs0 e0 (app0 (app0 (con0 cc (fn0 t0 (fn0 t0 t0))) (app0 (bd0 2) (bd0 0))) (app0 (bd0 1) (bd0 0))))))) (e 4))]) (fun _ => rfl) (fun _ => rfl) ?_ (fun e => ?_)
  ·skip
   refine Hops.cons (Hop.mk (fun e => []) (fun e => []) (fun _ => rfl) (fun _ => rfl) (fun c e hdr2 => ?_)) ?_
   ·skip
    refine St.app0 ?_
    refine St.ev _ (Ev.ldbA (.mk rfl) Tryd.underlying77 trivial (by exact sz77)) rfl ?_
    refine St.fact (eqD ((simV xp)) ((simV xp))) (fun _ _ _ => rfl) ?_
    refine St.nil (St.then_normal ?_)
    exact St.bagged _ rfl _ rfl
   refine Hops.cons (Hop.mk (fun e => []) (fun e => []) (fun _ => rfl) (fun _ => rfl) (fun c e hdr2 => ?_)) ?_
   ·skip
    refine St.app0 ?_
    refine St.ev _ (Ev.ldbA (.mk rfl) Tryd.underlying77 trivial (by exact sz77)) rfl ?_
    refine St.fact (eqD ((simV xp)) ((simV xp))) (fun _ _ _ => rfl) ?_
    refine St.nil (St.then_normal ?_)
    exact St.bagged _ rfl _ rfl
   refine Hops.cons (Hop.mk (fun e => []) (fun e => []) (fun _ => rfl) (fun _ => rfl) (fun c e hdr2 => ?_)) ?_
   ·skip
    refine St.app0 ?_
    refine St.ev _ (Ev.ldbA (.mk rfl) Tryd.underlying80 trivial (by exact sz80)) rfl ?_
    refine St.fact (eqD ((termV xm)) ((termV xm))) (fun _ _ _ => rfl) ?_
    refine St.nil (St.then_normal ?_)
    exact St.bagged _ rfl _ rfl
   refine Hops.cons (Hop.mk (fun e => [(47, e 1), (48, e 2)]) (fun e => [dat (eqD (e 1) ((simV xp))), dat (eqD (e 2) ((termV xm)))]) (fun _ => rfl) (fun _ => rfl) (fun c e hdr2 => ?_)) ?_
   ·skip
    refine St.app2 ?_
    refine St.eqSlot (P := Tryd.prog) 47 (e 1) ((simV xp)) rfl ?_
    refine St.eqSlot (P := Tryd.prog) 48 (e 2) ((termV xm)) rfl ?_
    refine St.calld (abs_spec (simV xp) (termV xm) p0 (app0 (con0 q (fn0 p0 t0)) (abs0 e0 (app0 (app0 (con0 cc (fn0 t0 (fn0 t0 t0))) (app0 (bd0 2) (bd0 0))) (app0 (bd0 1) (bd0 0)))))) cb33 (.cons (.mk rfl) (.cons (.mk rfl) .nil)) rfl ?_
    rintro v49 _ rfl
    refine St.app1 ?_
    refine St.nil (St.then_normal ?_)
    exact St.bagged _ rfl _ rfl
   refine Hops.cons (Hop.mk (fun e => [(46, e 0), (49, e 3)]) (fun e => [dat (eqD (e 0) ((simV xp))), dat (isTerm (abs0 p0 (app0 (con0 q (fn0 p0 t0)) (abs0 e0 (app0 (app0 (con0 cc (fn0 t0 (fn0 t0 t0))) (app0 (bd0 2) (bd0 0))) (app0 (bd0 1) (bd0 0)))))) (e 3))]) (fun _ => rfl) (fun _ => rfl) (fun c e hdr2 => ?_)) ?_
   ·skip
    refine St.app2 ?_
    refine St.eqSlot (P := Tryd.prog) 46 (e 0) ((simV xp)) rfl ?_
    refine St.calld (abs_spec (simV xp) (e 3) p0 (abs0 p0 (app0 (con0 q (fn0 p0 t0)) (abs0 e0 (app0 (app0 (con0 cc (fn0 t0 (fn0 t0 t0))) (app0 (bd0 2) (bd0 0))) (app0 (bd0 1) (bd0 0))))))) cb33 (.cons (.mk rfl) (.cons (.mk rfl) .nil)) rfl ?_
    rintro v50 _ rfl
    refine St.app1 ?_
    refine St.nil (St.then_normal ?_)
    exact St.bagged _ rfl _ rfl
   exact Hops.nil
  refine St.app1 ?_
  refine St.isTerm (abs0 p0 (abs0 p0 (app0 (con0 q (fn0 p0 t0)) (abs0 e0 (app0 (app0 (con0 cc (fn0 t0 (fn0 t0 t0))) (app0 (bd0 2) (bd0 0))) (app0 (bd0 1) (bd0 0))))))) (e 4) (fun xr hxr => ?_)
  obtain ⟨hxrV, hxrE, hxrw⟩ := hxr
  rw [hxrV]
  refine St.storeA (Opd.mk rfl) (Opd.mk rfl) sz80 (by first | simp only [List.length_cons, List.length_nil] | rfl) (by simp only [List.all_cons, List.all_nil, Bool.and_true, Bool.and_eq_true]; exact ⟨rfl, rfl, rfl, rfl, xr.type.av.2, xr.av.2⟩) ?_
  refine St.nil (St.then_normal (St.rett ?_))
  have hq : (abs0 p0 (abs0 p0 (app0 (con0 q (fn0 p0 t0)) (abs0 e0 (app0 (app0 (con0 cc (fn0 t0 (fn0 t0 t0))) (app0 (bd0 2) (bd0 0))) (app0 (bd0 1) (bd0 0))))))) = quant0 q cc no := by rw [h39]; rfl
  rw [hq]
  refine St.rets [_] [dat (isTerm (quant0 q cc no) (termV xr))] Tryd.results31 ⟨⟨_, _, _, _, rfl, InB.mem, .inl ⟨⟨_, Tryd.underlying80⟩, sz80, rfl⟩⟩, trivial⟩ ?_ (fun _ hw => hw.sub)
  rfl
end Go.Proofs.YtolmidffiegkaaaDoor
