/-
  One rule more: the orders that are left.
  Conditions: none.
-/
import Derived.Test.YtblnbjlcpleaaaaOrdM
namespace Go.Proofs.Ytblnbjlcpleaaaa
open Go Go.J

theorem okO_more (rules : List Prec) (p : Prec) (ks : List Str) (x : List Int) : okO (rules ++ [p]) ks x = (okO rules ks x && keeps p (rowOf ks x)) := by
  rw [Bool.eq_iff_iff, Bool.and_eq_true, okO_iff, okO_iff]
  constructor
  · intro h; exact ⟨fun q hq => h q (List.mem_append_left _ hq), h p (by simp)⟩
  · rintro ⟨h1, h2⟩ q hq
    rcases List.mem_append.1 hq with hq | hq
    · exact h1 q hq
    · obtain rfl := List.mem_singleton.1 hq; exact h2
theorem good_more (rules : List Prec) (p : Prec) (ks : List Str) : good (rules ++ [p]) ks = (good rules ks).filter fun x => keeps p (rowOf ks x) := by
  unfold good
  rw [List.filter_filter]
  refine List.filter_congr fun x _ => ?_
  rw [okO_more, Bool.and_comm]
theorem filter_get {α : Type} {f : α → Bool} {L : List α} {i : Nat} {x : α} (hx : L[i]? = some x) (hf : f x = true) : (L.filter f)[((L.take i).filter f).length]? = some x := by
  have e : L = L.take i ++ x :: L.drop (i + 1) := by rw [← drop_of_some hx, List.take_append_drop]
  have e2 : L.filter f = (L.take i).filter f ++ x :: (L.drop (i + 1)).filter f := by
    conv => lhs; rw [e]
    rw [List.filter_append, List.filter_cons, if_pos hf]
  rw [e2, List.getElem?_append_right (Nat.le_refl _), Nat.sub_self]; rfl
theorem filter_t {α : Type} {f : α → Bool} {L : List α} {i : Nat} {x : α} (hx : L[i]? = some x) (hf : f x = true) : ((L.take (i + 1)).filter f).length = ((L.take i).filter f).length + 1 := by
  rw [take_of_some hx, List.filter_append, List.filter_cons, if_pos hf]; simp
theorem filter_f {α : Type} {f : α → Bool} {L : List α} {i : Nat} {x : α} (hx : L[i]? = some x) (hf : f x = false) : ((L.take (i + 1)).filter f).length = ((L.take i).filter f).length := by
  rw [take_of_some hx, List.filter_append, List.filter_cons, if_neg (by rw [hf]; decide)]; simp
theorem allowed_one {rules : List Prec} {p : Prec} {ks : List Str} {x : List Int} (hc : (chk (rules ++ [p]) ks).1 = 0) (hx : x ∈ good rules ks) : allowedOf [p] ks x = (keeps p (rowOf ks x), brokenBy [p] (rowOf ks x), (0, 0)) := by
  obtain ⟨h1, h2, h3, h4⟩ := good_ok hx
  obtain ⟨k1, k2, k3⟩ := (chk_iff _ ks).1 hc
  obtain ⟨k4, k5⟩ := (vfault_iff _).1 k1
  have hc1 : (chk [p] ks).1 = 0 := (chk_iff _ ks).2 ⟨(vfault_iff _).2 ⟨by simp, fun q hq => by
    obtain rfl := List.mem_singleton.1 hq; exact k5 q (by simp)⟩, k2, k3⟩
  rw [allowedOf_valid hc1 h1 h2 h3]
  congr 1
  rw [Bool.eq_iff_iff, okO_iff]
  simp
end Go.Proofs.Ytblnbjlcpleaaaa
