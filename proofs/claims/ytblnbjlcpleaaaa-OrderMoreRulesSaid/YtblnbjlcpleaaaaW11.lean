/-
  The law of one rule more.
  Conditions: the rules take no more bytes than a process has.
-/
import Derived.Test.YtblnbjlcpleaaaaW10
import Derived.Test.YtblnbjlcpleaaaaOrdK
set_option linter.unusedSimpArgs false
set_option linter.unusedVariables false
namespace Go.Proofs.Ytblnbjlcpleaaaa
open Go Go.J

set_option maxHeartbeats 4000000 in
theorem law4_spec (v0 v2 : Value) (rules : List Prec) (p : Prec) (hp : precR.wf p) (ks : List Str) (hsz : rules.length * 40 ≤ 140737488351232) : FnV Try.prog 4 #[v0, pv p, v2] [sl precR v0 rules, sl strR v2 ks] (.bool true) := by
  unfold pv
  refine FnV.body2 (args := [v0, .agg #[iv p.kind, sv p.a, sv p.b], v2]) 102 Try.func4 rfl Try.ntmps4 rfl (fun c => ?_)
  refine St.seq ?_
  refine St.wf v0 (fun hwf0 hlen0 => ?_)
  refine St.wf v2 (fun hwf1 hlen1 => ?_)
  refine St.rg ?_
  refine St.boxA (Opd.mk rfl) rfl (fun b4 => ?_)
  refine St.ev _ (Ev.assign (Opd.mk rfl)) rfl ?_
  refine St.nil ?_
  refine St.then_normal ?_
  refine St.seq ?_
  refine St.seq ?_
  refine St.rg ?_
  refine St.ev _ (Ev.call (orderReady_spec) cb9 (Opds.nil)) rfl ?_
  refine St.ev _ (Ev.not (Opd.mk rfl)) rfl ?_
  refine St.nil ?_
  refine St.then_normal ?_
  refine St.condf _ rfl rfl ?_
  refine St.skip ?_
  refine St.then_normal ?_
  refine St.seq ?_
  refine St.rg ?_
  refine St.buildSl (xs := []) (ps := []) rfl (Opds.nil) Try.underlying22 sz34 zv34 rfl rfl (by simp [Value.cells]) rfl rfl (fun b20 => ?_)
  refine St.ev _ (Ev.assign (Opd.mk rfl)) rfl ?_
  refine St.nil ?_
  refine St.then_normal ?_
  refine St.seq ?_
  refine St.seq ?_
  refine St.rg ?_
  refine St.ev _ (Ev.assign (Opd.mk rfl)) rfl ?_
  refine St.nil ?_
  refine St.then_normal ?_
  refine St.block ?_
  refine St.rowEqN (.slice (some ⟨b20, 0, none⟩) 0 0) (show _ = 0 from rfl) (show _ = rows precR (rules.take 0) from rfl) ?_
  refine St.loopH2 (ι := Nat) (κ := Value) (fun k v T => (8, iv k) :: (7, v) :: T) (fun k v => [row v 34 3 k (rows precR (rules.take k)), dat (sl precR v0 rules), dat (sl strR v2 ks), blk b4 (.cells #[iv p.kind, sv p.a, sv p.b] 34 (0, 0))]) (fun k v => k ≤ rules.length) (fun k v => rules.length - k) 0 (.slice (some ⟨b20, 0, none⟩) 0 0) (Keep.cons 0 rfl (Keep.cons 2 rfl (Keep.cons 4 rfl (Keep.cons 6 rfl Keep.nil)))) (Nat.zero_le _) (by repeat (first | exact Sub.nil | refine Sub.cons (by first | rfl | exact congrArg (fun z => some (iv z)) (by omega) | exact congrArg (fun z => some (Value.bool z)) (by first | assumption | exact Eq.symm (by assumption))) ?_)) (fun _ hw => hw.sub) ?_
  intro k v hphi
  refine St.seq ?_
  refine St.seq ?_
  refine St.rg ?_
  refine St.ev _ (Ev.move (Opd.mk rfl)) rfl ?_
  refine St.ev _ (Ev.move (Opd.mk rfl)) rfl ?_
  refine St.ev _ (Ev.lensl (Opd.mk rfl) Try.underlying22) rfl ?_
  refine St.ev _ (Ev.lss (Opd.mk rfl) (Opd.mk rfl)) rfl ?_
  refine St.nil ?_
  refine St.then_normal ?_
  refine St.cond _ rfl (fun h24 => ?_) (fun h24 => ?_)
  · skip
    try simp only [decide_eq_true_eq, decide_eq_false_iff_not, Bool.and_eq_true, Bool.or_eq_true, Bool.and_eq_false_iff, Bool.or_eq_false_iff, Bool.not_eq_true', Bool.not_eq_false', beq_iff_eq, beq_eq_false_iff_ne, Int.not_lt, Int.not_le] at h24
    obtain ⟨q, hq⟩ := some_of_lt (show k < rules.length by omega)
    refine St.skip ?_
    refine St.then_normal ?_
    refine St.seq ?_
    refine St.block ?_
    refine St.rg ?_
    refine St.ev _ (Ev.move (Opd.mk rfl)) rfl ?_
    refine St.ev _ (Ev.move (Opd.mk rfl)) rfl ?_
    refine St.ev _ (Ev.move (Opd.mk rfl)) rfl ?_
    refine St.ev _ (Ev.idxaddr  (Opd.mk rfl) (Opd.mk rfl) Try.underlying22 sz34 rfl (by omega)) rfl ?_
    refine St.ev _ (Ev.ldA (Opd.mk rfl) (by first | assumption | exact some_getD default (by omega)) Try.underlying34 trivial sz34 Cel.eq) rfl ?_
    refine St.buildSl (xs := [(Operand.tmp 31)]) (ps := [(0, (Operand.tmp 31))]) rfl (Opds.cons (Opd.mk rfl) Opds.nil) Try.underlying22 sz34 zv34 rfl rfl (by simp [Value.cells]) rfl rfl (fun b32 => ?_)
    refine St.appendRow (Opd.mk rfl) (Opd.mk rfl) Try.underlying22 sz34 zv34 by34 (by simp [Value.cells, Value.oneCell']) (by omega) (by omega) rfl rfl rfl rfl (fun v33 hv33 => ?_)
    refine St.ev _ (Ev.assign (Opd.mk rfl)) rfl ?_
    refine St.nil ?_
    refine St.in_normal ?_
    refine St.then_normal ?_
    refine St.rg ?_
    refine St.ev _ (Ev.move (Opd.mk rfl)) rfl ?_
    refine St.ev _ (Ev.add (Opd.mk rfl) (Opd.mk rfl) (by omega)) rfl ?_
    refine St.ev _ (Ev.assign (Opd.mk rfl)) rfl ?_
    refine St.nil ?_
    refine St.then_normal ?_
    refine St.rowEqN v33 (show _ = k + 1 by omega) (show _ = rows precR (rules.take (k + 1)) by rw [take_of_some hq, rows_snoc]; rfl) ?_
    refine St.againH2 (k + 1) v33 (by omega) (by omega) (by repeat (first | exact Sub.nil | refine Sub.cons (by first | rfl | exact congrArg (fun z => some (iv z)) (by omega) | exact congrArg (fun z => some (Value.bool z)) (by first | assumption | exact Eq.symm (by assumption))) ?_)) (fun _ hw => hw.sub)
  · skip
    try simp only [decide_eq_true_eq, decide_eq_false_iff_not, Bool.and_eq_true, Bool.or_eq_true, Bool.and_eq_false_iff, Bool.or_eq_false_iff, Bool.not_eq_true', Bool.not_eq_false', beq_iff_eq, beq_eq_false_iff_ne, Int.not_lt, Int.not_le] at h24
    obtain rfl : k = rules.length := by omega
    have ek : rules.take rules.length = rules := List.take_length
    rw [ek]
    refine St.exit ?_
    refine St.then_exit ?_
    refine St.then_exit ?_
    refine St.in_hit ?_
    refine St.then_normal ?_
    refine St.seq ?_
    refine St.rg ?_
    refine St.ev _ (Ev.move (Opd.mk rfl)) rfl ?_
    refine St.ev _ (Ev.ldbA (Opd.mk rfl) Try.underlying34 trivial (by exact sz34)) rfl ?_
    refine St.buildSl (xs := [(Operand.tmp 35)]) (ps := [(0, (Operand.tmp 35))]) rfl (Opds.cons (Opd.mk rfl) Opds.nil) Try.underlying22 sz34 zv34 rfl rfl (by simp [Value.cells]) rfl rfl (fun b36 => ?_)
    refine St.appendRow (Opd.mk rfl) (Opd.mk rfl) Try.underlying22 sz34 zv34 by34 (by simp [Value.cells, Value.oneCell']) (by omega) (by omega) rfl rfl rfl rfl (fun v37 hv37 => ?_)
    refine St.rowEqN v37 (show _ = (rules ++ [p]).length by simp) (show _ = rows precR (rules ++ [p]) by rw [rows_snoc]; rfl) ?_
    refine St.publish v37 precR (rules ++ [p]) rfl rfl (fun q hq => by
      rcases List.mem_append.1 hq with hq | hq
      · exact hwf0 q hq
      · obtain rfl := List.mem_singleton.1 hq; exact hp) ?_
    refine St.ev _ (Ev.assign (Opd.mk rfl)) rfl ?_
    refine St.nil ?_
    refine St.then_normal ?_
    refine St.seq ?_
    refine St.rg ?_
    refine St.ev _ (Ev.move (Opd.mk rfl)) rfl ?_
    refine St.ev _ (Ev.move (Opd.mk rfl)) rfl ?_
    refine St.calld (Orders_spec v0 v2 rules ks) cb13 (Opds.cons (Opd.mk rfl) (Opds.cons (Opd.mk rfl) Opds.nil)) rfl ?_
    rintro v41 _ ⟨va, vs, hvl, rfl, rfl⟩
    refine St.app2 ?_
    refine St.ev _ (Ev.move (Opd.mk rfl)) rfl ?_
    refine St.ev _ (Ev.extract (Opd.mk rfl) rfl) rfl ?_
    refine St.ev _ (Ev.extract (Opd.mk rfl) rfl) rfl ?_
    refine St.alloc zc27 rfl (fun b10 => ?_)
    refine St.ev _ (Ev.assign (Opd.mk rfl)) rfl ?_
    refine St.storeA (Opd.mk rfl) (Opd.mk rfl) sz27 (by rfl) rfl ?_
    refine St.nil ?_
    refine St.then_normal ?_
    refine St.seq ?_
    refine St.rg ?_
    refine St.ev _ (Ev.move (Opd.mk rfl)) rfl ?_
    refine St.ev _ (Ev.move (Opd.mk rfl)) rfl ?_
    refine St.calld (Orders_spec v37 v2 (rules ++ [p]) ks) cb13 (Opds.cons (Opd.mk rfl) (Opds.cons (Opd.mk rfl) Opds.nil)) rfl ?_
    rintro v47 _ ⟨vb, us, hul, rfl, rfl⟩
    refine St.app2 ?_
    refine St.ev _ (Ev.move (Opd.mk rfl)) rfl ?_
    refine St.ev _ (Ev.extract (Opd.mk rfl) rfl) rfl ?_
    refine St.ev _ (Ev.extract (Opd.mk rfl) rfl) rfl ?_
    refine St.alloc zc27 rfl (fun b12 => ?_)
    refine St.ev _ (Ev.assign (Opd.mk rfl)) rfl ?_
    refine St.storeA (Opd.mk rfl) (Opd.mk rfl) sz27 (by rfl) rfl ?_
    refine St.nil ?_
    refine St.then_normal ?_
    refine St.seq ?_
    refine St.seq ?_
    refine St.rg ?_
    refine St.ev _ (Ev.fldb0 (Opd.mk rfl) fo27_0) rfl ?_
    refine St.ev _ (Ev.ldb (Opd.mk rfl) Try.underlying3 trivial (by rfl)) rfl ?_
    refine St.ev _ (Ev.neq (Opd.mk rfl) (Opd.mk rfl)) rfl ?_
    refine St.ev _ (Ev.move (Opd.mk rfl)) rfl ?_
    refine St.gf _ rfl rfl (fun hg => Ev.fldb0 (Opd.mk rfl) fo27_0) rfl ?_
    refine St.gf _ rfl rfl (fun hg => Ev.ldb (Opd.gv rfl hg) Try.underlying3 trivial (by rfl)) rfl ?_
    refine St.gf _ rfl rfl (fun hg => Ev.neq (Opd.gv rfl hg) (Opd.mk rfl)) rfl ?_
    refine St.ev _ (Ev.or (Opd.mk rfl) (fun hp => Opd.gv rfl hp)) rfl ?_
    refine St.nil ?_
    refine St.then_normal ?_
    refine St.cond _ rfl (fun h57 => ?_) (fun h57 => ?_)
    · skip
      try simp only [decide_eq_true_eq, decide_eq_false_iff_not, Bool.and_eq_true, Bool.or_eq_true, Bool.and_eq_false_iff, Bool.or_eq_false_iff, Bool.not_eq_true', Bool.not_eq_false', beq_iff_eq, beq_eq_false_iff_ne, Int.not_lt, Int.not_le] at h57
      refine St.seq ?_
      refine St.rg ?_
      refine St.ev _ (Ev.assign (Opd.mk rfl)) rfl ?_
      refine St.nil ?_
      refine St.then_normal ?_
      refine St.rett ?_
      refine St.then_ret ?_
      refine St.rets [_] [] Try.results4 ⟨rfl, trivial⟩ ?_ (fun _ hw => hw.sub)
      rfl
    · skip
      try simp only [decide_eq_true_eq, decide_eq_false_iff_not, Bool.and_eq_true, Bool.or_eq_true, Bool.and_eq_false_iff, Bool.or_eq_false_iff, Bool.not_eq_true', Bool.not_eq_false', beq_iff_eq, beq_eq_false_iff_ne, Int.not_lt, Int.not_le] at h57
      obtain ⟨hc, hgl, hge⟩ := ordersOf_ok (rules := rules) (ks := ks) (by omega)
      obtain ⟨hc2, hgl2, hge2⟩ := ordersOf_ok (rules := rules ++ [p]) (ks := ks) (by omega)
      rw [hge] at hvl ⊢
      rw [hge2] at hul ⊢
      dsimp only at hvl hul ⊢
      obtain ⟨_, hks⟩ := chk_ok hc
      refine St.skip ?_
      refine St.then_normal ?_
      refine St.seq ?_
      refine St.rg ?_
      refine St.ev _ (Ev.assign (Opd.mk rfl)) rfl ?_
      refine St.nil ?_
      refine St.then_normal ?_
      refine St.seq ?_
      refine St.seq ?_
      refine St.rg ?_
      refine St.ev _ (Ev.assign (Opd.mk rfl)) rfl ?_
      refine St.nil ?_
      refine St.then_normal ?_
      refine St.block ?_
      refine St.loopH (ι := Nat) (fun i T => (14, iv i) :: (13, iv (((good rules ks).take i).filter (fun x => keeps p (rowOf ks x))).length) :: T) (fun i => [blk b4 (.cells #[iv p.kind, sv p.a, sv p.b] 34 (0, 0)), dat (sl strR v2 ks), dat (sl valR va vs), dat (ptw intR vs (good rules ks)), dat (sl valR vb us), dat (ptw intR us (good (rules ++ [p]) ks))]) (fun i => i ≤ (good rules ks).length) (fun i => (good rules ks).length - i) 0 (Keep.cons 2 rfl (Keep.cons 4 rfl (Keep.cons 9 rfl (Keep.cons 11 rfl Keep.nil)))) (Nat.zero_le _) (by repeat (first | exact Sub.nil | refine Sub.cons (by first | rfl | exact congrArg (fun z => some (iv z)) (by omega) | exact congrArg (fun z => some (Value.bool z)) (by first | assumption | exact Eq.symm (by assumption))) ?_)) (fun _ hw => hw.sub) ?_
      intro i hphi
      refine St.seq ?_
      refine St.seq ?_
      refine St.rg ?_
      refine St.ev _ (Ev.move (Opd.mk rfl)) rfl ?_
      refine St.ev _ (Ev.move (Opd.mk rfl)) rfl ?_
      refine St.ev _ (Ev.lensl (Opd.mk rfl) Try.underlying35) rfl ?_
      refine St.ev _ (Ev.lss (Opd.mk rfl) (Opd.mk rfl)) rfl ?_
      refine St.nil ?_
      refine St.then_normal ?_
      refine St.cond _ rfl (fun h61 => ?_) (fun h61 => ?_)
      · skip
        try simp only [decide_eq_true_eq, decide_eq_false_iff_not, Bool.and_eq_true, Bool.or_eq_true, Bool.and_eq_false_iff, Bool.or_eq_false_iff, Bool.not_eq_true', Bool.not_eq_false', beq_iff_eq, beq_eq_false_iff_ne, Int.not_lt, Int.not_le] at h61
        obtain ⟨x, hx⟩ := some_of_lt (show i < (good rules ks).length by omega)
        obtain ⟨u, hu⟩ := some_of_lt (show i < vs.length by omega)
        refine St.ptw (vs := vs) i hu hx ?_
        have hxm := List.mem_of_getElem? hx
        obtain ⟨hx1, hx2, hx3, hx4⟩ := good_ok hxm
        refine St.slShape va (by omega) (fun bs os cs hsh => ?_)
        refine St.skip ?_
        refine St.then_normal ?_
        refine St.seq ?_
        refine St.block ?_
        refine St.join (ι := Nat) (fun bf T => (15, .bool (keeps p (rowOf ks x))) :: (16, iv (brokenBy [p] (rowOf ks x))) :: (17, .pointer (some ⟨bf, 0, none⟩)) :: T) (fun bf => [blk bf (.cells #[iv 0, iv 0] 27 (0, 0)), dat (sl intR u.1 x), blk b4 (.cells #[iv p.kind, sv p.a, sv p.b] 34 (0, 0)), dat (sl strR v2 ks), dat (sl valR va vs), dat (ptw intR vs (good rules ks)), dat (sl valR vb us), dat (ptw intR us (good (rules ++ [p]) ks))]) (fun bf => True) (Keep.cons 2 rfl (Keep.cons 4 rfl (Keep.cons 9 rfl (Keep.cons 11 rfl (Keep.cons 13 rfl (Keep.cons 14 rfl Keep.nil)))))) ?_ ?_
        · skip
          refine St.any mixed (Mm.drawn _ _) ?_
          refine St.defer 2 (by repeat (first | refine NP.then ?_ | refine NP.inBlock ?_ | exact NP.body)) (by kernel_rfl) rfl (Es.move (Opd.mk rfl)) (by kernel_rfl) rfl ?_
          refine St.defer 3 (by repeat (first | refine NP.then ?_ | refine NP.inBlock ?_ | exact NP.body)) (by kernel_rfl) rfl (Es.move (Opd.mk rfl)) (by kernel_rfl) rfl ?_
          refine St.defer 4 (by repeat (first | refine NP.then ?_ | refine NP.inBlock ?_ | exact NP.body)) (by kernel_rfl) rfl (Es.move (Opd.mk rfl)) (by kernel_rfl) rfl ?_
          refine St.defer 5 (by repeat (first | refine NP.then ?_ | refine NP.inBlock ?_ | exact NP.body)) (by kernel_rfl) rfl (Es.idx  (size := valR.size) hsh (Opd.mk rfl) (Opd.mk rfl) Try.underlying35 sz24 rfl (by omega)) (by kernel_rfl) rfl ?_
          refine St.any3 (i := 0) (j := 6) (k := 12) (by kernel_rfl) rfl rfl rfl ?_ ?_ ?_
          · skip
            refine St.ev _ (Ev.ldbA (Opd.mk rfl) Try.underlying34 trivial (by exact sz34)) rfl ?_
            refine St.nil ?_
            refine St.then_normal ?_
            refine St.any3 (i := 1) (j := 6) (k := 12) (by kernel_rfl) rfl rfl rfl ?_ ?_ ?_
            · skip
              refine St.buildSl (xs := [(Operand.tmp 65)]) (ps := [(0, (Operand.tmp 65))]) rfl (Opds.cons (Opd.mk rfl) Opds.nil) Try.underlying22 sz34 zv34 rfl rfl (by simp [Value.cells]) rfl rfl (fun b66 => ?_)
              refine St.nil ?_
              refine St.then_normal ?_
              refine St.any2 (i := 6) (j := 12) (by kernel_rfl) rfl rfl ?_ ?_
              · skip
                refine St.ev _ (Ev.ld1 (Opd.mk rfl) hu Try.underlying24 trivial rfl) rfl ?_
                refine St.nil ?_
                refine St.then_normal ?_
                refine St.any2 (i := 7) (j := 12) (by kernel_rfl) rfl rfl ?_ ?_
                · skip
                  refine St.ev _ (Ev.callL (by have hal := Allowed_spec (.slice (some ⟨b66, 0, none⟩) 1 1) v2 u.1 [p] ks x; rw [allowed_one hc2 hxm] at hal; exact hal) cb10 (Opds.cons (Opd.mk rfl) (Opds.cons (Opd.mk rfl) (Opds.cons (Opd.mk rfl) Opds.nil))) (Lent.row (Lent.dat (Lent.dat Lent.nil)) rfl rfl rfl (fun q hq => by obtain rfl := List.mem_singleton.1 hq; exact hp))) rfl ?_
                  refine St.nil ?_
                  refine St.then_normal ?_
                  refine St.defer 8 (by repeat (first | refine NP.then ?_ | refine NP.inBlock ?_ | exact NP.body)) (by kernel_rfl) rfl (Es.move (Opd.mk rfl)) (by kernel_rfl) rfl ?_
                  refine St.defer 9 (by repeat (first | refine NP.then ?_ | refine NP.inBlock ?_ | exact NP.body)) (by kernel_rfl) rfl (Es.extract (Opd.mk rfl) rfl) (by kernel_rfl) rfl ?_
                  refine St.defer 10 (by repeat (first | refine NP.then ?_ | refine NP.inBlock ?_ | exact NP.body)) (by kernel_rfl) rfl (Es.extract (Opd.mk rfl) rfl) (by kernel_rfl) rfl ?_
                  refine St.defer 11 (by repeat (first | refine NP.then ?_ | refine NP.inBlock ?_ | exact NP.body)) (by kernel_rfl) rfl (Es.extract (Opd.mk rfl) rfl) (by kernel_rfl) rfl ?_
                  refine St.any1 (i := 12) (by kernel_rfl) rfl ?_
                  refine St.alloc zc27 rfl (fun b17 => ?_)
                  refine St.nil ?_
                  refine St.then_normal ?_
                  refine St.defer 13 (by repeat (first | refine NP.then ?_ | refine NP.inBlock ?_ | exact NP.body)) (by kernel_rfl) rfl (Es.assign (Opd.mk rfl)) (by kernel_rfl) rfl ?_
                  refine St.defer 14 (by repeat (first | refine NP.then ?_ | refine NP.inBlock ?_ | exact NP.body)) (by kernel_rfl) rfl (Es.assign (Opd.mk rfl)) (by kernel_rfl) rfl ?_
                  refine St.any1 (i := 15) (by kernel_rfl) rfl ?_
                  refine St.storeA (Opd.mk rfl) (Opd.mk rfl) sz27 (by rfl) rfl ?_
                  refine St.nil ?_
                  refine St.then_normal ?_
                  refine St.any_done (by kernel_rfl) ?_
                  refine St.then_normal ?_
                  refine St.met b17 trivial (by repeat (first | exact Sub.nil | refine Sub.cons (by first | rfl | exact congrArg (fun z => some (iv z)) (by omega) | exact congrArg (fun z => some (Value.bool z)) (by first | assumption | exact Eq.symm (by assumption))) ?_)) (fun _ hw => hw.sub)
                · skip
                  refine St.alloc zc27 rfl (fun b17 => ?_)
                  refine St.nil ?_
                  refine St.then_normal ?_
                  refine St.any1 (i := 7) (by kernel_rfl) rfl ?_
                  refine St.ev _ (Ev.callL (by have hal := Allowed_spec (.slice (some ⟨b66, 0, none⟩) 1 1) v2 u.1 [p] ks x; rw [allowed_one hc2 hxm] at hal; exact hal) cb10 (Opds.cons (Opd.mk rfl) (Opds.cons (Opd.mk rfl) (Opds.cons (Opd.mk rfl) Opds.nil))) (Lent.row (Lent.dat (Lent.dat Lent.nil)) rfl rfl rfl (fun q hq => by obtain rfl := List.mem_singleton.1 hq; exact hp))) rfl ?_
                  refine St.nil ?_
                  refine St.then_normal ?_
                  refine St.defer 8 (by repeat (first | refine NP.then ?_ | refine NP.inBlock ?_ | exact NP.body)) (by kernel_rfl) rfl (Es.move (Opd.mk rfl)) (by kernel_rfl) rfl ?_
                  refine St.defer 9 (by repeat (first | refine NP.then ?_ | refine NP.inBlock ?_ | exact NP.body)) (by kernel_rfl) rfl (Es.extract (Opd.mk rfl) rfl) (by kernel_rfl) rfl ?_
                  refine St.defer 10 (by repeat (first | refine NP.then ?_ | refine NP.inBlock ?_ | exact NP.body)) (by kernel_rfl) rfl (Es.extract (Opd.mk rfl) rfl) (by kernel_rfl) rfl ?_
                  refine St.defer 11 (by repeat (first | refine NP.then ?_ | refine NP.inBlock ?_ | exact NP.body)) (by kernel_rfl) rfl (Es.extract (Opd.mk rfl) rfl) (by kernel_rfl) rfl ?_
                  refine St.defer 13 (by repeat (first | refine NP.then ?_ | refine NP.inBlock ?_ | exact NP.body)) (by kernel_rfl) rfl (Es.assign (Opd.mk rfl)) (by kernel_rfl) rfl ?_
                  refine St.defer 14 (by repeat (first | refine NP.then ?_ | refine NP.inBlock ?_ | exact NP.body)) (by kernel_rfl) rfl (Es.assign (Opd.mk rfl)) (by kernel_rfl) rfl ?_
                  refine St.any1 (i := 15) (by kernel_rfl) rfl ?_
                  refine St.storeA (Opd.mk rfl) (Opd.mk rfl) sz27 (by rfl) rfl ?_
                  refine St.nil ?_
                  refine St.then_normal ?_
                  refine St.any_done (by kernel_rfl) ?_
                  refine St.then_normal ?_
                  refine St.met b17 trivial (by repeat (first | exact Sub.nil | refine Sub.cons (by first | rfl | exact congrArg (fun z => some (iv z)) (by omega) | exact congrArg (fun z => some (Value.bool z)) (by first | assumption | exact Eq.symm (by assumption))) ?_)) (fun _ hw => hw.sub)
              · skip
                refine St.alloc zc27 rfl (fun b17 => ?_)
                refine St.nil ?_
                refine St.then_normal ?_
                refine St.any1 (i := 6) (by kernel_rfl) rfl ?_
                refine St.ev _ (Ev.ld1 (Opd.mk rfl) hu Try.underlying24 trivial rfl) rfl ?_
                refine St.nil ?_
                refine St.then_normal ?_
                refine St.any1 (i := 7) (by kernel_rfl) rfl ?_
                refine St.ev _ (Ev.callL (by have hal := Allowed_spec (.slice (some ⟨b66, 0, none⟩) 1 1) v2 u.1 [p] ks x; rw [allowed_one hc2 hxm] at hal; exact hal) cb10 (Opds.cons (Opd.mk rfl) (Opds.cons (Opd.mk rfl) (Opds.cons (Opd.mk rfl) Opds.nil))) (Lent.row (Lent.dat (Lent.dat Lent.nil)) rfl rfl rfl (fun q hq => by obtain rfl := List.mem_singleton.1 hq; exact hp))) rfl ?_
                refine St.nil ?_
                refine St.then_normal ?_
                refine St.defer 8 (by repeat (first | refine NP.then ?_ | refine NP.inBlock ?_ | exact NP.body)) (by kernel_rfl) rfl (Es.move (Opd.mk rfl)) (by kernel_rfl) rfl ?_
                refine St.defer 9 (by repeat (first | refine NP.then ?_ | refine NP.inBlock ?_ | exact NP.body)) (by kernel_rfl) rfl (Es.extract (Opd.mk rfl) rfl) (by kernel_rfl) rfl ?_
                refine St.defer 10 (by repeat (first | refine NP.then ?_ | refine NP.inBlock ?_ | exact NP.body)) (by kernel_rfl) rfl (Es.extract (Opd.mk rfl) rfl) (by kernel_rfl) rfl ?_
                refine St.defer 11 (by repeat (first | refine NP.then ?_ | refine NP.inBlock ?_ | exact NP.body)) (by kernel_rfl) rfl (Es.extract (Opd.mk rfl) rfl) (by kernel_rfl) rfl ?_
                refine St.defer 13 (by repeat (first | refine NP.then ?_ | refine NP.inBlock ?_ | exact NP.body)) (by kernel_rfl) rfl (Es.assign (Opd.mk rfl)) (by kernel_rfl) rfl ?_
                refine St.defer 14 (by repeat (first | refine NP.then ?_ | refine NP.inBlock ?_ | exact NP.body)) (by kernel_rfl) rfl (Es.assign (Opd.mk rfl)) (by kernel_rfl) rfl ?_
                refine St.any1 (i := 15) (by kernel_rfl) rfl ?_
                refine St.storeA (Opd.mk rfl) (Opd.mk rfl) sz27 (by rfl) rfl ?_
                refine St.nil ?_
                refine St.then_normal ?_
                refine St.any_done (by kernel_rfl) ?_
                refine St.then_normal ?_
                refine St.met b17 trivial (by repeat (first | exact Sub.nil | refine Sub.cons (by first | rfl | exact congrArg (fun z => some (iv z)) (by omega) | exact congrArg (fun z => some (Value.bool z)) (by first | assumption | exact Eq.symm (by assumption))) ?_)) (fun _ hw => hw.sub)
            · skip
              refine St.ev _ (Ev.ld1 (Opd.mk rfl) hu Try.underlying24 trivial rfl) rfl ?_
              refine St.nil ?_
              refine St.then_normal ?_
              refine St.any2 (i := 1) (j := 12) (by kernel_rfl) rfl rfl ?_ ?_
              · skip
                refine St.buildSl (xs := [(Operand.tmp 65)]) (ps := [(0, (Operand.tmp 65))]) rfl (Opds.cons (Opd.mk rfl) Opds.nil) Try.underlying22 sz34 zv34 rfl rfl (by simp [Value.cells]) rfl rfl (fun b66 => ?_)
                refine St.nil ?_
                refine St.then_normal ?_
                refine St.any2 (i := 7) (j := 12) (by kernel_rfl) rfl rfl ?_ ?_
                · skip
                  refine St.ev _ (Ev.callL (by have hal := Allowed_spec (.slice (some ⟨b66, 0, none⟩) 1 1) v2 u.1 [p] ks x; rw [allowed_one hc2 hxm] at hal; exact hal) cb10 (Opds.cons (Opd.mk rfl) (Opds.cons (Opd.mk rfl) (Opds.cons (Opd.mk rfl) Opds.nil))) (Lent.row (Lent.dat (Lent.dat Lent.nil)) rfl rfl rfl (fun q hq => by obtain rfl := List.mem_singleton.1 hq; exact hp))) rfl ?_
                  refine St.nil ?_
                  refine St.then_normal ?_
                  refine St.defer 8 (by repeat (first | refine NP.then ?_ | refine NP.inBlock ?_ | exact NP.body)) (by kernel_rfl) rfl (Es.move (Opd.mk rfl)) (by kernel_rfl) rfl ?_
                  refine St.defer 9 (by repeat (first | refine NP.then ?_ | refine NP.inBlock ?_ | exact NP.body)) (by kernel_rfl) rfl (Es.extract (Opd.mk rfl) rfl) (by kernel_rfl) rfl ?_
                  refine St.defer 10 (by repeat (first | refine NP.then ?_ | refine NP.inBlock ?_ | exact NP.body)) (by kernel_rfl) rfl (Es.extract (Opd.mk rfl) rfl) (by kernel_rfl) rfl ?_
                  refine St.defer 11 (by repeat (first | refine NP.then ?_ | refine NP.inBlock ?_ | exact NP.body)) (by kernel_rfl) rfl (Es.extract (Opd.mk rfl) rfl) (by kernel_rfl) rfl ?_
                  refine St.any1 (i := 12) (by kernel_rfl) rfl ?_
                  refine St.alloc zc27 rfl (fun b17 => ?_)
                  refine St.nil ?_
                  refine St.then_normal ?_
                  refine St.defer 13 (by repeat (first | refine NP.then ?_ | refine NP.inBlock ?_ | exact NP.body)) (by kernel_rfl) rfl (Es.assign (Opd.mk rfl)) (by kernel_rfl) rfl ?_
                  refine St.defer 14 (by repeat (first | refine NP.then ?_ | refine NP.inBlock ?_ | exact NP.body)) (by kernel_rfl) rfl (Es.assign (Opd.mk rfl)) (by kernel_rfl) rfl ?_
                  refine St.any1 (i := 15) (by kernel_rfl) rfl ?_
                  refine St.storeA (Opd.mk rfl) (Opd.mk rfl) sz27 (by rfl) rfl ?_
                  refine St.nil ?_
                  refine St.then_normal ?_
                  refine St.any_done (by kernel_rfl) ?_
                  refine St.then_normal ?_
                  refine St.met b17 trivial (by repeat (first | exact Sub.nil | refine Sub.cons (by first | rfl | exact congrArg (fun z => some (iv z)) (by omega) | exact congrArg (fun z => some (Value.bool z)) (by first | assumption | exact Eq.symm (by assumption))) ?_)) (fun _ hw => hw.sub)
                · skip
                  refine St.alloc zc27 rfl (fun b17 => ?_)
                  refine St.nil ?_
                  refine St.then_normal ?_
                  refine St.any1 (i := 7) (by kernel_rfl) rfl ?_
                  refine St.ev _ (Ev.callL (by have hal := Allowed_spec (.slice (some ⟨b66, 0, none⟩) 1 1) v2 u.1 [p] ks x; rw [allowed_one hc2 hxm] at hal; exact hal) cb10 (Opds.cons (Opd.mk rfl) (Opds.cons (Opd.mk rfl) (Opds.cons (Opd.mk rfl) Opds.nil))) (Lent.row (Lent.dat (Lent.dat Lent.nil)) rfl rfl rfl (fun q hq => by obtain rfl := List.mem_singleton.1 hq; exact hp))) rfl ?_
                  refine St.nil ?_
                  refine St.then_normal ?_
                  refine St.defer 8 (by repeat (first | refine NP.then ?_ | refine NP.inBlock ?_ | exact NP.body)) (by kernel_rfl) rfl (Es.move (Opd.mk rfl)) (by kernel_rfl) rfl ?_
                  refine St.defer 9 (by repeat (first | refine NP.then ?_ | refine NP.inBlock ?_ | exact NP.body)) (by kernel_rfl) rfl (Es.extract (Opd.mk rfl) rfl) (by kernel_rfl) rfl ?_
                  refine St.defer 10 (by repeat (first | refine NP.then ?_ | refine NP.inBlock ?_ | exact NP.body)) (by kernel_rfl) rfl (Es.extract (Opd.mk rfl) rfl) (by kernel_rfl) rfl ?_
                  refine St.defer 11 (by repeat (first | refine NP.then ?_ | refine NP.inBlock ?_ | exact NP.body)) (by kernel_rfl) rfl (Es.extract (Opd.mk rfl) rfl) (by kernel_rfl) rfl ?_
                  refine St.defer 13 (by repeat (first | refine NP.then ?_ | refine NP.inBlock ?_ | exact NP.body)) (by kernel_rfl) rfl (Es.assign (Opd.mk rfl)) (by kernel_rfl) rfl ?_
                  refine St.defer 14 (by repeat (first | refine NP.then ?_ | refine NP.inBlock ?_ | exact NP.body)) (by kernel_rfl) rfl (Es.assign (Opd.mk rfl)) (by kernel_rfl) rfl ?_
                  refine St.any1 (i := 15) (by kernel_rfl) rfl ?_
                  refine St.storeA (Opd.mk rfl) (Opd.mk rfl) sz27 (by rfl) rfl ?_
                  refine St.nil ?_
                  refine St.then_normal ?_
                  refine St.any_done (by kernel_rfl) ?_
                  refine St.then_normal ?_
                  refine St.met b17 trivial (by repeat (first | exact Sub.nil | refine Sub.cons (by first | rfl | exact congrArg (fun z => some (iv z)) (by omega) | exact congrArg (fun z => some (Value.bool z)) (by first | assumption | exact Eq.symm (by assumption))) ?_)) (fun _ hw => hw.sub)
              · skip
                refine St.alloc zc27 rfl (fun b17 => ?_)
                refine St.nil ?_
                refine St.then_normal ?_
                refine St.any1 (i := 1) (by kernel_rfl) rfl ?_
                refine St.buildSl (xs := [(Operand.tmp 65)]) (ps := [(0, (Operand.tmp 65))]) rfl (Opds.cons (Opd.mk rfl) Opds.nil) Try.underlying22 sz34 zv34 rfl rfl (by simp [Value.cells]) rfl rfl (fun b66 => ?_)
                refine St.nil ?_
                refine St.then_normal ?_
                refine St.any1 (i := 7) (by kernel_rfl) rfl ?_
                refine St.ev _ (Ev.callL (by have hal := Allowed_spec (.slice (some ⟨b66, 0, none⟩) 1 1) v2 u.1 [p] ks x; rw [allowed_one hc2 hxm] at hal; exact hal) cb10 (Opds.cons (Opd.mk rfl) (Opds.cons (Opd.mk rfl) (Opds.cons (Opd.mk rfl) Opds.nil))) (Lent.row (Lent.dat (Lent.dat Lent.nil)) rfl rfl rfl (fun q hq => by obtain rfl := List.mem_singleton.1 hq; exact hp))) rfl ?_
                refine St.nil ?_
                refine St.then_normal ?_
                refine St.defer 8 (by repeat (first | refine NP.then ?_ | refine NP.inBlock ?_ | exact NP.body)) (by kernel_rfl) rfl (Es.move (Opd.mk rfl)) (by kernel_rfl) rfl ?_
                refine St.defer 9 (by repeat (first | refine NP.then ?_ | refine NP.inBlock ?_ | exact NP.body)) (by kernel_rfl) rfl (Es.extract (Opd.mk rfl) rfl) (by kernel_rfl) rfl ?_
                refine St.defer 10 (by repeat (first | refine NP.then ?_ | refine NP.inBlock ?_ | exact NP.body)) (by kernel_rfl) rfl (Es.extract (Opd.mk rfl) rfl) (by kernel_rfl) rfl ?_
                refine St.defer 11 (by repeat (first | refine NP.then ?_ | refine NP.inBlock ?_ | exact NP.body)) (by kernel_rfl) rfl (Es.extract (Opd.mk rfl) rfl) (by kernel_rfl) rfl ?_
                refine St.defer 13 (by repeat (first | refine NP.then ?_ | refine NP.inBlock ?_ | exact NP.body)) (by kernel_rfl) rfl (Es.assign (Opd.mk rfl)) (by kernel_rfl) rfl ?_
                refine St.defer 14 (by repeat (first | refine NP.then ?_ | refine NP.inBlock ?_ | exact NP.body)) (by kernel_rfl) rfl (Es.assign (Opd.mk rfl)) (by kernel_rfl) rfl ?_
                refine St.any1 (i := 15) (by kernel_rfl) rfl ?_
                refine St.storeA (Opd.mk rfl) (Opd.mk rfl) sz27 (by rfl) rfl ?_
                refine St.nil ?_
                refine St.then_normal ?_
                refine St.any_done (by kernel_rfl) ?_
                refine St.then_normal ?_
                refine St.met b17 trivial (by repeat (first | exact Sub.nil | refine Sub.cons (by first | rfl | exact congrArg (fun z => some (iv z)) (by omega) | exact congrArg (fun z => some (Value.bool z)) (by first | assumption | exact Eq.symm (by assumption))) ?_)) (fun _ hw => hw.sub)
            · skip
              refine St.alloc zc27 rfl (fun b17 => ?_)
              refine St.nil ?_
              refine St.then_normal ?_
              refine St.any2 (i := 1) (j := 6) (by kernel_rfl) rfl rfl ?_ ?_
              · skip
                refine St.buildSl (xs := [(Operand.tmp 65)]) (ps := [(0, (Operand.tmp 65))]) rfl (Opds.cons (Opd.mk rfl) Opds.nil) Try.underlying22 sz34 zv34 rfl rfl (by simp [Value.cells]) rfl rfl (fun b66 => ?_)
                refine St.nil ?_
                refine St.then_normal ?_
                refine St.any1 (i := 6) (by kernel_rfl) rfl ?_
                refine St.ev _ (Ev.ld1 (Opd.mk rfl) hu Try.underlying24 trivial rfl) rfl ?_
                refine St.nil ?_
                refine St.then_normal ?_
                refine St.any1 (i := 7) (by kernel_rfl) rfl ?_
                refine St.ev _ (Ev.callL (by have hal := Allowed_spec (.slice (some ⟨b66, 0, none⟩) 1 1) v2 u.1 [p] ks x; rw [allowed_one hc2 hxm] at hal; exact hal) cb10 (Opds.cons (Opd.mk rfl) (Opds.cons (Opd.mk rfl) (Opds.cons (Opd.mk rfl) Opds.nil))) (Lent.row (Lent.dat (Lent.dat Lent.nil)) rfl rfl rfl (fun q hq => by obtain rfl := List.mem_singleton.1 hq; exact hp))) rfl ?_
                refine St.nil ?_
                refine St.then_normal ?_
                refine St.defer 8 (by repeat (first | refine NP.then ?_ | refine NP.inBlock ?_ | exact NP.body)) (by kernel_rfl) rfl (Es.move (Opd.mk rfl)) (by kernel_rfl) rfl ?_
                refine St.defer 9 (by repeat (first | refine NP.then ?_ | refine NP.inBlock ?_ | exact NP.body)) (by kernel_rfl) rfl (Es.extract (Opd.mk rfl) rfl) (by kernel_rfl) rfl ?_
                refine St.defer 10 (by repeat (first | refine NP.then ?_ | refine NP.inBlock ?_ | exact NP.body)) (by kernel_rfl) rfl (Es.extract (Opd.mk rfl) rfl) (by kernel_rfl) rfl ?_
                refine St.defer 11 (by repeat (first | refine NP.then ?_ | refine NP.inBlock ?_ | exact NP.body)) (by kernel_rfl) rfl (Es.extract (Opd.mk rfl) rfl) (by kernel_rfl) rfl ?_
                refine St.defer 13 (by repeat (first | refine NP.then ?_ | refine NP.inBlock ?_ | exact NP.body)) (by kernel_rfl) rfl (Es.assign (Opd.mk rfl)) (by kernel_rfl) rfl ?_
                refine St.defer 14 (by repeat (first | refine NP.then ?_ | refine NP.inBlock ?_ | exact NP.body)) (by kernel_rfl) rfl (Es.assign (Opd.mk rfl)) (by kernel_rfl) rfl ?_
                refine St.any1 (i := 15) (by kernel_rfl) rfl ?_
                refine St.storeA (Opd.mk rfl) (Opd.mk rfl) sz27 (by rfl) rfl ?_
                refine St.nil ?_
                refine St.then_normal ?_
                refine St.any_done (by kernel_rfl) ?_
                refine St.then_normal ?_
                refine St.met b17 trivial (by repeat (first | exact Sub.nil | refine Sub.cons (by first | rfl | exact congrArg (fun z => some (iv z)) (by omega) | exact congrArg (fun z => some (Value.bool z)) (by first | assumption | exact Eq.symm (by assumption))) ?_)) (fun _ hw => hw.sub)
              · skip
                refine St.ev _ (Ev.ld1 (Opd.mk rfl) hu Try.underlying24 trivial rfl) rfl ?_
                refine St.nil ?_
                refine St.then_normal ?_
                refine St.any1 (i := 1) (by kernel_rfl) rfl ?_
                refine St.buildSl (xs := [(Operand.tmp 65)]) (ps := [(0, (Operand.tmp 65))]) rfl (Opds.cons (Opd.mk rfl) Opds.nil) Try.underlying22 sz34 zv34 rfl rfl (by simp [Value.cells]) rfl rfl (fun b66 => ?_)
                refine St.nil ?_
                refine St.then_normal ?_
                refine St.any1 (i := 7) (by kernel_rfl) rfl ?_
                refine St.ev _ (Ev.callL (by have hal := Allowed_spec (.slice (some ⟨b66, 0, none⟩) 1 1) v2 u.1 [p] ks x; rw [allowed_one hc2 hxm] at hal; exact hal) cb10 (Opds.cons (Opd.mk rfl) (Opds.cons (Opd.mk rfl) (Opds.cons (Opd.mk rfl) Opds.nil))) (Lent.row (Lent.dat (Lent.dat Lent.nil)) rfl rfl rfl (fun q hq => by obtain rfl := List.mem_singleton.1 hq; exact hp))) rfl ?_
                refine St.nil ?_
                refine St.then_normal ?_
                refine St.defer 8 (by repeat (first | refine NP.then ?_ | refine NP.inBlock ?_ | exact NP.body)) (by kernel_rfl) rfl (Es.move (Opd.mk rfl)) (by kernel_rfl) rfl ?_
                refine St.defer 9 (by repeat (first | refine NP.then ?_ | refine NP.inBlock ?_ | exact NP.body)) (by kernel_rfl) rfl (Es.extract (Opd.mk rfl) rfl) (by kernel_rfl) rfl ?_
                refine St.defer 10 (by repeat (first | refine NP.then ?_ | refine NP.inBlock ?_ | exact NP.body)) (by kernel_rfl) rfl (Es.extract (Opd.mk rfl) rfl) (by kernel_rfl) rfl ?_
                refine St.defer 11 (by repeat (first | refine NP.then ?_ | refine NP.inBlock ?_ | exact NP.body)) (by kernel_rfl) rfl (Es.extract (Opd.mk rfl) rfl) (by kernel_rfl) rfl ?_
                refine St.defer 13 (by repeat (first | refine NP.then ?_ | refine NP.inBlock ?_ | exact NP.body)) (by kernel_rfl) rfl (Es.assign (Opd.mk rfl)) (by kernel_rfl) rfl ?_
                refine St.defer 14 (by repeat (first | refine NP.then ?_ | refine NP.inBlock ?_ | exact NP.body)) (by kernel_rfl) rfl (Es.assign (Opd.mk rfl)) (by kernel_rfl) rfl ?_
                refine St.any1 (i := 15) (by kernel_rfl) rfl ?_
                refine St.storeA (Opd.mk rfl) (Opd.mk rfl) sz27 (by rfl) rfl ?_
                refine St.nil ?_
                refine St.then_normal ?_
                refine St.any_done (by kernel_rfl) ?_
                refine St.then_normal ?_
                refine St.met b17 trivial (by repeat (first | exact Sub.nil | refine Sub.cons (by first | rfl | exact congrArg (fun z => some (iv z)) (by omega) | exact congrArg (fun z => some (Value.bool z)) (by first | assumption | exact Eq.symm (by assumption))) ?_)) (fun _ hw => hw.sub)
          · skip
            refine St.ev _ (Ev.ld1 (Opd.mk rfl) hu Try.underlying24 trivial rfl) rfl ?_
            refine St.nil ?_
            refine St.then_normal ?_
            refine St.any2 (i := 0) (j := 12) (by kernel_rfl) rfl rfl ?_ ?_
            · skip
              refine St.ev _ (Ev.ldbA (Opd.mk rfl) Try.underlying34 trivial (by exact sz34)) rfl ?_
              refine St.nil ?_
              refine St.then_normal ?_
              refine St.any2 (i := 1) (j := 12) (by kernel_rfl) rfl rfl ?_ ?_
              · skip
                refine St.buildSl (xs := [(Operand.tmp 65)]) (ps := [(0, (Operand.tmp 65))]) rfl (Opds.cons (Opd.mk rfl) Opds.nil) Try.underlying22 sz34 zv34 rfl rfl (by simp [Value.cells]) rfl rfl (fun b66 => ?_)
                refine St.nil ?_
                refine St.then_normal ?_
                refine St.any2 (i := 7) (j := 12) (by kernel_rfl) rfl rfl ?_ ?_
                · skip
                  refine St.ev _ (Ev.callL (by have hal := Allowed_spec (.slice (some ⟨b66, 0, none⟩) 1 1) v2 u.1 [p] ks x; rw [allowed_one hc2 hxm] at hal; exact hal) cb10 (Opds.cons (Opd.mk rfl) (Opds.cons (Opd.mk rfl) (Opds.cons (Opd.mk rfl) Opds.nil))) (Lent.row (Lent.dat (Lent.dat Lent.nil)) rfl rfl rfl (fun q hq => by obtain rfl := List.mem_singleton.1 hq; exact hp))) rfl ?_
                  refine St.nil ?_
                  refine St.then_normal ?_
                  refine St.defer 8 (by repeat (first | refine NP.then ?_ | refine NP.inBlock ?_ | exact NP.body)) (by kernel_rfl) rfl (Es.move (Opd.mk rfl)) (by kernel_rfl) rfl ?_
                  refine St.defer 9 (by repeat (first | refine NP.then ?_ | refine NP.inBlock ?_ | exact NP.body)) (by kernel_rfl) rfl (Es.extract (Opd.mk rfl) rfl) (by kernel_rfl) rfl ?_
                  refine St.defer 10 (by repeat (first | refine NP.then ?_ | refine NP.inBlock ?_ | exact NP.body)) (by kernel_rfl) rfl (Es.extract (Opd.mk rfl) rfl) (by kernel_rfl) rfl ?_
                  refine St.defer 11 (by repeat (first | refine NP.then ?_ | refine NP.inBlock ?_ | exact NP.body)) (by kernel_rfl) rfl (Es.extract (Opd.mk rfl) rfl) (by kernel_rfl) rfl ?_
                  refine St.any1 (i := 12) (by kernel_rfl) rfl ?_
                  refine St.alloc zc27 rfl (fun b17 => ?_)
                  refine St.nil ?_
                  refine St.then_normal ?_
                  refine St.defer 13 (by repeat (first | refine NP.then ?_ | refine NP.inBlock ?_ | exact NP.body)) (by kernel_rfl) rfl (Es.assign (Opd.mk rfl)) (by kernel_rfl) rfl ?_
                  refine St.defer 14 (by repeat (first | refine NP.then ?_ | refine NP.inBlock ?_ | exact NP.body)) (by kernel_rfl) rfl (Es.assign (Opd.mk rfl)) (by kernel_rfl) rfl ?_
                  refine St.any1 (i := 15) (by kernel_rfl) rfl ?_
                  refine St.storeA (Opd.mk rfl) (Opd.mk rfl) sz27 (by rfl) rfl ?_
                  refine St.nil ?_
                  refine St.then_normal ?_
                  refine St.any_done (by kernel_rfl) ?_
                  refine St.then_normal ?_
                  refine St.met b17 trivial (by repeat (first | exact Sub.nil | refine Sub.cons (by first | rfl | exact congrArg (fun z => some (iv z)) (by omega) | exact congrArg (fun z => some (Value.bool z)) (by first | assumption | exact Eq.symm (by assumption))) ?_)) (fun _ hw => hw.sub)
                · skip
                  refine St.alloc zc27 rfl (fun b17 => ?_)
                  refine St.nil ?_
                  refine St.then_normal ?_
                  refine St.any1 (i := 7) (by kernel_rfl) rfl ?_
                  refine St.ev _ (Ev.callL (by have hal := Allowed_spec (.slice (some ⟨b66, 0, none⟩) 1 1) v2 u.1 [p] ks x; rw [allowed_one hc2 hxm] at hal; exact hal) cb10 (Opds.cons (Opd.mk rfl) (Opds.cons (Opd.mk rfl) (Opds.cons (Opd.mk rfl) Opds.nil))) (Lent.row (Lent.dat (Lent.dat Lent.nil)) rfl rfl rfl (fun q hq => by obtain rfl := List.mem_singleton.1 hq; exact hp))) rfl ?_
                  refine St.nil ?_
                  refine St.then_normal ?_
                  refine St.defer 8 (by repeat (first | refine NP.then ?_ | refine NP.inBlock ?_ | exact NP.body)) (by kernel_rfl) rfl (Es.move (Opd.mk rfl)) (by kernel_rfl) rfl ?_
                  refine St.defer 9 (by repeat (first | refine NP.then ?_ | refine NP.inBlock ?_ | exact NP.body)) (by kernel_rfl) rfl (Es.extract (Opd.mk rfl) rfl) (by kernel_rfl) rfl ?_
                  refine St.defer 10 (by repeat (first | refine NP.then ?_ | refine NP.inBlock ?_ | exact NP.body)) (by kernel_rfl) rfl (Es.extract (Opd.mk rfl) rfl) (by kernel_rfl) rfl ?_
                  refine St.defer 11 (by repeat (first | refine NP.then ?_ | refine NP.inBlock ?_ | exact NP.body)) (by kernel_rfl) rfl (Es.extract (Opd.mk rfl) rfl) (by kernel_rfl) rfl ?_
                  refine St.defer 13 (by repeat (first | refine NP.then ?_ | refine NP.inBlock ?_ | exact NP.body)) (by kernel_rfl) rfl (Es.assign (Opd.mk rfl)) (by kernel_rfl) rfl ?_
                  refine St.defer 14 (by repeat (first | refine NP.then ?_ | refine NP.inBlock ?_ | exact NP.body)) (by kernel_rfl) rfl (Es.assign (Opd.mk rfl)) (by kernel_rfl) rfl ?_
                  refine St.any1 (i := 15) (by kernel_rfl) rfl ?_
                  refine St.storeA (Opd.mk rfl) (Opd.mk rfl) sz27 (by rfl) rfl ?_
                  refine St.nil ?_
                  refine St.then_normal ?_
                  refine St.any_done (by kernel_rfl) ?_
                  refine St.then_normal ?_
                  refine St.met b17 trivial (by repeat (first | exact Sub.nil | refine Sub.cons (by first | rfl | exact congrArg (fun z => some (iv z)) (by omega) | exact congrArg (fun z => some (Value.bool z)) (by first | assumption | exact Eq.symm (by assumption))) ?_)) (fun _ hw => hw.sub)
              · skip
                refine St.alloc zc27 rfl (fun b17 => ?_)
                refine St.nil ?_
                refine St.then_normal ?_
                refine St.any1 (i := 1) (by kernel_rfl) rfl ?_
                refine St.buildSl (xs := [(Operand.tmp 65)]) (ps := [(0, (Operand.tmp 65))]) rfl (Opds.cons (Opd.mk rfl) Opds.nil) Try.underlying22 sz34 zv34 rfl rfl (by simp [Value.cells]) rfl rfl (fun b66 => ?_)
                refine St.nil ?_
                refine St.then_normal ?_
                refine St.any1 (i := 7) (by kernel_rfl) rfl ?_
                refine St.ev _ (Ev.callL (by have hal := Allowed_spec (.slice (some ⟨b66, 0, none⟩) 1 1) v2 u.1 [p] ks x; rw [allowed_one hc2 hxm] at hal; exact hal) cb10 (Opds.cons (Opd.mk rfl) (Opds.cons (Opd.mk rfl) (Opds.cons (Opd.mk rfl) Opds.nil))) (Lent.row (Lent.dat (Lent.dat Lent.nil)) rfl rfl rfl (fun q hq => by obtain rfl := List.mem_singleton.1 hq; exact hp))) rfl ?_
                refine St.nil ?_
                refine St.then_normal ?_
                refine St.defer 8 (by repeat (first | refine NP.then ?_ | refine NP.inBlock ?_ | exact NP.body)) (by kernel_rfl) rfl (Es.move (Opd.mk rfl)) (by kernel_rfl) rfl ?_
                refine St.defer 9 (by repeat (first | refine NP.then ?_ | refine NP.inBlock ?_ | exact NP.body)) (by kernel_rfl) rfl (Es.extract (Opd.mk rfl) rfl) (by kernel_rfl) rfl ?_
                refine St.defer 10 (by repeat (first | refine NP.then ?_ | refine NP.inBlock ?_ | exact NP.body)) (by kernel_rfl) rfl (Es.extract (Opd.mk rfl) rfl) (by kernel_rfl) rfl ?_
                refine St.defer 11 (by repeat (first | refine NP.then ?_ | refine NP.inBlock ?_ | exact NP.body)) (by kernel_rfl) rfl (Es.extract (Opd.mk rfl) rfl) (by kernel_rfl) rfl ?_
                refine St.defer 13 (by repeat (first | refine NP.then ?_ | refine NP.inBlock ?_ | exact NP.body)) (by kernel_rfl) rfl (Es.assign (Opd.mk rfl)) (by kernel_rfl) rfl ?_
                refine St.defer 14 (by repeat (first | refine NP.then ?_ | refine NP.inBlock ?_ | exact NP.body)) (by kernel_rfl) rfl (Es.assign (Opd.mk rfl)) (by kernel_rfl) rfl ?_
                refine St.any1 (i := 15) (by kernel_rfl) rfl ?_
                refine St.storeA (Opd.mk rfl) (Opd.mk rfl) sz27 (by rfl) rfl ?_
                refine St.nil ?_
                refine St.then_normal ?_
                refine St.any_done (by kernel_rfl) ?_
                refine St.then_normal ?_
                refine St.met b17 trivial (by repeat (first | exact Sub.nil | refine Sub.cons (by first | rfl | exact congrArg (fun z => some (iv z)) (by omega) | exact congrArg (fun z => some (Value.bool z)) (by first | assumption | exact Eq.symm (by assumption))) ?_)) (fun _ hw => hw.sub)
            · skip
              refine St.alloc zc27 rfl (fun b17 => ?_)
              refine St.nil ?_
              refine St.then_normal ?_
              refine St.any1 (i := 0) (by kernel_rfl) rfl ?_
              refine St.ev _ (Ev.ldbA (Opd.mk rfl) Try.underlying34 trivial (by exact sz34)) rfl ?_
              refine St.nil ?_
              refine St.then_normal ?_
              refine St.any1 (i := 1) (by kernel_rfl) rfl ?_
              refine St.buildSl (xs := [(Operand.tmp 65)]) (ps := [(0, (Operand.tmp 65))]) rfl (Opds.cons (Opd.mk rfl) Opds.nil) Try.underlying22 sz34 zv34 rfl rfl (by simp [Value.cells]) rfl rfl (fun b66 => ?_)
              refine St.nil ?_
              refine St.then_normal ?_
              refine St.any1 (i := 7) (by kernel_rfl) rfl ?_
              refine St.ev _ (Ev.callL (by have hal := Allowed_spec (.slice (some ⟨b66, 0, none⟩) 1 1) v2 u.1 [p] ks x; rw [allowed_one hc2 hxm] at hal; exact hal) cb10 (Opds.cons (Opd.mk rfl) (Opds.cons (Opd.mk rfl) (Opds.cons (Opd.mk rfl) Opds.nil))) (Lent.row (Lent.dat (Lent.dat Lent.nil)) rfl rfl rfl (fun q hq => by obtain rfl := List.mem_singleton.1 hq; exact hp))) rfl ?_
              refine St.nil ?_
              refine St.then_normal ?_
              refine St.defer 8 (by repeat (first | refine NP.then ?_ | refine NP.inBlock ?_ | exact NP.body)) (by kernel_rfl) rfl (Es.move (Opd.mk rfl)) (by kernel_rfl) rfl ?_
              refine St.defer 9 (by repeat (first | refine NP.then ?_ | refine NP.inBlock ?_ | exact NP.body)) (by kernel_rfl) rfl (Es.extract (Opd.mk rfl) rfl) (by kernel_rfl) rfl ?_
              refine St.defer 10 (by repeat (first | refine NP.then ?_ | refine NP.inBlock ?_ | exact NP.body)) (by kernel_rfl) rfl (Es.extract (Opd.mk rfl) rfl) (by kernel_rfl) rfl ?_
              refine St.defer 11 (by repeat (first | refine NP.then ?_ | refine NP.inBlock ?_ | exact NP.body)) (by kernel_rfl) rfl (Es.extract (Opd.mk rfl) rfl) (by kernel_rfl) rfl ?_
              refine St.defer 13 (by repeat (first | refine NP.then ?_ | refine NP.inBlock ?_ | exact NP.body)) (by kernel_rfl) rfl (Es.assign (Opd.mk rfl)) (by kernel_rfl) rfl ?_
              refine St.defer 14 (by repeat (first | refine NP.then ?_ | refine NP.inBlock ?_ | exact NP.body)) (by kernel_rfl) rfl (Es.assign (Opd.mk rfl)) (by kernel_rfl) rfl ?_
              refine St.any1 (i := 15) (by kernel_rfl) rfl ?_
              refine St.storeA (Opd.mk rfl) (Opd.mk rfl) sz27 (by rfl) rfl ?_
              refine St.nil ?_
              refine St.then_normal ?_
              refine St.any_done (by kernel_rfl) ?_
              refine St.then_normal ?_
              refine St.met b17 trivial (by repeat (first | exact Sub.nil | refine Sub.cons (by first | rfl | exact congrArg (fun z => some (iv z)) (by omega) | exact congrArg (fun z => some (Value.bool z)) (by first | assumption | exact Eq.symm (by assumption))) ?_)) (fun _ hw => hw.sub)
          · skip
            refine St.alloc zc27 rfl (fun b17 => ?_)
            refine St.nil ?_
            refine St.then_normal ?_
            refine St.any2 (i := 0) (j := 6) (by kernel_rfl) rfl rfl ?_ ?_
            · skip
              refine St.ev _ (Ev.ldbA (Opd.mk rfl) Try.underlying34 trivial (by exact sz34)) rfl ?_
              refine St.nil ?_
              refine St.then_normal ?_
              refine St.any2 (i := 1) (j := 6) (by kernel_rfl) rfl rfl ?_ ?_
              · skip
                refine St.buildSl (xs := [(Operand.tmp 65)]) (ps := [(0, (Operand.tmp 65))]) rfl (Opds.cons (Opd.mk rfl) Opds.nil) Try.underlying22 sz34 zv34 rfl rfl (by simp [Value.cells]) rfl rfl (fun b66 => ?_)
                refine St.nil ?_
                refine St.then_normal ?_
                refine St.any1 (i := 6) (by kernel_rfl) rfl ?_
                refine St.ev _ (Ev.ld1 (Opd.mk rfl) hu Try.underlying24 trivial rfl) rfl ?_
                refine St.nil ?_
                refine St.then_normal ?_
                refine St.any1 (i := 7) (by kernel_rfl) rfl ?_
                refine St.ev _ (Ev.callL (by have hal := Allowed_spec (.slice (some ⟨b66, 0, none⟩) 1 1) v2 u.1 [p] ks x; rw [allowed_one hc2 hxm] at hal; exact hal) cb10 (Opds.cons (Opd.mk rfl) (Opds.cons (Opd.mk rfl) (Opds.cons (Opd.mk rfl) Opds.nil))) (Lent.row (Lent.dat (Lent.dat Lent.nil)) rfl rfl rfl (fun q hq => by obtain rfl := List.mem_singleton.1 hq; exact hp))) rfl ?_
                refine St.nil ?_
                refine St.then_normal ?_
                refine St.defer 8 (by repeat (first | refine NP.then ?_ | refine NP.inBlock ?_ | exact NP.body)) (by kernel_rfl) rfl (Es.move (Opd.mk rfl)) (by kernel_rfl) rfl ?_
                refine St.defer 9 (by repeat (first | refine NP.then ?_ | refine NP.inBlock ?_ | exact NP.body)) (by kernel_rfl) rfl (Es.extract (Opd.mk rfl) rfl) (by kernel_rfl) rfl ?_
                refine St.defer 10 (by repeat (first | refine NP.then ?_ | refine NP.inBlock ?_ | exact NP.body)) (by kernel_rfl) rfl (Es.extract (Opd.mk rfl) rfl) (by kernel_rfl) rfl ?_
                refine St.defer 11 (by repeat (first | refine NP.then ?_ | refine NP.inBlock ?_ | exact NP.body)) (by kernel_rfl) rfl (Es.extract (Opd.mk rfl) rfl) (by kernel_rfl) rfl ?_
                refine St.defer 13 (by repeat (first | refine NP.then ?_ | refine NP.inBlock ?_ | exact NP.body)) (by kernel_rfl) rfl (Es.assign (Opd.mk rfl)) (by kernel_rfl) rfl ?_
                refine St.defer 14 (by repeat (first | refine NP.then ?_ | refine NP.inBlock ?_ | exact NP.body)) (by kernel_rfl) rfl (Es.assign (Opd.mk rfl)) (by kernel_rfl) rfl ?_
                refine St.any1 (i := 15) (by kernel_rfl) rfl ?_
                refine St.storeA (Opd.mk rfl) (Opd.mk rfl) sz27 (by rfl) rfl ?_
                refine St.nil ?_
                refine St.then_normal ?_
                refine St.any_done (by kernel_rfl) ?_
                refine St.then_normal ?_
                refine St.met b17 trivial (by repeat (first | exact Sub.nil | refine Sub.cons (by first | rfl | exact congrArg (fun z => some (iv z)) (by omega) | exact congrArg (fun z => some (Value.bool z)) (by first | assumption | exact Eq.symm (by assumption))) ?_)) (fun _ hw => hw.sub)
              · skip
                refine St.ev _ (Ev.ld1 (Opd.mk rfl) hu Try.underlying24 trivial rfl) rfl ?_
                refine St.nil ?_
                refine St.then_normal ?_
                refine St.any1 (i := 1) (by kernel_rfl) rfl ?_
                refine St.buildSl (xs := [(Operand.tmp 65)]) (ps := [(0, (Operand.tmp 65))]) rfl (Opds.cons (Opd.mk rfl) Opds.nil) Try.underlying22 sz34 zv34 rfl rfl (by simp [Value.cells]) rfl rfl (fun b66 => ?_)
                refine St.nil ?_
                refine St.then_normal ?_
                refine St.any1 (i := 7) (by kernel_rfl) rfl ?_
                refine St.ev _ (Ev.callL (by have hal := Allowed_spec (.slice (some ⟨b66, 0, none⟩) 1 1) v2 u.1 [p] ks x; rw [allowed_one hc2 hxm] at hal; exact hal) cb10 (Opds.cons (Opd.mk rfl) (Opds.cons (Opd.mk rfl) (Opds.cons (Opd.mk rfl) Opds.nil))) (Lent.row (Lent.dat (Lent.dat Lent.nil)) rfl rfl rfl (fun q hq => by obtain rfl := List.mem_singleton.1 hq; exact hp))) rfl ?_
                refine St.nil ?_
                refine St.then_normal ?_
                refine St.defer 8 (by repeat (first | refine NP.then ?_ | refine NP.inBlock ?_ | exact NP.body)) (by kernel_rfl) rfl (Es.move (Opd.mk rfl)) (by kernel_rfl) rfl ?_
                refine St.defer 9 (by repeat (first | refine NP.then ?_ | refine NP.inBlock ?_ | exact NP.body)) (by kernel_rfl) rfl (Es.extract (Opd.mk rfl) rfl) (by kernel_rfl) rfl ?_
                refine St.defer 10 (by repeat (first | refine NP.then ?_ | refine NP.inBlock ?_ | exact NP.body)) (by kernel_rfl) rfl (Es.extract (Opd.mk rfl) rfl) (by kernel_rfl) rfl ?_
                refine St.defer 11 (by repeat (first | refine NP.then ?_ | refine NP.inBlock ?_ | exact NP.body)) (by kernel_rfl) rfl (Es.extract (Opd.mk rfl) rfl) (by kernel_rfl) rfl ?_
                refine St.defer 13 (by repeat (first | refine NP.then ?_ | refine NP.inBlock ?_ | exact NP.body)) (by kernel_rfl) rfl (Es.assign (Opd.mk rfl)) (by kernel_rfl) rfl ?_
                refine St.defer 14 (by repeat (first | refine NP.then ?_ | refine NP.inBlock ?_ | exact NP.body)) (by kernel_rfl) rfl (Es.assign (Opd.mk rfl)) (by kernel_rfl) rfl ?_
                refine St.any1 (i := 15) (by kernel_rfl) rfl ?_
                refine St.storeA (Opd.mk rfl) (Opd.mk rfl) sz27 (by rfl) rfl ?_
                refine St.nil ?_
                refine St.then_normal ?_
                refine St.any_done (by kernel_rfl) ?_
                refine St.then_normal ?_
                refine St.met b17 trivial (by repeat (first | exact Sub.nil | refine Sub.cons (by first | rfl | exact congrArg (fun z => some (iv z)) (by omega) | exact congrArg (fun z => some (Value.bool z)) (by first | assumption | exact Eq.symm (by assumption))) ?_)) (fun _ hw => hw.sub)
            · skip
              refine St.ev _ (Ev.ld1 (Opd.mk rfl) hu Try.underlying24 trivial rfl) rfl ?_
              refine St.nil ?_
              refine St.then_normal ?_
              refine St.any1 (i := 0) (by kernel_rfl) rfl ?_
              refine St.ev _ (Ev.ldbA (Opd.mk rfl) Try.underlying34 trivial (by exact sz34)) rfl ?_
              refine St.nil ?_
              refine St.then_normal ?_
              refine St.any1 (i := 1) (by kernel_rfl) rfl ?_
              refine St.buildSl (xs := [(Operand.tmp 65)]) (ps := [(0, (Operand.tmp 65))]) rfl (Opds.cons (Opd.mk rfl) Opds.nil) Try.underlying22 sz34 zv34 rfl rfl (by simp [Value.cells]) rfl rfl (fun b66 => ?_)
              refine St.nil ?_
              refine St.then_normal ?_
              refine St.any1 (i := 7) (by kernel_rfl) rfl ?_
              refine St.ev _ (Ev.callL (by have hal := Allowed_spec (.slice (some ⟨b66, 0, none⟩) 1 1) v2 u.1 [p] ks x; rw [allowed_one hc2 hxm] at hal; exact hal) cb10 (Opds.cons (Opd.mk rfl) (Opds.cons (Opd.mk rfl) (Opds.cons (Opd.mk rfl) Opds.nil))) (Lent.row (Lent.dat (Lent.dat Lent.nil)) rfl rfl rfl (fun q hq => by obtain rfl := List.mem_singleton.1 hq; exact hp))) rfl ?_
              refine St.nil ?_
              refine St.then_normal ?_
              refine St.defer 8 (by repeat (first | refine NP.then ?_ | refine NP.inBlock ?_ | exact NP.body)) (by kernel_rfl) rfl (Es.move (Opd.mk rfl)) (by kernel_rfl) rfl ?_
              refine St.defer 9 (by repeat (first | refine NP.then ?_ | refine NP.inBlock ?_ | exact NP.body)) (by kernel_rfl) rfl (Es.extract (Opd.mk rfl) rfl) (by kernel_rfl) rfl ?_
              refine St.defer 10 (by repeat (first | refine NP.then ?_ | refine NP.inBlock ?_ | exact NP.body)) (by kernel_rfl) rfl (Es.extract (Opd.mk rfl) rfl) (by kernel_rfl) rfl ?_
              refine St.defer 11 (by repeat (first | refine NP.then ?_ | refine NP.inBlock ?_ | exact NP.body)) (by kernel_rfl) rfl (Es.extract (Opd.mk rfl) rfl) (by kernel_rfl) rfl ?_
              refine St.defer 13 (by repeat (first | refine NP.then ?_ | refine NP.inBlock ?_ | exact NP.body)) (by kernel_rfl) rfl (Es.assign (Opd.mk rfl)) (by kernel_rfl) rfl ?_
              refine St.defer 14 (by repeat (first | refine NP.then ?_ | refine NP.inBlock ?_ | exact NP.body)) (by kernel_rfl) rfl (Es.assign (Opd.mk rfl)) (by kernel_rfl) rfl ?_
              refine St.any1 (i := 15) (by kernel_rfl) rfl ?_
              refine St.storeA (Opd.mk rfl) (Opd.mk rfl) sz27 (by rfl) rfl ?_
              refine St.nil ?_
              refine St.then_normal ?_
              refine St.any_done (by kernel_rfl) ?_
              refine St.then_normal ?_
              refine St.met b17 trivial (by repeat (first | exact Sub.nil | refine Sub.cons (by first | rfl | exact congrArg (fun z => some (iv z)) (by omega) | exact congrArg (fun z => some (Value.bool z)) (by first | assumption | exact Eq.symm (by assumption))) ?_)) (fun _ hw => hw.sub)
        · skip
          intro bf hphi
          refine St.seq ?_
          refine St.seq ?_
          refine St.rg ?_
          refine St.ev _ (Ev.fldb0 (Opd.mk rfl) fo27_0) rfl ?_
          refine St.ev _ (Ev.ldb (Opd.mk rfl) Try.underlying3 trivial (by rfl)) rfl ?_
          refine St.ev _ (Ev.neq (Opd.mk rfl) (Opd.mk rfl)) rfl ?_
          refine St.nil ?_
          refine St.then_normal ?_
          refine St.condf _ rfl (by decide) ?_
          refine St.skip ?_
          refine St.then_normal ?_
          refine St.seq ?_
          refine St.rg ?_
          refine St.ev _ (Ev.move (Opd.mk rfl)) rfl ?_
          refine St.nil ?_
          refine St.then_normal ?_
          refine St.cond _ rfl (fun h79 => ?_) (fun h79 => ?_)
          · skip
            skip
            have hc1 := filter_t (f := (fun x => keeps p (rowOf ks x))) hx h79
            have hgx := filter_get (f := (fun x => keeps p (rowOf ks x))) hx h79
            rw [← good_more] at hgx
            have hgk := lt_of_some hgx
            obtain ⟨w, hw⟩ := some_of_lt (show (((good rules ks).take i).filter (fun x => keeps p (rowOf ks x))).length < us.length by omega)
            refine St.ptw (vs := us) _ hw hgx ?_
            refine St.seq ?_
            refine St.seq ?_
            refine St.rq mixed (by kernel_rfl) (Mm.drawn _ _) ?_
            refine Sq.ev _ (Ev.move (Opd.mk rfl)) rfl ?_
            refine Sq.ev _ (Ev.move (Opd.mk rfl)) rfl ?_
            refine Sq.ev _ (Ev.lensl (Opd.mk rfl) Try.underlying35) rfl ?_
            refine Sq.ev _ (Ev.geq (Opd.mk rfl) (Opd.mk rfl)) rfl ?_
            refine Sq.ev _ (Ev.move (Opd.mk rfl)) rfl ?_
            refine Sq.gf _ rfl rfl (fun hg => Ev.move (Opd.mk rfl)) rfl ?_
            refine Sq.gf _ rfl rfl (fun hg => Ev.move (Opd.mk rfl)) rfl ?_
            refine Sq.gf _ rfl rfl (fun hg => Ev.idxaddr  (Opd.gv rfl hg) (Opd.gv rfl hg) Try.underlying35 sz24 rfl (by omega)) rfl ?_
            refine Sq.gf _ rfl rfl (fun hg => Ev.ld1 (Opd.gv rfl hg) hw Try.underlying24 trivial rfl) rfl ?_
            refine Sq.gf _ rfl rfl (fun hg => Ev.move (Opd.mk rfl)) rfl ?_
            refine Sq.gf _ rfl rfl (fun hg => Ev.move (Opd.mk rfl)) rfl ?_
            refine Sq.gf _ rfl rfl (fun hg => Ev.idxaddr  (Opd.gv rfl hg) (Opd.gv rfl hg) Try.underlying35 sz24 rfl (by omega)) rfl ?_
            refine Sq.gf _ rfl rfl (fun hg => Ev.ld1 (Opd.gv rfl hg) hu Try.underlying24 trivial rfl) rfl ?_
            refine Sq.gf _ rfl rfl (fun hg => Ev.call (sameInts_spec w.1 u.1 x x) cb14 (Opds.cons (Opd.gv rfl hg) (Opds.cons (Opd.gv rfl hg) Opds.nil))) rfl ?_
            refine Sq.gf _ rfl rfl (fun hg => Ev.not (Opd.gv rfl hg)) rfl ?_
            refine Sq.ev _ (Ev.or (Opd.mk rfl) (fun hp => Opd.gv rfl hp)) rfl ?_
            refine Sq.nil ?_
            refine St.then_normal ?_
            refine St.condf _ rfl (by simp; omega) ?_
            refine St.skip ?_
            refine St.then_normal ?_
            refine St.rg ?_
            refine St.ev _ (Ev.move (Opd.mk rfl)) rfl ?_
            refine St.ev _ (Ev.add (Opd.mk rfl) (Opd.mk rfl) (by omega)) rfl ?_
            refine St.ev _ (Ev.assign (Opd.mk rfl)) rfl ?_
            refine St.nil ?_
            refine St.in_normal ?_
            refine St.then_normal ?_
            refine St.rg ?_
            refine St.ev _ (Ev.move (Opd.mk rfl)) rfl ?_
            refine St.ev _ (Ev.add (Opd.mk rfl) (Opd.mk rfl) (by omega)) rfl ?_
            refine St.ev _ (Ev.assign (Opd.mk rfl)) rfl ?_
            refine St.nil ?_
            refine St.then_normal ?_
            refine St.againH (i + 1) (by omega) (by omega) (by repeat (first | exact Sub.nil | refine Sub.cons (by first | rfl | exact congrArg (fun z => some (iv z)) (by omega) | exact congrArg (fun z => some (Value.bool z)) (by first | assumption | exact Eq.symm (by assumption))) ?_)) (fun _ hw => hw.sub)
          · skip
            skip
            have hc1 := filter_f (f := (fun x => keeps p (rowOf ks x))) hx h79
            refine St.skip ?_
            refine St.in_normal ?_
            refine St.then_normal ?_
            refine St.rg ?_
            refine St.ev _ (Ev.move (Opd.mk rfl)) rfl ?_
            refine St.ev _ (Ev.add (Opd.mk rfl) (Opd.mk rfl) (by omega)) rfl ?_
            refine St.ev _ (Ev.assign (Opd.mk rfl)) rfl ?_
            refine St.nil ?_
            refine St.then_normal ?_
            refine St.againH (i + 1) (by omega) (by omega) (by repeat (first | exact Sub.nil | refine Sub.cons (by first | rfl | exact congrArg (fun z => some (iv z)) (by omega) | exact congrArg (fun z => some (Value.bool z)) (by first | assumption | exact Eq.symm (by assumption))) ?_)) (fun _ hw => hw.sub)
      · skip
        try simp only [decide_eq_true_eq, decide_eq_false_iff_not, Bool.and_eq_true, Bool.or_eq_true, Bool.and_eq_false_iff, Bool.or_eq_false_iff, Bool.not_eq_true', Bool.not_eq_false', beq_iff_eq, beq_eq_false_iff_ne, Int.not_lt, Int.not_le] at h61
        refine St.exit ?_
        refine St.then_exit ?_
        refine St.then_exit ?_
        refine St.in_hit ?_
        refine St.then_normal ?_
        refine St.seq ?_
        refine St.rg ?_
        refine St.ev _ (Ev.move (Opd.mk rfl)) rfl ?_
        refine St.ev _ (Ev.move (Opd.mk rfl)) rfl ?_
        refine St.ev _ (Ev.lensl (Opd.mk rfl) Try.underlying35) rfl ?_
        refine St.ev _ (Ev.eql (Opd.mk rfl) (Opd.mk rfl)) rfl ?_
        refine St.ev _ (Ev.assign (Opd.mk rfl)) rfl ?_
        refine St.nil ?_
        refine St.then_normal ?_
        refine St.rett ?_
        refine St.rets [_] [] Try.results4 ⟨rfl, trivial⟩ ?_ (fun _ hw => hw.sub)
        exact be (by rw [decide_eq_true_eq, hul, good_more, List.take_of_length_le (by omega)])

end Go.Proofs.Ytblnbjlcpleaaaa
