/-
  Closed facts on the tables of the program: sizes, zero values, where fields lie, which functions have bodies.
  Conditions: none.
-/
import Derived.Test.YtilpbgnlofoacaaChecked
import Derived.Test.YtilpbgnlofoacaaJ9
set_option linter.unusedSimpArgs false
set_option linter.unusedVariables false
namespace Go.Proofs.Ytilpbgnlofoacaa
open Go Go.J
theorem mixed : Try.prog.follows .mixedOrders = true := by kernel_rfl
theorem zc24 : (Try.prog.info? 24).bind (fun i => i.zero.map Value.cells) = some #[.int .i64 0, .int .i64 0] := by kernel_rfl
theorem zc26 : (Try.prog.info? 26).bind (fun i => i.zero.map Value.cells) = some #[.int .i64 0, .int .i64 0] := by kernel_rfl
theorem pl24 (w : World) : placesRun Try.prog 24 w = .ok #[(0, 1), (1, 1)] w := by kernel_rfl
theorem pl26 (w : World) : placesRun Try.prog 26 w = .ok #[(0, 1), (1, 1)] w := by kernel_rfl
theorem sz24 : (Try.prog.info? 24).map (·.size) = some 2 := by kernel_rfl
theorem sz26 : (Try.prog.info? 26).map (·.size) = some 2 := by kernel_rfl
theorem fo24_0 : fieldOff Try.prog 24 0 = some 0 := by kernel_rfl
theorem sz3 : (Try.prog.info? 3).map (·.size) = some 1 := by kernel_rfl
theorem fo24_1 : fieldOff Try.prog 24 1 = some 1 := by kernel_rfl
theorem cb25 : Callable Try.prog 25 := ⟨_, Try.func25, rfl, by kernel_rfl⟩
theorem cb26 : Callable Try.prog 26 := ⟨_, Try.func26, rfl, by kernel_rfl⟩
theorem cb36 : Callable Try.prog 36 := ⟨_, Try.func36, rfl, by kernel_rfl⟩
theorem fo26_0 : fieldOff Try.prog 26 0 = some 0 := by kernel_rfl
theorem cb31 : Callable Try.prog 31 := ⟨_, Try.func31, rfl, by kernel_rfl⟩
theorem zc49 : (Try.prog.info? 49).bind (fun i => i.zero.map Value.cells) = some #[.int .u64 0, .int .u64 0] := by kernel_rfl
theorem fo49_0 : fieldOff Try.prog 49 0 = some 0 := by kernel_rfl
theorem fo49_1 : fieldOff Try.prog 49 1 = some 1 := by kernel_rfl
theorem pl49 (w : World) : placesRun Try.prog 49 w = .ok #[(0, 1), (1, 1)] w := by kernel_rfl
theorem sz49 : (Try.prog.info? 49).map (·.size) = some 2 := by kernel_rfl
theorem sz43 : (Try.prog.info? 43).map (·.size) = some 1 := by kernel_rfl
theorem cb38 : Callable Try.prog 38 := ⟨_, Try.func38, rfl, by kernel_rfl⟩
theorem cb41 : Callable Try.prog 41 := ⟨_, Try.func41, rfl, by kernel_rfl⟩
theorem cb46 : Callable Try.prog 46 := ⟨_, Try.func46, rfl, by kernel_rfl⟩
theorem cb33 : Callable Try.prog 33 := ⟨_, Try.func33, rfl, by kernel_rfl⟩
theorem cb39 : Callable Try.prog 39 := ⟨_, Try.func39, rfl, by kernel_rfl⟩
theorem cb48 : Callable Try.prog 48 := ⟨_, Try.func48, rfl, by kernel_rfl⟩
theorem cb47 : Callable Try.prog 47 := ⟨_, Try.func47, rfl, by kernel_rfl⟩
theorem cb29 : Callable Try.prog 29 := ⟨_, Try.func29, rfl, by kernel_rfl⟩
theorem cb37 : Callable Try.prog 37 := ⟨_, Try.func37, rfl, by kernel_rfl⟩
theorem cb19 : Callable Try.prog 19 := ⟨_, Try.func19, rfl, by kernel_rfl⟩
theorem cb40 : Callable Try.prog 40 := ⟨_, Try.func40, rfl, by kernel_rfl⟩
theorem cb28 : Callable Try.prog 28 := ⟨_, Try.func28, rfl, by kernel_rfl⟩
theorem cb32 : Callable Try.prog 32 := ⟨_, Try.func32, rfl, by kernel_rfl⟩
theorem cb45 : Callable Try.prog 45 := ⟨_, Try.func45, rfl, by kernel_rfl⟩
theorem cb27 : Callable Try.prog 27 := ⟨_, Try.func27, rfl, by kernel_rfl⟩
theorem cb44 : Callable Try.prog 44 := ⟨_, Try.func44, rfl, by kernel_rfl⟩
theorem cb30 : Callable Try.prog 30 := ⟨_, Try.func30, rfl, by kernel_rfl⟩
theorem cb34 : Callable Try.prog 34 := ⟨_, Try.func34, rfl, by kernel_rfl⟩
theorem cb35 : Callable Try.prog 35 := ⟨_, Try.func35, rfl, by kernel_rfl⟩
theorem cb14 : Callable Try.prog 14 := ⟨_, Try.func14, rfl, by kernel_rfl⟩
theorem cb20 : Callable Try.prog 20 := ⟨_, Try.func20, rfl, by kernel_rfl⟩
theorem cb16 : Callable Try.prog 16 := ⟨_, Try.func16, rfl, by kernel_rfl⟩
theorem cb11 : Callable Try.prog 11 := ⟨_, Try.func11, rfl, by kernel_rfl⟩
theorem cb13 : Callable Try.prog 13 := ⟨_, Try.func13, rfl, by kernel_rfl⟩
theorem cb10 : Callable Try.prog 10 := ⟨_, Try.func10, rfl, by kernel_rfl⟩
theorem cb12 : Callable Try.prog 12 := ⟨_, Try.func12, rfl, by kernel_rfl⟩
theorem cb15 : Callable Try.prog 15 := ⟨_, Try.func15, rfl, by kernel_rfl⟩
theorem cb23 : Callable Try.prog 23 := ⟨_, Try.func23, rfl, by kernel_rfl⟩
theorem cb24 : Callable Try.prog 24 := ⟨_, Try.func24, rfl, by kernel_rfl⟩
theorem cb21 : Callable Try.prog 21 := ⟨_, Try.func21, rfl, by kernel_rfl⟩
theorem cb17 : Callable Try.prog 17 := ⟨_, Try.func17, rfl, by kernel_rfl⟩
theorem cb22 : Callable Try.prog 22 := ⟨_, Try.func22, rfl, by kernel_rfl⟩
theorem cb18 : Callable Try.prog 18 := ⟨_, Try.func18, rfl, by kernel_rfl⟩
theorem bld49_  (w : World) : (Instr.build 49 #[]).run Try.prog w = .ok (.agg #[.int .u64 0, .int .u64 0]) w :=
  run_buildS zc49 (pl49 w) (by simp [Instr.fill, J.cells_agg])
theorem bld49_0_1 {u0 u1 : Value} (h0 : u0.oneCell' = true) (h1 : u1.oneCell' = true) (w : World) : (Instr.build 49 #[(0, u0), (1, u1)]).run Try.prog w = .ok (.agg #[u0, u1]) w :=
  run_buildS zc49 (pl49 w) (by simp [Instr.fill, J.cells_agg, J.cells_one h0, J.cells_one h1])
theorem bld26_0 {u0 : Value} (h0 : u0.oneCell' = true) (w : World) : (Instr.build 26 #[(0, u0)]).run Try.prog w = .ok (.agg #[u0, .int .i64 0]) w :=
  run_buildS zc26 (pl26 w) (by simp [Instr.fill, J.cells_agg, J.cells_one h0])
theorem eqf49 (a0 b0 : Int) (a1 b1 : Int) (w : World) : (Op.equalIn 10000 49 (.agg #[.int .u64 a0, .int .u64 a1]) (.agg #[.int .u64 b0, .int .u64 b1])).run Try.prog w = .ok ((a0 == b0) && ((a1 == b1) && true)) w := by
  have e : Try.prog.underlying 49 = some (.struct (Try.prog.fieldsOf 49)) := by simp only [Program.fieldsOf, Try.underlying49]
  have p43 : ∀ (xs : Array Value) (k : Nat) (v : Value) w, xs[k]? = some v → (part 43 xs k).run Try.prog w = .ok v w := fun xs k v w hv => part_one (by rw [Try.underlying43]) hv
  rw [run_equalIn_struct w 9999 49 _ _ e Try.stoodInHeld49]
  simp only [Program.fieldsOf, Try.underlying49]
  refine eqf_step rfl (fun w => p43 _ _ _ w rfl) (fun w => p43 _ _ _ w rfl) (fun w => run_equalIn_int w 9998 43 _ _ _ _ Try.underlying43) (fun w => ?_) w
  refine eqf_step rfl (fun w => p43 _ _ _ w rfl) (fun w => p43 _ _ _ w rfl) (fun w => run_equalIn_int w 9998 43 _ _ _ _ Try.underlying43) (fun w => ?_) w
  exact eqf_end _ _ _ _ _
theorem bld24_0_1 {u0 u1 : Value} (h0 : u0.oneCell' = true) (h1 : u1.oneCell' = true) (w : World) : (Instr.build 24 #[(0, u0), (1, u1)]).run Try.prog w = .ok (.agg #[u0, u1]) w :=
  run_buildS zc24 (pl24 w) (by simp [Instr.fill, J.cells_agg, J.cells_one h0, J.cells_one h1])
theorem bld26_  (w : World) : (Instr.build 26 #[]).run Try.prog w = .ok (.agg #[.int .i64 0, .int .i64 0]) w :=
  run_buildS zc26 (pl26 w) (by simp [Instr.fill, J.cells_agg])
theorem bld24_1 {u1 : Value} (h1 : u1.oneCell' = true) (w : World) : (Instr.build 24 #[(1, u1)]).run Try.prog w = .ok (.agg #[.int .i64 0, u1]) w :=
  run_buildS zc24 (pl24 w) (by simp [Instr.fill, J.cells_agg, J.cells_one h1])
theorem bld26_0_1 {u0 u1 : Value} (h0 : u0.oneCell' = true) (h1 : u1.oneCell' = true) (w : World) : (Instr.build 26 #[(0, u0), (1, u1)]).run Try.prog w = .ok (.agg #[u0, u1]) w :=
  run_buildS zc26 (pl26 w) (by simp [Instr.fill, J.cells_agg, J.cells_one h0, J.cells_one h1])
theorem eqf26 (a0 b0 : Int) (a1 b1 : Int) (w : World) : (Op.equalIn 10000 26 (.agg #[.int .i64 a0, .int .i64 a1]) (.agg #[.int .i64 b0, .int .i64 b1])).run Try.prog w = .ok ((a0 == b0) && ((a1 == b1) && true)) w := by
  have e : Try.prog.underlying 26 = some (.struct (Try.prog.fieldsOf 26)) := by simp only [Program.fieldsOf, Try.underlying26]
  have p3 : ∀ (xs : Array Value) (k : Nat) (v : Value) w, xs[k]? = some v → (part 3 xs k).run Try.prog w = .ok v w := fun xs k v w hv => part_one (by rw [Try.underlying3]) hv
  rw [run_equalIn_struct w 9999 26 _ _ e Try.stoodInHeld26]
  simp only [Program.fieldsOf, Try.underlying26]
  refine eqf_step rfl (fun w => p3 _ _ _ w rfl) (fun w => p3 _ _ _ w rfl) (fun w => run_equalIn_int w 9998 3 _ _ _ _ Try.underlying3) (fun w => ?_) w
  refine eqf_step rfl (fun w => p3 _ _ _ w rfl) (fun w => p3 _ _ _ w rfl) (fun w => run_equalIn_int w 9998 3 _ _ _ _ Try.underlying3) (fun w => ?_) w
  exact eqf_end _ _ _ _ _
theorem bld24_  (w : World) : (Instr.build 24 #[]).run Try.prog w = .ok (.agg #[.int .i64 0, .int .i64 0]) w :=
  run_buildS zc24 (pl24 w) (by simp [Instr.fill, J.cells_agg])
theorem eqf24 (a0 b0 : Int) (a1 b1 : Int) (w : World) : (Op.equalIn 10000 24 (.agg #[.int .i64 a0, .int .i64 a1]) (.agg #[.int .i64 b0, .int .i64 b1])).run Try.prog w = .ok ((a0 == b0) && ((a1 == b1) && true)) w := by
  have e : Try.prog.underlying 24 = some (.struct (Try.prog.fieldsOf 24)) := by simp only [Program.fieldsOf, Try.underlying24]
  have p3 : ∀ (xs : Array Value) (k : Nat) (v : Value) w, xs[k]? = some v → (part 3 xs k).run Try.prog w = .ok v w := fun xs k v w hv => part_one (by rw [Try.underlying3]) hv
  rw [run_equalIn_struct w 9999 24 _ _ e Try.stoodInHeld24]
  simp only [Program.fieldsOf, Try.underlying24]
  refine eqf_step rfl (fun w => p3 _ _ _ w rfl) (fun w => p3 _ _ _ w rfl) (fun w => run_equalIn_int w 9998 3 _ _ _ _ Try.underlying3) (fun w => ?_) w
  refine eqf_step rfl (fun w => p3 _ _ _ w rfl) (fun w => p3 _ _ _ w rfl) (fun w => run_equalIn_int w 9998 3 _ _ _ _ Try.underlying3) (fun w => ?_) w
  exact eqf_end _ _ _ _ _
end Go.Proofs.Ytilpbgnlofoacaa
