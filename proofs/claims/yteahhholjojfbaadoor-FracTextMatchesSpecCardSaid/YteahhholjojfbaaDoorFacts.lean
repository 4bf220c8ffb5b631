/-
  Closed facts on the tables of the program: sizes, zero values, where fields lie, which functions have bodies.
  Conditions: none.
-/
import Derived.Test.YteahhholjojfbaaDoorChecked
import Derived.Test.YteahhholjojfbaaDoorJ20
set_option maxRecDepth 20000
set_option linter.unusedSimpArgs false
set_option linter.unusedVariables false
namespace Go.Proofs.YteahhholjojfbaaDoor
open Go Go.J
theorem mixed : Tryd.prog.follows .mixedOrders = true := by kernel_rfl
theorem zc23 : (Tryd.prog.info? 23).bind (fun i => i.zero.map Value.cells) = some #[.int .i64 0, .int .i64 0] := by kernel_rfl
theorem zc26 : (Tryd.prog.info? 26).bind (fun i => i.zero.map Value.cells) = some #[.int .i64 0, .int .i64 0] := by kernel_rfl
theorem pl23 (w : World) : placesRun Tryd.prog 23 w = .ok #[(0, 1), (1, 1)] w := by kernel_rfl
theorem pl26 (w : World) : placesRun Tryd.prog 26 w = .ok #[(0, 1), (1, 1)] w := by kernel_rfl
theorem sz23 : (Tryd.prog.info? 23).map (·.size) = some 2 := by kernel_rfl
theorem sz26 : (Tryd.prog.info? 26).map (·.size) = some 2 := by kernel_rfl
theorem fo23_0 : fieldOff Tryd.prog 23 0 = some 0 := by kernel_rfl
theorem sz3 : (Tryd.prog.info? 3).map (·.size) = some 1 := by kernel_rfl
theorem fo23_1 : fieldOff Tryd.prog 23 1 = some 1 := by kernel_rfl
theorem cb22 : Callable Tryd.prog 22 := ⟨_, Tryd.func22, rfl, by kernel_rfl⟩
theorem cb23 : Callable Tryd.prog 23 := ⟨_, Tryd.func23, rfl, by kernel_rfl⟩
theorem cb26 : Callable Tryd.prog 26 := ⟨_, Tryd.func26, rfl, by kernel_rfl⟩
theorem fo26_0 : fieldOff Tryd.prog 26 0 = some 0 := by kernel_rfl
theorem cb25 : Callable Tryd.prog 25 := ⟨_, Tryd.func25, rfl, by kernel_rfl⟩
theorem zc41 : (Tryd.prog.info? 41).bind (fun i => i.zero.map Value.cells) = some #[.int .u64 0, .int .u64 0] := by kernel_rfl
theorem fo41_0 : fieldOff Tryd.prog 41 0 = some 0 := by kernel_rfl
theorem fo41_1 : fieldOff Tryd.prog 41 1 = some 1 := by kernel_rfl
theorem pl41 (w : World) : placesRun Tryd.prog 41 w = .ok #[(0, 1), (1, 1)] w := by kernel_rfl
theorem sz41 : (Tryd.prog.info? 41).map (·.size) = some 2 := by kernel_rfl
theorem sz39 : (Tryd.prog.info? 39).map (·.size) = some 1 := by kernel_rfl
theorem cb40 : Callable Tryd.prog 40 := ⟨_, Tryd.func40, rfl, by kernel_rfl⟩
theorem cb28 : Callable Tryd.prog 28 := ⟨_, Tryd.func28, rfl, by kernel_rfl⟩
theorem cb29 : Callable Tryd.prog 29 := ⟨_, Tryd.func29, rfl, by kernel_rfl⟩
theorem cb30 : Callable Tryd.prog 30 := ⟨_, Tryd.func30, rfl, by kernel_rfl⟩
theorem cb31 : Callable Tryd.prog 31 := ⟨_, Tryd.func31, rfl, by kernel_rfl⟩
theorem cb56 : Callable Tryd.prog 56 := ⟨_, Tryd.func56, rfl, by kernel_rfl⟩
theorem cb47 : Callable Tryd.prog 47 := ⟨_, Tryd.func47, rfl, by kernel_rfl⟩
theorem cb16 : Callable Tryd.prog 16 := ⟨_, Tryd.func16, rfl, by kernel_rfl⟩
theorem cb15 : Callable Tryd.prog 15 := ⟨_, Tryd.func15, rfl, by kernel_rfl⟩
theorem cb37 : Callable Tryd.prog 37 := ⟨_, Tryd.func37, rfl, by kernel_rfl⟩
theorem cb38 : Callable Tryd.prog 38 := ⟨_, Tryd.func38, rfl, by kernel_rfl⟩
theorem cb24 : Callable Tryd.prog 24 := ⟨_, Tryd.func24, rfl, by kernel_rfl⟩
theorem cb20 : Callable Tryd.prog 20 := ⟨_, Tryd.func20, rfl, by kernel_rfl⟩
theorem cb21 : Callable Tryd.prog 21 := ⟨_, Tryd.func21, rfl, by kernel_rfl⟩
theorem cb10 : Callable Tryd.prog 10 := ⟨_, Tryd.func10, rfl, by kernel_rfl⟩
theorem cb11 : Callable Tryd.prog 11 := ⟨_, Tryd.func11, rfl, by kernel_rfl⟩
theorem cb12 : Callable Tryd.prog 12 := ⟨_, Tryd.func12, rfl, by kernel_rfl⟩
theorem sz5 : (Tryd.prog.info? 5).map (·.size) = some 1 := by kernel_rfl
theorem zv5 : (Tryd.prog.info? 5).bind (·.zero) = some (Value.int .u8 0) := by kernel_rfl
theorem cb17 : Callable Tryd.prog 17 := ⟨_, Tryd.func17, rfl, by kernel_rfl⟩
theorem cb27 : Callable Tryd.prog 27 := ⟨_, Tryd.func27, rfl, by kernel_rfl⟩
theorem cb13 : Callable Tryd.prog 13 := ⟨_, Tryd.func13, rfl, by kernel_rfl⟩
theorem cb14 : Callable Tryd.prog 14 := ⟨_, Tryd.func14, rfl, by kernel_rfl⟩
theorem cb18 : Callable Tryd.prog 18 := ⟨_, Tryd.func18, rfl, by kernel_rfl⟩
theorem cb19 : Callable Tryd.prog 19 := ⟨_, Tryd.func19, rfl, by kernel_rfl⟩
theorem zc51 : (Tryd.prog.info? 51).bind (fun i => i.zero.map Value.cells) = some #[.int .i64 0, .int .i64 0] := by kernel_rfl
theorem sz51 : (Tryd.prog.info? 51).map (·.size) = some 2 := by kernel_rfl
theorem cb6 : Callable Tryd.prog 6 := ⟨_, Tryd.func6, rfl, by kernel_rfl⟩
theorem cb4 : Callable Tryd.prog 4 := ⟨_, Tryd.func4, rfl, by kernel_rfl⟩
theorem cb5 : Callable Tryd.prog 5 := ⟨_, Tryd.func5, rfl, by kernel_rfl⟩
theorem cb7 : Callable Tryd.prog 7 := ⟨_, Tryd.func7, rfl, by kernel_rfl⟩
theorem cb8 : Callable Tryd.prog 8 := ⟨_, Tryd.func8, rfl, by kernel_rfl⟩
theorem cb9 : Callable Tryd.prog 9 := ⟨_, Tryd.func9, rfl, by kernel_rfl⟩
theorem bld41_  (w : World) : (Instr.build 41 #[]).run Tryd.prog w = .ok (.agg #[.int .u64 0, .int .u64 0]) w :=
  run_buildS zc41 (pl41 w) (by simp [Instr.fill, J.cells_agg])
theorem bld41_0_1 {u0 u1 : Value} (h0 : u0.oneCell' = true) (h1 : u1.oneCell' = true) (w : World) : (Instr.build 41 #[(0, u0), (1, u1)]).run Tryd.prog w = .ok (.agg #[u0, u1]) w :=
  run_buildS zc41 (pl41 w) (by simp [Instr.fill, J.cells_agg, J.cells_one h0, J.cells_one h1])
theorem eqf41 (a0 b0 : Int) (a1 b1 : Int) (w : World) : (Op.equalIn 10000 41 (.agg #[.int .u64 a0, .int .u64 a1]) (.agg #[.int .u64 b0, .int .u64 b1])).run Tryd.prog w = .ok ((a0 == b0) && ((a1 == b1) && true)) w := by
  have e : Tryd.prog.underlying 41 = some (.struct (Tryd.prog.fieldsOf 41)) := by simp only [Program.fieldsOf, Tryd.underlying41]
  have p39 : ∀ (xs : Array Value) (k : Nat) (v : Value) w, xs[k]? = some v → (part 39 xs k).run Tryd.prog w = .ok v w := fun xs k v w hv => part_one (by rw [Tryd.underlying39]) hv
  rw [run_equalIn_struct w 9999 41 _ _ e Tryd.stoodInHeld41]
  simp only [Program.fieldsOf, Tryd.underlying41]
  refine eqf_step rfl (fun w => p39 _ _ _ w rfl) (fun w => p39 _ _ _ w rfl) (fun w => run_equalIn_int w 9998 39 _ _ _ _ Tryd.underlying39) (fun w => ?_) w
  refine eqf_step rfl (fun w => p39 _ _ _ w rfl) (fun w => p39 _ _ _ w rfl) (fun w => run_equalIn_int w 9998 39 _ _ _ _ Tryd.underlying39) (fun w => ?_) w
  exact eqf_end _ _ _ _ _
theorem bld23_1 {u1 : Value} (h1 : u1.oneCell' = true) (w : World) : (Instr.build 23 #[(1, u1)]).run Tryd.prog w = .ok (.agg #[.int .i64 0, u1]) w :=
  run_buildS zc23 (pl23 w) (by simp [Instr.fill, J.cells_agg, J.cells_one h1])
theorem bld26_0_1 {u0 u1 : Value} (h0 : u0.oneCell' = true) (h1 : u1.oneCell' = true) (w : World) : (Instr.build 26 #[(0, u0), (1, u1)]).run Tryd.prog w = .ok (.agg #[u0, u1]) w :=
  run_buildS zc26 (pl26 w) (by simp [Instr.fill, J.cells_agg, J.cells_one h0, J.cells_one h1])
theorem bld26_0 {u0 : Value} (h0 : u0.oneCell' = true) (w : World) : (Instr.build 26 #[(0, u0)]).run Tryd.prog w = .ok (.agg #[u0, .int .i64 0]) w :=
  run_buildS zc26 (pl26 w) (by simp [Instr.fill, J.cells_agg, J.cells_one h0])
theorem bld51_0_1 {u0 u1 : Value} (h0 : u0.oneCell' = true) (h1 : u1.oneCell' = true) (w : World) : (Instr.build 51 #[(0, u0), (1, u1)]).run Tryd.prog w = .ok (.agg #[u0, u1]) w :=
  run_buildA Tryd.underlying51 zc51 sz3 (by simp [Instr.fill, J.cells_agg, J.cells_one h0, J.cells_one h1])
theorem bld23_0_1 {u0 u1 : Value} (h0 : u0.oneCell' = true) (h1 : u1.oneCell' = true) (w : World) : (Instr.build 23 #[(0, u0), (1, u1)]).run Tryd.prog w = .ok (.agg #[u0, u1]) w :=
  run_buildS zc23 (pl23 w) (by simp [Instr.fill, J.cells_agg, J.cells_one h0, J.cells_one h1])
theorem bld23_  (w : World) : (Instr.build 23 #[]).run Tryd.prog w = .ok (.agg #[.int .i64 0, .int .i64 0]) w :=
  run_buildS zc23 (pl23 w) (by simp [Instr.fill, J.cells_agg])
theorem bld26_  (w : World) : (Instr.build 26 #[]).run Tryd.prog w = .ok (.agg #[.int .i64 0, .int .i64 0]) w :=
  run_buildS zc26 (pl26 w) (by simp [Instr.fill, J.cells_agg])
theorem eqf23 (a0 b0 : Int) (a1 b1 : Int) (w : World) : (Op.equalIn 10000 23 (.agg #[.int .i64 a0, .int .i64 a1]) (.agg #[.int .i64 b0, .int .i64 b1])).run Tryd.prog w = .ok ((a0 == b0) && ((a1 == b1) && true)) w := by
  have e : Tryd.prog.underlying 23 = some (.struct (Tryd.prog.fieldsOf 23)) := by simp only [Program.fieldsOf, Tryd.underlying23]
  have p3 : ∀ (xs : Array Value) (k : Nat) (v : Value) w, xs[k]? = some v → (part 3 xs k).run Tryd.prog w = .ok v w := fun xs k v w hv => part_one (by rw [Tryd.underlying3]) hv
  rw [run_equalIn_struct w 9999 23 _ _ e Tryd.stoodInHeld23]
  simp only [Program.fieldsOf, Tryd.underlying23]
  refine eqf_step rfl (fun w => p3 _ _ _ w rfl) (fun w => p3 _ _ _ w rfl) (fun w => run_equalIn_int w 9998 3 _ _ _ _ Tryd.underlying3) (fun w => ?_) w
  refine eqf_step rfl (fun w => p3 _ _ _ w rfl) (fun w => p3 _ _ _ w rfl) (fun w => run_equalIn_int w 9998 3 _ _ _ _ Tryd.underlying3) (fun w => ?_) w
  exact eqf_end _ _ _ _ _
theorem eqf26 (a0 b0 : Int) (a1 b1 : Int) (w : World) : (Op.equalIn 10000 26 (.agg #[.int .i64 a0, .int .i64 a1]) (.agg #[.int .i64 b0, .int .i64 b1])).run Tryd.prog w = .ok ((a0 == b0) && ((a1 == b1) && true)) w := by
  have e : Tryd.prog.underlying 26 = some (.struct (Tryd.prog.fieldsOf 26)) := by simp only [Program.fieldsOf, Tryd.underlying26]
  have p3 : ∀ (xs : Array Value) (k : Nat) (v : Value) w, xs[k]? = some v → (part 3 xs k).run Tryd.prog w = .ok v w := fun xs k v w hv => part_one (by rw [Tryd.underlying3]) hv
  rw [run_equalIn_struct w 9999 26 _ _ e Tryd.stoodInHeld26]
  simp only [Program.fieldsOf, Tryd.underlying26]
  refine eqf_step rfl (fun w => p3 _ _ _ w rfl) (fun w => p3 _ _ _ w rfl) (fun w => run_equalIn_int w 9998 3 _ _ _ _ Tryd.underlying3) (fun w => ?_) w
  refine eqf_step rfl (fun w => p3 _ _ _ w rfl) (fun w => p3 _ _ _ w rfl) (fun w => run_equalIn_int w 9998 3 _ _ _ _ Tryd.underlying3) (fun w => ?_) w
  exact eqf_end _ _ _ _ _
end Go.Proofs.YteahhholjojfbaaDoor
