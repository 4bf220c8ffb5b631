/-
  Closed facts on the tables of the program: sizes, zero values, where fields lie, which functions have bodies.
  Conditions: none.
-/
import Derived.Test.YtblmnncmkibhnaaChecked
import Derived.Test.YtblmnncmkibhnaaJ9
set_option linter.unusedSimpArgs false
set_option linter.unusedVariables false
namespace Go.Proofs.Ytblmnncmkibhnaa
open Go Go.J
theorem mixed : Try.prog.follows .mixedOrders = true := by kernel_rfl
theorem zc25 : (Try.prog.info? 25).bind (fun i => i.zero.map Value.cells) = some #[.int .i64 0, .int .i64 0] := by kernel_rfl
theorem pl25 (w : World) : placesRun Try.prog 25 w = .ok #[(0, 1), (1, 1)] w := by kernel_rfl
theorem sz25 : (Try.prog.info? 25).map (·.size) = some 2 := by kernel_rfl
theorem sz3 : (Try.prog.info? 3).map (·.size) = some 1 := by kernel_rfl
theorem cb50 : Callable Try.prog 50 := ⟨_, Try.func50, rfl, by kernel_rfl⟩
theorem cb51 : Callable Try.prog 51 := ⟨_, Try.func51, rfl, by kernel_rfl⟩
theorem cb40 : Callable Try.prog 40 := ⟨_, Try.func40, rfl, by kernel_rfl⟩
theorem cb43 : Callable Try.prog 43 := ⟨_, Try.func43, rfl, by kernel_rfl⟩
theorem zv3 : (Try.prog.info? 3).bind (·.zero) = some (Value.int .i64 0) := by kernel_rfl
theorem cb45 : Callable Try.prog 45 := ⟨_, Try.func45, rfl, by kernel_rfl⟩
theorem cb49 : Callable Try.prog 49 := ⟨_, Try.func49, rfl, by kernel_rfl⟩
theorem by3 : (Try.prog.info? 3).map (·.bytes) = some 8 := by kernel_rfl
theorem cb39 : Callable Try.prog 39 := ⟨_, Try.func39, rfl, by kernel_rfl⟩
theorem cb41 : Callable Try.prog 41 := ⟨_, Try.func41, rfl, by kernel_rfl⟩
theorem cb44 : Callable Try.prog 44 := ⟨_, Try.func44, rfl, by kernel_rfl⟩
theorem zc3 : (Try.prog.info? 3).bind (fun i => i.zero.map Value.cells) = some #[.int .i64 0] := by kernel_rfl
theorem zc22 : (Try.prog.info? 22).bind (fun i => i.zero.map Value.cells) = some #[.slice none 0 0] := by kernel_rfl
theorem sz22 : (Try.prog.info? 22).map (·.size) = some 1 := by kernel_rfl
theorem cb38 : Callable Try.prog 38 := ⟨_, Try.func38, rfl, by kernel_rfl⟩
theorem cb42 : Callable Try.prog 42 := ⟨_, Try.func42, rfl, by kernel_rfl⟩
theorem zc55 : (Try.prog.info? 55).bind (fun i => i.zero.map Value.cells) = some #[.nilFunc] := by kernel_rfl
theorem sz55 : (Try.prog.info? 55).map (·.size) = some 1 := by kernel_rfl
theorem cb25 : Callable Try.prog 25 := ⟨_, Try.func25, rfl, by kernel_rfl⟩
theorem fo25_0 : fieldOff Try.prog 25 0 = some 0 := by kernel_rfl
theorem cb26 : Callable Try.prog 26 := ⟨_, Try.func26, rfl, by kernel_rfl⟩
theorem cb46 : Callable Try.prog 46 := ⟨_, Try.func46, rfl, by kernel_rfl⟩
theorem cb28 : Callable Try.prog 28 := ⟨_, Try.func28, rfl, by kernel_rfl⟩
theorem cb31 : Callable Try.prog 31 := ⟨_, Try.func31, rfl, by kernel_rfl⟩
theorem cb35 : Callable Try.prog 35 := ⟨_, Try.func35, rfl, by kernel_rfl⟩
theorem cb14 : Callable Try.prog 14 := ⟨_, Try.func14, rfl, by kernel_rfl⟩
theorem cb30 : Callable Try.prog 30 := ⟨_, Try.func30, rfl, by kernel_rfl⟩
theorem cb32 : Callable Try.prog 32 := ⟨_, Try.func32, rfl, by kernel_rfl⟩
theorem cb27 : Callable Try.prog 27 := ⟨_, Try.func27, rfl, by kernel_rfl⟩
theorem zc46 : (Try.prog.info? 46).bind (fun i => i.zero.map Value.cells) = some #[.nilFunc] := by kernel_rfl
theorem sz46 : (Try.prog.info? 46).map (·.size) = some 1 := by kernel_rfl
theorem cb29 : Callable Try.prog 29 := ⟨_, Try.func29, rfl, by kernel_rfl⟩
theorem cb33 : Callable Try.prog 33 := ⟨_, Try.func33, rfl, by kernel_rfl⟩
theorem cb34 : Callable Try.prog 34 := ⟨_, Try.func34, rfl, by kernel_rfl⟩
theorem cb12 : Callable Try.prog 12 := ⟨_, Try.func12, rfl, by kernel_rfl⟩
theorem cb17 : Callable Try.prog 17 := ⟨_, Try.func17, rfl, by kernel_rfl⟩
theorem cb15 : Callable Try.prog 15 := ⟨_, Try.func15, rfl, by kernel_rfl⟩
theorem cb11 : Callable Try.prog 11 := ⟨_, Try.func11, rfl, by kernel_rfl⟩
theorem cb13 : Callable Try.prog 13 := ⟨_, Try.func13, rfl, by kernel_rfl⟩
theorem cb16 : Callable Try.prog 16 := ⟨_, Try.func16, rfl, by kernel_rfl⟩
theorem cb18 : Callable Try.prog 18 := ⟨_, Try.func18, rfl, by kernel_rfl⟩
theorem cb36 : Callable Try.prog 36 := ⟨_, Try.func36, rfl, by kernel_rfl⟩
theorem cb19 : Callable Try.prog 19 := ⟨_, Try.func19, rfl, by kernel_rfl⟩
theorem cb20 : Callable Try.prog 20 := ⟨_, Try.func20, rfl, by kernel_rfl⟩
theorem cb21 : Callable Try.prog 21 := ⟨_, Try.func21, rfl, by kernel_rfl⟩
theorem cb22 : Callable Try.prog 22 := ⟨_, Try.func22, rfl, by kernel_rfl⟩
theorem cb37 : Callable Try.prog 37 := ⟨_, Try.func37, rfl, by kernel_rfl⟩
theorem cb23 : Callable Try.prog 23 := ⟨_, Try.func23, rfl, by kernel_rfl⟩
theorem cb24 : Callable Try.prog 24 := ⟨_, Try.func24, rfl, by kernel_rfl⟩
theorem bld25_  (w : World) : (Instr.build 25 #[]).run Try.prog w = .ok (.agg #[.int .i64 0, .int .i64 0]) w :=
  run_buildS zc25 (pl25 w) (by simp [Instr.fill, J.cells_agg])
theorem bld25_0_1 {u0 u1 : Value} (h0 : u0.oneCell' = true) (h1 : u1.oneCell' = true) (w : World) : (Instr.build 25 #[(0, u0), (1, u1)]).run Try.prog w = .ok (.agg #[u0, u1]) w :=
  run_buildS zc25 (pl25 w) (by simp [Instr.fill, J.cells_agg, J.cells_one h0, J.cells_one h1])
theorem eqf25 (a0 b0 : Int) (a1 b1 : Int) (w : World) : (Op.equalIn 10000 25 (.agg #[.int .i64 a0, .int .i64 a1]) (.agg #[.int .i64 b0, .int .i64 b1])).run Try.prog w = .ok ((a0 == b0) && ((a1 == b1) && true)) w := by
  have e : Try.prog.underlying 25 = some (.struct (Try.prog.fieldsOf 25)) := by simp only [Program.fieldsOf, Try.underlying25]
  have p3 : ∀ (xs : Array Value) (k : Nat) (v : Value) w, xs[k]? = some v → (part 3 xs k).run Try.prog w = .ok v w := fun xs k v w hv => part_one (by rw [Try.underlying3]) hv
  rw [run_equalIn_struct w 9999 25 _ _ e Try.stoodInHeld25]
  simp only [Program.fieldsOf, Try.underlying25]
  refine eqf_step rfl (fun w => p3 _ _ _ w rfl) (fun w => p3 _ _ _ w rfl) (fun w => run_equalIn_int w 9998 3 _ _ _ _ Try.underlying3) (fun w => ?_) w
  refine eqf_step rfl (fun w => p3 _ _ _ w rfl) (fun w => p3 _ _ _ w rfl) (fun w => run_equalIn_int w 9998 3 _ _ _ _ Try.underlying3) (fun w => ?_) w
  exact eqf_end _ _ _ _ _
end Go.Proofs.Ytblmnncmkibhnaa
