/-
  Closed facts on the tables of the program: sizes, zero values, where fields lie, which functions have bodies.
  Conditions: none.
-/
import Derived.Test.YtblnbjlcpleaaaaChecked
import Derived.Test.YtblnbjlcpleaaaaJ9
set_option linter.unusedSimpArgs false
set_option linter.unusedVariables false
namespace Go.Proofs.Ytblnbjlcpleaaaa
open Go Go.J
theorem mixed : Try.prog.follows .mixedOrders = true := by kernel_rfl
theorem zc27 : (Try.prog.info? 27).bind (fun i => i.zero.map Value.cells) = some #[.int .i64 0, .int .i64 0] := by kernel_rfl
theorem pl27 (w : World) : placesRun Try.prog 27 w = .ok #[(0, 1), (1, 1)] w := by kernel_rfl
theorem sz27 : (Try.prog.info? 27).map (·.size) = some 2 := by kernel_rfl
theorem sz34 : (Try.prog.info? 34).map (·.size) = some 3 := by kernel_rfl
theorem zc34 : (Try.prog.info? 34).bind (fun i => i.zero.map Value.cells) = some #[.int .i64 0, .string ⟨#[]⟩, .string ⟨#[]⟩] := by kernel_rfl
theorem fo34_0 : fieldOff Try.prog 34 0 = some 0 := by kernel_rfl
theorem fo34_1 : fieldOff Try.prog 34 1 = some 1 := by kernel_rfl
theorem cb32 : Callable Try.prog 32 := ⟨_, Try.func32, rfl, by kernel_rfl⟩
theorem fo34_2 : fieldOff Try.prog 34 2 = some 2 := by kernel_rfl
theorem cb27 : Callable Try.prog 27 := ⟨_, Try.func27, rfl, by kernel_rfl⟩
theorem cb15 : Callable Try.prog 15 := ⟨_, Try.func15, rfl, by kernel_rfl⟩
theorem fo27_0 : fieldOff Try.prog 27 0 = some 0 := by kernel_rfl
theorem sz9 : (Try.prog.info? 9).map (·.size) = some 1 := by kernel_rfl
theorem cb16 : Callable Try.prog 16 := ⟨_, Try.func16, rfl, by kernel_rfl⟩
theorem sz3 : (Try.prog.info? 3).map (·.size) = some 1 := by kernel_rfl
theorem cb41 : Callable Try.prog 41 := ⟨_, Try.func41, rfl, by kernel_rfl⟩
theorem cb50 : Callable Try.prog 50 := ⟨_, Try.func50, rfl, by kernel_rfl⟩
theorem cb44 : Callable Try.prog 44 := ⟨_, Try.func44, rfl, by kernel_rfl⟩
theorem cb43 : Callable Try.prog 43 := ⟨_, Try.func43, rfl, by kernel_rfl⟩
theorem zv9 : (Try.prog.info? 9).bind (·.zero) = some (Value.string ⟨#[]⟩) := by kernel_rfl
theorem by9 : (Try.prog.info? 9).map (·.bytes) = some 16 := by kernel_rfl
theorem zc23 : (Try.prog.info? 23).bind (fun i => i.zero.map Value.cells) = some #[.slice none 0 0] := by kernel_rfl
theorem sz23 : (Try.prog.info? 23).map (·.size) = some 1 := by kernel_rfl
theorem cb42 : Callable Try.prog 42 := ⟨_, Try.func42, rfl, by kernel_rfl⟩
theorem cb28 : Callable Try.prog 28 := ⟨_, Try.func28, rfl, by kernel_rfl⟩
theorem zv3 : (Try.prog.info? 3).bind (·.zero) = some (Value.int .i64 0) := by kernel_rfl
theorem by3 : (Try.prog.info? 3).map (·.bytes) = some 8 := by kernel_rfl
theorem cb26 : Callable Try.prog 26 := ⟨_, Try.func26, rfl, by kernel_rfl⟩
theorem cb25 : Callable Try.prog 25 := ⟨_, Try.func25, rfl, by kernel_rfl⟩
theorem sz24 : (Try.prog.info? 24).map (·.size) = some 1 := by kernel_rfl
theorem cb46 : Callable Try.prog 46 := ⟨_, Try.func46, rfl, by kernel_rfl⟩
theorem cb45 : Callable Try.prog 45 := ⟨_, Try.func45, rfl, by kernel_rfl⟩
theorem zc24 : (Try.prog.info? 24).bind (fun i => i.zero.map Value.cells) = some #[.slice none 0 0] := by kernel_rfl
theorem zc25 : (Try.prog.info? 25).bind (fun i => i.zero.map Value.cells) = some #[.nilFunc] := by kernel_rfl
theorem sz25 : (Try.prog.info? 25).map (·.size) = some 1 := by kernel_rfl
theorem cb31 : Callable Try.prog 31 := ⟨_, Try.func31, rfl, by kernel_rfl⟩
theorem zv24 : (Try.prog.info? 24).bind (·.zero) = some (Value.slice none 0 0) := by kernel_rfl
theorem by24 : (Try.prog.info? 24).map (·.bytes) = some 24 := by kernel_rfl
theorem sz35 : (Try.prog.info? 35).map (·.size) = some 1 := by kernel_rfl
theorem sz4 : (Try.prog.info? 4).map (·.size) = some 1 := by kernel_rfl
theorem cb33 : Callable Try.prog 33 := ⟨_, Try.func33, rfl, by kernel_rfl⟩
theorem cb24 : Callable Try.prog 24 := ⟨_, Try.func24, rfl, by kernel_rfl⟩
theorem zc3 : (Try.prog.info? 3).bind (fun i => i.zero.map Value.cells) = some #[.int .i64 0] := by kernel_rfl
theorem cb29 : Callable Try.prog 29 := ⟨_, Try.func29, rfl, by kernel_rfl⟩
theorem cb30 : Callable Try.prog 30 := ⟨_, Try.func30, rfl, by kernel_rfl⟩
theorem zc35 : (Try.prog.info? 35).bind (fun i => i.zero.map Value.cells) = some #[.slice none 0 0] := by kernel_rfl
theorem cb34 : Callable Try.prog 34 := ⟨_, Try.func34, rfl, by kernel_rfl⟩
theorem zc4 : (Try.prog.info? 4).bind (fun i => i.zero.map Value.cells) = some #[.bool false] := by kernel_rfl
theorem pl34 (w : World) : placesRun Try.prog 34 w = .ok #[(0, 1), (1, 1), (2, 1)] w := by kernel_rfl
theorem zv34 : (Try.prog.info? 34).bind (·.zero) = some (Value.agg #[.int .i64 0, .string ⟨#[]⟩, .string ⟨#[]⟩]) := by kernel_rfl
theorem cb13 : Callable Try.prog 13 := ⟨_, Try.func13, rfl, by kernel_rfl⟩
theorem cb14 : Callable Try.prog 14 := ⟨_, Try.func14, rfl, by kernel_rfl⟩
theorem cb9 : Callable Try.prog 9 := ⟨_, Try.func9, rfl, by kernel_rfl⟩
theorem cb10 : Callable Try.prog 10 := ⟨_, Try.func10, rfl, by kernel_rfl⟩
theorem cb11 : Callable Try.prog 11 := ⟨_, Try.func11, rfl, by kernel_rfl⟩
theorem cb12 : Callable Try.prog 12 := ⟨_, Try.func12, rfl, by kernel_rfl⟩
theorem by34 : (Try.prog.info? 34).map (·.bytes) = some 40 := by kernel_rfl
theorem cb35 : Callable Try.prog 35 := ⟨_, Try.func35, rfl, by kernel_rfl⟩
theorem cb17 : Callable Try.prog 17 := ⟨_, Try.func17, rfl, by kernel_rfl⟩
theorem cb18 : Callable Try.prog 18 := ⟨_, Try.func18, rfl, by kernel_rfl⟩
theorem cb19 : Callable Try.prog 19 := ⟨_, Try.func19, rfl, by kernel_rfl⟩
theorem cb20 : Callable Try.prog 20 := ⟨_, Try.func20, rfl, by kernel_rfl⟩
theorem bld27_  (w : World) : (Instr.build 27 #[]).run Try.prog w = .ok (.agg #[.int .i64 0, .int .i64 0]) w :=
  run_buildS zc27 (pl27 w) (by simp [Instr.fill, J.cells_agg])
theorem bld34_0_1 {u0 u1 : Value} (h0 : u0.oneCell' = true) (h1 : u1.oneCell' = true) (w : World) : (Instr.build 34 #[(0, u0), (1, u1)]).run Try.prog w = .ok (.agg #[u0, u1, .string ⟨#[]⟩]) w :=
  run_buildS zc34 (pl34 w) (by simp [Instr.fill, J.cells_agg, J.cells_one h0, J.cells_one h1])
theorem bld27_0_1 {u0 u1 : Value} (h0 : u0.oneCell' = true) (h1 : u1.oneCell' = true) (w : World) : (Instr.build 27 #[(0, u0), (1, u1)]).run Try.prog w = .ok (.agg #[u0, u1]) w :=
  run_buildS zc27 (pl27 w) (by simp [Instr.fill, J.cells_agg, J.cells_one h0, J.cells_one h1])
theorem bld27_0 {u0 : Value} (h0 : u0.oneCell' = true) (w : World) : (Instr.build 27 #[(0, u0)]).run Try.prog w = .ok (.agg #[u0, .int .i64 0]) w :=
  run_buildS zc27 (pl27 w) (by simp [Instr.fill, J.cells_agg, J.cells_one h0])
theorem eqf27 (a0 b0 : Int) (a1 b1 : Int) (w : World) : (Op.equalIn 10000 27 (.agg #[.int .i64 a0, .int .i64 a1]) (.agg #[.int .i64 b0, .int .i64 b1])).run Try.prog w = .ok ((a0 == b0) && ((a1 == b1) && true)) w := by
  have e : Try.prog.underlying 27 = some (.struct (Try.prog.fieldsOf 27)) := by simp only [Program.fieldsOf, Try.underlying27]
  have p3 : ∀ (xs : Array Value) (k : Nat) (v : Value) w, xs[k]? = some v → (part 3 xs k).run Try.prog w = .ok v w := fun xs k v w hv => part_one (by rw [Try.underlying3]) hv
  rw [run_equalIn_struct w 9999 27 _ _ e Try.stoodInHeld27]
  simp only [Program.fieldsOf, Try.underlying27]
  refine eqf_step rfl (fun w => p3 _ _ _ w rfl) (fun w => p3 _ _ _ w rfl) (fun w => run_equalIn_int w 9998 3 _ _ _ _ Try.underlying3) (fun w => ?_) w
  refine eqf_step rfl (fun w => p3 _ _ _ w rfl) (fun w => p3 _ _ _ w rfl) (fun w => run_equalIn_int w 9998 3 _ _ _ _ Try.underlying3) (fun w => ?_) w
  exact eqf_end _ _ _ _ _
end Go.Proofs.Ytblnbjlcpleaaaa
