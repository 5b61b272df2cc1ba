/-
  Facts on the types and functions of this translation.
-/
import Derived.Test.YtgogfnkdemkdfaaEng11
import Derived.Test.YtgogfnkdemkdfaaProg
namespace Go.Proofs.Rt
open Go Go.Eng
theorem mixed : Try.prog.follows .mixedOrders = true := by kernel_rfl
theorem bld25_0_1 (x1 : Int) (x2 : Int) (w : World) : (Instr.build 25 #[(0, .int .i64 x1), (1, .int .i64 x2)]).run Try.prog w = .ok (.agg [.int .i64 x1, .int .i64 x2].toArray) w := by kernel_rfl
theorem bld26_0_1_2_3_4_5 (x1 : Int) (x2 : Int) (x3 : Int) (x4 : Int) (x5 : Int) (x6 : Int) (x7 : Int) (x8 : Int) (x9 : Int) (x10 : Int) (x11 : Int) (x12 : Int) (w : World) : (Instr.build 26 #[(0, .agg [.int .i64 x1, .int .i64 x2].toArray), (1, .agg [.int .i64 x3, .int .i64 x4].toArray), (2, .agg [.int .i64 x5, .int .i64 x6].toArray), (3, .agg [.int .i64 x7, .int .i64 x8].toArray), (4, .agg [.int .i64 x9, .int .i64 x10].toArray), (5, .agg [.int .i64 x11, .int .i64 x12].toArray)]).run Try.prog w = .ok (.agg [.int .i64 x1, .int .i64 x2, .int .i64 x3, .int .i64 x4, .int .i64 x5, .int .i64 x6, .int .i64 x7, .int .i64 x8, .int .i64 x9, .int .i64 x10, .int .i64 x11, .int .i64 x12].toArray) w := by kernel_rfl
theorem ar26 : ArrayOf Try.prog 26 6 25 2 := ⟨Try.underlying26, Try.sizeOf25⟩
theorem tN25 : TAgg Try.prog 25 2 := ⟨Try.isAgg25, Try.sizeOf25⟩
theorem z25 : ZeroOf Try.prog 25 [.int .i64 0, .int .i64 0] := ⟨fun w => ⟨_, Try.zeroValue25 w, rfl⟩⟩
theorem ar25 : ArrayOf Try.prog 25 2 3 1 := ⟨Try.underlying25, Try.sizeOf3⟩
theorem t1_3 : TOne Try.prog 3 := ⟨Try.isAgg3, Try.sizeOf3⟩
theorem hb10 : HasBody Try.prog 10 := ⟨Try.call10, by kernel_rfl⟩
theorem z23 : ZeroOf Try.prog 23 [.int .i64 0, .int .i64 0] := ⟨fun w => ⟨_, Try.zeroValue23 w, rfl⟩⟩
theorem tN23 : TAgg Try.prog 23 2 := ⟨Try.isAgg23, Try.sizeOf23⟩
theorem hb11 : HasBody Try.prog 11 := ⟨Try.call11, by kernel_rfl⟩
theorem eqi3 (d : Nat) (a b : Int) (w : World) : (Op.equalIn (d + 1) 3 (.int .i64 a) (.int .i64 b)).run Try.prog w = .ok (a == b) w := run_equalIn_int w d 3 .i64 .i64 a b Try.underlying3
theorem eqi23 (d : Nat) (x1 : Int) (x2 : Int) (x1001 : Int) (x1002 : Int) (w : World) : (Op.equalIn (d + 2) 23 (.agg [.int .i64 x1, .int .i64 x2].toArray) (.agg [.int .i64 x1001, .int .i64 x1002].toArray)).run Try.prog w = .ok ((x1 == x1001) && (x2 == x1002)) w :=
  run_eqStruct (plan := [(3, 0, false), (3, 1, false)]) (by kernel_rfl) (by kernel_rfl) (by kernel_rfl) (.cons (by kernel_rfl) (by kernel_rfl) (eqi3 _ _ _ w) (.last (by kernel_rfl) (by kernel_rfl) (eqi3 _ _ _ w)))
theorem eqg23 : Try.prog.eqGuardType Try.prog.depth 23 = false := by kernel_rfl
theorem eq23 (x1 : Int) (x2 : Int) (x1001 : Int) (x1002 : Int) (w : World) : (Op.equal 23 (.agg [.int .i64 x1, .int .i64 x2].toArray) (.agg [.int .i64 x1001, .int .i64 x1002].toArray)).run Try.prog w = .ok ((x1 == x1001) && (x2 == x1002)) w := eqi23 9998 x1 x2 x1001 x1002 w
theorem bld23_0_1 (x1 : Int) (x2 : Int) (w : World) : (Instr.build 23 #[(0, .int .i64 x1), (1, .int .i64 x2)]).run Try.prog w = .ok (.agg [.int .i64 x1, .int .i64 x2].toArray) w := by kernel_rfl
theorem hb12 : HasBody Try.prog 12 := ⟨Try.call12, by kernel_rfl⟩
theorem hb13 : HasBody Try.prog 13 := ⟨Try.call13, by kernel_rfl⟩
theorem hb14 : HasBody Try.prog 14 := ⟨Try.call14, by kernel_rfl⟩
theorem hb15 : HasBody Try.prog 15 := ⟨Try.call15, by kernel_rfl⟩
theorem ar34 : ArrayOf Try.prog 34 4 33 4 := ⟨Try.underlying34, Try.sizeOf33⟩
theorem tN33 : TAgg Try.prog 33 4 := ⟨Try.isAgg33, Try.sizeOf33⟩
theorem z33 : ZeroOf Try.prog 33 [.int .i64 0, .int .i64 0, .int .i64 0, .int .i64 0] := ⟨fun w => ⟨_, Try.zeroValue33 w, rfl⟩⟩
theorem ar33 : ArrayOf Try.prog 33 2 23 2 := ⟨Try.underlying33, Try.sizeOf23⟩
theorem hb16 : HasBody Try.prog 16 := ⟨Try.call16, by kernel_rfl⟩
theorem hb17 : HasBody Try.prog 17 := ⟨Try.call17, by kernel_rfl⟩
theorem hb18 : HasBody Try.prog 18 := ⟨Try.call18, by kernel_rfl⟩
theorem hb19 : HasBody Try.prog 19 := ⟨Try.call19, by kernel_rfl⟩
theorem hb20 : HasBody Try.prog 20 := ⟨Try.call20, by kernel_rfl⟩
theorem hb21 : HasBody Try.prog 21 := ⟨Try.call21, by kernel_rfl⟩
theorem hb22 : HasBody Try.prog 22 := ⟨Try.call22, by kernel_rfl⟩
theorem hb23 : HasBody Try.prog 23 := ⟨Try.call23, by kernel_rfl⟩
theorem ar39 : ArrayOf Try.prog 39 3 38 1 := ⟨Try.underlying39, Try.sizeOf38⟩
theorem t1_38 : TOne Try.prog 38 := ⟨Try.isAgg38, Try.sizeOf38⟩
theorem ar40 : ArrayOf Try.prog 40 3 5 1 := ⟨Try.underlying40, Try.sizeOf5⟩
theorem t1_5 : TOne Try.prog 5 := ⟨Try.isAgg5, Try.sizeOf5⟩
theorem hb24 : HasBody Try.prog 24 := ⟨Try.call24, by kernel_rfl⟩
theorem fld23_0 : FieldAt Try.prog 23 0 3 0 := ⟨fun cs w => by simp [Instr.field, Try.runUnderlying23, asAgg], fun a w => by simp [Instr.fieldAt, Try.runUnderlying23, Instr.sureAddr, fieldPlace, Try.sizeOf3]⟩
theorem hb25 : HasBody Try.prog 25 := ⟨Try.call25, by kernel_rfl⟩
theorem hb26 : HasBody Try.prog 26 := ⟨Try.call26, by kernel_rfl⟩
theorem hb27 : HasBody Try.prog 27 := ⟨Try.call27, by kernel_rfl⟩
theorem fld23_1 : FieldAt Try.prog 23 1 3 1 := ⟨fun cs w => by simp [Instr.field, Try.runUnderlying23, asAgg], fun a w => by simp [Instr.fieldAt, Try.runUnderlying23, Instr.sureAddr, fieldPlace, Try.sizeOf3]⟩
theorem bld23_  (w : World) : (Instr.build 23 #[]).run Try.prog w = .ok (.agg [.int .i64 0, .int .i64 0].toArray) w := by kernel_rfl
theorem bld23_0 (x1 : Int) (w : World) : (Instr.build 23 #[(0, .int .i64 x1)]).run Try.prog w = .ok (.agg [.int .i64 x1, .int .i64 0].toArray) w := by kernel_rfl
theorem bld48_0_1_2_3_4_5_6 (x1 : Int) (x2 : Int) (x3 : Int) (x4 : Int) (x5 : Int) (x6 : Int) (x7 : Int) (x8 : Int) (x9 : Int) (x10 : Int) (x11 : Int) (x12 : Int) (x13 : Int) (x14 : Int) (w : World) : (Instr.build 48 #[(0, .agg [.int .i64 x1, .int .i64 x2].toArray), (1, .agg [.int .i64 x3, .int .i64 x4].toArray), (2, .agg [.int .i64 x5, .int .i64 x6].toArray), (3, .agg [.int .i64 x7, .int .i64 x8].toArray), (4, .agg [.int .i64 x9, .int .i64 x10].toArray), (5, .agg [.int .i64 x11, .int .i64 x12].toArray), (6, .agg [.int .i64 x13, .int .i64 x14].toArray)]).run Try.prog w = .ok (.agg [.int .i64 x1, .int .i64 x2, .int .i64 x3, .int .i64 x4, .int .i64 x5, .int .i64 x6, .int .i64 x7, .int .i64 x8, .int .i64 x9, .int .i64 x10, .int .i64 x11, .int .i64 x12, .int .i64 x13, .int .i64 x14].toArray) w := by kernel_rfl
theorem ar48 : ArrayOf Try.prog 48 7 23 2 := ⟨Try.underlying48, Try.sizeOf23⟩
theorem hb28 : HasBody Try.prog 28 := ⟨Try.call28, by kernel_rfl⟩
theorem hb29 : HasBody Try.prog 29 := ⟨Try.call29, by kernel_rfl⟩
theorem hb30 : HasBody Try.prog 30 := ⟨Try.call30, by kernel_rfl⟩
theorem hb31 : HasBody Try.prog 31 := ⟨Try.call31, by kernel_rfl⟩
theorem hb32 : HasBody Try.prog 32 := ⟨Try.call32, by kernel_rfl⟩
theorem hb33 : HasBody Try.prog 33 := ⟨Try.call33, by kernel_rfl⟩
theorem hb34 : HasBody Try.prog 34 := ⟨Try.call34, by kernel_rfl⟩
theorem hb35 : HasBody Try.prog 35 := ⟨Try.call35, by kernel_rfl⟩
theorem hb36 : HasBody Try.prog 36 := ⟨Try.call36, by kernel_rfl⟩
theorem hb37 : HasBody Try.prog 37 := ⟨Try.call37, by kernel_rfl⟩
theorem bsl61_1_0 (x1 : Int) (x2 : Int) (w : World) : (Instr.buildSlice 61 1 #[(0, .agg [.int .i64 x1, .int .i64 x2].toArray)]).run Try.prog w = .ok (.slice (some ⟨w.heap.size, 0, none⟩) 1 1) (w.alloc (.cells [.int .i64 x1, .int .i64 x2].toArray 23)) := by kernel_rfl
theorem hb38 : HasBody Try.prog 38 := ⟨Try.call38, by kernel_rfl⟩
theorem hb40 : HasBody Try.prog 40 := ⟨Try.call40, by kernel_rfl⟩
theorem hb39 : HasBody Try.prog 39 := ⟨Try.call39, by kernel_rfl⟩
theorem hb41 : HasBody Try.prog 41 := ⟨Try.call41, by kernel_rfl⟩
theorem z34 : ZeroOf Try.prog 34 [.int .i64 0, .int .i64 0, .int .i64 0, .int .i64 0, .int .i64 0, .int .i64 0, .int .i64 0, .int .i64 0, .int .i64 0, .int .i64 0, .int .i64 0, .int .i64 0, .int .i64 0, .int .i64 0, .int .i64 0, .int .i64 0] := ⟨fun w => ⟨_, Try.zeroValue34 w, rfl⟩⟩
theorem hb42 : HasBody Try.prog 42 := ⟨Try.call42, by kernel_rfl⟩
theorem bld33_0_1 (x1 : Int) (x2 : Int) (x3 : Int) (x4 : Int) (w : World) : (Instr.build 33 #[(0, .agg [.int .i64 x1, .int .i64 x2].toArray), (1, .agg [.int .i64 x3, .int .i64 x4].toArray)]).run Try.prog w = .ok (.agg [.int .i64 x1, .int .i64 x2, .int .i64 x3, .int .i64 x4].toArray) w := by kernel_rfl
theorem bld34_0_1_2_3 (x1 : Int) (x2 : Int) (x3 : Int) (x4 : Int) (x5 : Int) (x6 : Int) (x7 : Int) (x8 : Int) (x9 : Int) (x10 : Int) (x11 : Int) (x12 : Int) (x13 : Int) (x14 : Int) (x15 : Int) (x16 : Int) (w : World) : (Instr.build 34 #[(0, .agg [.int .i64 x1, .int .i64 x2, .int .i64 x3, .int .i64 x4].toArray), (1, .agg [.int .i64 x5, .int .i64 x6, .int .i64 x7, .int .i64 x8].toArray), (2, .agg [.int .i64 x9, .int .i64 x10, .int .i64 x11, .int .i64 x12].toArray), (3, .agg [.int .i64 x13, .int .i64 x14, .int .i64 x15, .int .i64 x16].toArray)]).run Try.prog w = .ok (.agg [.int .i64 x1, .int .i64 x2, .int .i64 x3, .int .i64 x4, .int .i64 x5, .int .i64 x6, .int .i64 x7, .int .i64 x8, .int .i64 x9, .int .i64 x10, .int .i64 x11, .int .i64 x12, .int .i64 x13, .int .i64 x14, .int .i64 x15, .int .i64 x16].toArray) w := by kernel_rfl
theorem tN34 : TAgg Try.prog 34 16 := ⟨Try.isAgg34, Try.sizeOf34⟩
theorem hb44 : HasBody Try.prog 44 := ⟨Try.call44, by kernel_rfl⟩
theorem hb43 : HasBody Try.prog 43 := ⟨Try.call43, by kernel_rfl⟩
theorem hb45 : HasBody Try.prog 45 := ⟨Try.call45, by kernel_rfl⟩
theorem hb46 : HasBody Try.prog 46 := ⟨Try.call46, by kernel_rfl⟩
theorem hb47 : HasBody Try.prog 47 := ⟨Try.call47, by kernel_rfl⟩
theorem hb48 : HasBody Try.prog 48 := ⟨Try.call48, by kernel_rfl⟩
theorem bsl61_2_0_1 (x1 : Int) (x2 : Int) (x3 : Int) (x4 : Int) (w : World) : (Instr.buildSlice 61 2 #[(0, .agg [.int .i64 x1, .int .i64 x2].toArray), (1, .agg [.int .i64 x3, .int .i64 x4].toArray)]).run Try.prog w = .ok (.slice (some ⟨w.heap.size, 0, none⟩) 2 2) (w.alloc (.cells [.int .i64 x1, .int .i64 x2, .int .i64 x3, .int .i64 x4].toArray 23)) := by kernel_rfl
theorem hb49 : HasBody Try.prog 49 := ⟨Try.call49, by kernel_rfl⟩
theorem hb50 : HasBody Try.prog 50 := ⟨Try.call50, by kernel_rfl⟩
theorem hb51 : HasBody Try.prog 51 := ⟨Try.call51, by kernel_rfl⟩
theorem sl61 : SliceOf Try.prog 61 23 2 := ⟨Try.underlying61, Try.sizeOf23⟩
theorem bsl64_2_0_1 (x1 : Int) (x2 : Int) (w : World) : (Instr.buildSlice 64 2 #[(0, .int .i64 x1), (1, .int .i64 x2)]).run Try.prog w = .ok (.slice (some ⟨w.heap.size, 0, none⟩) 2 2) (w.alloc (.cells [.int .i64 x1, .int .i64 x2].toArray 3)) := by kernel_rfl
theorem hb52 : HasBody Try.prog 52 := ⟨Try.call52, by kernel_rfl⟩
theorem bsl64_1_0 (x1 : Int) (w : World) : (Instr.buildSlice 64 1 #[(0, .int .i64 x1)]).run Try.prog w = .ok (.slice (some ⟨w.heap.size, 0, none⟩) 1 1) (w.alloc (.cells [.int .i64 x1].toArray 3)) := by kernel_rfl
theorem sl64 : SliceOf Try.prog 64 3 1 := ⟨Try.underlying64, Try.sizeOf3⟩
end Go.Proofs.Rt
