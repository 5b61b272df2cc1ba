/-
  Facts on the types and functions of this translation.
-/
import Derived.Test.YtfneficfngpnjaaEng8
import Derived.Test.YtfneficfngpnjaaProg
namespace Go.Proofs.Gt
open Go Go.Eng
theorem mixed : Try.prog.follows .mixedOrders = true := by kernel_rfl
theorem tN24 : TAgg Try.prog 24 2 := ⟨Try.isAgg24, Try.sizeOf24⟩
theorem tN27 : TAgg Try.prog 27 2 := ⟨Try.isAgg27, Try.sizeOf27⟩
theorem hb10 : HasBody Try.prog 10 := ⟨Try.call10, by kernel_rfl⟩
theorem ar28 : ArrayOf Try.prog 28 3 27 2 := ⟨Try.underlying28, Try.sizeOf27⟩
theorem z27 : ZeroOf Try.prog 27 [.slice none 0 0, .int .i64 0] := ⟨fun w => ⟨_, Try.zeroValue27 w, rfl⟩⟩
theorem bld30_0_1_2 (x1 : Int) (x2 : Int) (x3 : Int) (w : World) : (Instr.build 30 #[(0, .int .i64 x1), (1, .int .i64 x2), (2, .int .i64 x3)]).run Try.prog w = .ok (.agg [.int .i64 x1, .int .i64 x2, .int .i64 x3].toArray) w := by kernel_rfl
theorem ar30 : ArrayOf Try.prog 30 3 3 1 := ⟨Try.underlying30, Try.sizeOf3⟩
theorem t1_3 : TOne Try.prog 3 := ⟨Try.isAgg3, Try.sizeOf3⟩
theorem hb11 : HasBody Try.prog 11 := ⟨Try.call11, by kernel_rfl⟩
theorem hb12 : HasBody Try.prog 12 := ⟨Try.call12, by kernel_rfl⟩
theorem hb13 : HasBody Try.prog 13 := ⟨Try.call13, by kernel_rfl⟩
theorem hb14 : HasBody Try.prog 14 := ⟨Try.call14, by kernel_rfl⟩
theorem hb15 : HasBody Try.prog 15 := ⟨Try.call15, by kernel_rfl⟩
theorem hb16 : HasBody Try.prog 16 := ⟨Try.call16, by kernel_rfl⟩
theorem hb17 : HasBody Try.prog 17 := ⟨Try.call17, by kernel_rfl⟩
theorem tN30 : TAgg Try.prog 30 3 := ⟨Try.isAgg30, Try.sizeOf30⟩
theorem bld37_0_1_2 (x1 : Int) (x2 : Int) (x3 : Int) (x4 : Int) (x5 : Int) (x6 : Int) (x7 : Int) (x8 : Int) (x9 : Int) (w : World) : (Instr.build 37 #[(0, .agg [.int .i64 x1, .int .i64 x2, .int .i64 x3].toArray), (1, .agg [.int .i64 x4, .int .i64 x5, .int .i64 x6].toArray), (2, .agg [.int .i64 x7, .int .i64 x8, .int .i64 x9].toArray)]).run Try.prog w = .ok (.agg [.int .i64 x1, .int .i64 x2, .int .i64 x3, .int .i64 x4, .int .i64 x5, .int .i64 x6, .int .i64 x7, .int .i64 x8, .int .i64 x9].toArray) w := by kernel_rfl
theorem ar37 : ArrayOf Try.prog 37 3 30 3 := ⟨Try.underlying37, Try.sizeOf30⟩
theorem z30 : ZeroOf Try.prog 30 [.int .i64 0, .int .i64 0, .int .i64 0] := ⟨fun w => ⟨_, Try.zeroValue30 w, rfl⟩⟩
theorem hb18 : HasBody Try.prog 18 := ⟨Try.call18, by kernel_rfl⟩
theorem hb19 : HasBody Try.prog 19 := ⟨Try.call19, by kernel_rfl⟩
theorem hb20 : HasBody Try.prog 20 := ⟨Try.call20, by kernel_rfl⟩
theorem hb21 : HasBody Try.prog 21 := ⟨Try.call21, by kernel_rfl⟩
theorem bld42_0_1_2_3 (x1 : Int) (x2 : Int) (x3 : Int) (x4 : Int) (x5 : Int) (x6 : Int) (x7 : Int) (x8 : Int) (x9 : Int) (x10 : Int) (x11 : Int) (x12 : Int) (w : World) : (Instr.build 42 #[(0, .agg [.int .i64 x1, .int .i64 x2, .int .i64 x3].toArray), (1, .agg [.int .i64 x4, .int .i64 x5, .int .i64 x6].toArray), (2, .agg [.int .i64 x7, .int .i64 x8, .int .i64 x9].toArray), (3, .agg [.int .i64 x10, .int .i64 x11, .int .i64 x12].toArray)]).run Try.prog w = .ok (.agg [.int .i64 x1, .int .i64 x2, .int .i64 x3, .int .i64 x4, .int .i64 x5, .int .i64 x6, .int .i64 x7, .int .i64 x8, .int .i64 x9, .int .i64 x10, .int .i64 x11, .int .i64 x12].toArray) w := by kernel_rfl
theorem ar42 : ArrayOf Try.prog 42 4 30 3 := ⟨Try.underlying42, Try.sizeOf30⟩
theorem hb22 : HasBody Try.prog 22 := ⟨Try.call22, by kernel_rfl⟩
theorem hb23 : HasBody Try.prog 23 := ⟨Try.call23, by kernel_rfl⟩
theorem hb24 : HasBody Try.prog 24 := ⟨Try.call24, by kernel_rfl⟩
theorem fld27_1 : FieldAt Try.prog 27 1 3 1 := ⟨fun cs w => by simp [Instr.field, Try.runUnderlying27, asAgg], fun a w => by simp [Instr.fieldAt, Try.runUnderlying27, Instr.sureAddr, fieldPlace, Try.sizeOf3]⟩
theorem hb25 : HasBody Try.prog 25 := ⟨Try.call25, by kernel_rfl⟩
theorem hb26 : HasBody Try.prog 26 := ⟨Try.call26, by kernel_rfl⟩
theorem hb27 : HasBody Try.prog 27 := ⟨Try.call27, by kernel_rfl⟩
theorem mk52 : MakeT Try.prog 52 3 8 [.int .i64 0] := ⟨Try.underlying52, by
  obtain ⟨i, h1, h2, h3, h4⟩ := info_parts (P := Try.prog) (e := 3) (z := .int .i64 0) (size := 1) (bytes := 8) (by kernel_rfl)
  exact ⟨i, _, h1, h2, h3, h4, rfl⟩⟩
theorem sl52 : SliceOf Try.prog 52 3 1 := ⟨Try.underlying52, Try.sizeOf3⟩
theorem bsl52_2_0_1 (x1 : Int) (x2 : Int) (w : World) : (Instr.buildSlice 52 2 #[(0, .int .i64 x1), (1, .int .i64 x2)]).run Try.prog w = .ok (.slice (some ⟨w.heap.size, 0, none⟩) 2 2) (w.alloc (.cells [.int .i64 x1, .int .i64 x2].toArray 3)) := by kernel_rfl
theorem hb28 : HasBody Try.prog 28 := ⟨Try.call28, by kernel_rfl⟩
theorem bld27_  (w : World) : (Instr.build 27 #[]).run Try.prog w = .ok (.agg [.slice none 0 0, .int .i64 0].toArray) w := by kernel_rfl
theorem bsl52_4_0_1_2_3 (x1 : Int) (x2 : Int) (x3 : Int) (x4 : Int) (w : World) : (Instr.buildSlice 52 4 #[(0, .int .i64 x1), (1, .int .i64 x2), (2, .int .i64 x3), (3, .int .i64 x4)]).run Try.prog w = .ok (.slice (some ⟨w.heap.size, 0, none⟩) 4 4) (w.alloc (.cells [.int .i64 x1, .int .i64 x2, .int .i64 x3, .int .i64 x4].toArray 3)) := by kernel_rfl
theorem bsl54_8_0_1_2_3_4_5_6_7 (x1 : Option Addr) (x2 : Nat) (x3 : Nat) (x4 : Int) (x5 : Option Addr) (x6 : Nat) (x7 : Nat) (x8 : Int) (x9 : Option Addr) (x10 : Nat) (x11 : Nat) (x12 : Int) (x13 : Option Addr) (x14 : Nat) (x15 : Nat) (x16 : Int) (x17 : Option Addr) (x18 : Nat) (x19 : Nat) (x20 : Int) (x21 : Option Addr) (x22 : Nat) (x23 : Nat) (x24 : Int) (x25 : Option Addr) (x26 : Nat) (x27 : Nat) (x28 : Int) (x29 : Option Addr) (x30 : Nat) (x31 : Nat) (x32 : Int) (w : World) : (Instr.buildSlice 54 8 #[(0, .agg [.slice x1 x2 x3, .int .i64 x4].toArray), (1, .agg [.slice x5 x6 x7, .int .i64 x8].toArray), (2, .agg [.slice x9 x10 x11, .int .i64 x12].toArray), (3, .agg [.slice x13 x14 x15, .int .i64 x16].toArray), (4, .agg [.slice x17 x18 x19, .int .i64 x20].toArray), (5, .agg [.slice x21 x22 x23, .int .i64 x24].toArray), (6, .agg [.slice x25 x26 x27, .int .i64 x28].toArray), (7, .agg [.slice x29 x30 x31, .int .i64 x32].toArray)]).run Try.prog w = .ok (.slice (some ⟨w.heap.size, 0, none⟩) 8 8) (w.alloc (.cells [.slice x1 x2 x3, .int .i64 x4, .slice x5 x6 x7, .int .i64 x8, .slice x9 x10 x11, .int .i64 x12, .slice x13 x14 x15, .int .i64 x16, .slice x17 x18 x19, .int .i64 x20, .slice x21 x22 x23, .int .i64 x24, .slice x25 x26 x27, .int .i64 x28, .slice x29 x30 x31, .int .i64 x32].toArray 27)) := by kernel_rfl
theorem sl54 : SliceOf Try.prog 54 27 2 := ⟨Try.underlying54, Try.sizeOf27⟩
theorem hb29 : HasBody Try.prog 29 := ⟨Try.call29, by kernel_rfl⟩
theorem bsl52_6_0_1_2_3_4_5 (x1 : Int) (x2 : Int) (x3 : Int) (x4 : Int) (x5 : Int) (x6 : Int) (w : World) : (Instr.buildSlice 52 6 #[(0, .int .i64 x1), (1, .int .i64 x2), (2, .int .i64 x3), (3, .int .i64 x4), (4, .int .i64 x5), (5, .int .i64 x6)]).run Try.prog w = .ok (.slice (some ⟨w.heap.size, 0, none⟩) 6 6) (w.alloc (.cells [.int .i64 x1, .int .i64 x2, .int .i64 x3, .int .i64 x4, .int .i64 x5, .int .i64 x6].toArray 3)) := by kernel_rfl
theorem z28 : ZeroOf Try.prog 28 [.slice none 0 0, .int .i64 0, .slice none 0 0, .int .i64 0, .slice none 0 0, .int .i64 0] := ⟨fun w => ⟨_, Try.zeroValue28 w, rfl⟩⟩
theorem fld27_0 : FieldAt Try.prog 27 0 25 0 := ⟨fun cs w => by simp [Instr.field, Try.runUnderlying27, asAgg], fun a w => by simp [Instr.fieldAt, Try.runUnderlying27, Instr.sureAddr, fieldPlace, Try.sizeOf25]⟩
theorem t1_25 : TOne Try.prog 25 := ⟨Try.isAgg25, Try.sizeOf25⟩
theorem sl25 : SliceOf Try.prog 25 57 2 := ⟨Try.underlying25, Try.sizeOf57⟩
theorem bsl25_0_  (w : World) : (Instr.buildSlice 25 0 #[]).run Try.prog w = .ok (.slice (some ⟨w.heap.size, 0, none⟩) 0 0) (w.alloc (.cells [].toArray 57)) := by kernel_rfl
theorem ap25 : AppT Try.prog 25 57 2 16 := ⟨Try.underlying25, by
  obtain ⟨i, h1, h2, h3, h4⟩ := info_parts (P := Try.prog) (e := 57) (z := .agg [.int .i64 0, .int .i64 0].toArray) (size := 2) (bytes := 16) (by kernel_rfl)
  exact ⟨i, _, h1, h2, h3, h4, by rfl⟩, by decide⟩
theorem bld27_0_1 (x1 : Option Addr) (x2 : Nat) (x3 : Nat) (x4 : Int) (w : World) : (Instr.build 27 #[(0, .slice x1 x2 x3), (1, .int .i64 x4)]).run Try.prog w = .ok (.agg [.slice x1 x2 x3, .int .i64 x4].toArray) w := by kernel_rfl
theorem tN57 : TAgg Try.prog 57 2 := ⟨Try.isAgg57, Try.sizeOf57⟩
theorem bld28_0_1_2 (x1 : Option Addr) (x2 : Nat) (x3 : Nat) (x4 : Int) (x5 : Option Addr) (x6 : Nat) (x7 : Nat) (x8 : Int) (x9 : Option Addr) (x10 : Nat) (x11 : Nat) (x12 : Int) (w : World) : (Instr.build 28 #[(0, .agg [.slice x1 x2 x3, .int .i64 x4].toArray), (1, .agg [.slice x5 x6 x7, .int .i64 x8].toArray), (2, .agg [.slice x9 x10 x11, .int .i64 x12].toArray)]).run Try.prog w = .ok (.agg [.slice x1 x2 x3, .int .i64 x4, .slice x5 x6 x7, .int .i64 x8, .slice x9 x10 x11, .int .i64 x12].toArray) w := by kernel_rfl
theorem tN28 : TAgg Try.prog 28 6 := ⟨Try.isAgg28, Try.sizeOf28⟩
theorem hb30 : HasBody Try.prog 30 := ⟨Try.call30, by kernel_rfl⟩
theorem hb31 : HasBody Try.prog 31 := ⟨Try.call31, by kernel_rfl⟩
theorem fld57_0 : FieldAt Try.prog 57 0 3 0 := ⟨fun cs w => by simp [Instr.field, Try.runUnderlying57, asAgg], fun a w => by simp [Instr.fieldAt, Try.runUnderlying57, Instr.sureAddr, fieldPlace, Try.sizeOf3]⟩
theorem hb32 : HasBody Try.prog 32 := ⟨Try.call32, by kernel_rfl⟩
theorem hb33 : HasBody Try.prog 33 := ⟨Try.call33, by kernel_rfl⟩
theorem z3 : ZeroOf Try.prog 3 [.int .i64 0] := ⟨fun w => ⟨_, Try.zeroValue3 w, rfl⟩⟩
theorem hb35 : HasBody Try.prog 35 := ⟨Try.call35, by kernel_rfl⟩
theorem hb34 : HasBody Try.prog 34 := ⟨Try.call34, by kernel_rfl⟩
theorem hb36 : HasBody Try.prog 36 := ⟨Try.call36, by kernel_rfl⟩
theorem fld57_1 : FieldAt Try.prog 57 1 3 1 := ⟨fun cs w => by simp [Instr.field, Try.runUnderlying57, asAgg], fun a w => by simp [Instr.fieldAt, Try.runUnderlying57, Instr.sureAddr, fieldPlace, Try.sizeOf3]⟩
theorem z57 : ZeroOf Try.prog 57 [.int .i64 0, .int .i64 0] := ⟨fun w => ⟨_, Try.zeroValue57 w, rfl⟩⟩
theorem hb37 : HasBody Try.prog 37 := ⟨Try.call37, by kernel_rfl⟩
theorem hb38 : HasBody Try.prog 38 := ⟨Try.call38, by kernel_rfl⟩
theorem hb39 : HasBody Try.prog 39 := ⟨Try.call39, by kernel_rfl⟩
theorem hb40 : HasBody Try.prog 40 := ⟨Try.call40, by kernel_rfl⟩
theorem hb41 : HasBody Try.prog 41 := ⟨Try.call41, by kernel_rfl⟩
theorem fld24_0 : FieldAt Try.prog 24 0 22 0 := ⟨fun cs w => by simp [Instr.field, Try.runUnderlying24, asAgg], fun a w => by simp [Instr.fieldAt, Try.runUnderlying24, Instr.sureAddr, fieldPlace, Try.sizeOf22]⟩
theorem t1_22 : TOne Try.prog 22 := ⟨Try.isAgg22, Try.sizeOf22⟩
theorem sl22 : SliceOf Try.prog 22 5 1 := ⟨Try.underlying22, Try.sizeOf5⟩
theorem bld57_0_1 (x1 : Int) (x2 : Int) (w : World) : (Instr.build 57 #[(0, .int .i64 x1), (1, .int .i64 x2)]).run Try.prog w = .ok (.agg [.int .i64 x1, .int .i64 x2].toArray) w := by kernel_rfl
theorem t1_5 : TOne Try.prog 5 := ⟨Try.isAgg5, Try.sizeOf5⟩
theorem fld24_1 : FieldAt Try.prog 24 1 22 1 := ⟨fun cs w => by simp [Instr.field, Try.runUnderlying24, asAgg], fun a w => by simp [Instr.fieldAt, Try.runUnderlying24, Instr.sureAddr, fieldPlace, Try.sizeOf22]⟩
theorem bsl25_1_0 (x1 : Int) (x2 : Int) (w : World) : (Instr.buildSlice 25 1 #[(0, .agg [.int .i64 x1, .int .i64 x2].toArray)]).run Try.prog w = .ok (.slice (some ⟨w.heap.size, 0, none⟩) 1 1) (w.alloc (.cells [.int .i64 x1, .int .i64 x2].toArray 57)) := by kernel_rfl
theorem hb42 : HasBody Try.prog 42 := ⟨Try.call42, by kernel_rfl⟩
theorem hb43 : HasBody Try.prog 43 := ⟨Try.call43, by kernel_rfl⟩
end Go.Proofs.Gt
