/-
  Facts on the types and functions of this translation.
-/
import Derived.Test.YtichjhggoioenaaEng21
import Derived.Test.YtichjhggoioenaaProg
namespace Go.Proofs.Rc
open Go Go.Eng
theorem mixed : Try.prog.follows .mixedOrders = true := by kernel_rfl
theorem hb3 : HasBody Try.prog 3 := ⟨Try.call3, by kernel_rfl⟩
theorem hb9 : HasBody Try.prog 9 := ⟨Try.call9, by kernel_rfl⟩
theorem tN28 : TAgg Try.prog 28 6 := ⟨Try.isAgg28, Try.sizeOf28⟩
theorem hb10 : HasBody Try.prog 10 := ⟨Try.call10, by kernel_rfl⟩
theorem z24 : ZeroOf Try.prog 24 [.int .i64 0, .int .i64 0, .bool false, .int .i64 0, .int .i64 0, .int .u64 0] := ⟨fun w => ⟨_, Try.zeroValue24 w, rfl⟩⟩
theorem tN24 : TAgg Try.prog 24 6 := ⟨Try.isAgg24, Try.sizeOf24⟩
theorem fld24_0 : FieldAt Try.prog 24 0 3 0 := ⟨fun cs w => by simp [Instr.field, Try.runUnderlying24, asAgg], fun a w => by simp [Instr.fieldAt, Try.runUnderlying24, Instr.sureAddr, fieldPlace, Try.sizeOf3]⟩
theorem t1_3 : TOne Try.prog 3 := ⟨Try.isAgg3, Try.sizeOf3⟩
theorem fld24_1 : FieldAt Try.prog 24 1 3 1 := ⟨fun cs w => by simp [Instr.field, Try.runUnderlying24, asAgg], fun a w => by simp [Instr.fieldAt, Try.runUnderlying24, Instr.sureAddr, fieldPlace, Try.sizeOf3]⟩
theorem fld24_2 : FieldAt Try.prog 24 2 4 2 := ⟨fun cs w => by simp [Instr.field, Try.runUnderlying24, asAgg], fun a w => by simp [Instr.fieldAt, Try.runUnderlying24, Instr.sureAddr, fieldPlace, Try.sizeOf4]⟩
theorem t1_4 : TOne Try.prog 4 := ⟨Try.isAgg4, Try.sizeOf4⟩
theorem fld24_3 : FieldAt Try.prog 24 3 3 3 := ⟨fun cs w => by simp [Instr.field, Try.runUnderlying24, asAgg], fun a w => by simp [Instr.fieldAt, Try.runUnderlying24, Instr.sureAddr, fieldPlace, Try.sizeOf3]⟩
theorem fld24_4 : FieldAt Try.prog 24 4 3 4 := ⟨fun cs w => by simp [Instr.field, Try.runUnderlying24, asAgg], fun a w => by simp [Instr.fieldAt, Try.runUnderlying24, Instr.sureAddr, fieldPlace, Try.sizeOf3]⟩
theorem fld24_5 : FieldAt Try.prog 24 5 22 5 := ⟨fun cs w => by simp [Instr.field, Try.runUnderlying24, asAgg], fun a w => by simp [Instr.fieldAt, Try.runUnderlying24, Instr.sureAddr, fieldPlace, Try.sizeOf22]⟩
theorem t1_22 : TOne Try.prog 22 := ⟨Try.isAgg22, Try.sizeOf22⟩
theorem bld31_0_1_2 (x1 : Int) (x2 : Int) (x3 : Bool) (x4 : Int) (x5 : Int) (x6 : Int) (x7 : Int) (x8 : Int) (x9 : Bool) (x10 : Int) (x11 : Int) (x12 : Int) (x13 : Int) (x14 : Int) (x15 : Bool) (x16 : Int) (x17 : Int) (x18 : Int) (w : World) : (Instr.build 31 #[(0, .agg [.int .i64 x1, .int .i64 x2, .bool x3, .int .i64 x4, .int .i64 x5, .int .u64 x6].toArray), (1, .agg [.int .i64 x7, .int .i64 x8, .bool x9, .int .i64 x10, .int .i64 x11, .int .u64 x12].toArray), (2, .agg [.int .i64 x13, .int .i64 x14, .bool x15, .int .i64 x16, .int .i64 x17, .int .u64 x18].toArray)]).run Try.prog w = .ok (.agg [.int .i64 x1, .int .i64 x2, .bool x3, .int .i64 x4, .int .i64 x5, .int .u64 x6, .int .i64 x7, .int .i64 x8, .bool x9, .int .i64 x10, .int .i64 x11, .int .u64 x12, .int .i64 x13, .int .i64 x14, .bool x15, .int .i64 x16, .int .i64 x17, .int .u64 x18].toArray) w := by kernel_rfl
theorem ar31 : ArrayOf Try.prog 31 3 24 6 := ⟨Try.underlying31, Try.sizeOf24⟩
theorem hb11 : HasBody Try.prog 11 := ⟨Try.call11, by kernel_rfl⟩
theorem hb12 : HasBody Try.prog 12 := ⟨Try.call12, by kernel_rfl⟩
theorem hb13 : HasBody Try.prog 13 := ⟨Try.call13, by kernel_rfl⟩
theorem sl32 : SliceOf Try.prog 32 3 1 := ⟨Try.underlying32, Try.sizeOf3⟩
theorem hb15 : HasBody Try.prog 15 := ⟨Try.call15, by kernel_rfl⟩
theorem hb14 : HasBody Try.prog 14 := ⟨Try.call14, by kernel_rfl⟩
theorem hb16 : HasBody Try.prog 16 := ⟨Try.call16, by kernel_rfl⟩
theorem bld24_  (w : World) : (Instr.build 24 #[]).run Try.prog w = .ok (.agg [.int .i64 0, .int .i64 0, .bool false, .int .i64 0, .int .i64 0, .int .u64 0].toArray) w := by kernel_rfl
theorem eqi3 (d : Nat) (a b : Int) (w : World) : (Op.equalIn (d + 1) 3 (.int .i64 a) (.int .i64 b)).run Try.prog w = .ok (a == b) w := run_equalIn_int w d 3 .i64 .i64 a b Try.underlying3
theorem eqi4 (d : Nat) (a b : Bool) (w : World) : (Op.equalIn (d + 1) 4 (.bool a) (.bool b)).run Try.prog w = .ok (a == b) w := run_equalIn_bool' w d 4 a b Try.underlying4
theorem eqi22 (d : Nat) (a b : Int) (w : World) : (Op.equalIn (d + 1) 22 (.int .u64 a) (.int .u64 b)).run Try.prog w = .ok (a == b) w := run_equalIn_int w d 22 .u64 .u64 a b Try.underlying22
theorem eqi24 (d : Nat) (x1 : Int) (x2 : Int) (x3 : Bool) (x4 : Int) (x5 : Int) (x6 : Int) (x1001 : Int) (x1002 : Int) (x1003 : Bool) (x1004 : Int) (x1005 : Int) (x1006 : Int) (w : World) : (Op.equalIn (d + 2) 24 (.agg [.int .i64 x1, .int .i64 x2, .bool x3, .int .i64 x4, .int .i64 x5, .int .u64 x6].toArray) (.agg [.int .i64 x1001, .int .i64 x1002, .bool x1003, .int .i64 x1004, .int .i64 x1005, .int .u64 x1006].toArray)).run Try.prog w = .ok ((x1 == x1001) && ((x2 == x1002) && ((x3 == x1003) && ((x4 == x1004) && ((x5 == x1005) && (x6 == x1006)))))) w :=
  run_eqStruct (plan := [(3, 0, false), (3, 1, false), (4, 2, false), (3, 3, false), (3, 4, false), (22, 5, false)]) (by kernel_rfl) (by kernel_rfl) (by kernel_rfl) (.cons (by kernel_rfl) (by kernel_rfl) (eqi3 _ _ _ w) (.cons (by kernel_rfl) (by kernel_rfl) (eqi3 _ _ _ w) (.cons (by kernel_rfl) (by kernel_rfl) (eqi4 _ _ _ w) (.cons (by kernel_rfl) (by kernel_rfl) (eqi3 _ _ _ w) (.cons (by kernel_rfl) (by kernel_rfl) (eqi3 _ _ _ w) (.last (by kernel_rfl) (by kernel_rfl) (eqi22 _ _ _ w)))))))
theorem eqg24 : Try.prog.eqGuardType Try.prog.depth 24 = false := by kernel_rfl
theorem eq24 (x1 : Int) (x2 : Int) (x3 : Bool) (x4 : Int) (x5 : Int) (x6 : Int) (x1001 : Int) (x1002 : Int) (x1003 : Bool) (x1004 : Int) (x1005 : Int) (x1006 : Int) (w : World) : (Op.equal 24 (.agg [.int .i64 x1, .int .i64 x2, .bool x3, .int .i64 x4, .int .i64 x5, .int .u64 x6].toArray) (.agg [.int .i64 x1001, .int .i64 x1002, .bool x1003, .int .i64 x1004, .int .i64 x1005, .int .u64 x1006].toArray)).run Try.prog w = .ok ((x1 == x1001) && ((x2 == x1002) && ((x3 == x1003) && ((x4 == x1004) && ((x5 == x1005) && (x6 == x1006)))))) w := eqi24 9998 x1 x2 x3 x4 x5 x6 x1001 x1002 x1003 x1004 x1005 x1006 w
theorem bld24_0_1_2 (x1 : Int) (x2 : Int) (x3 : Bool) (w : World) : (Instr.build 24 #[(0, .int .i64 x1), (1, .int .i64 x2), (2, .bool x3)]).run Try.prog w = .ok (.agg [.int .i64 x1, .int .i64 x2, .bool x3, .int .i64 0, .int .i64 0, .int .u64 0].toArray) w := by kernel_rfl
theorem hb4 : HasBody Try.prog 4 := ⟨Try.call4, by kernel_rfl⟩
theorem bld44_0_1 (x1 : Int) (x2 : Int) (x3 : Bool) (x4 : Int) (x5 : Int) (x6 : Int) (x7 : Int) (x8 : Int) (x9 : Bool) (x10 : Int) (x11 : Int) (x12 : Int) (w : World) : (Instr.build 44 #[(0, .agg [.int .i64 x1, .int .i64 x2, .bool x3, .int .i64 x4, .int .i64 x5, .int .u64 x6].toArray), (1, .agg [.int .i64 x7, .int .i64 x8, .bool x9, .int .i64 x10, .int .i64 x11, .int .u64 x12].toArray)]).run Try.prog w = .ok (.agg [.int .i64 x1, .int .i64 x2, .bool x3, .int .i64 x4, .int .i64 x5, .int .u64 x6, .int .i64 x7, .int .i64 x8, .bool x9, .int .i64 x10, .int .i64 x11, .int .u64 x12].toArray) w := by kernel_rfl
theorem ar44 : ArrayOf Try.prog 44 2 24 6 := ⟨Try.underlying44, Try.sizeOf24⟩
theorem hb17 : HasBody Try.prog 17 := ⟨Try.call17, by kernel_rfl⟩
theorem bld46_0_1 (x1 : Int) (x2 : Int) (w : World) : (Instr.build 46 #[(0, .int .i64 x1), (1, .int .i64 x2)]).run Try.prog w = .ok (.agg [.int .i64 x1, .int .i64 x2].toArray) w := by kernel_rfl
theorem ar46 : ArrayOf Try.prog 46 2 3 1 := ⟨Try.underlying46, Try.sizeOf3⟩
theorem bld47_0_1_2 (x1 : Int) (x2 : Int) (x3 : Int) (w : World) : (Instr.build 47 #[(0, .int .i64 x1), (1, .int .i64 x2), (2, .int .i64 x3)]).run Try.prog w = .ok (.agg [.int .i64 x1, .int .i64 x2, .int .i64 x3].toArray) w := by kernel_rfl
theorem ar47 : ArrayOf Try.prog 47 3 3 1 := ⟨Try.underlying47, Try.sizeOf3⟩
theorem hb18 : HasBody Try.prog 18 := ⟨Try.call18, by kernel_rfl⟩
theorem hb19 : HasBody Try.prog 19 := ⟨Try.call19, by kernel_rfl⟩
theorem hb20 : HasBody Try.prog 20 := ⟨Try.call20, by kernel_rfl⟩
theorem hb5 : HasBody Try.prog 5 := ⟨Try.call5, by kernel_rfl⟩
theorem sl54 : SliceOf Try.prog 54 58 2 := ⟨Try.underlying54, Try.sizeOf58⟩
theorem tN58 : TAgg Try.prog 58 2 := ⟨Try.isAgg58, Try.sizeOf58⟩
theorem z58 : ZeroOf Try.prog 58 [.int .i16 0, .int .i16 0] := ⟨fun w => ⟨_, Try.zeroValue58 w, rfl⟩⟩
theorem fld58_0 : FieldAt Try.prog 58 0 56 0 := ⟨fun cs w => by simp [Instr.field, Try.runUnderlying58, asAgg], fun a w => by simp [Instr.fieldAt, Try.runUnderlying58, Instr.sureAddr, fieldPlace, Try.sizeOf56]⟩
theorem t1_56 : TOne Try.prog 56 := ⟨Try.isAgg56, Try.sizeOf56⟩
theorem fld58_1 : FieldAt Try.prog 58 1 56 1 := ⟨fun cs w => by simp [Instr.field, Try.runUnderlying58, asAgg], fun a w => by simp [Instr.fieldAt, Try.runUnderlying58, Instr.sureAddr, fieldPlace, Try.sizeOf56]⟩
theorem hb6 : HasBody Try.prog 6 := ⟨Try.call6, by kernel_rfl⟩
theorem sl60 : SliceOf Try.prog 60 5 1 := ⟨Try.underlying60, Try.sizeOf5⟩
theorem mk32 : MakeT Try.prog 32 3 8 [.int .i64 0] := ⟨Try.underlying32, by
  obtain ⟨i, h1, h2, h3, h4⟩ := info_parts (P := Try.prog) (e := 3) (z := .int .i64 0) (size := 1) (bytes := 8) (by kernel_rfl)
  exact ⟨i, _, h1, h2, h3, h4, rfl⟩⟩
theorem t1_5 : TOne Try.prog 5 := ⟨Try.isAgg5, Try.sizeOf5⟩
theorem hb7 : HasBody Try.prog 7 := ⟨Try.call7, by kernel_rfl⟩
theorem sl62 : SliceOf Try.prog 62 56 1 := ⟨Try.underlying62, Try.sizeOf56⟩
theorem hb8 : HasBody Try.prog 8 := ⟨Try.call8, by kernel_rfl⟩
theorem bld24_0_1_3_4_5 (x1 : Int) (x2 : Int) (x3 : Int) (x4 : Int) (x5 : Int) (w : World) : (Instr.build 24 #[(0, .int .i64 x1), (1, .int .i64 x2), (3, .int .i64 x3), (4, .int .i64 x4), (5, .int .u64 x5)]).run Try.prog w = .ok (.agg [.int .i64 x1, .int .i64 x2, .bool false, .int .i64 x3, .int .i64 x4, .int .u64 x5].toArray) w := by kernel_rfl
theorem bld24_0_1 (x1 : Int) (x2 : Int) (w : World) : (Instr.build 24 #[(0, .int .i64 x1), (1, .int .i64 x2)]).run Try.prog w = .ok (.agg [.int .i64 x1, .int .i64 x2, .bool false, .int .i64 0, .int .i64 0, .int .u64 0].toArray) w := by kernel_rfl
theorem bld24_0_1_5 (x1 : Int) (x2 : Int) (x3 : Int) (w : World) : (Instr.build 24 #[(0, .int .i64 x1), (1, .int .i64 x2), (5, .int .u64 x3)]).run Try.prog w = .ok (.agg [.int .i64 x1, .int .i64 x2, .bool false, .int .i64 0, .int .i64 0, .int .u64 x3].toArray) w := by kernel_rfl
theorem bld24_0_1_2_5 (x1 : Int) (x2 : Int) (x3 : Bool) (x4 : Int) (w : World) : (Instr.build 24 #[(0, .int .i64 x1), (1, .int .i64 x2), (2, .bool x3), (5, .int .u64 x4)]).run Try.prog w = .ok (.agg [.int .i64 x1, .int .i64 x2, .bool x3, .int .i64 0, .int .i64 0, .int .u64 x4].toArray) w := by kernel_rfl
theorem bld24_0_1_3_5 (x1 : Int) (x2 : Int) (x3 : Int) (x4 : Int) (w : World) : (Instr.build 24 #[(0, .int .i64 x1), (1, .int .i64 x2), (3, .int .i64 x3), (5, .int .u64 x4)]).run Try.prog w = .ok (.agg [.int .i64 x1, .int .i64 x2, .bool false, .int .i64 x3, .int .i64 0, .int .u64 x4].toArray) w := by kernel_rfl
theorem bld64_0_1_2_3_4_5 (x1 : Int) (x2 : Int) (x3 : Bool) (x4 : Int) (x5 : Int) (x6 : Int) (x7 : Int) (x8 : Int) (x9 : Bool) (x10 : Int) (x11 : Int) (x12 : Int) (x13 : Int) (x14 : Int) (x15 : Bool) (x16 : Int) (x17 : Int) (x18 : Int) (x19 : Int) (x20 : Int) (x21 : Bool) (x22 : Int) (x23 : Int) (x24 : Int) (x25 : Int) (x26 : Int) (x27 : Bool) (x28 : Int) (x29 : Int) (x30 : Int) (x31 : Int) (x32 : Int) (x33 : Bool) (x34 : Int) (x35 : Int) (x36 : Int) (w : World) : (Instr.build 64 #[(0, .agg [.int .i64 x1, .int .i64 x2, .bool x3, .int .i64 x4, .int .i64 x5, .int .u64 x6].toArray), (1, .agg [.int .i64 x7, .int .i64 x8, .bool x9, .int .i64 x10, .int .i64 x11, .int .u64 x12].toArray), (2, .agg [.int .i64 x13, .int .i64 x14, .bool x15, .int .i64 x16, .int .i64 x17, .int .u64 x18].toArray), (3, .agg [.int .i64 x19, .int .i64 x20, .bool x21, .int .i64 x22, .int .i64 x23, .int .u64 x24].toArray), (4, .agg [.int .i64 x25, .int .i64 x26, .bool x27, .int .i64 x28, .int .i64 x29, .int .u64 x30].toArray), (5, .agg [.int .i64 x31, .int .i64 x32, .bool x33, .int .i64 x34, .int .i64 x35, .int .u64 x36].toArray)]).run Try.prog w = .ok (.agg [.int .i64 x1, .int .i64 x2, .bool x3, .int .i64 x4, .int .i64 x5, .int .u64 x6, .int .i64 x7, .int .i64 x8, .bool x9, .int .i64 x10, .int .i64 x11, .int .u64 x12, .int .i64 x13, .int .i64 x14, .bool x15, .int .i64 x16, .int .i64 x17, .int .u64 x18, .int .i64 x19, .int .i64 x20, .bool x21, .int .i64 x22, .int .i64 x23, .int .u64 x24, .int .i64 x25, .int .i64 x26, .bool x27, .int .i64 x28, .int .i64 x29, .int .u64 x30, .int .i64 x31, .int .i64 x32, .bool x33, .int .i64 x34, .int .i64 x35, .int .u64 x36].toArray) w := by kernel_rfl
theorem z64 : ZeroOf Try.prog 64 [.int .i64 0, .int .i64 0, .bool false, .int .i64 0, .int .i64 0, .int .u64 0, .int .i64 0, .int .i64 0, .bool false, .int .i64 0, .int .i64 0, .int .u64 0, .int .i64 0, .int .i64 0, .bool false, .int .i64 0, .int .i64 0, .int .u64 0, .int .i64 0, .int .i64 0, .bool false, .int .i64 0, .int .i64 0, .int .u64 0, .int .i64 0, .int .i64 0, .bool false, .int .i64 0, .int .i64 0, .int .u64 0, .int .i64 0, .int .i64 0, .bool false, .int .i64 0, .int .i64 0, .int .u64 0] := ⟨fun w => ⟨_, Try.zeroValue64 w, rfl⟩⟩
theorem tN64 : TAgg Try.prog 64 36 := ⟨Try.isAgg64, Try.sizeOf64⟩
theorem ar64 : ArrayOf Try.prog 64 6 24 6 := ⟨Try.underlying64, Try.sizeOf24⟩
theorem bsl32_6_0_1_2_3_4_5 (x1 : Int) (x2 : Int) (x3 : Int) (x4 : Int) (x5 : Int) (x6 : Int) (w : World) : (Instr.buildSlice 32 6 #[(0, .int .i64 x1), (1, .int .i64 x2), (2, .int .i64 x3), (3, .int .i64 x4), (4, .int .i64 x5), (5, .int .i64 x6)]).run Try.prog w = .ok (.slice (some ⟨w.heap.size, 0, none⟩) 6 6) (w.alloc (.cells [.int .i64 x1, .int .i64 x2, .int .i64 x3, .int .i64 x4, .int .i64 x5, .int .i64 x6].toArray 3)) := by kernel_rfl
theorem hb21 : HasBody Try.prog 21 := ⟨Try.call21, by kernel_rfl⟩
theorem bsl32_5_0_1_2_3_4 (x1 : Int) (x2 : Int) (x3 : Int) (x4 : Int) (x5 : Int) (w : World) : (Instr.buildSlice 32 5 #[(0, .int .i64 x1), (1, .int .i64 x2), (2, .int .i64 x3), (3, .int .i64 x4), (4, .int .i64 x5)]).run Try.prog w = .ok (.slice (some ⟨w.heap.size, 0, none⟩) 5 5) (w.alloc (.cells [.int .i64 x1, .int .i64 x2, .int .i64 x3, .int .i64 x4, .int .i64 x5].toArray 3)) := by kernel_rfl
theorem bsl32_4_0_1_2_3 (x1 : Int) (x2 : Int) (x3 : Int) (x4 : Int) (w : World) : (Instr.buildSlice 32 4 #[(0, .int .i64 x1), (1, .int .i64 x2), (2, .int .i64 x3), (3, .int .i64 x4)]).run Try.prog w = .ok (.slice (some ⟨w.heap.size, 0, none⟩) 4 4) (w.alloc (.cells [.int .i64 x1, .int .i64 x2, .int .i64 x3, .int .i64 x4].toArray 3)) := by kernel_rfl
theorem bsl65_6_0_1_2_3_4_5 (x1 : Bool) (x2 : Bool) (x3 : Bool) (x4 : Bool) (x5 : Bool) (x6 : Bool) (w : World) : (Instr.buildSlice 65 6 #[(0, .bool x1), (1, .bool x2), (2, .bool x3), (3, .bool x4), (4, .bool x5), (5, .bool x6)]).run Try.prog w = .ok (.slice (some ⟨w.heap.size, 0, none⟩) 6 6) (w.alloc (.cells [.bool x1, .bool x2, .bool x3, .bool x4, .bool x5, .bool x6].toArray 4)) := by kernel_rfl
theorem hb22 : HasBody Try.prog 22 := ⟨Try.call22, by kernel_rfl⟩
theorem bsl65_5_0_1_2_3_4 (x1 : Bool) (x2 : Bool) (x3 : Bool) (x4 : Bool) (x5 : Bool) (w : World) : (Instr.buildSlice 65 5 #[(0, .bool x1), (1, .bool x2), (2, .bool x3), (3, .bool x4), (4, .bool x5)]).run Try.prog w = .ok (.slice (some ⟨w.heap.size, 0, none⟩) 5 5) (w.alloc (.cells [.bool x1, .bool x2, .bool x3, .bool x4, .bool x5].toArray 4)) := by kernel_rfl
theorem bsl65_4_0_1_2_3 (x1 : Bool) (x2 : Bool) (x3 : Bool) (x4 : Bool) (w : World) : (Instr.buildSlice 65 4 #[(0, .bool x1), (1, .bool x2), (2, .bool x3), (3, .bool x4)]).run Try.prog w = .ok (.slice (some ⟨w.heap.size, 0, none⟩) 4 4) (w.alloc (.cells [.bool x1, .bool x2, .bool x3, .bool x4].toArray 4)) := by kernel_rfl
theorem bsl32_1_0 (x1 : Int) (w : World) : (Instr.buildSlice 32 1 #[(0, .int .i64 x1)]).run Try.prog w = .ok (.slice (some ⟨w.heap.size, 0, none⟩) 1 1) (w.alloc (.cells [.int .i64 x1].toArray 3)) := by kernel_rfl
theorem bsl32_2_0_1 (x1 : Int) (x2 : Int) (w : World) : (Instr.buildSlice 32 2 #[(0, .int .i64 x1), (1, .int .i64 x2)]).run Try.prog w = .ok (.slice (some ⟨w.heap.size, 0, none⟩) 2 2) (w.alloc (.cells [.int .i64 x1, .int .i64 x2].toArray 3)) := by kernel_rfl
theorem fld28_0 : FieldAt Try.prog 28 0 5 0 := ⟨fun cs w => by simp [Instr.field, Try.runUnderlying28, asAgg], fun a w => by simp [Instr.fieldAt, Try.runUnderlying28, Instr.sureAddr, fieldPlace, Try.sizeOf5]⟩
theorem fld28_1 : FieldAt Try.prog 28 1 25 1 := ⟨fun cs w => by simp [Instr.field, Try.runUnderlying28, asAgg], fun a w => by simp [Instr.fieldAt, Try.runUnderlying28, Instr.sureAddr, fieldPlace, Try.sizeOf25]⟩
theorem t1_25 : TOne Try.prog 25 := ⟨Try.isAgg25, Try.sizeOf25⟩
theorem fld28_2 : FieldAt Try.prog 28 2 4 2 := ⟨fun cs w => by simp [Instr.field, Try.runUnderlying28, asAgg], fun a w => by simp [Instr.fieldAt, Try.runUnderlying28, Instr.sureAddr, fieldPlace, Try.sizeOf4]⟩
theorem fld28_3 : FieldAt Try.prog 28 3 26 3 := ⟨fun cs w => by simp [Instr.field, Try.runUnderlying28, asAgg], fun a w => by simp [Instr.fieldAt, Try.runUnderlying28, Instr.sureAddr, fieldPlace, Try.sizeOf26]⟩
theorem t1_26 : TOne Try.prog 26 := ⟨Try.isAgg26, Try.sizeOf26⟩
theorem fld28_4 : FieldAt Try.prog 28 4 25 4 := ⟨fun cs w => by simp [Instr.field, Try.runUnderlying28, asAgg], fun a w => by simp [Instr.fieldAt, Try.runUnderlying28, Instr.sureAddr, fieldPlace, Try.sizeOf25]⟩
theorem fld28_5 : FieldAt Try.prog 28 5 22 5 := ⟨fun cs w => by simp [Instr.field, Try.runUnderlying28, asAgg], fun a w => by simp [Instr.fieldAt, Try.runUnderlying28, Instr.sureAddr, fieldPlace, Try.sizeOf22]⟩
theorem hb23 : HasBody Try.prog 23 := ⟨Try.call23, by kernel_rfl⟩
theorem hb24 : HasBody Try.prog 24 := ⟨Try.call24, by kernel_rfl⟩
theorem ap32 : AppT Try.prog 32 3 1 8 := ⟨Try.underlying32, by
  obtain ⟨i, h1, h2, h3, h4⟩ := info_parts (P := Try.prog) (e := 3) (z := .int .i64 0) (size := 1) (bytes := 8) (by kernel_rfl)
  exact ⟨i, _, h1, h2, h3, h4, by rfl⟩, by decide⟩
theorem hb25 : HasBody Try.prog 25 := ⟨Try.call25, by kernel_rfl⟩
theorem bld75_0_1_2 (x1 : Int) (x2 : Int) (x3 : Bool) (x4 : Int) (x5 : Int) (x6 : Int) (x7 : Int) (x8 : Int) (w : World) : (Instr.build 75 #[(0, .agg [.int .i64 x1, .int .i64 x2, .bool x3, .int .i64 x4, .int .i64 x5, .int .u64 x6].toArray), (1, .int .i64 x7), (2, .int .i64 x8)]).run Try.prog w = .ok (.agg [.int .i64 x1, .int .i64 x2, .bool x3, .int .i64 x4, .int .i64 x5, .int .u64 x6, .int .i64 x7, .int .i64 x8, .int .i64 0].toArray) w := by kernel_rfl
theorem hb26 : HasBody Try.prog 26 := ⟨Try.call26, by kernel_rfl⟩
theorem fld75_0 : FieldAt Try.prog 75 0 24 0 := ⟨fun cs w => by simp [Instr.field, Try.runUnderlying75, asAgg], fun a w => by simp [Instr.fieldAt, Try.runUnderlying75, Instr.sureAddr, fieldPlace, Try.sizeOf24]⟩
theorem hb27 : HasBody Try.prog 27 := ⟨Try.call27, by kernel_rfl⟩
theorem bsl65_1_0 (x1 : Bool) (w : World) : (Instr.buildSlice 65 1 #[(0, .bool x1)]).run Try.prog w = .ok (.slice (some ⟨w.heap.size, 0, none⟩) 1 1) (w.alloc (.cells [.bool x1].toArray 4)) := by kernel_rfl
theorem sl65 : SliceOf Try.prog 65 4 1 := ⟨Try.underlying65, Try.sizeOf4⟩
theorem ap65 : AppT Try.prog 65 4 1 1 := ⟨Try.underlying65, by
  obtain ⟨i, h1, h2, h3, h4⟩ := info_parts (P := Try.prog) (e := 4) (z := .bool false) (size := 1) (bytes := 1) (by kernel_rfl)
  exact ⟨i, _, h1, h2, h3, h4, by rfl⟩, by decide⟩
theorem hb28 : HasBody Try.prog 28 := ⟨Try.call28, by kernel_rfl⟩
theorem hb29 : HasBody Try.prog 29 := ⟨Try.call29, by kernel_rfl⟩
theorem hb34 : HasBody Try.prog 34 := ⟨Try.call34, by kernel_rfl⟩
theorem hb35 : HasBody Try.prog 35 := ⟨Try.call35, by kernel_rfl⟩
theorem hb30 : HasBody Try.prog 30 := ⟨Try.call30, by kernel_rfl⟩
theorem fld75_2 : FieldAt Try.prog 75 2 3 7 := ⟨fun cs w => by simp [Instr.field, Try.runUnderlying75, asAgg], fun a w => by simp [Instr.fieldAt, Try.runUnderlying75, Instr.sureAddr, fieldPlace, Try.sizeOf3]⟩
theorem hb36 : HasBody Try.prog 36 := ⟨Try.call36, by kernel_rfl⟩
theorem hb31 : HasBody Try.prog 31 := ⟨Try.call31, by kernel_rfl⟩
theorem fld75_1 : FieldAt Try.prog 75 1 3 6 := ⟨fun cs w => by simp [Instr.field, Try.runUnderlying75, asAgg], fun a w => by simp [Instr.fieldAt, Try.runUnderlying75, Instr.sureAddr, fieldPlace, Try.sizeOf3]⟩
theorem hb37 : HasBody Try.prog 37 := ⟨Try.call37, by kernel_rfl⟩
theorem fld75_3 : FieldAt Try.prog 75 3 3 8 := ⟨fun cs w => by simp [Instr.field, Try.runUnderlying75, asAgg], fun a w => by simp [Instr.fieldAt, Try.runUnderlying75, Instr.sureAddr, fieldPlace, Try.sizeOf3]⟩
theorem hb32 : HasBody Try.prog 32 := ⟨Try.call32, by kernel_rfl⟩
theorem hb33 : HasBody Try.prog 33 := ⟨Try.call33, by kernel_rfl⟩
theorem hb38 : HasBody Try.prog 38 := ⟨Try.call38, by kernel_rfl⟩
theorem hb39 : HasBody Try.prog 39 := ⟨Try.call39, by kernel_rfl⟩
end Go.Proofs.Rc
