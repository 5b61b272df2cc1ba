/-
  Facts on the types and functions of this translation.
-/
import Derived.Test.YtopaidnhgkejiaaEng15
import Derived.Test.YtopaidnhgkejiaaProg
namespace Go.Proofs.Qu
open Go Go.Eng
theorem mixed : Try.prog.follows .mixedOrders = true := by kernel_rfl
theorem hb3 : HasBody Try.prog 3 := ⟨Try.call3, by kernel_rfl⟩
theorem hb9 : HasBody Try.prog 9 := ⟨Try.call9, by kernel_rfl⟩
theorem tN24 : TAgg Try.prog 24 2 := ⟨Try.isAgg24, Try.sizeOf24⟩
theorem hb10 : HasBody Try.prog 10 := ⟨Try.call10, by kernel_rfl⟩
theorem z24 : ZeroOf Try.prog 24 [.int .i64 0, .slice none 0 0] := ⟨fun w => ⟨_, Try.zeroValue24 w, rfl⟩⟩
theorem hb11 : HasBody Try.prog 11 := ⟨Try.call11, by kernel_rfl⟩
theorem hb12 : HasBody Try.prog 12 := ⟨Try.call12, by kernel_rfl⟩
theorem tN28 : TAgg Try.prog 28 7 := ⟨Try.isAgg28, Try.sizeOf28⟩
theorem hb13 : HasBody Try.prog 13 := ⟨Try.call13, by kernel_rfl⟩
theorem hb14 : HasBody Try.prog 14 := ⟨Try.call14, by kernel_rfl⟩
theorem fld28_0 : FieldAt Try.prog 28 0 26 0 := ⟨fun cs w => by simp [Instr.field, Try.runUnderlying28, asAgg], fun a w => by simp [Instr.fieldAt, Try.runUnderlying28, Instr.sureAddr, fieldPlace, Try.sizeOf26]⟩
theorem tN26 : TAgg Try.prog 26 5 := ⟨Try.isAgg26, Try.sizeOf26⟩
theorem hb15 : HasBody Try.prog 15 := ⟨Try.call15, by kernel_rfl⟩
theorem hb16 : HasBody Try.prog 16 := ⟨Try.call16, by kernel_rfl⟩
theorem hb17 : HasBody Try.prog 17 := ⟨Try.call17, by kernel_rfl⟩
theorem hb18 : HasBody Try.prog 18 := ⟨Try.call18, by kernel_rfl⟩
theorem hb19 : HasBody Try.prog 19 := ⟨Try.call19, by kernel_rfl⟩
theorem bld24_  (w : World) : (Instr.build 24 #[]).run Try.prog w = .ok (.agg [.int .i64 0, .slice none 0 0].toArray) w := by kernel_rfl
theorem hb20 : HasBody Try.prog 20 := ⟨Try.call20, by kernel_rfl⟩
theorem bld24_0 (x1 : Int) (w : World) : (Instr.build 24 #[(0, .int .i64 x1)]).run Try.prog w = .ok (.agg [.int .i64 x1, .slice none 0 0].toArray) w := by kernel_rfl
theorem hb4 : HasBody Try.prog 4 := ⟨Try.call4, by kernel_rfl⟩
theorem hb21 : HasBody Try.prog 21 := ⟨Try.call21, by kernel_rfl⟩
theorem hb22 : HasBody Try.prog 22 := ⟨Try.call22, by kernel_rfl⟩
theorem hb5 : HasBody Try.prog 5 := ⟨Try.call5, by kernel_rfl⟩
theorem hb23 : HasBody Try.prog 23 := ⟨Try.call23, by kernel_rfl⟩
theorem z28 : ZeroOf Try.prog 28 [.int .i64 0, .int .i64 0, .int .i64 0, .int .i64 0, .int .i64 0, .int .i64 0, .bool false] := ⟨fun w => ⟨_, Try.zeroValue28 w, rfl⟩⟩
theorem hb24 : HasBody Try.prog 24 := ⟨Try.call24, by kernel_rfl⟩
theorem hb25 : HasBody Try.prog 25 := ⟨Try.call25, by kernel_rfl⟩
theorem bld28_  (w : World) : (Instr.build 28 #[]).run Try.prog w = .ok (.agg [.int .i64 0, .int .i64 0, .int .i64 0, .int .i64 0, .int .i64 0, .int .i64 0, .bool false].toArray) w := by kernel_rfl
theorem eqi3 (d : Nat) (a b : Int) (w : World) : (Op.equalIn (d + 1) 3 (.int .i64 a) (.int .i64 b)).run Try.prog w = .ok (a == b) w := run_equalIn_int w d 3 .i64 .i64 a b Try.underlying3
theorem eqi26 (d : Nat) (x1 : Int) (x2 : Int) (x3 : Int) (x4 : Int) (x5 : Int) (x1001 : Int) (x1002 : Int) (x1003 : Int) (x1004 : Int) (x1005 : Int) (w : World) : (Op.equalIn (d + 2) 26 (.agg [.int .i64 x1, .int .i64 x2, .int .i64 x3, .int .i64 x4, .int .i64 x5].toArray) (.agg [.int .i64 x1001, .int .i64 x1002, .int .i64 x1003, .int .i64 x1004, .int .i64 x1005].toArray)).run Try.prog w = .ok ((x1 == x1001) && ((x2 == x1002) && ((x3 == x1003) && ((x4 == x1004) && (x5 == x1005))))) w :=
  run_eqStruct (plan := [(3, 0, false), (3, 1, false), (3, 2, false), (3, 3, false), (3, 4, false)]) (by kernel_rfl) (by kernel_rfl) (by kernel_rfl) (.cons (by kernel_rfl) (by kernel_rfl) (eqi3 _ _ _ w) (.cons (by kernel_rfl) (by kernel_rfl) (eqi3 _ _ _ w) (.cons (by kernel_rfl) (by kernel_rfl) (eqi3 _ _ _ w) (.cons (by kernel_rfl) (by kernel_rfl) (eqi3 _ _ _ w) (.last (by kernel_rfl) (by kernel_rfl) (eqi3 _ _ _ w))))))
theorem eqg26 : Try.prog.eqGuardType Try.prog.depth 26 = false := by kernel_rfl
theorem eq26 (x1 : Int) (x2 : Int) (x3 : Int) (x4 : Int) (x5 : Int) (x1001 : Int) (x1002 : Int) (x1003 : Int) (x1004 : Int) (x1005 : Int) (w : World) : (Op.equal 26 (.agg [.int .i64 x1, .int .i64 x2, .int .i64 x3, .int .i64 x4, .int .i64 x5].toArray) (.agg [.int .i64 x1001, .int .i64 x1002, .int .i64 x1003, .int .i64 x1004, .int .i64 x1005].toArray)).run Try.prog w = .ok ((x1 == x1001) && ((x2 == x1002) && ((x3 == x1003) && ((x4 == x1004) && (x5 == x1005))))) w := eqi26 9998 x1 x2 x3 x4 x5 x1001 x1002 x1003 x1004 x1005 w
theorem eqi4 (d : Nat) (a b : Bool) (w : World) : (Op.equalIn (d + 1) 4 (.bool a) (.bool b)).run Try.prog w = .ok (a == b) w := run_equalIn_bool' w d 4 a b Try.underlying4
theorem eqi28 (d : Nat) (x1 : Int) (x2 : Int) (x3 : Int) (x4 : Int) (x5 : Int) (x6 : Int) (x7 : Bool) (x1001 : Int) (x1002 : Int) (x1003 : Int) (x1004 : Int) (x1005 : Int) (x1006 : Int) (x1007 : Bool) (w : World) : (Op.equalIn (d + 3) 28 (.agg [.int .i64 x1, .int .i64 x2, .int .i64 x3, .int .i64 x4, .int .i64 x5, .int .i64 x6, .bool x7].toArray) (.agg [.int .i64 x1001, .int .i64 x1002, .int .i64 x1003, .int .i64 x1004, .int .i64 x1005, .int .i64 x1006, .bool x1007].toArray)).run Try.prog w = .ok (((x1 == x1001) && ((x2 == x1002) && ((x3 == x1003) && ((x4 == x1004) && (x5 == x1005))))) && ((x6 == x1006) && (x7 == x1007))) w :=
  run_eqStruct (plan := [(26, 0, false), (3, 5, false), (4, 6, false)]) (by kernel_rfl) (by kernel_rfl) (by kernel_rfl) (.cons (by kernel_rfl) (by kernel_rfl) (eqi26 _ _ _ _ _ _ _ _ _ _ _ w) (.cons (by kernel_rfl) (by kernel_rfl) (eqi3 _ _ _ w) (.last (by kernel_rfl) (by kernel_rfl) (eqi4 _ _ _ w))))
theorem eqg28 : Try.prog.eqGuardType Try.prog.depth 28 = false := by kernel_rfl
theorem eq28 (x1 : Int) (x2 : Int) (x3 : Int) (x4 : Int) (x5 : Int) (x6 : Int) (x7 : Bool) (x1001 : Int) (x1002 : Int) (x1003 : Int) (x1004 : Int) (x1005 : Int) (x1006 : Int) (x1007 : Bool) (w : World) : (Op.equal 28 (.agg [.int .i64 x1, .int .i64 x2, .int .i64 x3, .int .i64 x4, .int .i64 x5, .int .i64 x6, .bool x7].toArray) (.agg [.int .i64 x1001, .int .i64 x1002, .int .i64 x1003, .int .i64 x1004, .int .i64 x1005, .int .i64 x1006, .bool x1007].toArray)).run Try.prog w = .ok (((x1 == x1001) && ((x2 == x1002) && ((x3 == x1003) && ((x4 == x1004) && (x5 == x1005))))) && ((x6 == x1006) && (x7 == x1007))) w := eqi28 9997 x1 x2 x3 x4 x5 x6 x7 x1001 x1002 x1003 x1004 x1005 x1006 x1007 w
theorem fld24_1 : FieldAt Try.prog 24 1 22 1 := ⟨fun cs w => by simp [Instr.field, Try.runUnderlying24, asAgg], fun a w => by simp [Instr.fieldAt, Try.runUnderlying24, Instr.sureAddr, fieldPlace, Try.sizeOf22]⟩
theorem t1_22 : TOne Try.prog 22 := ⟨Try.isAgg22, Try.sizeOf22⟩
theorem sl22 : SliceOf Try.prog 22 28 7 := ⟨Try.underlying22, Try.sizeOf28⟩
theorem fld24_0 : FieldAt Try.prog 24 0 3 0 := ⟨fun cs w => by simp [Instr.field, Try.runUnderlying24, asAgg], fun a w => by simp [Instr.fieldAt, Try.runUnderlying24, Instr.sureAddr, fieldPlace, Try.sizeOf3]⟩
theorem t1_3 : TOne Try.prog 3 := ⟨Try.isAgg3, Try.sizeOf3⟩
theorem bld24_0_1 (x1 : Int) (x2 : Option Addr) (x3 : Nat) (x4 : Nat) (w : World) : (Instr.build 24 #[(0, .int .i64 x1), (1, .slice x2 x3 x4)]).run Try.prog w = .ok (.agg [.int .i64 x1, .slice x2 x3 x4].toArray) w := by kernel_rfl
theorem fld28_2 : FieldAt Try.prog 28 2 4 6 := ⟨fun cs w => by simp [Instr.field, Try.runUnderlying28, asAgg], fun a w => by simp [Instr.fieldAt, Try.runUnderlying28, Instr.sureAddr, fieldPlace, Try.sizeOf4]⟩
theorem t1_4 : TOne Try.prog 4 := ⟨Try.isAgg4, Try.sizeOf4⟩
theorem hb26 : HasBody Try.prog 26 := ⟨Try.call26, by kernel_rfl⟩
theorem hb27 : HasBody Try.prog 27 := ⟨Try.call27, by kernel_rfl⟩
theorem hb6 : HasBody Try.prog 6 := ⟨Try.call6, by kernel_rfl⟩
theorem sl58 : SliceOf Try.prog 58 61 6 := ⟨Try.underlying58, Try.sizeOf61⟩
theorem tN61 : TAgg Try.prog 61 6 := ⟨Try.isAgg61, Try.sizeOf61⟩
theorem z61 : ZeroOf Try.prog 61 [.int .u8 0, .int .i64 0, .int .i64 0, .int .i64 0, .int .i64 0, .int .i64 0] := ⟨fun w => ⟨_, Try.zeroValue61 w, rfl⟩⟩
theorem fld61_0 : FieldAt Try.prog 61 0 5 0 := ⟨fun cs w => by simp [Instr.field, Try.runUnderlying61, asAgg], fun a w => by simp [Instr.fieldAt, Try.runUnderlying61, Instr.sureAddr, fieldPlace, Try.sizeOf5]⟩
theorem t1_5 : TOne Try.prog 5 := ⟨Try.isAgg5, Try.sizeOf5⟩
theorem sl59 : SliceOf Try.prog 59 26 5 := ⟨Try.underlying59, Try.sizeOf26⟩
theorem fld28_1 : FieldAt Try.prog 28 1 3 5 := ⟨fun cs w => by simp [Instr.field, Try.runUnderlying28, asAgg], fun a w => by simp [Instr.fieldAt, Try.runUnderlying28, Instr.sureAddr, fieldPlace, Try.sizeOf3]⟩
theorem fld26_3 : FieldAt Try.prog 26 3 3 3 := ⟨fun cs w => by simp [Instr.field, Try.runUnderlying26, asAgg], fun a w => by simp [Instr.fieldAt, Try.runUnderlying26, Instr.sureAddr, fieldPlace, Try.sizeOf3]⟩
theorem bsl59_1_0 (x1 : Int) (x2 : Int) (x3 : Int) (x4 : Int) (x5 : Int) (w : World) : (Instr.buildSlice 59 1 #[(0, .agg [.int .i64 x1, .int .i64 x2, .int .i64 x3, .int .i64 x4, .int .i64 x5].toArray)]).run Try.prog w = .ok (.slice (some ⟨w.heap.size, 0, none⟩) 1 1) (w.alloc (.cells [.int .i64 x1, .int .i64 x2, .int .i64 x3, .int .i64 x4, .int .i64 x5].toArray 26)) := by kernel_rfl
theorem ap59 : AppT Try.prog 59 26 5 40 := ⟨Try.underlying59, by
  obtain ⟨i, h1, h2, h3, h4⟩ := info_parts (P := Try.prog) (e := 26) (z := .agg [.int .i64 0, .int .i64 0, .int .i64 0, .int .i64 0, .int .i64 0].toArray) (size := 5) (bytes := 40) (by kernel_rfl)
  exact ⟨i, _, h1, h2, h3, h4, by rfl⟩, by decide⟩
theorem fld61_1 : FieldAt Try.prog 61 1 26 1 := ⟨fun cs w => by simp [Instr.field, Try.runUnderlying61, asAgg], fun a w => by simp [Instr.fieldAt, Try.runUnderlying61, Instr.sureAddr, fieldPlace, Try.sizeOf26]⟩
theorem z26 : ZeroOf Try.prog 26 [.int .i64 0, .int .i64 0, .int .i64 0, .int .i64 0, .int .i64 0] := ⟨fun w => ⟨_, Try.zeroValue26 w, rfl⟩⟩
theorem hb7 : HasBody Try.prog 7 := ⟨Try.call7, by kernel_rfl⟩
theorem hb8 : HasBody Try.prog 8 := ⟨Try.call8, by kernel_rfl⟩
theorem hb28 : HasBody Try.prog 28 := ⟨Try.call28, by kernel_rfl⟩
theorem bld28_0_1_2 (x1 : Int) (x2 : Int) (x3 : Int) (x4 : Int) (x5 : Int) (x6 : Int) (x7 : Bool) (w : World) : (Instr.build 28 #[(0, .agg [.int .i64 x1, .int .i64 x2, .int .i64 x3, .int .i64 x4, .int .i64 x5].toArray), (1, .int .i64 x6), (2, .bool x7)]).run Try.prog w = .ok (.agg [.int .i64 x1, .int .i64 x2, .int .i64 x3, .int .i64 x4, .int .i64 x5, .int .i64 x6, .bool x7].toArray) w := by kernel_rfl
theorem bld28_0_1 (x1 : Int) (x2 : Int) (x3 : Int) (x4 : Int) (x5 : Int) (x6 : Int) (w : World) : (Instr.build 28 #[(0, .agg [.int .i64 x1, .int .i64 x2, .int .i64 x3, .int .i64 x4, .int .i64 x5].toArray), (1, .int .i64 x6)]).run Try.prog w = .ok (.agg [.int .i64 x1, .int .i64 x2, .int .i64 x3, .int .i64 x4, .int .i64 x5, .int .i64 x6, .bool false].toArray) w := by kernel_rfl
theorem bld26_2_3 (x1 : Int) (x2 : Int) (w : World) : (Instr.build 26 #[(2, .int .i64 x1), (3, .int .i64 x2)]).run Try.prog w = .ok (.agg [.int .i64 0, .int .i64 0, .int .i64 x1, .int .i64 x2, .int .i64 0].toArray) w := by kernel_rfl
theorem bsl22_2_0_1 (x1 : Int) (x2 : Int) (x3 : Int) (x4 : Int) (x5 : Int) (x6 : Int) (x7 : Bool) (x8 : Int) (x9 : Int) (x10 : Int) (x11 : Int) (x12 : Int) (x13 : Int) (x14 : Bool) (w : World) : (Instr.buildSlice 22 2 #[(0, .agg [.int .i64 x1, .int .i64 x2, .int .i64 x3, .int .i64 x4, .int .i64 x5, .int .i64 x6, .bool x7].toArray), (1, .agg [.int .i64 x8, .int .i64 x9, .int .i64 x10, .int .i64 x11, .int .i64 x12, .int .i64 x13, .bool x14].toArray)]).run Try.prog w = .ok (.slice (some ⟨w.heap.size, 0, none⟩) 2 2) (w.alloc (.cells [.int .i64 x1, .int .i64 x2, .int .i64 x3, .int .i64 x4, .int .i64 x5, .int .i64 x6, .bool x7, .int .i64 x8, .int .i64 x9, .int .i64 x10, .int .i64 x11, .int .i64 x12, .int .i64 x13, .bool x14].toArray 28)) := by kernel_rfl
theorem bsl22_1_0 (x1 : Int) (x2 : Int) (x3 : Int) (x4 : Int) (x5 : Int) (x6 : Int) (x7 : Bool) (w : World) : (Instr.buildSlice 22 1 #[(0, .agg [.int .i64 x1, .int .i64 x2, .int .i64 x3, .int .i64 x4, .int .i64 x5, .int .i64 x6, .bool x7].toArray)]).run Try.prog w = .ok (.slice (some ⟨w.heap.size, 0, none⟩) 1 1) (w.alloc (.cells [.int .i64 x1, .int .i64 x2, .int .i64 x3, .int .i64 x4, .int .i64 x5, .int .i64 x6, .bool x7].toArray 28)) := by kernel_rfl
theorem bld66_0 (x1 : Int) (x2 : Option Addr) (x3 : Nat) (x4 : Nat) (w : World) : (Instr.build 66 #[(0, .agg [.int .i64 x1, .slice x2 x3 x4].toArray)]).run Try.prog w = .ok (.agg [.int .i64 x1, .slice x2 x3 x4].toArray) w := by kernel_rfl
theorem z66 : ZeroOf Try.prog 66 [.int .i64 0, .slice none 0 0] := ⟨fun w => ⟨_, Try.zeroValue66 w, rfl⟩⟩
theorem tN66 : TAgg Try.prog 66 2 := ⟨Try.isAgg66, Try.sizeOf66⟩
theorem hb29 : HasBody Try.prog 29 := ⟨Try.call29, by kernel_rfl⟩
theorem hb30 : HasBody Try.prog 30 := ⟨Try.call30, by kernel_rfl⟩
theorem hb31 : HasBody Try.prog 31 := ⟨Try.call31, by kernel_rfl⟩
theorem hb32 : HasBody Try.prog 32 := ⟨Try.call32, by kernel_rfl⟩
theorem fld26_2 : FieldAt Try.prog 26 2 3 2 := ⟨fun cs w => by simp [Instr.field, Try.runUnderlying26, asAgg], fun a w => by simp [Instr.fieldAt, Try.runUnderlying26, Instr.sureAddr, fieldPlace, Try.sizeOf3]⟩
theorem fld26_0 : FieldAt Try.prog 26 0 3 0 := ⟨fun cs w => by simp [Instr.field, Try.runUnderlying26, asAgg], fun a w => by simp [Instr.fieldAt, Try.runUnderlying26, Instr.sureAddr, fieldPlace, Try.sizeOf3]⟩
theorem fld26_1 : FieldAt Try.prog 26 1 3 1 := ⟨fun cs w => by simp [Instr.field, Try.runUnderlying26, asAgg], fun a w => by simp [Instr.fieldAt, Try.runUnderlying26, Instr.sureAddr, fieldPlace, Try.sizeOf3]⟩
theorem fld26_4 : FieldAt Try.prog 26 4 3 4 := ⟨fun cs w => by simp [Instr.field, Try.runUnderlying26, asAgg], fun a w => by simp [Instr.fieldAt, Try.runUnderlying26, Instr.sureAddr, fieldPlace, Try.sizeOf3]⟩
theorem hb33 : HasBody Try.prog 33 := ⟨Try.call33, by kernel_rfl⟩
theorem ap22 : AppT Try.prog 22 28 7 56 := ⟨Try.underlying22, by
  obtain ⟨i, h1, h2, h3, h4⟩ := info_parts (P := Try.prog) (e := 28) (z := .agg [.int .i64 0, .int .i64 0, .int .i64 0, .int .i64 0, .int .i64 0, .int .i64 0, .bool false].toArray) (size := 7) (bytes := 56) (by kernel_rfl)
  exact ⟨i, _, h1, h2, h3, h4, by rfl⟩, by decide⟩
theorem z4 : ZeroOf Try.prog 4 [.bool false] := ⟨fun w => ⟨_, Try.zeroValue4 w, rfl⟩⟩
theorem hb34 : HasBody Try.prog 34 := ⟨Try.call34, by kernel_rfl⟩
theorem hb35 : HasBody Try.prog 35 := ⟨Try.call35, by kernel_rfl⟩
theorem hb37 : HasBody Try.prog 37 := ⟨Try.call37, by kernel_rfl⟩
theorem z3 : ZeroOf Try.prog 3 [.int .i64 0] := ⟨fun w => ⟨_, Try.zeroValue3 w, rfl⟩⟩
theorem t1_75 : TOne Try.prog 75 := ⟨Try.isAgg75, Try.sizeOf75⟩
theorem hb36 : HasBody Try.prog 36 := ⟨Try.call36, by kernel_rfl⟩
theorem fld66_0 : FieldAt Try.prog 66 0 24 0 := ⟨fun cs w => by simp [Instr.field, Try.runUnderlying66, asAgg], fun a w => by simp [Instr.fieldAt, Try.runUnderlying66, Instr.sureAddr, fieldPlace, Try.sizeOf24]⟩
end Go.Proofs.Qu
