/-
  Facts on the types and functions of this translation.
-/
import Derived.Test.YtffocfffggfenaaEng12ToEng24PportKnownhol
import Derived.Test.YtffocfffggfenaaProg
namespace Go.Proofs.Cp
open Go Go.Eng
theorem mixed : Try.prog.follows .mixedOrders = true := by kernel_rfl
theorem tN26 : TAgg Try.prog 26 4 := ⟨Try.isAgg26, Try.sizeOf26⟩
theorem hb17 : HasBody Try.prog 17 := ⟨Try.call17, by kernel_rfl⟩
theorem hb19 : HasBody Try.prog 19 := ⟨Try.call19, by kernel_rfl⟩
theorem hb22 : HasBody Try.prog 22 := ⟨Try.call22, by kernel_rfl⟩
theorem hb26 : HasBody Try.prog 26 := ⟨Try.call26, by kernel_rfl⟩
theorem hb28 : HasBody Try.prog 28 := ⟨Try.call28, by kernel_rfl⟩
theorem fld26_1 : FieldAt Try.prog 26 1 3 2 := ⟨fun cs w => by simp [Instr.field, Try.runUnderlying26, asAgg], fun a w => by simp [Instr.fieldAt, Try.runUnderlying26, Instr.sureAddr, fieldPlace, Try.sizeOf3]⟩
theorem t1_3 : TOne Try.prog 3 := ⟨Try.isAgg3, Try.sizeOf3⟩
theorem sl27 : SliceOf Try.prog 27 57 7 := ⟨Try.underlying27, Try.sizeOf57⟩
theorem tN57 : TAgg Try.prog 57 7 := ⟨Try.isAgg57, Try.sizeOf57⟩
theorem bld57_  (w : World) : (Instr.build 57 #[]).run Try.prog w = .ok (.agg [.int .i64 0, .int .i64 0, .int .i64 0, .int .i64 0, .int .i64 0, .int .i64 0, .bool false].toArray) w := by kernel_rfl
theorem eqi3 (d : Nat) (a b : Int) (w : World) : (Op.equalIn (d + 1) 3 (.int .i64 a) (.int .i64 b)).run Try.prog w = .ok (a == b) w := run_equalIn_int w d 3 .i64 .i64 a b Try.underlying3
theorem eqi55 (d : Nat) (x1 : Int) (x2 : Int) (x3 : Int) (x4 : Int) (x5 : Int) (x1001 : Int) (x1002 : Int) (x1003 : Int) (x1004 : Int) (x1005 : Int) (w : World) : (Op.equalIn (d + 2) 55 (.agg [.int .i64 x1, .int .i64 x2, .int .i64 x3, .int .i64 x4, .int .i64 x5].toArray) (.agg [.int .i64 x1001, .int .i64 x1002, .int .i64 x1003, .int .i64 x1004, .int .i64 x1005].toArray)).run Try.prog w = .ok ((x1 == x1001) && ((x2 == x1002) && ((x3 == x1003) && ((x4 == x1004) && (x5 == x1005))))) w :=
  run_eqStruct (plan := [(3, 0, false), (3, 1, false), (3, 2, false), (3, 3, false), (3, 4, false)]) (by kernel_rfl) (by kernel_rfl) (by kernel_rfl) (.cons (by kernel_rfl) (by kernel_rfl) (eqi3 _ _ _ w) (.cons (by kernel_rfl) (by kernel_rfl) (eqi3 _ _ _ w) (.cons (by kernel_rfl) (by kernel_rfl) (eqi3 _ _ _ w) (.cons (by kernel_rfl) (by kernel_rfl) (eqi3 _ _ _ w) (.last (by kernel_rfl) (by kernel_rfl) (eqi3 _ _ _ w))))))
theorem eqg55 : Try.prog.eqGuardType Try.prog.depth 55 = false := by kernel_rfl
theorem eq55 (x1 : Int) (x2 : Int) (x3 : Int) (x4 : Int) (x5 : Int) (x1001 : Int) (x1002 : Int) (x1003 : Int) (x1004 : Int) (x1005 : Int) (w : World) : (Op.equal 55 (.agg [.int .i64 x1, .int .i64 x2, .int .i64 x3, .int .i64 x4, .int .i64 x5].toArray) (.agg [.int .i64 x1001, .int .i64 x1002, .int .i64 x1003, .int .i64 x1004, .int .i64 x1005].toArray)).run Try.prog w = .ok ((x1 == x1001) && ((x2 == x1002) && ((x3 == x1003) && ((x4 == x1004) && (x5 == x1005))))) w := eqi55 9998 x1 x2 x3 x4 x5 x1001 x1002 x1003 x1004 x1005 w
theorem eqi4 (d : Nat) (a b : Bool) (w : World) : (Op.equalIn (d + 1) 4 (.bool a) (.bool b)).run Try.prog w = .ok (a == b) w := run_equalIn_bool' w d 4 a b Try.underlying4
theorem eqi57 (d : Nat) (x1 : Int) (x2 : Int) (x3 : Int) (x4 : Int) (x5 : Int) (x6 : Int) (x7 : Bool) (x1001 : Int) (x1002 : Int) (x1003 : Int) (x1004 : Int) (x1005 : Int) (x1006 : Int) (x1007 : Bool) (w : World) : (Op.equalIn (d + 3) 57 (.agg [.int .i64 x1, .int .i64 x2, .int .i64 x3, .int .i64 x4, .int .i64 x5, .int .i64 x6, .bool x7].toArray) (.agg [.int .i64 x1001, .int .i64 x1002, .int .i64 x1003, .int .i64 x1004, .int .i64 x1005, .int .i64 x1006, .bool x1007].toArray)).run Try.prog w = .ok (((x1 == x1001) && ((x2 == x1002) && ((x3 == x1003) && ((x4 == x1004) && (x5 == x1005))))) && ((x6 == x1006) && (x7 == x1007))) w :=
  run_eqStruct (plan := [(55, 0, false), (3, 5, false), (4, 6, false)]) (by kernel_rfl) (by kernel_rfl) (by kernel_rfl) (.cons (by kernel_rfl) (by kernel_rfl) (eqi55 _ _ _ _ _ _ _ _ _ _ _ w) (.cons (by kernel_rfl) (by kernel_rfl) (eqi3 _ _ _ w) (.last (by kernel_rfl) (by kernel_rfl) (eqi4 _ _ _ w))))
theorem eqg57 : Try.prog.eqGuardType Try.prog.depth 57 = false := by kernel_rfl
theorem eq57 (x1 : Int) (x2 : Int) (x3 : Int) (x4 : Int) (x5 : Int) (x6 : Int) (x7 : Bool) (x1001 : Int) (x1002 : Int) (x1003 : Int) (x1004 : Int) (x1005 : Int) (x1006 : Int) (x1007 : Bool) (w : World) : (Op.equal 57 (.agg [.int .i64 x1, .int .i64 x2, .int .i64 x3, .int .i64 x4, .int .i64 x5, .int .i64 x6, .bool x7].toArray) (.agg [.int .i64 x1001, .int .i64 x1002, .int .i64 x1003, .int .i64 x1004, .int .i64 x1005, .int .i64 x1006, .bool x1007].toArray)).run Try.prog w = .ok (((x1 == x1001) && ((x2 == x1002) && ((x3 == x1003) && ((x4 == x1004) && (x5 == x1005))))) && ((x6 == x1006) && (x7 == x1007))) w := eqi57 9997 x1 x2 x3 x4 x5 x6 x7 x1001 x1002 x1003 x1004 x1005 x1006 x1007 w
theorem fld57_0 : FieldAt Try.prog 57 0 55 0 := ⟨fun cs w => by simp [Instr.field, Try.runUnderlying57, asAgg], fun a w => by simp [Instr.fieldAt, Try.runUnderlying57, Instr.sureAddr, fieldPlace, Try.sizeOf55]⟩
theorem tN55 : TAgg Try.prog 55 5 := ⟨Try.isAgg55, Try.sizeOf55⟩
theorem fld55_2 : FieldAt Try.prog 55 2 3 2 := ⟨fun cs w => by simp [Instr.field, Try.runUnderlying55, asAgg], fun a w => by simp [Instr.fieldAt, Try.runUnderlying55, Instr.sureAddr, fieldPlace, Try.sizeOf3]⟩
theorem z57 : ZeroOf Try.prog 57 [.int .i64 0, .int .i64 0, .int .i64 0, .int .i64 0, .int .i64 0, .int .i64 0, .bool false] := ⟨fun w => ⟨_, Try.zeroValue57 w, rfl⟩⟩
theorem fld57_2 : FieldAt Try.prog 57 2 4 6 := ⟨fun cs w => by simp [Instr.field, Try.runUnderlying57, asAgg], fun a w => by simp [Instr.fieldAt, Try.runUnderlying57, Instr.sureAddr, fieldPlace, Try.sizeOf4]⟩
theorem t1_4 : TOne Try.prog 4 := ⟨Try.isAgg4, Try.sizeOf4⟩
theorem hb9 : HasBody Try.prog 9 := ⟨Try.call9, by kernel_rfl⟩
theorem bld59_0_1 (x1 : Int) (x2 : Int) (w : World) : (Instr.build 59 #[(0, .int .i64 x1), (1, .int .i64 x2)]).run Try.prog w = .ok (.agg [.int .i64 x1, .int .i64 x2].toArray) w := by kernel_rfl
theorem bsl22_1_0 (x1 : Int) (x2 : Int) (w : World) : (Instr.buildSlice 22 1 #[(0, .agg [.int .i64 x1, .int .i64 x2].toArray)]).run Try.prog w = .ok (.slice (some ⟨w.heap.size, 0, none⟩) 1 1) (w.alloc (.cells [.int .i64 x1, .int .i64 x2].toArray 59)) := by kernel_rfl
theorem bld24_0_1 (x1 : Option Addr) (x2 : Nat) (x3 : Nat) (x4 : Int) (w : World) : (Instr.build 24 #[(0, .slice x1 x2 x3), (1, .int .i64 x4)]).run Try.prog w = .ok (.agg [.slice x1 x2 x3, .int .i64 x4].toArray) w := by kernel_rfl
theorem bld26_0_1 (x1 : Option Addr) (x2 : Nat) (x3 : Nat) (x4 : Int) (x5 : Int) (w : World) : (Instr.build 26 #[(0, .agg [.slice x1 x2 x3, .int .i64 x4].toArray), (1, .int .i64 x5)]).run Try.prog w = .ok (.agg [.slice x1 x2 x3, .int .i64 x4, .int .i64 x5, .int .i64 0].toArray) w := by kernel_rfl
theorem z26 : ZeroOf Try.prog 26 [.slice none 0 0, .int .i64 0, .int .i64 0, .int .i64 0] := ⟨fun w => ⟨_, Try.zeroValue26 w, rfl⟩⟩
theorem bsl27_1_0 (x1 : Int) (x2 : Int) (x3 : Int) (x4 : Int) (x5 : Int) (x6 : Int) (x7 : Bool) (w : World) : (Instr.buildSlice 27 1 #[(0, .agg [.int .i64 x1, .int .i64 x2, .int .i64 x3, .int .i64 x4, .int .i64 x5, .int .i64 x6, .bool x7].toArray)]).run Try.prog w = .ok (.slice (some ⟨w.heap.size, 0, none⟩) 1 1) (w.alloc (.cells [.int .i64 x1, .int .i64 x2, .int .i64 x3, .int .i64 x4, .int .i64 x5, .int .i64 x6, .bool x7].toArray 57)) := by kernel_rfl
theorem bld55_2_3 (x1 : Int) (x2 : Int) (w : World) : (Instr.build 55 #[(2, .int .i64 x1), (3, .int .i64 x2)]).run Try.prog w = .ok (.agg [.int .i64 0, .int .i64 0, .int .i64 x1, .int .i64 x2, .int .i64 0].toArray) w := by kernel_rfl
theorem bld57_0_1_2 (x1 : Int) (x2 : Int) (x3 : Int) (x4 : Int) (x5 : Int) (x6 : Int) (x7 : Bool) (w : World) : (Instr.build 57 #[(0, .agg [.int .i64 x1, .int .i64 x2, .int .i64 x3, .int .i64 x4, .int .i64 x5].toArray), (1, .int .i64 x6), (2, .bool x7)]).run Try.prog w = .ok (.agg [.int .i64 x1, .int .i64 x2, .int .i64 x3, .int .i64 x4, .int .i64 x5, .int .i64 x6, .bool x7].toArray) w := by kernel_rfl
theorem fld26_2 : FieldAt Try.prog 26 2 3 3 := ⟨fun cs w => by simp [Instr.field, Try.runUnderlying26, asAgg], fun a w => by simp [Instr.fieldAt, Try.runUnderlying26, Instr.sureAddr, fieldPlace, Try.sizeOf3]⟩
theorem hb33 : HasBody Try.prog 33 := ⟨Try.call33, by kernel_rfl⟩
theorem fld26_0 : FieldAt Try.prog 26 0 24 0 := ⟨fun cs w => by simp [Instr.field, Try.runUnderlying26, asAgg], fun a w => by simp [Instr.fieldAt, Try.runUnderlying26, Instr.sureAddr, fieldPlace, Try.sizeOf24]⟩
theorem tN24 : TAgg Try.prog 24 2 := ⟨Try.isAgg24, Try.sizeOf24⟩
theorem fld24_0 : FieldAt Try.prog 24 0 22 0 := ⟨fun cs w => by simp [Instr.field, Try.runUnderlying24, asAgg], fun a w => by simp [Instr.fieldAt, Try.runUnderlying24, Instr.sureAddr, fieldPlace, Try.sizeOf22]⟩
theorem t1_22 : TOne Try.prog 22 := ⟨Try.isAgg22, Try.sizeOf22⟩
theorem sl22 : SliceOf Try.prog 22 59 2 := ⟨Try.underlying22, Try.sizeOf59⟩
theorem sl65 : SliceOf Try.prog 65 3 1 := ⟨Try.underlying65, Try.sizeOf3⟩
theorem hb34 : HasBody Try.prog 34 := ⟨Try.call34, by kernel_rfl⟩
theorem z68 : ZeroOf Try.prog 68 [.slice none 0 0, .int .i64 0, .int .i64 0, .int .i64 0, .int .i64 0, .slice none 0 0, .bool false, .int .i64 0, .int .i64 0, .int .i64 0, .int .i64 0, .int .i64 0, .int .i64 0, .bool false, .int .i64 0, .int .i64 0, .int .i64 0] := ⟨fun w => ⟨_, Try.zeroValue68 w, rfl⟩⟩
theorem tN68 : TAgg Try.prog 68 17 := ⟨Try.isAgg68, Try.sizeOf68⟩
theorem bld68_0 (x1 : Option Addr) (x2 : Nat) (x3 : Nat) (x4 : Int) (x5 : Int) (x6 : Int) (w : World) : (Instr.build 68 #[(0, .agg [.slice x1 x2 x3, .int .i64 x4, .int .i64 x5, .int .i64 x6].toArray)]).run Try.prog w = .ok (.agg [.slice x1 x2 x3, .int .i64 x4, .int .i64 x5, .int .i64 x6, .int .i64 0, .slice none 0 0, .bool false, .int .i64 0, .int .i64 0, .int .i64 0, .int .i64 0, .int .i64 0, .int .i64 0, .bool false, .int .i64 0, .int .i64 0, .int .i64 0].toArray) w := by kernel_rfl
theorem fld68_2 : FieldAt Try.prog 68 2 66 5 := ⟨fun cs w => by simp [Instr.field, Try.runUnderlying68, asAgg], fun a w => by simp [Instr.fieldAt, Try.runUnderlying68, Instr.sureAddr, fieldPlace, Try.sizeOf66]⟩
theorem t1_66 : TOne Try.prog 66 := ⟨Try.isAgg66, Try.sizeOf66⟩
theorem bld73_0 (x1 : Int) (w : World) : (Instr.build 73 #[(0, .int .i64 x1)]).run Try.prog w = .ok (.agg [.int .i64 x1, .slice none 0 0].toArray) w := by kernel_rfl
theorem bsl66_1_0 (x1 : Int) (x2 : Option Addr) (x3 : Nat) (x4 : Nat) (w : World) : (Instr.buildSlice 66 1 #[(0, .agg [.int .i64 x1, .slice x2 x3 x4].toArray)]).run Try.prog w = .ok (.slice (some ⟨w.heap.size, 0, none⟩) 1 1) (w.alloc (.cells [.int .i64 x1, .slice x2 x3 x4].toArray 73)) := by kernel_rfl
theorem sl66 : SliceOf Try.prog 66 73 2 := ⟨Try.underlying66, Try.sizeOf73⟩
theorem ap66 : AppT Try.prog 66 73 2 32 := ⟨Try.underlying66, by
  obtain ⟨i, h1, h2, h3, h4⟩ := info_parts (P := Try.prog) (e := 73) (z := .agg [.int .i64 0, .slice none 0 0].toArray) (size := 2) (bytes := 32) (by kernel_rfl)
  exact ⟨i, _, h1, h2, h3, h4, by rfl⟩, by decide⟩
theorem hb37 : HasBody Try.prog 37 := ⟨Try.call37, by kernel_rfl⟩
theorem hb39 : HasBody Try.prog 39 := ⟨Try.call39, by kernel_rfl⟩
theorem hb40 : HasBody Try.prog 40 := ⟨Try.call40, by kernel_rfl⟩
theorem hb41 : HasBody Try.prog 41 := ⟨Try.call41, by kernel_rfl⟩
theorem sl83 : SliceOf Try.prog 83 88 6 := ⟨Try.underlying83, Try.sizeOf88⟩
theorem sl78 : SliceOf Try.prog 78 89 6 := ⟨Try.underlying78, Try.sizeOf89⟩
theorem fld68_3 : FieldAt Try.prog 68 3 4 6 := ⟨fun cs w => by simp [Instr.field, Try.runUnderlying68, asAgg], fun a w => by simp [Instr.fieldAt, Try.runUnderlying68, Instr.sureAddr, fieldPlace, Try.sizeOf4]⟩
theorem tN88 : TAgg Try.prog 88 6 := ⟨Try.isAgg88, Try.sizeOf88⟩
theorem fld88_1 : FieldAt Try.prog 88 1 55 1 := ⟨fun cs w => by simp [Instr.field, Try.runUnderlying88, asAgg], fun a w => by simp [Instr.fieldAt, Try.runUnderlying88, Instr.sureAddr, fieldPlace, Try.sizeOf55]⟩
theorem fld55_1 : FieldAt Try.prog 55 1 3 1 := ⟨fun cs w => by simp [Instr.field, Try.runUnderlying55, asAgg], fun a w => by simp [Instr.fieldAt, Try.runUnderlying55, Instr.sureAddr, fieldPlace, Try.sizeOf3]⟩
theorem fld89_1 : FieldAt Try.prog 89 1 55 1 := ⟨fun cs w => by simp [Instr.field, Try.runUnderlying89, asAgg], fun a w => by simp [Instr.fieldAt, Try.runUnderlying89, Instr.sureAddr, fieldPlace, Try.sizeOf55]⟩
theorem fld89_0 : FieldAt Try.prog 89 0 3 0 := ⟨fun cs w => by simp [Instr.field, Try.runUnderlying89, asAgg], fun a w => by simp [Instr.fieldAt, Try.runUnderlying89, Instr.sureAddr, fieldPlace, Try.sizeOf3]⟩
theorem fld55_3 : FieldAt Try.prog 55 3 3 3 := ⟨fun cs w => by simp [Instr.field, Try.runUnderlying55, asAgg], fun a w => by simp [Instr.fieldAt, Try.runUnderlying55, Instr.sureAddr, fieldPlace, Try.sizeOf3]⟩
theorem fld68_0 : FieldAt Try.prog 68 0 26 0 := ⟨fun cs w => by simp [Instr.field, Try.runUnderlying68, asAgg], fun a w => by simp [Instr.fieldAt, Try.runUnderlying68, Instr.sureAddr, fieldPlace, Try.sizeOf26]⟩
theorem fld24_1 : FieldAt Try.prog 24 1 3 1 := ⟨fun cs w => by simp [Instr.field, Try.runUnderlying24, asAgg], fun a w => by simp [Instr.fieldAt, Try.runUnderlying24, Instr.sureAddr, fieldPlace, Try.sizeOf3]⟩
theorem tN59 : TAgg Try.prog 59 2 := ⟨Try.isAgg59, Try.sizeOf59⟩
theorem z59 : ZeroOf Try.prog 59 [.int .i64 0, .int .i64 0] := ⟨fun w => ⟨_, Try.zeroValue59 w, rfl⟩⟩
theorem fld59_0 : FieldAt Try.prog 59 0 3 0 := ⟨fun cs w => by simp [Instr.field, Try.runUnderlying59, asAgg], fun a w => by simp [Instr.fieldAt, Try.runUnderlying59, Instr.sureAddr, fieldPlace, Try.sizeOf3]⟩
theorem fld59_1 : FieldAt Try.prog 59 1 3 1 := ⟨fun cs w => by simp [Instr.field, Try.runUnderlying59, asAgg], fun a w => by simp [Instr.fieldAt, Try.runUnderlying59, Instr.sureAddr, fieldPlace, Try.sizeOf3]⟩
theorem hb42 : HasBody Try.prog 42 := ⟨Try.call42, by kernel_rfl⟩
theorem hb43 : HasBody Try.prog 43 := ⟨Try.call43, by kernel_rfl⟩
theorem fld68_6 : FieldAt Try.prog 68 6 3 15 := ⟨fun cs w => by simp [Instr.field, Try.runUnderlying68, asAgg], fun a w => by simp [Instr.fieldAt, Try.runUnderlying68, Instr.sureAddr, fieldPlace, Try.sizeOf3]⟩
theorem hb44 : HasBody Try.prog 44 := ⟨Try.call44, by kernel_rfl⟩
theorem z55 : ZeroOf Try.prog 55 [.int .i64 0, .int .i64 0, .int .i64 0, .int .i64 0, .int .i64 0] := ⟨fun w => ⟨_, Try.zeroValue55 w, rfl⟩⟩
theorem hb45 : HasBody Try.prog 45 := ⟨Try.call45, by kernel_rfl⟩
theorem hb46 : HasBody Try.prog 46 := ⟨Try.call46, by kernel_rfl⟩
theorem fld68_4 : FieldAt Try.prog 68 4 57 7 := ⟨fun cs w => by simp [Instr.field, Try.runUnderlying68, asAgg], fun a w => by simp [Instr.fieldAt, Try.runUnderlying68, Instr.sureAddr, fieldPlace, Try.sizeOf57]⟩
theorem fld68_5 : FieldAt Try.prog 68 5 3 14 := ⟨fun cs w => by simp [Instr.field, Try.runUnderlying68, asAgg], fun a w => by simp [Instr.fieldAt, Try.runUnderlying68, Instr.sureAddr, fieldPlace, Try.sizeOf3]⟩
theorem hb47 : HasBody Try.prog 47 := ⟨Try.call47, by kernel_rfl⟩
theorem fld57_1 : FieldAt Try.prog 57 1 3 5 := ⟨fun cs w => by simp [Instr.field, Try.runUnderlying57, asAgg], fun a w => by simp [Instr.fieldAt, Try.runUnderlying57, Instr.sureAddr, fieldPlace, Try.sizeOf3]⟩
theorem hb48 : HasBody Try.prog 48 := ⟨Try.call48, by kernel_rfl⟩
theorem bsl65_7_0_1_2_3_4_5_6 (x1 : Int) (x2 : Int) (x3 : Int) (x4 : Int) (x5 : Int) (x6 : Int) (x7 : Int) (w : World) : (Instr.buildSlice 65 7 #[(0, .int .i64 x1), (1, .int .i64 x2), (2, .int .i64 x3), (3, .int .i64 x4), (4, .int .i64 x5), (5, .int .i64 x6), (6, .int .i64 x7)]).run Try.prog w = .ok (.slice (some ⟨w.heap.size, 0, none⟩) 7 7) (w.alloc (.cells [.int .i64 x1, .int .i64 x2, .int .i64 x3, .int .i64 x4, .int .i64 x5, .int .i64 x6, .int .i64 x7].toArray 3)) := by kernel_rfl
theorem fld68_7 : FieldAt Try.prog 68 7 3 16 := ⟨fun cs w => by simp [Instr.field, Try.runUnderlying68, asAgg], fun a w => by simp [Instr.fieldAt, Try.runUnderlying68, Instr.sureAddr, fieldPlace, Try.sizeOf3]⟩
theorem bld102_0_1_2_3_4_5 (x1 : Option Addr) (x2 : Nat) (x3 : Nat) (x4 : Int) (x5 : Int) (x6 : Int) (x7 : Int) (x8 : Option Addr) (x9 : Nat) (x10 : Nat) (x11 : Bool) (x12 : Int) (x13 : Int) (x14 : Int) (x15 : Int) (x16 : Int) (x17 : Int) (x18 : Bool) (x19 : Int) (x20 : Int) (x21 : Int) (x22 : Option Addr) (x23 : Nat) (x24 : Nat) (x25 : Int) (x26 : Int) (x27 : Int) (x28 : Int) (x29 : Option Addr) (x30 : Nat) (x31 : Nat) (x32 : Bool) (x33 : Int) (x34 : Int) (x35 : Int) (x36 : Int) (x37 : Int) (x38 : Int) (x39 : Bool) (x40 : Int) (x41 : Int) (x42 : Int) (x43 : Option Addr) (x44 : Nat) (x45 : Nat) (x46 : Int) (x47 : Int) (x48 : Int) (x49 : Int) (x50 : Option Addr) (x51 : Nat) (x52 : Nat) (x53 : Bool) (x54 : Int) (x55 : Int) (x56 : Int) (x57 : Int) (x58 : Int) (x59 : Int) (x60 : Bool) (x61 : Int) (x62 : Int) (x63 : Int) (x64 : Option Addr) (x65 : Nat) (x66 : Nat) (x67 : Int) (x68 : Int) (x69 : Int) (x70 : Int) (x71 : Option Addr) (x72 : Nat) (x73 : Nat) (x74 : Bool) (x75 : Int) (x76 : Int) (x77 : Int) (x78 : Int) (x79 : Int) (x80 : Int) (x81 : Bool) (x82 : Int) (x83 : Int) (x84 : Int) (x85 : Option Addr) (x86 : Nat) (x87 : Nat) (x88 : Int) (x89 : Int) (x90 : Int) (x91 : Int) (x92 : Option Addr) (x93 : Nat) (x94 : Nat) (x95 : Bool) (x96 : Int) (x97 : Int) (x98 : Int) (x99 : Int) (x100 : Int) (x101 : Int) (x102 : Bool) (x103 : Int) (x104 : Int) (x105 : Int) (x106 : Option Addr) (x107 : Nat) (x108 : Nat) (x109 : Int) (x110 : Int) (x111 : Int) (x112 : Int) (x113 : Option Addr) (x114 : Nat) (x115 : Nat) (x116 : Bool) (x117 : Int) (x118 : Int) (x119 : Int) (x120 : Int) (x121 : Int) (x122 : Int) (x123 : Bool) (x124 : Int) (x125 : Int) (x126 : Int) (w : World) : (Instr.build 102 #[(0, .agg [.slice x1 x2 x3, .int .i64 x4, .int .i64 x5, .int .i64 x6, .int .i64 x7, .slice x8 x9 x10, .bool x11, .int .i64 x12, .int .i64 x13, .int .i64 x14, .int .i64 x15, .int .i64 x16, .int .i64 x17, .bool x18, .int .i64 x19, .int .i64 x20, .int .i64 x21].toArray), (1, .agg [.slice x22 x23 x24, .int .i64 x25, .int .i64 x26, .int .i64 x27, .int .i64 x28, .slice x29 x30 x31, .bool x32, .int .i64 x33, .int .i64 x34, .int .i64 x35, .int .i64 x36, .int .i64 x37, .int .i64 x38, .bool x39, .int .i64 x40, .int .i64 x41, .int .i64 x42].toArray), (2, .agg [.slice x43 x44 x45, .int .i64 x46, .int .i64 x47, .int .i64 x48, .int .i64 x49, .slice x50 x51 x52, .bool x53, .int .i64 x54, .int .i64 x55, .int .i64 x56, .int .i64 x57, .int .i64 x58, .int .i64 x59, .bool x60, .int .i64 x61, .int .i64 x62, .int .i64 x63].toArray), (3, .agg [.slice x64 x65 x66, .int .i64 x67, .int .i64 x68, .int .i64 x69, .int .i64 x70, .slice x71 x72 x73, .bool x74, .int .i64 x75, .int .i64 x76, .int .i64 x77, .int .i64 x78, .int .i64 x79, .int .i64 x80, .bool x81, .int .i64 x82, .int .i64 x83, .int .i64 x84].toArray), (4, .agg [.slice x85 x86 x87, .int .i64 x88, .int .i64 x89, .int .i64 x90, .int .i64 x91, .slice x92 x93 x94, .bool x95, .int .i64 x96, .int .i64 x97, .int .i64 x98, .int .i64 x99, .int .i64 x100, .int .i64 x101, .bool x102, .int .i64 x103, .int .i64 x104, .int .i64 x105].toArray), (5, .agg [.slice x106 x107 x108, .int .i64 x109, .int .i64 x110, .int .i64 x111, .int .i64 x112, .slice x113 x114 x115, .bool x116, .int .i64 x117, .int .i64 x118, .int .i64 x119, .int .i64 x120, .int .i64 x121, .int .i64 x122, .bool x123, .int .i64 x124, .int .i64 x125, .int .i64 x126].toArray)]).run Try.prog w = .ok (.agg [.slice x1 x2 x3, .int .i64 x4, .int .i64 x5, .int .i64 x6, .int .i64 x7, .slice x8 x9 x10, .bool x11, .int .i64 x12, .int .i64 x13, .int .i64 x14, .int .i64 x15, .int .i64 x16, .int .i64 x17, .bool x18, .int .i64 x19, .int .i64 x20, .int .i64 x21, .slice x22 x23 x24, .int .i64 x25, .int .i64 x26, .int .i64 x27, .int .i64 x28, .slice x29 x30 x31, .bool x32, .int .i64 x33, .int .i64 x34, .int .i64 x35, .int .i64 x36, .int .i64 x37, .int .i64 x38, .bool x39, .int .i64 x40, .int .i64 x41, .int .i64 x42, .slice x43 x44 x45, .int .i64 x46, .int .i64 x47, .int .i64 x48, .int .i64 x49, .slice x50 x51 x52, .bool x53, .int .i64 x54, .int .i64 x55, .int .i64 x56, .int .i64 x57, .int .i64 x58, .int .i64 x59, .bool x60, .int .i64 x61, .int .i64 x62, .int .i64 x63, .slice x64 x65 x66, .int .i64 x67, .int .i64 x68, .int .i64 x69, .int .i64 x70, .slice x71 x72 x73, .bool x74, .int .i64 x75, .int .i64 x76, .int .i64 x77, .int .i64 x78, .int .i64 x79, .int .i64 x80, .bool x81, .int .i64 x82, .int .i64 x83, .int .i64 x84, .slice x85 x86 x87, .int .i64 x88, .int .i64 x89, .int .i64 x90, .int .i64 x91, .slice x92 x93 x94, .bool x95, .int .i64 x96, .int .i64 x97, .int .i64 x98, .int .i64 x99, .int .i64 x100, .int .i64 x101, .bool x102, .int .i64 x103, .int .i64 x104, .int .i64 x105, .slice x106 x107 x108, .int .i64 x109, .int .i64 x110, .int .i64 x111, .int .i64 x112, .slice x113 x114 x115, .bool x116, .int .i64 x117, .int .i64 x118, .int .i64 x119, .int .i64 x120, .int .i64 x121, .int .i64 x122, .bool x123, .int .i64 x124, .int .i64 x125, .int .i64 x126].toArray) w := by kernel_rfl
theorem z102 : ZeroOf Try.prog 102 [.slice none 0 0, .int .i64 0, .int .i64 0, .int .i64 0, .int .i64 0, .slice none 0 0, .bool false, .int .i64 0, .int .i64 0, .int .i64 0, .int .i64 0, .int .i64 0, .int .i64 0, .bool false, .int .i64 0, .int .i64 0, .int .i64 0, .slice none 0 0, .int .i64 0, .int .i64 0, .int .i64 0, .int .i64 0, .slice none 0 0, .bool false, .int .i64 0, .int .i64 0, .int .i64 0, .int .i64 0, .int .i64 0, .int .i64 0, .bool false, .int .i64 0, .int .i64 0, .int .i64 0, .slice none 0 0, .int .i64 0, .int .i64 0, .int .i64 0, .int .i64 0, .slice none 0 0, .bool false, .int .i64 0, .int .i64 0, .int .i64 0, .int .i64 0, .int .i64 0, .int .i64 0, .bool false, .int .i64 0, .int .i64 0, .int .i64 0, .slice none 0 0, .int .i64 0, .int .i64 0, .int .i64 0, .int .i64 0, .slice none 0 0, .bool false, .int .i64 0, .int .i64 0, .int .i64 0, .int .i64 0, .int .i64 0, .int .i64 0, .bool false, .int .i64 0, .int .i64 0, .int .i64 0, .slice none 0 0, .int .i64 0, .int .i64 0, .int .i64 0, .int .i64 0, .slice none 0 0, .bool false, .int .i64 0, .int .i64 0, .int .i64 0, .int .i64 0, .int .i64 0, .int .i64 0, .bool false, .int .i64 0, .int .i64 0, .int .i64 0, .slice none 0 0, .int .i64 0, .int .i64 0, .int .i64 0, .int .i64 0, .slice none 0 0, .bool false, .int .i64 0, .int .i64 0, .int .i64 0, .int .i64 0, .int .i64 0, .int .i64 0, .bool false, .int .i64 0, .int .i64 0, .int .i64 0] := ⟨fun w => ⟨_, Try.zeroValue102 w, rfl⟩⟩
theorem tN102 : TAgg Try.prog 102 102 := ⟨Try.isAgg102, Try.sizeOf102⟩
theorem ar102 : ArrayOf Try.prog 102 6 68 17 := ⟨Try.underlying102, Try.sizeOf68⟩
theorem fld68_1 : FieldAt Try.prog 68 1 3 4 := ⟨fun cs w => by simp [Instr.field, Try.runUnderlying68, asAgg], fun a w => by simp [Instr.fieldAt, Try.runUnderlying68, Instr.sureAddr, fieldPlace, Try.sizeOf3]⟩
theorem bsl66_0_  (w : World) : (Instr.buildSlice 66 0 #[]).run Try.prog w = .ok (.slice (some ⟨w.heap.size, 0, none⟩) 0 0) (w.alloc (.cells [].toArray 73)) := by kernel_rfl
theorem fld73_1 : FieldAt Try.prog 73 1 27 1 := ⟨fun cs w => by simp [Instr.field, Try.runUnderlying73, asAgg], fun a w => by simp [Instr.fieldAt, Try.runUnderlying73, Instr.sureAddr, fieldPlace, Try.sizeOf27]⟩
theorem t1_27 : TOne Try.prog 27 := ⟨Try.isAgg27, Try.sizeOf27⟩
theorem bld57_0_1 (x1 : Int) (x2 : Int) (x3 : Int) (x4 : Int) (x5 : Int) (x6 : Int) (w : World) : (Instr.build 57 #[(0, .agg [.int .i64 x1, .int .i64 x2, .int .i64 x3, .int .i64 x4, .int .i64 x5].toArray), (1, .int .i64 x6)]).run Try.prog w = .ok (.agg [.int .i64 x1, .int .i64 x2, .int .i64 x3, .int .i64 x4, .int .i64 x5, .int .i64 x6, .bool false].toArray) w := by kernel_rfl
theorem ap27 : AppT Try.prog 27 57 7 56 := ⟨Try.underlying27, by
  obtain ⟨i, h1, h2, h3, h4⟩ := info_parts (P := Try.prog) (e := 57) (z := .agg [.int .i64 0, .int .i64 0, .int .i64 0, .int .i64 0, .int .i64 0, .int .i64 0, .bool false].toArray) (size := 7) (bytes := 56) (by kernel_rfl)
  exact ⟨i, _, h1, h2, h3, h4, by rfl⟩, by decide⟩
theorem hb49 : HasBody Try.prog 49 := ⟨Try.call49, by kernel_rfl⟩
theorem hb50 : HasBody Try.prog 50 := ⟨Try.call50, by kernel_rfl⟩
theorem hb51 : HasBody Try.prog 51 := ⟨Try.call51, by kernel_rfl⟩
theorem bld103_0_1_2 (x1 : Fn) (x2 : Array Value) (x3 : Array Value) (x4 : Fn) (x5 : Array Value) (x6 : Array Value) (x7 : Fn) (x8 : Array Value) (x9 : Array Value) (w : World) : (Instr.build 103 #[(0, .func x1 x2 x3), (1, .func x4 x5 x6), (2, .func x7 x8 x9)]).run Try.prog w = .ok (.agg [.func x1 x2 x3, .func x4 x5 x6, .func x7 x8 x9].toArray) w := by kernel_rfl
theorem z103 : ZeroOf Try.prog 103 [.nilFunc, .nilFunc, .nilFunc] := ⟨fun w => ⟨_, Try.zeroValue103 w, rfl⟩⟩
theorem tN103 : TAgg Try.prog 103 3 := ⟨Try.isAgg103, Try.sizeOf103⟩
theorem ar103 : ArrayOf Try.prog 103 3 28 1 := ⟨Try.underlying103, Try.sizeOf28⟩
theorem t1_28 : TOne Try.prog 28 := ⟨Try.isAgg28, Try.sizeOf28⟩
theorem hb53 : HasBody Try.prog 53 := ⟨Try.call53, by kernel_rfl⟩
theorem hb56 : HasBody Try.prog 56 := ⟨Try.call56, by kernel_rfl⟩
theorem bld107_0_1 (x1 : Option Addr) (x2 : Nat) (x3 : Nat) (x4 : Int) (x5 : Int) (x6 : Int) (x7 : Option Addr) (x8 : Nat) (x9 : Nat) (w : World) : (Instr.build 107 #[(0, .agg [.slice x1 x2 x3, .int .i64 x4, .int .i64 x5, .int .i64 x6].toArray), (1, .slice x7 x8 x9)]).run Try.prog w = .ok (.agg [.slice x1 x2 x3, .int .i64 x4, .int .i64 x5, .int .i64 x6, .slice x7 x8 x9].toArray) w := by kernel_rfl
theorem z107 : ZeroOf Try.prog 107 [.slice none 0 0, .int .i64 0, .int .i64 0, .int .i64 0, .slice none 0 0] := ⟨fun w => ⟨_, Try.zeroValue107 w, rfl⟩⟩
theorem tN107 : TAgg Try.prog 107 5 := ⟨Try.isAgg107, Try.sizeOf107⟩
theorem hb57 : HasBody Try.prog 57 := ⟨Try.call57, by kernel_rfl⟩
theorem hb58 : HasBody Try.prog 58 := ⟨Try.call58, by kernel_rfl⟩
theorem z3 : ZeroOf Try.prog 3 [.int .i64 0] := ⟨fun w => ⟨_, Try.zeroValue3 w, rfl⟩⟩
theorem hb59 : HasBody Try.prog 59 := ⟨Try.call59, by kernel_rfl⟩
theorem hb63 : HasBody Try.prog 63 := ⟨Try.call63, by kernel_rfl⟩
theorem hb62 : HasBody Try.prog 62 := ⟨Try.call62, by kernel_rfl⟩
theorem hb67 : HasBody Try.prog 67 := ⟨Try.call67, by kernel_rfl⟩
theorem mk27 : MakeT Try.prog 27 57 56 [.int .i64 0, .int .i64 0, .int .i64 0, .int .i64 0, .int .i64 0, .int .i64 0, .bool false] := ⟨Try.underlying27, by
  obtain ⟨i, h1, h2, h3, h4⟩ := info_parts (P := Try.prog) (e := 57) (z := .agg [.int .i64 0, .int .i64 0, .int .i64 0, .int .i64 0, .int .i64 0, .int .i64 0, .bool false].toArray) (size := 7) (bytes := 56) (by kernel_rfl)
  exact ⟨i, _, h1, h2, h3, h4, rfl⟩⟩
theorem bld89_0_1 (x1 : Int) (x2 : Int) (x3 : Int) (x4 : Int) (x5 : Int) (x6 : Int) (w : World) : (Instr.build 89 #[(0, .int .i64 x1), (1, .agg [.int .i64 x2, .int .i64 x3, .int .i64 x4, .int .i64 x5, .int .i64 x6].toArray)]).run Try.prog w = .ok (.agg [.int .i64 x1, .int .i64 x2, .int .i64 x3, .int .i64 x4, .int .i64 x5, .int .i64 x6].toArray) w := by kernel_rfl
theorem bsl78_2_0_1 (x1 : Int) (x2 : Int) (x3 : Int) (x4 : Int) (x5 : Int) (x6 : Int) (x7 : Int) (x8 : Int) (x9 : Int) (x10 : Int) (x11 : Int) (x12 : Int) (w : World) : (Instr.buildSlice 78 2 #[(0, .agg [.int .i64 x1, .int .i64 x2, .int .i64 x3, .int .i64 x4, .int .i64 x5, .int .i64 x6].toArray), (1, .agg [.int .i64 x7, .int .i64 x8, .int .i64 x9, .int .i64 x10, .int .i64 x11, .int .i64 x12].toArray)]).run Try.prog w = .ok (.slice (some ⟨w.heap.size, 0, none⟩) 2 2) (w.alloc (.cells [.int .i64 x1, .int .i64 x2, .int .i64 x3, .int .i64 x4, .int .i64 x5, .int .i64 x6, .int .i64 x7, .int .i64 x8, .int .i64 x9, .int .i64 x10, .int .i64 x11, .int .i64 x12].toArray 89)) := by kernel_rfl
theorem bld88_0_1 (x1 : Int) (x2 : Int) (x3 : Int) (x4 : Int) (x5 : Int) (x6 : Int) (w : World) : (Instr.build 88 #[(0, .int .i64 x1), (1, .agg [.int .i64 x2, .int .i64 x3, .int .i64 x4, .int .i64 x5, .int .i64 x6].toArray)]).run Try.prog w = .ok (.agg [.int .i64 x1, .int .i64 x2, .int .i64 x3, .int .i64 x4, .int .i64 x5, .int .i64 x6].toArray) w := by kernel_rfl
theorem bsl83_2_0_1 (x1 : Int) (x2 : Int) (x3 : Int) (x4 : Int) (x5 : Int) (x6 : Int) (x7 : Int) (x8 : Int) (x9 : Int) (x10 : Int) (x11 : Int) (x12 : Int) (w : World) : (Instr.buildSlice 83 2 #[(0, .agg [.int .i64 x1, .int .i64 x2, .int .i64 x3, .int .i64 x4, .int .i64 x5, .int .i64 x6].toArray), (1, .agg [.int .i64 x7, .int .i64 x8, .int .i64 x9, .int .i64 x10, .int .i64 x11, .int .i64 x12].toArray)]).run Try.prog w = .ok (.slice (some ⟨w.heap.size, 0, none⟩) 2 2) (w.alloc (.cells [.int .i64 x1, .int .i64 x2, .int .i64 x3, .int .i64 x4, .int .i64 x5, .int .i64 x6, .int .i64 x7, .int .i64 x8, .int .i64 x9, .int .i64 x10, .int .i64 x11, .int .i64 x12].toArray 88)) := by kernel_rfl
theorem hb68 : HasBody Try.prog 68 := ⟨Try.call68, by kernel_rfl⟩
theorem bld68_  (w : World) : (Instr.build 68 #[]).run Try.prog w = .ok (.agg [.slice none 0 0, .int .i64 0, .int .i64 0, .int .i64 0, .int .i64 0, .slice none 0 0, .bool false, .int .i64 0, .int .i64 0, .int .i64 0, .int .i64 0, .int .i64 0, .int .i64 0, .bool false, .int .i64 0, .int .i64 0, .int .i64 0].toArray) w := by kernel_rfl
theorem hb69 : HasBody Try.prog 69 := ⟨Try.call69, by kernel_rfl⟩
theorem z73 : ZeroOf Try.prog 73 [.int .i64 0, .slice none 0 0] := ⟨fun w => ⟨_, Try.zeroValue73 w, rfl⟩⟩
theorem tN73 : TAgg Try.prog 73 2 := ⟨Try.isAgg73, Try.sizeOf73⟩
theorem bld125_0 (x1 : Option Addr) (x2 : Nat) (x3 : Nat) (x4 : Int) (x5 : Int) (x6 : Int) (x7 : Int) (x8 : Option Addr) (x9 : Nat) (x10 : Nat) (x11 : Bool) (x12 : Int) (x13 : Int) (x14 : Int) (x15 : Int) (x16 : Int) (x17 : Int) (x18 : Bool) (x19 : Int) (x20 : Int) (x21 : Int) (w : World) : (Instr.build 125 #[(0, .agg [.slice x1 x2 x3, .int .i64 x4, .int .i64 x5, .int .i64 x6, .int .i64 x7, .slice x8 x9 x10, .bool x11, .int .i64 x12, .int .i64 x13, .int .i64 x14, .int .i64 x15, .int .i64 x16, .int .i64 x17, .bool x18, .int .i64 x19, .int .i64 x20, .int .i64 x21].toArray)]).run Try.prog w = .ok (.agg [.slice x1 x2 x3, .int .i64 x4, .int .i64 x5, .int .i64 x6, .int .i64 x7, .slice x8 x9 x10, .bool x11, .int .i64 x12, .int .i64 x13, .int .i64 x14, .int .i64 x15, .int .i64 x16, .int .i64 x17, .bool x18, .int .i64 x19, .int .i64 x20, .int .i64 x21, .slice none 0 0].toArray) w := by kernel_rfl
theorem hb71 : HasBody Try.prog 71 := ⟨Try.call71, by kernel_rfl⟩
theorem hb72 : HasBody Try.prog 72 := ⟨Try.call72, by kernel_rfl⟩
theorem hb73 : HasBody Try.prog 73 := ⟨Try.call73, by kernel_rfl⟩
theorem hb75 : HasBody Try.prog 75 := ⟨Try.call75, by kernel_rfl⟩
theorem hb74 : HasBody Try.prog 74 := ⟨Try.call74, by kernel_rfl⟩
theorem hb76 : HasBody Try.prog 76 := ⟨Try.call76, by kernel_rfl⟩
theorem bsl65_8_0_1_2_3_4_5_6_7 (x1 : Int) (x2 : Int) (x3 : Int) (x4 : Int) (x5 : Int) (x6 : Int) (x7 : Int) (x8 : Int) (w : World) : (Instr.buildSlice 65 8 #[(0, .int .i64 x1), (1, .int .i64 x2), (2, .int .i64 x3), (3, .int .i64 x4), (4, .int .i64 x5), (5, .int .i64 x6), (6, .int .i64 x7), (7, .int .i64 x8)]).run Try.prog w = .ok (.slice (some ⟨w.heap.size, 0, none⟩) 8 8) (w.alloc (.cells [.int .i64 x1, .int .i64 x2, .int .i64 x3, .int .i64 x4, .int .i64 x5, .int .i64 x6, .int .i64 x7, .int .i64 x8].toArray 3)) := by kernel_rfl
theorem tN89 : TAgg Try.prog 89 6 := ⟨Try.isAgg89, Try.sizeOf89⟩
theorem z89 : ZeroOf Try.prog 89 [.int .i64 0, .int .i64 0, .int .i64 0, .int .i64 0, .int .i64 0, .int .i64 0] := ⟨fun w => ⟨_, Try.zeroValue89 w, rfl⟩⟩
theorem hb77 : HasBody Try.prog 77 := ⟨Try.call77, by kernel_rfl⟩
theorem z123 : ZeroOf Try.prog 123 [.pointer none] := ⟨fun w => ⟨_, Try.zeroValue123 w, rfl⟩⟩
theorem t1_123 : TOne Try.prog 123 := ⟨Try.isAgg123, Try.sizeOf123⟩
theorem hb78 : HasBody Try.prog 78 := ⟨Try.call78, by kernel_rfl⟩
theorem fld125_0 : FieldAt Try.prog 125 0 68 0 := ⟨fun cs w => by simp [Instr.field, Try.runUnderlying125, asAgg], fun a w => by simp [Instr.fieldAt, Try.runUnderlying125, Instr.sureAddr, fieldPlace, Try.sizeOf68]⟩
theorem hb79 : HasBody Try.prog 79 := ⟨Try.call79, by kernel_rfl⟩
theorem hb80 : HasBody Try.prog 80 := ⟨Try.call80, by kernel_rfl⟩
theorem hb81 : HasBody Try.prog 81 := ⟨Try.call81, by kernel_rfl⟩
theorem fld125_1 : FieldAt Try.prog 125 1 83 17 := ⟨fun cs w => by simp [Instr.field, Try.runUnderlying125, asAgg], fun a w => by simp [Instr.fieldAt, Try.runUnderlying125, Instr.sureAddr, fieldPlace, Try.sizeOf83]⟩
theorem t1_83 : TOne Try.prog 83 := ⟨Try.isAgg83, Try.sizeOf83⟩
theorem hb82 : HasBody Try.prog 82 := ⟨Try.call82, by kernel_rfl⟩
theorem bld55_  (w : World) : (Instr.build 55 #[]).run Try.prog w = .ok (.agg [.int .i64 0, .int .i64 0, .int .i64 0, .int .i64 0, .int .i64 0].toArray) w := by kernel_rfl
theorem hb83 : HasBody Try.prog 83 := ⟨Try.call83, by kernel_rfl⟩
theorem hb84 : HasBody Try.prog 84 := ⟨Try.call84, by kernel_rfl⟩
theorem hb85 : HasBody Try.prog 85 := ⟨Try.call85, by kernel_rfl⟩
theorem hb87 : HasBody Try.prog 87 := ⟨Try.call87, by kernel_rfl⟩
theorem hb88 : HasBody Try.prog 88 := ⟨Try.call88, by kernel_rfl⟩
theorem fld107_1 : FieldAt Try.prog 107 1 27 4 := ⟨fun cs w => by simp [Instr.field, Try.runUnderlying107, asAgg], fun a w => by simp [Instr.fieldAt, Try.runUnderlying107, Instr.sureAddr, fieldPlace, Try.sizeOf27]⟩
theorem fld107_0 : FieldAt Try.prog 107 0 26 0 := ⟨fun cs w => by simp [Instr.field, Try.runUnderlying107, asAgg], fun a w => by simp [Instr.fieldAt, Try.runUnderlying107, Instr.sureAddr, fieldPlace, Try.sizeOf26]⟩
theorem hb65 : HasBody Try.prog 65 := ⟨Try.call65, by kernel_rfl⟩
theorem hb90 : HasBody Try.prog 90 := ⟨Try.call90, by kernel_rfl⟩
theorem z31 : ZeroOf Try.prog 31 [.int .i64 0] := ⟨fun w => ⟨_, Try.zeroValue31 w, rfl⟩⟩
theorem t1_31 : TOne Try.prog 31 := ⟨Try.isAgg31, Try.sizeOf31⟩
theorem t1_118 : TOne Try.prog 118 := ⟨Try.isAgg118, Try.sizeOf118⟩
theorem hb64 : HasBody Try.prog 64 := ⟨Try.call64, by kernel_rfl⟩
theorem hb93 : HasBody Try.prog 93 := ⟨Try.call93, by kernel_rfl⟩
theorem hb92 : HasBody Try.prog 92 := ⟨Try.call92, by kernel_rfl⟩
theorem eqi88 (d : Nat) (x1 : Int) (x2 : Int) (x3 : Int) (x4 : Int) (x5 : Int) (x6 : Int) (x1001 : Int) (x1002 : Int) (x1003 : Int) (x1004 : Int) (x1005 : Int) (x1006 : Int) (w : World) : (Op.equalIn (d + 3) 88 (.agg [.int .i64 x1, .int .i64 x2, .int .i64 x3, .int .i64 x4, .int .i64 x5, .int .i64 x6].toArray) (.agg [.int .i64 x1001, .int .i64 x1002, .int .i64 x1003, .int .i64 x1004, .int .i64 x1005, .int .i64 x1006].toArray)).run Try.prog w = .ok ((x1 == x1001) && ((x2 == x1002) && ((x3 == x1003) && ((x4 == x1004) && ((x5 == x1005) && (x6 == x1006)))))) w :=
  run_eqStruct (plan := [(3, 0, false), (55, 1, false)]) (by kernel_rfl) (by kernel_rfl) (by kernel_rfl) (.cons (by kernel_rfl) (by kernel_rfl) (eqi3 _ _ _ w) (.last (by kernel_rfl) (by kernel_rfl) (eqi55 _ _ _ _ _ _ _ _ _ _ _ w)))
theorem eqg88 : Try.prog.eqGuardType Try.prog.depth 88 = false := by kernel_rfl
theorem eq88 (x1 : Int) (x2 : Int) (x3 : Int) (x4 : Int) (x5 : Int) (x6 : Int) (x1001 : Int) (x1002 : Int) (x1003 : Int) (x1004 : Int) (x1005 : Int) (x1006 : Int) (w : World) : (Op.equal 88 (.agg [.int .i64 x1, .int .i64 x2, .int .i64 x3, .int .i64 x4, .int .i64 x5, .int .i64 x6].toArray) (.agg [.int .i64 x1001, .int .i64 x1002, .int .i64 x1003, .int .i64 x1004, .int .i64 x1005, .int .i64 x1006].toArray)).run Try.prog w = .ok ((x1 == x1001) && ((x2 == x1002) && ((x3 == x1003) && ((x4 == x1004) && ((x5 == x1005) && (x6 == x1006)))))) w := eqi88 9997 x1 x2 x3 x4 x5 x6 x1001 x1002 x1003 x1004 x1005 x1006 w
theorem bld73_  (w : World) : (Instr.build 73 #[]).run Try.prog w = .ok (.agg [.int .i64 0, .slice none 0 0].toArray) w := by kernel_rfl
theorem bld151_0 (x1 : Int) (x2 : Option Addr) (x3 : Nat) (x4 : Nat) (w : World) : (Instr.build 151 #[(0, .agg [.int .i64 x1, .slice x2 x3 x4].toArray)]).run Try.prog w = .ok (.agg [.int .i64 x1, .slice x2 x3 x4].toArray) w := by kernel_rfl
theorem z151 : ZeroOf Try.prog 151 [.int .i64 0, .slice none 0 0] := ⟨fun w => ⟨_, Try.zeroValue151 w, rfl⟩⟩
theorem tN151 : TAgg Try.prog 151 2 := ⟨Try.isAgg151, Try.sizeOf151⟩
theorem hb97 : HasBody Try.prog 97 := ⟨Try.call97, by kernel_rfl⟩
theorem fld73_0 : FieldAt Try.prog 73 0 3 0 := ⟨fun cs w => by simp [Instr.field, Try.runUnderlying73, asAgg], fun a w => by simp [Instr.fieldAt, Try.runUnderlying73, Instr.sureAddr, fieldPlace, Try.sizeOf3]⟩
theorem hb98 : HasBody Try.prog 98 := ⟨Try.call98, by kernel_rfl⟩
theorem hb99 : HasBody Try.prog 99 := ⟨Try.call99, by kernel_rfl⟩
theorem fld55_0 : FieldAt Try.prog 55 0 3 0 := ⟨fun cs w => by simp [Instr.field, Try.runUnderlying55, asAgg], fun a w => by simp [Instr.fieldAt, Try.runUnderlying55, Instr.sureAddr, fieldPlace, Try.sizeOf3]⟩
theorem fld55_4 : FieldAt Try.prog 55 4 3 4 := ⟨fun cs w => by simp [Instr.field, Try.runUnderlying55, asAgg], fun a w => by simp [Instr.fieldAt, Try.runUnderlying55, Instr.sureAddr, fieldPlace, Try.sizeOf3]⟩
theorem hb100 : HasBody Try.prog 100 := ⟨Try.call100, by kernel_rfl⟩
theorem bsl83_1_0 (x1 : Int) (x2 : Int) (x3 : Int) (x4 : Int) (x5 : Int) (x6 : Int) (w : World) : (Instr.buildSlice 83 1 #[(0, .agg [.int .i64 x1, .int .i64 x2, .int .i64 x3, .int .i64 x4, .int .i64 x5, .int .i64 x6].toArray)]).run Try.prog w = .ok (.slice (some ⟨w.heap.size, 0, none⟩) 1 1) (w.alloc (.cells [.int .i64 x1, .int .i64 x2, .int .i64 x3, .int .i64 x4, .int .i64 x5, .int .i64 x6].toArray 88)) := by kernel_rfl
theorem ap83 : AppT Try.prog 83 88 6 48 := ⟨Try.underlying83, by
  obtain ⟨i, h1, h2, h3, h4⟩ := info_parts (P := Try.prog) (e := 88) (z := .agg [.int .i64 0, .int .i64 0, .int .i64 0, .int .i64 0, .int .i64 0, .int .i64 0].toArray) (size := 6) (bytes := 48) (by kernel_rfl)
  exact ⟨i, _, h1, h2, h3, h4, by rfl⟩, by decide⟩
theorem hb102 : HasBody Try.prog 102 := ⟨Try.call102, by kernel_rfl⟩
theorem hb101 : HasBody Try.prog 101 := ⟨Try.call101, by kernel_rfl⟩
theorem z4 : ZeroOf Try.prog 4 [.bool false] := ⟨fun w => ⟨_, Try.zeroValue4 w, rfl⟩⟩
theorem hb104 : HasBody Try.prog 104 := ⟨Try.call104, by kernel_rfl⟩
theorem bld161_0_1 (x1 : Fn) (x2 : Array Value) (x3 : Array Value) (x4 : Fn) (x5 : Array Value) (x6 : Array Value) (w : World) : (Instr.build 161 #[(0, .func x1 x2 x3), (1, .func x4 x5 x6)]).run Try.prog w = .ok (.agg [.func x1 x2 x3, .func x4 x5 x6].toArray) w := by kernel_rfl
theorem ar161 : ArrayOf Try.prog 161 2 160 1 := ⟨Try.underlying161, Try.sizeOf160⟩
theorem t1_160 : TOne Try.prog 160 := ⟨Try.isAgg160, Try.sizeOf160⟩
theorem hb108 : HasBody Try.prog 108 := ⟨Try.call108, by kernel_rfl⟩
theorem hb109 : HasBody Try.prog 109 := ⟨Try.call109, by kernel_rfl⟩
theorem hb112 : HasBody Try.prog 112 := ⟨Try.call112, by kernel_rfl⟩
theorem hb114 : HasBody Try.prog 114 := ⟨Try.call114, by kernel_rfl⟩
theorem hb115 : HasBody Try.prog 115 := ⟨Try.call115, by kernel_rfl⟩
theorem t1_78 : TOne Try.prog 78 := ⟨Try.isAgg78, Try.sizeOf78⟩
theorem mk66 : MakeT Try.prog 66 73 32 [.int .i64 0, .slice none 0 0] := ⟨Try.underlying66, by
  obtain ⟨i, h1, h2, h3, h4⟩ := info_parts (P := Try.prog) (e := 73) (z := .agg [.int .i64 0, .slice none 0 0].toArray) (size := 2) (bytes := 32) (by kernel_rfl)
  exact ⟨i, _, h1, h2, h3, h4, rfl⟩⟩
theorem hb103 : HasBody Try.prog 103 := ⟨Try.call103, by kernel_rfl⟩
theorem hb105 : HasBody Try.prog 105 := ⟨Try.call105, by kernel_rfl⟩
theorem hb106 : HasBody Try.prog 106 := ⟨Try.call106, by kernel_rfl⟩
theorem hb107 : HasBody Try.prog 107 := ⟨Try.call107, by kernel_rfl⟩
theorem hb117 : HasBody Try.prog 117 := ⟨Try.call117, by kernel_rfl⟩
theorem hb120 : HasBody Try.prog 120 := ⟨Try.call120, by kernel_rfl⟩
theorem t1_169 : TOne Try.prog 169 := ⟨Try.isAgg169, Try.sizeOf169⟩
theorem hb116 : HasBody Try.prog 116 := ⟨Try.call116, by kernel_rfl⟩
theorem hb118 : HasBody Try.prog 118 := ⟨Try.call118, by kernel_rfl⟩
theorem fld151_0 : FieldAt Try.prog 151 0 73 0 := ⟨fun cs w => by simp [Instr.field, Try.runUnderlying151, asAgg], fun a w => by simp [Instr.fieldAt, Try.runUnderlying151, Instr.sureAddr, fieldPlace, Try.sizeOf73]⟩
end Go.Proofs.Cp
