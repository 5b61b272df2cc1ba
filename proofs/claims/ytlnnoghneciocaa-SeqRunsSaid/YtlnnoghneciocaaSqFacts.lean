/-
  Facts on the types and functions of this translation.
-/
import Derived.Test.YtlnnoghneciocaaEng17
import Derived.Test.YtlnnoghneciocaaProg
namespace Go.Proofs.Sq
open Go Go.Eng
theorem mixed : Try.prog.follows .mixedOrders = true := by kernel_rfl
theorem hb3 : HasBody Try.prog 3 := ⟨Try.call3, by kernel_rfl⟩
theorem hb9 : HasBody Try.prog 9 := ⟨Try.call9, by kernel_rfl⟩
theorem hb10 : HasBody Try.prog 10 := ⟨Try.call10, by kernel_rfl⟩
theorem hb11 : HasBody Try.prog 11 := ⟨Try.call11, by kernel_rfl⟩
theorem hb12 : HasBody Try.prog 12 := ⟨Try.call12, by kernel_rfl⟩
theorem hb13 : HasBody Try.prog 13 := ⟨Try.call13, by kernel_rfl⟩
theorem hb14 : HasBody Try.prog 14 := ⟨Try.call14, by kernel_rfl⟩
theorem hb4 : HasBody Try.prog 4 := ⟨Try.call4, by kernel_rfl⟩
theorem sl32 : SliceOf Try.prog 32 38 1 := ⟨Try.underlying32, Try.sizeOf38⟩
theorem tN31 : TAgg Try.prog 31 5 := ⟨Try.isAgg31, Try.sizeOf31⟩
theorem z31 : ZeroOf Try.prog 31 [.int .i64 0, .int .i64 0, .int .i64 0, .int .i64 0, .int .i64 0] := ⟨fun w => ⟨_, Try.zeroValue31 w, rfl⟩⟩
theorem fld31_0 : FieldAt Try.prog 31 0 3 0 := ⟨fun cs w => by simp [Instr.field, Try.runUnderlying31, asAgg], fun a w => by simp [Instr.fieldAt, Try.runUnderlying31, Instr.sureAddr, fieldPlace, Try.sizeOf3]⟩
theorem t1_3 : TOne Try.prog 3 := ⟨Try.isAgg3, Try.sizeOf3⟩
theorem fld31_1 : FieldAt Try.prog 31 1 3 1 := ⟨fun cs w => by simp [Instr.field, Try.runUnderlying31, asAgg], fun a w => by simp [Instr.fieldAt, Try.runUnderlying31, Instr.sureAddr, fieldPlace, Try.sizeOf3]⟩
theorem bld33_0_1 (x1 : Int) (x2 : Int) (x3 : Int) (x4 : Int) (x5 : Int) (x6 : Int) (x7 : Int) (x8 : Int) (x9 : Int) (x10 : Int) (w : World) : (Instr.build 33 #[(0, .agg [.int .i64 x1, .int .i64 x2, .int .i64 x3, .int .i64 x4, .int .i64 x5].toArray), (1, .agg [.int .i64 x6, .int .i64 x7, .int .i64 x8, .int .i64 x9, .int .i64 x10].toArray)]).run Try.prog w = .ok (.agg [.int .i64 x1, .int .i64 x2, .int .i64 x3, .int .i64 x4, .int .i64 x5, .int .i64 x6, .int .i64 x7, .int .i64 x8, .int .i64 x9, .int .i64 x10].toArray) w := by kernel_rfl
theorem ar33 : ArrayOf Try.prog 33 2 31 5 := ⟨Try.underlying33, Try.sizeOf31⟩
theorem hb15 : HasBody Try.prog 15 := ⟨Try.call15, by kernel_rfl⟩
theorem sl34 : SliceOf Try.prog 34 40 6 := ⟨Try.underlying34, Try.sizeOf40⟩
theorem tN40 : TAgg Try.prog 40 6 := ⟨Try.isAgg40, Try.sizeOf40⟩
theorem z40 : ZeroOf Try.prog 40 [.int .i64 0, .int .i64 0, .int .i64 0, .int .i64 0, .int .i64 0, .slice none 0 0] := ⟨fun w => ⟨_, Try.zeroValue40 w, rfl⟩⟩
theorem fld40_0 : FieldAt Try.prog 40 0 31 0 := ⟨fun cs w => by simp [Instr.field, Try.runUnderlying40, asAgg], fun a w => by simp [Instr.fieldAt, Try.runUnderlying40, Instr.sureAddr, fieldPlace, Try.sizeOf31]⟩
theorem eqi3 (d : Nat) (a b : Int) (w : World) : (Op.equalIn (d + 1) 3 (.int .i64 a) (.int .i64 b)).run Try.prog w = .ok (a == b) w := run_equalIn_int w d 3 .i64 .i64 a b Try.underlying3
theorem eqi31 (d : Nat) (x1 : Int) (x2 : Int) (x3 : Int) (x4 : Int) (x5 : Int) (x1001 : Int) (x1002 : Int) (x1003 : Int) (x1004 : Int) (x1005 : Int) (w : World) : (Op.equalIn (d + 2) 31 (.agg [.int .i64 x1, .int .i64 x2, .int .i64 x3, .int .i64 x4, .int .i64 x5].toArray) (.agg [.int .i64 x1001, .int .i64 x1002, .int .i64 x1003, .int .i64 x1004, .int .i64 x1005].toArray)).run Try.prog w = .ok ((x1 == x1001) && ((x2 == x1002) && ((x3 == x1003) && ((x4 == x1004) && (x5 == x1005))))) w :=
  run_eqStruct (plan := [(3, 0, false), (3, 1, false), (3, 2, false), (3, 3, false), (3, 4, false)]) (by kernel_rfl) (by kernel_rfl) (by kernel_rfl) (.cons (by kernel_rfl) (by kernel_rfl) (eqi3 _ _ _ w) (.cons (by kernel_rfl) (by kernel_rfl) (eqi3 _ _ _ w) (.cons (by kernel_rfl) (by kernel_rfl) (eqi3 _ _ _ w) (.cons (by kernel_rfl) (by kernel_rfl) (eqi3 _ _ _ w) (.last (by kernel_rfl) (by kernel_rfl) (eqi3 _ _ _ w))))))
theorem eqg31 : Try.prog.eqGuardType Try.prog.depth 31 = false := by kernel_rfl
theorem eq31 (x1 : Int) (x2 : Int) (x3 : Int) (x4 : Int) (x5 : Int) (x1001 : Int) (x1002 : Int) (x1003 : Int) (x1004 : Int) (x1005 : Int) (w : World) : (Op.equal 31 (.agg [.int .i64 x1, .int .i64 x2, .int .i64 x3, .int .i64 x4, .int .i64 x5].toArray) (.agg [.int .i64 x1001, .int .i64 x1002, .int .i64 x1003, .int .i64 x1004, .int .i64 x1005].toArray)).run Try.prog w = .ok ((x1 == x1001) && ((x2 == x1002) && ((x3 == x1003) && ((x4 == x1004) && (x5 == x1005))))) w := eqi31 9998 x1 x2 x3 x4 x5 x1001 x1002 x1003 x1004 x1005 w
theorem fld40_1 : FieldAt Try.prog 40 1 38 5 := ⟨fun cs w => by simp [Instr.field, Try.runUnderlying40, asAgg], fun a w => by simp [Instr.fieldAt, Try.runUnderlying40, Instr.sureAddr, fieldPlace, Try.sizeOf38]⟩
theorem t1_38 : TOne Try.prog 38 := ⟨Try.isAgg38, Try.sizeOf38⟩
theorem hb16 : HasBody Try.prog 16 := ⟨Try.call16, by kernel_rfl⟩
theorem hb5 : HasBody Try.prog 5 := ⟨Try.call5, by kernel_rfl⟩
theorem hb17 : HasBody Try.prog 17 := ⟨Try.call17, by kernel_rfl⟩
theorem sl46 : SliceOf Try.prog 46 50 2 := ⟨Try.underlying46, Try.sizeOf50⟩
theorem tN50 : TAgg Try.prog 50 2 := ⟨Try.isAgg50, Try.sizeOf50⟩
theorem z50 : ZeroOf Try.prog 50 [.int .i64 0, .int .i64 0] := ⟨fun w => ⟨_, Try.zeroValue50 w, rfl⟩⟩
theorem fld50_0 : FieldAt Try.prog 50 0 3 0 := ⟨fun cs w => by simp [Instr.field, Try.runUnderlying50, asAgg], fun a w => by simp [Instr.fieldAt, Try.runUnderlying50, Instr.sureAddr, fieldPlace, Try.sizeOf3]⟩
theorem fld50_1 : FieldAt Try.prog 50 1 3 1 := ⟨fun cs w => by simp [Instr.field, Try.runUnderlying50, asAgg], fun a w => by simp [Instr.fieldAt, Try.runUnderlying50, Instr.sureAddr, fieldPlace, Try.sizeOf3]⟩
theorem sl45 : SliceOf Try.prog 45 5 1 := ⟨Try.underlying45, Try.sizeOf5⟩
theorem t1_5 : TOne Try.prog 5 := ⟨Try.isAgg5, Try.sizeOf5⟩
theorem hb18 : HasBody Try.prog 18 := ⟨Try.call18, by kernel_rfl⟩
theorem hb19 : HasBody Try.prog 19 := ⟨Try.call19, by kernel_rfl⟩
theorem hb6 : HasBody Try.prog 6 := ⟨Try.call6, by kernel_rfl⟩
theorem hb7 : HasBody Try.prog 7 := ⟨Try.call7, by kernel_rfl⟩
theorem bld50_0_1 (x1 : Int) (x2 : Int) (w : World) : (Instr.build 50 #[(0, .int .i64 x1), (1, .int .i64 x2)]).run Try.prog w = .ok (.agg [.int .i64 x1, .int .i64 x2].toArray) w := by kernel_rfl
theorem bsl46_1_0 (x1 : Int) (x2 : Int) (w : World) : (Instr.buildSlice 46 1 #[(0, .agg [.int .i64 x1, .int .i64 x2].toArray)]).run Try.prog w = .ok (.slice (some ⟨w.heap.size, 0, none⟩) 1 1) (w.alloc (.cells [.int .i64 x1, .int .i64 x2].toArray 50)) := by kernel_rfl
theorem ap46 : AppT Try.prog 46 50 2 16 := ⟨Try.underlying46, by
  obtain ⟨i, h1, h2, h3, h4⟩ := info_parts (P := Try.prog) (e := 50) (z := .agg [.int .i64 0, .int .i64 0].toArray) (size := 2) (bytes := 16) (by kernel_rfl)
  exact ⟨i, _, h1, h2, h3, h4, by rfl⟩, by decide⟩
theorem bld50_0 (x1 : Int) (w : World) : (Instr.build 50 #[(0, .int .i64 x1)]).run Try.prog w = .ok (.agg [.int .i64 x1, .int .i64 0].toArray) w := by kernel_rfl
theorem bld31_0_1 (x1 : Int) (x2 : Int) (w : World) : (Instr.build 31 #[(0, .int .i64 x1), (1, .int .i64 x2)]).run Try.prog w = .ok (.agg [.int .i64 x1, .int .i64 x2, .int .i64 0, .int .i64 0, .int .i64 0].toArray) w := by kernel_rfl
theorem bsl38_1_0 (x1 : Int) (w : World) : (Instr.buildSlice 38 1 #[(0, .int .i64 x1)]).run Try.prog w = .ok (.slice (some ⟨w.heap.size, 0, none⟩) 1 1) (w.alloc (.cells [.int .i64 x1].toArray 3)) := by kernel_rfl
theorem bsl32_2_0_1 (x1 : Option Addr) (x2 : Nat) (x3 : Nat) (x4 : Option Addr) (x5 : Nat) (x6 : Nat) (w : World) : (Instr.buildSlice 32 2 #[(0, .slice x1 x2 x3), (1, .slice x4 x5 x6)]).run Try.prog w = .ok (.slice (some ⟨w.heap.size, 0, none⟩) 2 2) (w.alloc (.cells [.slice x1 x2 x3, .slice x4 x5 x6].toArray 38)) := by kernel_rfl
theorem bld31_0 (x1 : Int) (w : World) : (Instr.build 31 #[(0, .int .i64 x1)]).run Try.prog w = .ok (.agg [.int .i64 x1, .int .i64 0, .int .i64 0, .int .i64 0, .int .i64 0].toArray) w := by kernel_rfl
theorem bsl32_1_0 (x1 : Option Addr) (x2 : Nat) (x3 : Nat) (w : World) : (Instr.buildSlice 32 1 #[(0, .slice x1 x2 x3)]).run Try.prog w = .ok (.slice (some ⟨w.heap.size, 0, none⟩) 1 1) (w.alloc (.cells [.slice x1 x2 x3].toArray 38)) := by kernel_rfl
theorem sl38 : SliceOf Try.prog 38 3 1 := ⟨Try.underlying38, Try.sizeOf3⟩
theorem hb8 : HasBody Try.prog 8 := ⟨Try.call8, by kernel_rfl⟩
theorem hb20 : HasBody Try.prog 20 := ⟨Try.call20, by kernel_rfl⟩
theorem bld58_0_1_2 (x1 : Option Addr) (x2 : Nat) (x3 : Nat) (x4 : Option Addr) (x5 : Nat) (x6 : Nat) (x7 : Option Addr) (x8 : Nat) (x9 : Nat) (w : World) : (Instr.build 58 #[(0, .slice x1 x2 x3), (1, .slice x4 x5 x6), (2, .slice x7 x8 x9)]).run Try.prog w = .ok (.agg [.slice x1 x2 x3, .slice x4 x5 x6, .slice x7 x8 x9].toArray) w := by kernel_rfl
theorem ar58 : ArrayOf Try.prog 58 3 46 1 := ⟨Try.underlying58, Try.sizeOf46⟩
theorem t1_46 : TOne Try.prog 46 := ⟨Try.isAgg46, Try.sizeOf46⟩
theorem hb21 : HasBody Try.prog 21 := ⟨Try.call21, by kernel_rfl⟩
theorem bld60_0_1_2 (x1 : Int) (x2 : Int) (x3 : Int) (w : World) : (Instr.build 60 #[(0, .int .i64 x1), (1, .int .i64 x2), (2, .int .i64 x3)]).run Try.prog w = .ok (.agg [.int .i64 x1, .int .i64 x2, .int .i64 x3].toArray) w := by kernel_rfl
theorem ar60 : ArrayOf Try.prog 60 3 3 1 := ⟨Try.underlying60, Try.sizeOf3⟩
theorem hb22 : HasBody Try.prog 22 := ⟨Try.call22, by kernel_rfl⟩
theorem hb23 : HasBody Try.prog 23 := ⟨Try.call23, by kernel_rfl⟩
theorem bsl46_2_0_1 (x1 : Int) (x2 : Int) (x3 : Int) (x4 : Int) (w : World) : (Instr.buildSlice 46 2 #[(0, .agg [.int .i64 x1, .int .i64 x2].toArray), (1, .agg [.int .i64 x3, .int .i64 x4].toArray)]).run Try.prog w = .ok (.slice (some ⟨w.heap.size, 0, none⟩) 2 2) (w.alloc (.cells [.int .i64 x1, .int .i64 x2, .int .i64 x3, .int .i64 x4].toArray 50)) := by kernel_rfl
theorem hb24 : HasBody Try.prog 24 := ⟨Try.call24, by kernel_rfl⟩
theorem bsl46_3_0_1_2 (x1 : Int) (x2 : Int) (x3 : Int) (x4 : Int) (x5 : Int) (x6 : Int) (w : World) : (Instr.buildSlice 46 3 #[(0, .agg [.int .i64 x1, .int .i64 x2].toArray), (1, .agg [.int .i64 x3, .int .i64 x4].toArray), (2, .agg [.int .i64 x5, .int .i64 x6].toArray)]).run Try.prog w = .ok (.slice (some ⟨w.heap.size, 0, none⟩) 3 3) (w.alloc (.cells [.int .i64 x1, .int .i64 x2, .int .i64 x3, .int .i64 x4, .int .i64 x5, .int .i64 x6].toArray 50)) := by kernel_rfl
theorem hb25 : HasBody Try.prog 25 := ⟨Try.call25, by kernel_rfl⟩
theorem hb26 : HasBody Try.prog 26 := ⟨Try.call26, by kernel_rfl⟩
theorem hb27 : HasBody Try.prog 27 := ⟨Try.call27, by kernel_rfl⟩
theorem z34 : ZeroOf Try.prog 34 [.slice none 0 0] := ⟨fun w => ⟨_, Try.zeroValue34 w, rfl⟩⟩
theorem hb28 : HasBody Try.prog 28 := ⟨Try.call28, by kernel_rfl⟩
theorem t1_34 : TOne Try.prog 34 := ⟨Try.isAgg34, Try.sizeOf34⟩
theorem bsl34_1_0 (x1 : Int) (x2 : Int) (x3 : Int) (x4 : Int) (x5 : Int) (x6 : Option Addr) (x7 : Nat) (x8 : Nat) (w : World) : (Instr.buildSlice 34 1 #[(0, .agg [.int .i64 x1, .int .i64 x2, .int .i64 x3, .int .i64 x4, .int .i64 x5, .slice x6 x7 x8].toArray)]).run Try.prog w = .ok (.slice (some ⟨w.heap.size, 0, none⟩) 1 1) (w.alloc (.cells [.int .i64 x1, .int .i64 x2, .int .i64 x3, .int .i64 x4, .int .i64 x5, .slice x6 x7 x8].toArray 40)) := by kernel_rfl
theorem ap34 : AppT Try.prog 34 40 6 64 := ⟨Try.underlying34, by
  obtain ⟨i, h1, h2, h3, h4⟩ := info_parts (P := Try.prog) (e := 40) (z := .agg [.int .i64 0, .int .i64 0, .int .i64 0, .int .i64 0, .int .i64 0, .slice none 0 0].toArray) (size := 6) (bytes := 64) (by kernel_rfl)
  exact ⟨i, _, h1, h2, h3, h4, by rfl⟩, by decide⟩
theorem sl44 : SliceOf Try.prog 44 67 2 := ⟨Try.underlying44, Try.sizeOf67⟩
theorem ar67 : ArrayOf Try.prog 67 2 22 1 := ⟨Try.underlying67, Try.sizeOf22⟩
theorem t1_22 : TOne Try.prog 22 := ⟨Try.isAgg22, Try.sizeOf22⟩
theorem hb30 : HasBody Try.prog 30 := ⟨Try.call30, by kernel_rfl⟩
theorem hb29 : HasBody Try.prog 29 := ⟨Try.call29, by kernel_rfl⟩
theorem bsl46_0_  (w : World) : (Instr.buildSlice 46 0 #[]).run Try.prog w = .ok (.slice (some ⟨w.heap.size, 0, none⟩) 0 0) (w.alloc (.cells [].toArray 50)) := by kernel_rfl
theorem eqi50 (d : Nat) (x1 : Int) (x2 : Int) (x1001 : Int) (x1002 : Int) (w : World) : (Op.equalIn (d + 2) 50 (.agg [.int .i64 x1, .int .i64 x2].toArray) (.agg [.int .i64 x1001, .int .i64 x1002].toArray)).run Try.prog w = .ok ((x1 == x1001) && (x2 == x1002)) w :=
  run_eqStruct (plan := [(3, 0, false), (3, 1, false)]) (by kernel_rfl) (by kernel_rfl) (by kernel_rfl) (.cons (by kernel_rfl) (by kernel_rfl) (eqi3 _ _ _ w) (.last (by kernel_rfl) (by kernel_rfl) (eqi3 _ _ _ w)))
theorem eqg50 : Try.prog.eqGuardType Try.prog.depth 50 = false := by kernel_rfl
theorem eq50 (x1 : Int) (x2 : Int) (x1001 : Int) (x1002 : Int) (w : World) : (Op.equal 50 (.agg [.int .i64 x1, .int .i64 x2].toArray) (.agg [.int .i64 x1001, .int .i64 x1002].toArray)).run Try.prog w = .ok ((x1 == x1001) && (x2 == x1002)) w := eqi50 9998 x1 x2 x1001 x1002 w
theorem hb31 : HasBody Try.prog 31 := ⟨Try.call31, by kernel_rfl⟩
theorem hb32 : HasBody Try.prog 32 := ⟨Try.call32, by kernel_rfl⟩
theorem hb33 : HasBody Try.prog 33 := ⟨Try.call33, by kernel_rfl⟩
theorem hb34 : HasBody Try.prog 34 := ⟨Try.call34, by kernel_rfl⟩
theorem t1_32 : TOne Try.prog 32 := ⟨Try.isAgg32, Try.sizeOf32⟩
theorem bld40_0_1 (x1 : Int) (x2 : Int) (x3 : Int) (x4 : Int) (x5 : Int) (x6 : Option Addr) (x7 : Nat) (x8 : Nat) (w : World) : (Instr.build 40 #[(0, .agg [.int .i64 x1, .int .i64 x2, .int .i64 x3, .int .i64 x4, .int .i64 x5].toArray), (1, .slice x6 x7 x8)]).run Try.prog w = .ok (.agg [.int .i64 x1, .int .i64 x2, .int .i64 x3, .int .i64 x4, .int .i64 x5, .slice x6 x7 x8].toArray) w := by kernel_rfl
theorem bsl37_2_0_1 (x1 : Int) (x2 : Int) (w : World) : (Instr.buildSlice 37 2 #[(0, .int .i64 x1), (1, .int .i64 x2)]).run Try.prog w = .ok (.slice (some ⟨w.heap.size, 0, none⟩) 2 2) (w.alloc (.cells [.int .i64 x1, .int .i64 x2].toArray 3)) := by kernel_rfl
theorem hb35 : HasBody Try.prog 35 := ⟨Try.call35, by kernel_rfl⟩
theorem sl37 : SliceOf Try.prog 37 3 1 := ⟨Try.underlying37, Try.sizeOf3⟩
end Go.Proofs.Sq
