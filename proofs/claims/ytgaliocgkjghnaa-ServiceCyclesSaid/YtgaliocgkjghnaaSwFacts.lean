/-
  Facts on the types and functions of this translation.
-/
import Derived.Test.YtgaliocgkjghnaaEng14ToEng22
import Derived.Test.YtgaliocgkjghnaaProg
namespace Go.Proofs.Sw
open Go Go.Eng
theorem mixed : Try.prog.follows .mixedOrders = true := by kernel_rfl
theorem hb3 : HasBody Try.prog 3 := ⟨Try.call3, by kernel_rfl⟩
theorem tN27 : TAgg Try.prog 27 7 := ⟨Try.isAgg27, Try.sizeOf27⟩
theorem hb15 : HasBody Try.prog 15 := ⟨Try.call15, by kernel_rfl⟩
theorem z34 : ZeroOf Try.prog 34 [.slice none 0 0, .int .i64 0, .int .i64 0, .bool false, .slice none 0 0, .int .i64 0, .int .i64 0] := ⟨fun w => ⟨_, Try.zeroValue34 w, rfl⟩⟩
theorem tN34 : TAgg Try.prog 34 7 := ⟨Try.isAgg34, Try.sizeOf34⟩
theorem tN32 : TAgg Try.prog 32 4 := ⟨Try.isAgg32, Try.sizeOf32⟩
theorem hb16 : HasBody Try.prog 16 := ⟨Try.call16, by kernel_rfl⟩
theorem bld37_0_1 (x1 : Option Addr) (x2 : Nat) (x3 : Nat) (x4 : Int) (x5 : Int) (x6 : Bool) (x7 : Option Addr) (x8 : Nat) (x9 : Nat) (x10 : Int) (x11 : Int) (x12 : Option Addr) (x13 : Nat) (x14 : Nat) (x15 : Int) (x16 : Int) (x17 : Bool) (x18 : Option Addr) (x19 : Nat) (x20 : Nat) (x21 : Int) (x22 : Int) (w : World) : (Instr.build 37 #[(0, .agg [.slice x1 x2 x3, .int .i64 x4, .int .i64 x5, .bool x6, .slice x7 x8 x9, .int .i64 x10, .int .i64 x11].toArray), (1, .agg [.slice x12 x13 x14, .int .i64 x15, .int .i64 x16, .bool x17, .slice x18 x19 x20, .int .i64 x21, .int .i64 x22].toArray)]).run Try.prog w = .ok (.agg [.slice x1 x2 x3, .int .i64 x4, .int .i64 x5, .bool x6, .slice x7 x8 x9, .int .i64 x10, .int .i64 x11, .slice x12 x13 x14, .int .i64 x15, .int .i64 x16, .bool x17, .slice x18 x19 x20, .int .i64 x21, .int .i64 x22].toArray) w := by kernel_rfl
theorem ar37 : ArrayOf Try.prog 37 2 34 7 := ⟨Try.underlying37, Try.sizeOf34⟩
theorem hb17 : HasBody Try.prog 17 := ⟨Try.call17, by kernel_rfl⟩
theorem hb18 : HasBody Try.prog 18 := ⟨Try.call18, by kernel_rfl⟩
theorem fld34_4 : FieldAt Try.prog 34 4 3 6 := ⟨fun cs w => by simp [Instr.field, Try.runUnderlying34, asAgg], fun a w => by simp [Instr.fieldAt, Try.runUnderlying34, Instr.sureAddr, fieldPlace, Try.sizeOf3]⟩
theorem t1_3 : TOne Try.prog 3 := ⟨Try.isAgg3, Try.sizeOf3⟩
theorem bld40_0_1_2 (x1 : Int) (x2 : Int) (x3 : Int) (w : World) : (Instr.build 40 #[(0, .int .i64 x1), (1, .int .i64 x2), (2, .int .i64 x3)]).run Try.prog w = .ok (.agg [.int .i64 x1, .int .i64 x2, .int .i64 x3].toArray) w := by kernel_rfl
theorem ar40 : ArrayOf Try.prog 40 3 3 1 := ⟨Try.underlying40, Try.sizeOf3⟩
theorem hb19 : HasBody Try.prog 19 := ⟨Try.call19, by kernel_rfl⟩
theorem hb20 : HasBody Try.prog 20 := ⟨Try.call20, by kernel_rfl⟩
theorem fld34_0 : FieldAt Try.prog 34 0 30 0 := ⟨fun cs w => by simp [Instr.field, Try.runUnderlying34, asAgg], fun a w => by simp [Instr.fieldAt, Try.runUnderlying34, Instr.sureAddr, fieldPlace, Try.sizeOf30]⟩
theorem tN30 : TAgg Try.prog 30 2 := ⟨Try.isAgg30, Try.sizeOf30⟩
theorem hb21 : HasBody Try.prog 21 := ⟨Try.call21, by kernel_rfl⟩
theorem hb22 : HasBody Try.prog 22 := ⟨Try.call22, by kernel_rfl⟩
theorem hb23 : HasBody Try.prog 23 := ⟨Try.call23, by kernel_rfl⟩
theorem hb24 : HasBody Try.prog 24 := ⟨Try.call24, by kernel_rfl⟩
theorem hb4 : HasBody Try.prog 4 := ⟨Try.call4, by kernel_rfl⟩
theorem bld49_0_1_2 (x1 : Int) (x2 : Int) (x3 : Int) (x4 : Int) (x5 : Int) (x6 : Int) (x7 : Int) (x8 : Int) (x9 : Int) (w : World) : (Instr.build 49 #[(0, .agg [.int .i64 x1, .int .i64 x2, .int .i64 x3].toArray), (1, .agg [.int .i64 x4, .int .i64 x5, .int .i64 x6].toArray), (2, .agg [.int .i64 x7, .int .i64 x8, .int .i64 x9].toArray)]).run Try.prog w = .ok (.agg [.int .i64 x1, .int .i64 x2, .int .i64 x3, .int .i64 x4, .int .i64 x5, .int .i64 x6, .int .i64 x7, .int .i64 x8, .int .i64 x9].toArray) w := by kernel_rfl
theorem ar49 : ArrayOf Try.prog 49 3 40 3 := ⟨Try.underlying49, Try.sizeOf40⟩
theorem tN40 : TAgg Try.prog 40 3 := ⟨Try.isAgg40, Try.sizeOf40⟩
theorem z40 : ZeroOf Try.prog 40 [.int .i64 0, .int .i64 0, .int .i64 0] := ⟨fun w => ⟨_, Try.zeroValue40 w, rfl⟩⟩
theorem hb25 : HasBody Try.prog 25 := ⟨Try.call25, by kernel_rfl⟩
theorem hb26 : HasBody Try.prog 26 := ⟨Try.call26, by kernel_rfl⟩
theorem hb5 : HasBody Try.prog 5 := ⟨Try.call5, by kernel_rfl⟩
theorem tN24 : TAgg Try.prog 24 2 := ⟨Try.isAgg24, Try.sizeOf24⟩
theorem hb27 : HasBody Try.prog 27 := ⟨Try.call27, by kernel_rfl⟩
theorem z30 : ZeroOf Try.prog 30 [.slice none 0 0, .int .i64 0] := ⟨fun w => ⟨_, Try.zeroValue30 w, rfl⟩⟩
theorem hb28 : HasBody Try.prog 28 := ⟨Try.call28, by kernel_rfl⟩
theorem hb29 : HasBody Try.prog 29 := ⟨Try.call29, by kernel_rfl⟩
theorem fld34_2 : FieldAt Try.prog 34 2 4 3 := ⟨fun cs w => by simp [Instr.field, Try.runUnderlying34, asAgg], fun a w => by simp [Instr.fieldAt, Try.runUnderlying34, Instr.sureAddr, fieldPlace, Try.sizeOf4]⟩
theorem t1_4 : TOne Try.prog 4 := ⟨Try.isAgg4, Try.sizeOf4⟩
theorem hb30 : HasBody Try.prog 30 := ⟨Try.call30, by kernel_rfl⟩
theorem bld30_  (w : World) : (Instr.build 30 #[]).run Try.prog w = .ok (.agg [.slice none 0 0, .int .i64 0].toArray) w := by kernel_rfl
theorem fld34_3 : FieldAt Try.prog 34 3 30 4 := ⟨fun cs w => by simp [Instr.field, Try.runUnderlying34, asAgg], fun a w => by simp [Instr.fieldAt, Try.runUnderlying34, Instr.sureAddr, fieldPlace, Try.sizeOf30]⟩
theorem fld30_1 : FieldAt Try.prog 30 1 3 1 := ⟨fun cs w => by simp [Instr.field, Try.runUnderlying30, asAgg], fun a w => by simp [Instr.fieldAt, Try.runUnderlying30, Instr.sureAddr, fieldPlace, Try.sizeOf3]⟩
theorem bld34_0 (x1 : Option Addr) (x2 : Nat) (x3 : Nat) (x4 : Int) (w : World) : (Instr.build 34 #[(0, .agg [.slice x1 x2 x3, .int .i64 x4].toArray)]).run Try.prog w = .ok (.agg [.slice x1 x2 x3, .int .i64 x4, .int .i64 0, .bool false, .slice none 0 0, .int .i64 0, .int .i64 0].toArray) w := by kernel_rfl
theorem fld34_1 : FieldAt Try.prog 34 1 3 2 := ⟨fun cs w => by simp [Instr.field, Try.runUnderlying34, asAgg], fun a w => by simp [Instr.fieldAt, Try.runUnderlying34, Instr.sureAddr, fieldPlace, Try.sizeOf3]⟩
theorem hb6 : HasBody Try.prog 6 := ⟨Try.call6, by kernel_rfl⟩
theorem bld59_0_1 (x1 : Int) (x2 : Int) (w : World) : (Instr.build 59 #[(0, .int .i64 x1), (1, .int .i64 x2)]).run Try.prog w = .ok (.agg [.int .i64 x1, .int .i64 x2].toArray) w := by kernel_rfl
theorem ar59 : ArrayOf Try.prog 59 2 3 1 := ⟨Try.underlying59, Try.sizeOf3⟩
theorem hb31 : HasBody Try.prog 31 := ⟨Try.call31, by kernel_rfl⟩
theorem hb7 : HasBody Try.prog 7 := ⟨Try.call7, by kernel_rfl⟩
theorem bsl105_4_0_1_2_3 (x1 : Int) (x2 : Int) (x3 : Int) (x4 : Int) (w : World) : (Instr.buildSlice 105 4 #[(0, .int .i64 x1), (1, .int .i64 x2), (2, .int .i64 x3), (3, .int .i64 x4)]).run Try.prog w = .ok (.slice (some ⟨w.heap.size, 0, none⟩) 4 4) (w.alloc (.cells [.int .i64 x1, .int .i64 x2, .int .i64 x3, .int .i64 x4].toArray 3)) := by kernel_rfl
theorem hb32 : HasBody Try.prog 32 := ⟨Try.call32, by kernel_rfl⟩
theorem bld34_0_1_2_3_4 (x1 : Option Addr) (x2 : Nat) (x3 : Nat) (x4 : Int) (x5 : Int) (x6 : Bool) (x7 : Option Addr) (x8 : Nat) (x9 : Nat) (x10 : Int) (x11 : Int) (w : World) : (Instr.build 34 #[(0, .agg [.slice x1 x2 x3, .int .i64 x4].toArray), (1, .int .i64 x5), (2, .bool x6), (3, .agg [.slice x7 x8 x9, .int .i64 x10].toArray), (4, .int .i64 x11)]).run Try.prog w = .ok (.agg [.slice x1 x2 x3, .int .i64 x4, .int .i64 x5, .bool x6, .slice x7 x8 x9, .int .i64 x10, .int .i64 x11].toArray) w := by kernel_rfl
theorem bld34_  (w : World) : (Instr.build 34 #[]).run Try.prog w = .ok (.agg [.slice none 0 0, .int .i64 0, .int .i64 0, .bool false, .slice none 0 0, .int .i64 0, .int .i64 0].toArray) w := by kernel_rfl
theorem bld63_0_1_2_3_4_5_6_7 (x1 : Option Addr) (x2 : Nat) (x3 : Nat) (x4 : Int) (x5 : Int) (x6 : Bool) (x7 : Option Addr) (x8 : Nat) (x9 : Nat) (x10 : Int) (x11 : Int) (x12 : Option Addr) (x13 : Nat) (x14 : Nat) (x15 : Int) (x16 : Int) (x17 : Bool) (x18 : Option Addr) (x19 : Nat) (x20 : Nat) (x21 : Int) (x22 : Int) (x23 : Option Addr) (x24 : Nat) (x25 : Nat) (x26 : Int) (x27 : Int) (x28 : Bool) (x29 : Option Addr) (x30 : Nat) (x31 : Nat) (x32 : Int) (x33 : Int) (x34 : Option Addr) (x35 : Nat) (x36 : Nat) (x37 : Int) (x38 : Int) (x39 : Bool) (x40 : Option Addr) (x41 : Nat) (x42 : Nat) (x43 : Int) (x44 : Int) (x45 : Option Addr) (x46 : Nat) (x47 : Nat) (x48 : Int) (x49 : Int) (x50 : Bool) (x51 : Option Addr) (x52 : Nat) (x53 : Nat) (x54 : Int) (x55 : Int) (x56 : Option Addr) (x57 : Nat) (x58 : Nat) (x59 : Int) (x60 : Int) (x61 : Bool) (x62 : Option Addr) (x63 : Nat) (x64 : Nat) (x65 : Int) (x66 : Int) (x67 : Option Addr) (x68 : Nat) (x69 : Nat) (x70 : Int) (x71 : Int) (x72 : Bool) (x73 : Option Addr) (x74 : Nat) (x75 : Nat) (x76 : Int) (x77 : Int) (x78 : Option Addr) (x79 : Nat) (x80 : Nat) (x81 : Int) (x82 : Int) (x83 : Bool) (x84 : Option Addr) (x85 : Nat) (x86 : Nat) (x87 : Int) (x88 : Int) (w : World) : (Instr.build 63 #[(0, .agg [.slice x1 x2 x3, .int .i64 x4, .int .i64 x5, .bool x6, .slice x7 x8 x9, .int .i64 x10, .int .i64 x11].toArray), (1, .agg [.slice x12 x13 x14, .int .i64 x15, .int .i64 x16, .bool x17, .slice x18 x19 x20, .int .i64 x21, .int .i64 x22].toArray), (2, .agg [.slice x23 x24 x25, .int .i64 x26, .int .i64 x27, .bool x28, .slice x29 x30 x31, .int .i64 x32, .int .i64 x33].toArray), (3, .agg [.slice x34 x35 x36, .int .i64 x37, .int .i64 x38, .bool x39, .slice x40 x41 x42, .int .i64 x43, .int .i64 x44].toArray), (4, .agg [.slice x45 x46 x47, .int .i64 x48, .int .i64 x49, .bool x50, .slice x51 x52 x53, .int .i64 x54, .int .i64 x55].toArray), (5, .agg [.slice x56 x57 x58, .int .i64 x59, .int .i64 x60, .bool x61, .slice x62 x63 x64, .int .i64 x65, .int .i64 x66].toArray), (6, .agg [.slice x67 x68 x69, .int .i64 x70, .int .i64 x71, .bool x72, .slice x73 x74 x75, .int .i64 x76, .int .i64 x77].toArray), (7, .agg [.slice x78 x79 x80, .int .i64 x81, .int .i64 x82, .bool x83, .slice x84 x85 x86, .int .i64 x87, .int .i64 x88].toArray)]).run Try.prog w = .ok (.agg [.slice x1 x2 x3, .int .i64 x4, .int .i64 x5, .bool x6, .slice x7 x8 x9, .int .i64 x10, .int .i64 x11, .slice x12 x13 x14, .int .i64 x15, .int .i64 x16, .bool x17, .slice x18 x19 x20, .int .i64 x21, .int .i64 x22, .slice x23 x24 x25, .int .i64 x26, .int .i64 x27, .bool x28, .slice x29 x30 x31, .int .i64 x32, .int .i64 x33, .slice x34 x35 x36, .int .i64 x37, .int .i64 x38, .bool x39, .slice x40 x41 x42, .int .i64 x43, .int .i64 x44, .slice x45 x46 x47, .int .i64 x48, .int .i64 x49, .bool x50, .slice x51 x52 x53, .int .i64 x54, .int .i64 x55, .slice x56 x57 x58, .int .i64 x59, .int .i64 x60, .bool x61, .slice x62 x63 x64, .int .i64 x65, .int .i64 x66, .slice x67 x68 x69, .int .i64 x70, .int .i64 x71, .bool x72, .slice x73 x74 x75, .int .i64 x76, .int .i64 x77, .slice x78 x79 x80, .int .i64 x81, .int .i64 x82, .bool x83, .slice x84 x85 x86, .int .i64 x87, .int .i64 x88].toArray) w := by kernel_rfl
theorem z63 : ZeroOf Try.prog 63 [.slice none 0 0, .int .i64 0, .int .i64 0, .bool false, .slice none 0 0, .int .i64 0, .int .i64 0, .slice none 0 0, .int .i64 0, .int .i64 0, .bool false, .slice none 0 0, .int .i64 0, .int .i64 0, .slice none 0 0, .int .i64 0, .int .i64 0, .bool false, .slice none 0 0, .int .i64 0, .int .i64 0, .slice none 0 0, .int .i64 0, .int .i64 0, .bool false, .slice none 0 0, .int .i64 0, .int .i64 0, .slice none 0 0, .int .i64 0, .int .i64 0, .bool false, .slice none 0 0, .int .i64 0, .int .i64 0, .slice none 0 0, .int .i64 0, .int .i64 0, .bool false, .slice none 0 0, .int .i64 0, .int .i64 0, .slice none 0 0, .int .i64 0, .int .i64 0, .bool false, .slice none 0 0, .int .i64 0, .int .i64 0, .slice none 0 0, .int .i64 0, .int .i64 0, .bool false, .slice none 0 0, .int .i64 0, .int .i64 0] := ⟨fun w => ⟨_, Try.zeroValue63 w, rfl⟩⟩
theorem tN63 : TAgg Try.prog 63 56 := ⟨Try.isAgg63, Try.sizeOf63⟩
theorem ar63 : ArrayOf Try.prog 63 8 34 7 := ⟨Try.underlying63, Try.sizeOf34⟩
theorem bld34_0_4 (x1 : Option Addr) (x2 : Nat) (x3 : Nat) (x4 : Int) (x5 : Int) (w : World) : (Instr.build 34 #[(0, .agg [.slice x1 x2 x3, .int .i64 x4].toArray), (4, .int .i64 x5)]).run Try.prog w = .ok (.agg [.slice x1 x2 x3, .int .i64 x4, .int .i64 0, .bool false, .slice none 0 0, .int .i64 0, .int .i64 x5].toArray) w := by kernel_rfl
theorem bld34_0_1 (x1 : Option Addr) (x2 : Nat) (x3 : Nat) (x4 : Int) (x5 : Int) (w : World) : (Instr.build 34 #[(0, .agg [.slice x1 x2 x3, .int .i64 x4].toArray), (1, .int .i64 x5)]).run Try.prog w = .ok (.agg [.slice x1 x2 x3, .int .i64 x4, .int .i64 x5, .bool false, .slice none 0 0, .int .i64 0, .int .i64 0].toArray) w := by kernel_rfl
theorem bsl105_2_0_1 (x1 : Int) (x2 : Int) (w : World) : (Instr.buildSlice 105 2 #[(0, .int .i64 x1), (1, .int .i64 x2)]).run Try.prog w = .ok (.slice (some ⟨w.heap.size, 0, none⟩) 2 2) (w.alloc (.cells [.int .i64 x1, .int .i64 x2].toArray 3)) := by kernel_rfl
theorem hb8 : HasBody Try.prog 8 := ⟨Try.call8, by kernel_rfl⟩
theorem tN64 : TAgg Try.prog 64 2 := ⟨Try.isAgg64, Try.sizeOf64⟩
theorem hb33 : HasBody Try.prog 33 := ⟨Try.call33, by kernel_rfl⟩
theorem hb34 : HasBody Try.prog 34 := ⟨Try.call34, by kernel_rfl⟩
theorem bld66_0_1 (x1 : Option Addr) (x2 : Nat) (x3 : Nat) (x4 : Int) (x5 : Option Addr) (x6 : Nat) (x7 : Nat) (x8 : Int) (w : World) : (Instr.build 66 #[(0, .agg [.slice x1 x2 x3, .int .i64 x4].toArray), (1, .agg [.slice x5 x6 x7, .int .i64 x8].toArray)]).run Try.prog w = .ok (.agg [.slice x1 x2 x3, .int .i64 x4, .slice x5 x6 x7, .int .i64 x8].toArray) w := by kernel_rfl
theorem ar66 : ArrayOf Try.prog 66 2 30 2 := ⟨Try.underlying66, Try.sizeOf30⟩
theorem bld67_0_1_2 (x1 : Int) (x2 : Int) (x3 : Int) (x4 : Int) (x5 : Int) (x6 : Int) (w : World) : (Instr.build 67 #[(0, .agg [.int .i64 x1, .int .i64 x2].toArray), (1, .agg [.int .i64 x3, .int .i64 x4].toArray), (2, .agg [.int .i64 x5, .int .i64 x6].toArray)]).run Try.prog w = .ok (.agg [.int .i64 x1, .int .i64 x2, .int .i64 x3, .int .i64 x4, .int .i64 x5, .int .i64 x6].toArray) w := by kernel_rfl
theorem ar67 : ArrayOf Try.prog 67 3 59 2 := ⟨Try.underlying67, Try.sizeOf59⟩
theorem tN59 : TAgg Try.prog 59 2 := ⟨Try.isAgg59, Try.sizeOf59⟩
theorem z59 : ZeroOf Try.prog 59 [.int .i64 0, .int .i64 0] := ⟨fun w => ⟨_, Try.zeroValue59 w, rfl⟩⟩
theorem hb35 : HasBody Try.prog 35 := ⟨Try.call35, by kernel_rfl⟩
theorem hb36 : HasBody Try.prog 36 := ⟨Try.call36, by kernel_rfl⟩
theorem hb37 : HasBody Try.prog 37 := ⟨Try.call37, by kernel_rfl⟩
theorem hb9 : HasBody Try.prog 9 := ⟨Try.call9, by kernel_rfl⟩
theorem bld70_0_1_2_3 (x1 : Int) (x2 : Int) (x3 : Int) (x4 : Int) (w : World) : (Instr.build 70 #[(0, .int .i64 x1), (1, .int .i64 x2), (2, .int .i64 x3), (3, .int .i64 x4)]).run Try.prog w = .ok (.agg [.int .i64 x1, .int .i64 x2, .int .i64 x3, .int .i64 x4].toArray) w := by kernel_rfl
theorem bld71_0_1_2 (x1 : Int) (x2 : Int) (x3 : Int) (x4 : Int) (x5 : Int) (x6 : Int) (x7 : Int) (x8 : Int) (x9 : Int) (x10 : Int) (x11 : Int) (x12 : Int) (w : World) : (Instr.build 71 #[(0, .agg [.int .i64 x1, .int .i64 x2, .int .i64 x3, .int .i64 x4].toArray), (1, .agg [.int .i64 x5, .int .i64 x6, .int .i64 x7, .int .i64 x8].toArray), (2, .agg [.int .i64 x9, .int .i64 x10, .int .i64 x11, .int .i64 x12].toArray)]).run Try.prog w = .ok (.agg [.int .i64 x1, .int .i64 x2, .int .i64 x3, .int .i64 x4, .int .i64 x5, .int .i64 x6, .int .i64 x7, .int .i64 x8, .int .i64 x9, .int .i64 x10, .int .i64 x11, .int .i64 x12].toArray) w := by kernel_rfl
theorem ar71 : ArrayOf Try.prog 71 3 70 4 := ⟨Try.underlying71, Try.sizeOf70⟩
theorem tN70 : TAgg Try.prog 70 4 := ⟨Try.isAgg70, Try.sizeOf70⟩
theorem z70 : ZeroOf Try.prog 70 [.int .i64 0, .int .i64 0, .int .i64 0, .int .i64 0] := ⟨fun w => ⟨_, Try.zeroValue70 w, rfl⟩⟩
theorem ar70 : ArrayOf Try.prog 70 4 3 1 := ⟨Try.underlying70, Try.sizeOf3⟩
theorem hb38 : HasBody Try.prog 38 := ⟨Try.call38, by kernel_rfl⟩
theorem hb39 : HasBody Try.prog 39 := ⟨Try.call39, by kernel_rfl⟩
theorem hb10 : HasBody Try.prog 10 := ⟨Try.call10, by kernel_rfl⟩
theorem hb40 : HasBody Try.prog 40 := ⟨Try.call40, by kernel_rfl⟩
theorem z75 : ZeroOf Try.prog 75 [.int .i64 0, .int .i64 0] := ⟨fun w => ⟨_, Try.zeroValue75 w, rfl⟩⟩
theorem tN75 : TAgg Try.prog 75 2 := ⟨Try.isAgg75, Try.sizeOf75⟩
theorem hb41 : HasBody Try.prog 41 := ⟨Try.call41, by kernel_rfl⟩
theorem eqi3 (d : Nat) (a b : Int) (w : World) : (Op.equalIn (d + 1) 3 (.int .i64 a) (.int .i64 b)).run Try.prog w = .ok (a == b) w := run_equalIn_int w d 3 .i64 .i64 a b Try.underlying3
theorem eqi75 (d : Nat) (x1 : Int) (x2 : Int) (x1001 : Int) (x1002 : Int) (w : World) : (Op.equalIn (d + 2) 75 (.agg [.int .i64 x1, .int .i64 x2].toArray) (.agg [.int .i64 x1001, .int .i64 x1002].toArray)).run Try.prog w = .ok ((x1 == x1001) && (x2 == x1002)) w :=
  run_eqStruct (plan := [(3, 0, false), (3, 1, false)]) (by kernel_rfl) (by kernel_rfl) (by kernel_rfl) (.cons (by kernel_rfl) (by kernel_rfl) (eqi3 _ _ _ w) (.last (by kernel_rfl) (by kernel_rfl) (eqi3 _ _ _ w)))
theorem eqg75 : Try.prog.eqGuardType Try.prog.depth 75 = false := by kernel_rfl
theorem eq75 (x1 : Int) (x2 : Int) (x1001 : Int) (x1002 : Int) (w : World) : (Op.equal 75 (.agg [.int .i64 x1, .int .i64 x2].toArray) (.agg [.int .i64 x1001, .int .i64 x1002].toArray)).run Try.prog w = .ok ((x1 == x1001) && (x2 == x1002)) w := eqi75 9998 x1 x2 x1001 x1002 w
theorem hb11 : HasBody Try.prog 11 := ⟨Try.call11, by kernel_rfl⟩
theorem bsl105_10_0_1_2_3_4_5_6_7_8_9 (x1 : Int) (x2 : Int) (x3 : Int) (x4 : Int) (x5 : Int) (x6 : Int) (x7 : Int) (x8 : Int) (x9 : Int) (x10 : Int) (w : World) : (Instr.buildSlice 105 10 #[(0, .int .i64 x1), (1, .int .i64 x2), (2, .int .i64 x3), (3, .int .i64 x4), (4, .int .i64 x5), (5, .int .i64 x6), (6, .int .i64 x7), (7, .int .i64 x8), (8, .int .i64 x9), (9, .int .i64 x10)]).run Try.prog w = .ok (.slice (some ⟨w.heap.size, 0, none⟩) 10 10) (w.alloc (.cells [.int .i64 x1, .int .i64 x2, .int .i64 x3, .int .i64 x4, .int .i64 x5, .int .i64 x6, .int .i64 x7, .int .i64 x8, .int .i64 x9, .int .i64 x10].toArray 3)) := by kernel_rfl
theorem hb42 : HasBody Try.prog 42 := ⟨Try.call42, by kernel_rfl⟩
theorem bsl105_6_0_1_2_3_4_5 (x1 : Int) (x2 : Int) (x3 : Int) (x4 : Int) (x5 : Int) (x6 : Int) (w : World) : (Instr.buildSlice 105 6 #[(0, .int .i64 x1), (1, .int .i64 x2), (2, .int .i64 x3), (3, .int .i64 x4), (4, .int .i64 x5), (5, .int .i64 x6)]).run Try.prog w = .ok (.slice (some ⟨w.heap.size, 0, none⟩) 6 6) (w.alloc (.cells [.int .i64 x1, .int .i64 x2, .int .i64 x3, .int .i64 x4, .int .i64 x5, .int .i64 x6].toArray 3)) := by kernel_rfl
theorem hb43 : HasBody Try.prog 43 := ⟨Try.call43, by kernel_rfl⟩
theorem hb12 : HasBody Try.prog 12 := ⟨Try.call12, by kernel_rfl⟩
theorem fld75_0 : FieldAt Try.prog 75 0 3 0 := ⟨fun cs w => by simp [Instr.field, Try.runUnderlying75, asAgg], fun a w => by simp [Instr.fieldAt, Try.runUnderlying75, Instr.sureAddr, fieldPlace, Try.sizeOf3]⟩
theorem fld75_1 : FieldAt Try.prog 75 1 3 1 := ⟨fun cs w => by simp [Instr.field, Try.runUnderlying75, asAgg], fun a w => by simp [Instr.fieldAt, Try.runUnderlying75, Instr.sureAddr, fieldPlace, Try.sizeOf3]⟩
theorem hb44 : HasBody Try.prog 44 := ⟨Try.call44, by kernel_rfl⟩
theorem hb13 : HasBody Try.prog 13 := ⟨Try.call13, by kernel_rfl⟩
theorem ar81 : ArrayOf Try.prog 81 2 5 1 := ⟨Try.underlying81, Try.sizeOf5⟩
theorem t1_5 : TOne Try.prog 5 := ⟨Try.isAgg5, Try.sizeOf5⟩
theorem hb45 : HasBody Try.prog 45 := ⟨Try.call45, by kernel_rfl⟩
theorem hb46 : HasBody Try.prog 46 := ⟨Try.call46, by kernel_rfl⟩
theorem hb14 : HasBody Try.prog 14 := ⟨Try.call14, by kernel_rfl⟩
theorem hb47 : HasBody Try.prog 47 := ⟨Try.call47, by kernel_rfl⟩
theorem fld27_0 : FieldAt Try.prog 27 0 24 0 := ⟨fun cs w => by simp [Instr.field, Try.runUnderlying27, asAgg], fun a w => by simp [Instr.fieldAt, Try.runUnderlying27, Instr.sureAddr, fieldPlace, Try.sizeOf24]⟩
theorem fld27_2 : FieldAt Try.prog 27 2 25 4 := ⟨fun cs w => by simp [Instr.field, Try.runUnderlying27, asAgg], fun a w => by simp [Instr.fieldAt, Try.runUnderlying27, Instr.sureAddr, fieldPlace, Try.sizeOf25]⟩
theorem t1_25 : TOne Try.prog 25 := ⟨Try.isAgg25, Try.sizeOf25⟩
theorem fld27_3 : FieldAt Try.prog 27 3 4 5 := ⟨fun cs w => by simp [Instr.field, Try.runUnderlying27, asAgg], fun a w => by simp [Instr.fieldAt, Try.runUnderlying27, Instr.sureAddr, fieldPlace, Try.sizeOf4]⟩
theorem fld27_1 : FieldAt Try.prog 27 1 24 2 := ⟨fun cs w => by simp [Instr.field, Try.runUnderlying27, asAgg], fun a w => by simp [Instr.fieldAt, Try.runUnderlying27, Instr.sureAddr, fieldPlace, Try.sizeOf24]⟩
theorem fld27_4 : FieldAt Try.prog 27 4 5 6 := ⟨fun cs w => by simp [Instr.field, Try.runUnderlying27, asAgg], fun a w => by simp [Instr.fieldAt, Try.runUnderlying27, Instr.sureAddr, fieldPlace, Try.sizeOf5]⟩
theorem fld32_2 : FieldAt Try.prog 32 2 30 2 := ⟨fun cs w => by simp [Instr.field, Try.runUnderlying32, asAgg], fun a w => by simp [Instr.fieldAt, Try.runUnderlying32, Instr.sureAddr, fieldPlace, Try.sizeOf30]⟩
theorem fld30_0 : FieldAt Try.prog 30 0 28 0 := ⟨fun cs w => by simp [Instr.field, Try.runUnderlying30, asAgg], fun a w => by simp [Instr.fieldAt, Try.runUnderlying30, Instr.sureAddr, fieldPlace, Try.sizeOf28]⟩
theorem t1_28 : TOne Try.prog 28 := ⟨Try.isAgg28, Try.sizeOf28⟩
theorem sl28 : SliceOf Try.prog 28 100 2 := ⟨Try.underlying28, Try.sizeOf100⟩
theorem fld32_0 : FieldAt Try.prog 32 0 5 0 := ⟨fun cs w => by simp [Instr.field, Try.runUnderlying32, asAgg], fun a w => by simp [Instr.fieldAt, Try.runUnderlying32, Instr.sureAddr, fieldPlace, Try.sizeOf5]⟩
theorem fld32_1 : FieldAt Try.prog 32 1 3 1 := ⟨fun cs w => by simp [Instr.field, Try.runUnderlying32, asAgg], fun a w => by simp [Instr.fieldAt, Try.runUnderlying32, Instr.sureAddr, fieldPlace, Try.sizeOf3]⟩
theorem hb48 : HasBody Try.prog 48 := ⟨Try.call48, by kernel_rfl⟩
theorem bsl105_1_0 (x1 : Int) (w : World) : (Instr.buildSlice 105 1 #[(0, .int .i64 x1)]).run Try.prog w = .ok (.slice (some ⟨w.heap.size, 0, none⟩) 1 1) (w.alloc (.cells [.int .i64 x1].toArray 3)) := by kernel_rfl
theorem hb49 : HasBody Try.prog 49 := ⟨Try.call49, by kernel_rfl⟩
theorem hb50 : HasBody Try.prog 50 := ⟨Try.call50, by kernel_rfl⟩
theorem hb51 : HasBody Try.prog 51 := ⟨Try.call51, by kernel_rfl⟩
theorem z3 : ZeroOf Try.prog 3 [.int .i64 0] := ⟨fun w => ⟨_, Try.zeroValue3 w, rfl⟩⟩
theorem z38 : ZeroOf Try.prog 38 [.int .i64 0] := ⟨fun w => ⟨_, Try.zeroValue38 w, rfl⟩⟩
theorem t1_38 : TOne Try.prog 38 := ⟨Try.isAgg38, Try.sizeOf38⟩
theorem hb52 : HasBody Try.prog 52 := ⟨Try.call52, by kernel_rfl⟩
theorem hb53 : HasBody Try.prog 53 := ⟨Try.call53, by kernel_rfl⟩
theorem hb54 : HasBody Try.prog 54 := ⟨Try.call54, by kernel_rfl⟩
theorem hb55 : HasBody Try.prog 55 := ⟨Try.call55, by kernel_rfl⟩
theorem hb56 : HasBody Try.prog 56 := ⟨Try.call56, by kernel_rfl⟩
theorem z4 : ZeroOf Try.prog 4 [.bool false] := ⟨fun w => ⟨_, Try.zeroValue4 w, rfl⟩⟩
theorem hb57 : HasBody Try.prog 57 := ⟨Try.call57, by kernel_rfl⟩
theorem fld100_0 : FieldAt Try.prog 100 0 3 0 := ⟨fun cs w => by simp [Instr.field, Try.runUnderlying100, asAgg], fun a w => by simp [Instr.fieldAt, Try.runUnderlying100, Instr.sureAddr, fieldPlace, Try.sizeOf3]⟩
theorem hb58 : HasBody Try.prog 58 := ⟨Try.call58, by kernel_rfl⟩
theorem fld100_1 : FieldAt Try.prog 100 1 3 1 := ⟨fun cs w => by simp [Instr.field, Try.runUnderlying100, asAgg], fun a w => by simp [Instr.fieldAt, Try.runUnderlying100, Instr.sureAddr, fieldPlace, Try.sizeOf3]⟩
theorem fld24_0 : FieldAt Try.prog 24 0 22 0 := ⟨fun cs w => by simp [Instr.field, Try.runUnderlying24, asAgg], fun a w => by simp [Instr.fieldAt, Try.runUnderlying24, Instr.sureAddr, fieldPlace, Try.sizeOf22]⟩
theorem t1_22 : TOne Try.prog 22 := ⟨Try.isAgg22, Try.sizeOf22⟩
theorem sl22 : SliceOf Try.prog 22 5 1 := ⟨Try.underlying22, Try.sizeOf5⟩
theorem bld100_0_1 (x1 : Int) (x2 : Int) (w : World) : (Instr.build 100 #[(0, .int .i64 x1), (1, .int .i64 x2)]).run Try.prog w = .ok (.agg [.int .i64 x1, .int .i64 x2].toArray) w := by kernel_rfl
theorem z100 : ZeroOf Try.prog 100 [.int .i64 0, .int .i64 0] := ⟨fun w => ⟨_, Try.zeroValue100 w, rfl⟩⟩
theorem tN100 : TAgg Try.prog 100 2 := ⟨Try.isAgg100, Try.sizeOf100⟩
theorem fld24_1 : FieldAt Try.prog 24 1 22 1 := ⟨fun cs w => by simp [Instr.field, Try.runUnderlying24, asAgg], fun a w => by simp [Instr.fieldAt, Try.runUnderlying24, Instr.sureAddr, fieldPlace, Try.sizeOf22]⟩
theorem bsl28_1_0 (x1 : Int) (x2 : Int) (w : World) : (Instr.buildSlice 28 1 #[(0, .agg [.int .i64 x1, .int .i64 x2].toArray)]).run Try.prog w = .ok (.slice (some ⟨w.heap.size, 0, none⟩) 1 1) (w.alloc (.cells [.int .i64 x1, .int .i64 x2].toArray 100)) := by kernel_rfl
theorem ap28 : AppT Try.prog 28 100 2 16 := ⟨Try.underlying28, by
  obtain ⟨i, h1, h2, h3, h4⟩ := info_parts (P := Try.prog) (e := 100) (z := .agg [.int .i64 0, .int .i64 0].toArray) (size := 2) (bytes := 16) (by kernel_rfl)
  exact ⟨i, _, h1, h2, h3, h4, by rfl⟩, by decide⟩
theorem bld103_0 (x1 : Option Addr) (x2 : Nat) (x3 : Nat) (x4 : Int) (x5 : Int) (x6 : Bool) (x7 : Option Addr) (x8 : Nat) (x9 : Nat) (x10 : Int) (x11 : Int) (w : World) : (Instr.build 103 #[(0, .agg [.slice x1 x2 x3, .int .i64 x4, .int .i64 x5, .bool x6, .slice x7 x8 x9, .int .i64 x10, .int .i64 x11].toArray)]).run Try.prog w = .ok (.agg [.slice x1 x2 x3, .int .i64 x4, .int .i64 x5, .bool x6, .slice x7 x8 x9, .int .i64 x10, .int .i64 x11].toArray) w := by kernel_rfl
theorem hb59 : HasBody Try.prog 59 := ⟨Try.call59, by kernel_rfl⟩
theorem fld103_0 : FieldAt Try.prog 103 0 34 0 := ⟨fun cs w => by simp [Instr.field, Try.runUnderlying103, asAgg], fun a w => by simp [Instr.fieldAt, Try.runUnderlying103, Instr.sureAddr, fieldPlace, Try.sizeOf34]⟩
theorem sl105 : SliceOf Try.prog 105 3 1 := ⟨Try.underlying105, Try.sizeOf3⟩
theorem fld64_0 : FieldAt Try.prog 64 0 22 0 := ⟨fun cs w => by simp [Instr.field, Try.runUnderlying64, asAgg], fun a w => by simp [Instr.fieldAt, Try.runUnderlying64, Instr.sureAddr, fieldPlace, Try.sizeOf22]⟩
theorem fld64_1 : FieldAt Try.prog 64 1 22 1 := ⟨fun cs w => by simp [Instr.field, Try.runUnderlying64, asAgg], fun a w => by simp [Instr.fieldAt, Try.runUnderlying64, Instr.sureAddr, fieldPlace, Try.sizeOf22]⟩
theorem hb60 : HasBody Try.prog 60 := ⟨Try.call60, by kernel_rfl⟩
theorem hb61 : HasBody Try.prog 61 := ⟨Try.call61, by kernel_rfl⟩
theorem hb62 : HasBody Try.prog 62 := ⟨Try.call62, by kernel_rfl⟩
theorem hb63 : HasBody Try.prog 63 := ⟨Try.call63, by kernel_rfl⟩
theorem hb64 : HasBody Try.prog 64 := ⟨Try.call64, by kernel_rfl⟩
theorem hb65 : HasBody Try.prog 65 := ⟨Try.call65, by kernel_rfl⟩
theorem hb66 : HasBody Try.prog 66 := ⟨Try.call66, by kernel_rfl⟩
theorem hb67 : HasBody Try.prog 67 := ⟨Try.call67, by kernel_rfl⟩
theorem bld75_  (w : World) : (Instr.build 75 #[]).run Try.prog w = .ok (.agg [.int .i64 0, .int .i64 0].toArray) w := by kernel_rfl
theorem z111 : ZeroOf Try.prog 111 [.slice none 0 0] := ⟨fun w => ⟨_, Try.zeroValue111 w, rfl⟩⟩
theorem hb68 : HasBody Try.prog 68 := ⟨Try.call68, by kernel_rfl⟩
theorem hb69 : HasBody Try.prog 69 := ⟨Try.call69, by kernel_rfl⟩
theorem t1_111 : TOne Try.prog 111 := ⟨Try.isAgg111, Try.sizeOf111⟩
theorem bld117_0_1 (x1 : Int) (x2 : Int) (w : World) : (Instr.build 117 #[(0, .int .i64 x1), (1, .int .i64 x2)]).run Try.prog w = .ok (.agg [.int .i64 x1, .int .i64 x2].toArray) w := by kernel_rfl
theorem bsl111_1_0 (x1 : Int) (x2 : Int) (w : World) : (Instr.buildSlice 111 1 #[(0, .agg [.int .i64 x1, .int .i64 x2].toArray)]).run Try.prog w = .ok (.slice (some ⟨w.heap.size, 0, none⟩) 1 1) (w.alloc (.cells [.int .i64 x1, .int .i64 x2].toArray 117)) := by kernel_rfl
theorem sl111 : SliceOf Try.prog 111 117 2 := ⟨Try.underlying111, Try.sizeOf117⟩
theorem ap111 : AppT Try.prog 111 117 2 16 := ⟨Try.underlying111, by
  obtain ⟨i, h1, h2, h3, h4⟩ := info_parts (P := Try.prog) (e := 117) (z := .agg [.int .i64 0, .int .i64 0].toArray) (size := 2) (bytes := 16) (by kernel_rfl)
  exact ⟨i, _, h1, h2, h3, h4, by rfl⟩, by decide⟩
theorem tN117 : TAgg Try.prog 117 2 := ⟨Try.isAgg117, Try.sizeOf117⟩
theorem z117 : ZeroOf Try.prog 117 [.int .i64 0, .int .i64 0] := ⟨fun w => ⟨_, Try.zeroValue117 w, rfl⟩⟩
theorem fld117_0 : FieldAt Try.prog 117 0 3 0 := ⟨fun cs w => by simp [Instr.field, Try.runUnderlying117, asAgg], fun a w => by simp [Instr.fieldAt, Try.runUnderlying117, Instr.sureAddr, fieldPlace, Try.sizeOf3]⟩
theorem fld117_1 : FieldAt Try.prog 117 1 3 1 := ⟨fun cs w => by simp [Instr.field, Try.runUnderlying117, asAgg], fun a w => by simp [Instr.fieldAt, Try.runUnderlying117, Instr.sureAddr, fieldPlace, Try.sizeOf3]⟩
theorem hb70 : HasBody Try.prog 70 := ⟨Try.call70, by kernel_rfl⟩
theorem bld75_0_1 (x1 : Int) (x2 : Int) (w : World) : (Instr.build 75 #[(0, .int .i64 x1), (1, .int .i64 x2)]).run Try.prog w = .ok (.agg [.int .i64 x1, .int .i64 x2].toArray) w := by kernel_rfl
theorem hb71 : HasBody Try.prog 71 := ⟨Try.call71, by kernel_rfl⟩
theorem hb72 : HasBody Try.prog 72 := ⟨Try.call72, by kernel_rfl⟩
theorem sl119 : SliceOf Try.prog 119 122 2 := ⟨Try.underlying119, Try.sizeOf122⟩
theorem fld122_1 : FieldAt Try.prog 122 1 3 1 := ⟨fun cs w => by simp [Instr.field, Try.runUnderlying122, asAgg], fun a w => by simp [Instr.fieldAt, Try.runUnderlying122, Instr.sureAddr, fieldPlace, Try.sizeOf3]⟩
theorem fld122_0 : FieldAt Try.prog 122 0 3 0 := ⟨fun cs w => by simp [Instr.field, Try.runUnderlying122, asAgg], fun a w => by simp [Instr.fieldAt, Try.runUnderlying122, Instr.sureAddr, fieldPlace, Try.sizeOf3]⟩
theorem tN122 : TAgg Try.prog 122 2 := ⟨Try.isAgg122, Try.sizeOf122⟩
theorem z122 : ZeroOf Try.prog 122 [.int .i64 0, .int .i64 0] := ⟨fun w => ⟨_, Try.zeroValue122 w, rfl⟩⟩
theorem hb73 : HasBody Try.prog 73 := ⟨Try.call73, by kernel_rfl⟩
theorem hb74 : HasBody Try.prog 74 := ⟨Try.call74, by kernel_rfl⟩
theorem hb75 : HasBody Try.prog 75 := ⟨Try.call75, by kernel_rfl⟩
theorem hb77 : HasBody Try.prog 77 := ⟨Try.call77, by kernel_rfl⟩
theorem hb76 : HasBody Try.prog 76 := ⟨Try.call76, by kernel_rfl⟩
theorem hb78 : HasBody Try.prog 78 := ⟨Try.call78, by kernel_rfl⟩
theorem hb79 : HasBody Try.prog 79 := ⟨Try.call79, by kernel_rfl⟩
theorem hb81 : HasBody Try.prog 81 := ⟨Try.call81, by kernel_rfl⟩
theorem eqi100 (d : Nat) (x1 : Int) (x2 : Int) (x1001 : Int) (x1002 : Int) (w : World) : (Op.equalIn (d + 2) 100 (.agg [.int .i64 x1, .int .i64 x2].toArray) (.agg [.int .i64 x1001, .int .i64 x1002].toArray)).run Try.prog w = .ok ((x1 == x1001) && (x2 == x1002)) w :=
  run_eqStruct (plan := [(3, 0, false), (3, 1, false)]) (by kernel_rfl) (by kernel_rfl) (by kernel_rfl) (.cons (by kernel_rfl) (by kernel_rfl) (eqi3 _ _ _ w) (.last (by kernel_rfl) (by kernel_rfl) (eqi3 _ _ _ w)))
theorem eqg100 : Try.prog.eqGuardType Try.prog.depth 100 = false := by kernel_rfl
theorem eq100 (x1 : Int) (x2 : Int) (x1001 : Int) (x1002 : Int) (w : World) : (Op.equal 100 (.agg [.int .i64 x1, .int .i64 x2].toArray) (.agg [.int .i64 x1001, .int .i64 x1002].toArray)).run Try.prog w = .ok ((x1 == x1001) && (x2 == x1002)) w := eqi100 9998 x1 x2 x1001 x1002 w
theorem hb82 : HasBody Try.prog 82 := ⟨Try.call82, by kernel_rfl⟩
theorem hb83 : HasBody Try.prog 83 := ⟨Try.call83, by kernel_rfl⟩
theorem hb84 : HasBody Try.prog 84 := ⟨Try.call84, by kernel_rfl⟩
theorem hb86 : HasBody Try.prog 86 := ⟨Try.call86, by kernel_rfl⟩
theorem hb80 : HasBody Try.prog 80 := ⟨Try.call80, by kernel_rfl⟩
theorem bld122_0_1 (x1 : Int) (x2 : Int) (w : World) : (Instr.build 122 #[(0, .int .i64 x1), (1, .int .i64 x2)]).run Try.prog w = .ok (.agg [.int .i64 x1, .int .i64 x2].toArray) w := by kernel_rfl
theorem bsl119_1_0 (x1 : Int) (x2 : Int) (w : World) : (Instr.buildSlice 119 1 #[(0, .agg [.int .i64 x1, .int .i64 x2].toArray)]).run Try.prog w = .ok (.slice (some ⟨w.heap.size, 0, none⟩) 1 1) (w.alloc (.cells [.int .i64 x1, .int .i64 x2].toArray 122)) := by kernel_rfl
theorem ap119 : AppT Try.prog 119 122 2 16 := ⟨Try.underlying119, by
  obtain ⟨i, h1, h2, h3, h4⟩ := info_parts (P := Try.prog) (e := 122) (z := .agg [.int .i64 0, .int .i64 0].toArray) (size := 2) (bytes := 16) (by kernel_rfl)
  exact ⟨i, _, h1, h2, h3, h4, by rfl⟩, by decide⟩
theorem hb85 : HasBody Try.prog 85 := ⟨Try.call85, by kernel_rfl⟩
theorem hb87 : HasBody Try.prog 87 := ⟨Try.call87, by kernel_rfl⟩
end Go.Proofs.Sw
