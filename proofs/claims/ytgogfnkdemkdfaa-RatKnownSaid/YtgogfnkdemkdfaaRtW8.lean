/-
  Walks through layer 2 and its reference.
-/
import Derived.Test.YtgogfnkdemkdfaaRtW7
namespace Go.Proofs.Rt
open Go Go.Eng Go.Rt
set_option maxRecDepth 4000

theorem add4 {w : World} {F : Know} (hF : ∀ a v, F a = some v → w.cell? a = some v) {n1 n2 n3 n4 : Int} (ha : (-9223372036854775808 ≤ n1 ∧ n1 ≤ 9223372036854775807) ∧ (-9223372036854775808 ≤ n2 ∧ n2 ≤ 9223372036854775807)) (hb : (-9223372036854775808 ≤ n3 ∧ n3 ≤ 9223372036854775807) ∧ (-9223372036854775808 ≤ n4 ∧ n4 ≤ 9223372036854775807)) : Pure Try.prog 16 [.agg [.int .i64 n1, .int .i64 n2].toArray, .agg [.int .i64 n3, .int .i64 n4].toArray] w (.tuple [.agg [.int .i64 (opA (n1, n2) (n3, n4) (addF (n1, n2) (n3, n4))).1.1, .int .i64 (opA (n1, n2) (n3, n4) (addF (n1, n2) (n3, n4))).1.2].toArray, .int .i64 (opA (n1, n2) (n3, n4) (addF (n1, n2) (n3, n4))).2].toArray) := add_ok (a := (n1, n2)) (b := (n3, n4)) hF ha hb

theorem radd4 {w : World} {F : Know} (hF : ∀ a v, F a = some v → w.cell? a = some v) {n1 n2 n3 n4 : Int} (ha : (-9223372036854775808 ≤ n1 ∧ n1 ≤ 9223372036854775807) ∧ (-9223372036854775808 ≤ n2 ∧ n2 ≤ 9223372036854775807)) (hb : (-9223372036854775808 ≤ n3 ∧ n3 ≤ 9223372036854775807) ∧ (-9223372036854775808 ≤ n4 ∧ n4 ≤ 9223372036854775807)) : Pure Try.prog 17 [.agg [.int .i64 n1, .int .i64 n2].toArray, .agg [.int .i64 n3, .int .i64 n4].toArray] w (.tuple [.agg [.int .i64 (opA (n1, n2) (n3, n4) (addF (n1, n2) (n3, n4))).1.1, .int .i64 (opA (n1, n2) (n3, n4) (addF (n1, n2) (n3, n4))).1.2].toArray, .int .i64 (opA (n1, n2) (n3, n4) (addF (n1, n2) (n3, n4))).2].toArray) := radd_ok (a := (n1, n2)) (b := (n3, n4)) hF ha hb

theorem sub4 {w : World} {F : Know} (hF : ∀ a v, F a = some v → w.cell? a = some v) {n1 n2 n3 n4 : Int} (ha : (-9223372036854775808 ≤ n1 ∧ n1 ≤ 9223372036854775807) ∧ (-9223372036854775808 ≤ n2 ∧ n2 ≤ 9223372036854775807)) (hb : (-9223372036854775808 ≤ n3 ∧ n3 ≤ 9223372036854775807) ∧ (-9223372036854775808 ≤ n4 ∧ n4 ≤ 9223372036854775807)) : Pure Try.prog 18 [.agg [.int .i64 n1, .int .i64 n2].toArray, .agg [.int .i64 n3, .int .i64 n4].toArray] w (.tuple [.agg [.int .i64 (opA (n1, n2) (n3, n4) (subF (n1, n2) (n3, n4))).1.1, .int .i64 (opA (n1, n2) (n3, n4) (subF (n1, n2) (n3, n4))).1.2].toArray, .int .i64 (opA (n1, n2) (n3, n4) (subF (n1, n2) (n3, n4))).2].toArray) := sub_ok (a := (n1, n2)) (b := (n3, n4)) hF ha hb

theorem rsub4 {w : World} {F : Know} (hF : ∀ a v, F a = some v → w.cell? a = some v) {n1 n2 n3 n4 : Int} (ha : (-9223372036854775808 ≤ n1 ∧ n1 ≤ 9223372036854775807) ∧ (-9223372036854775808 ≤ n2 ∧ n2 ≤ 9223372036854775807)) (hb : (-9223372036854775808 ≤ n3 ∧ n3 ≤ 9223372036854775807) ∧ (-9223372036854775808 ≤ n4 ∧ n4 ≤ 9223372036854775807)) : Pure Try.prog 19 [.agg [.int .i64 n1, .int .i64 n2].toArray, .agg [.int .i64 n3, .int .i64 n4].toArray] w (.tuple [.agg [.int .i64 (opA (n1, n2) (n3, n4) (subF (n1, n2) (n3, n4))).1.1, .int .i64 (opA (n1, n2) (n3, n4) (subF (n1, n2) (n3, n4))).1.2].toArray, .int .i64 (opA (n1, n2) (n3, n4) (subF (n1, n2) (n3, n4))).2].toArray) := rsub_ok (a := (n1, n2)) (b := (n3, n4)) hF ha hb

theorem mul4 {w : World} {F : Know} (hF : ∀ a v, F a = some v → w.cell? a = some v) {n1 n2 n3 n4 : Int} (ha : (-9223372036854775808 ≤ n1 ∧ n1 ≤ 9223372036854775807) ∧ (-9223372036854775808 ≤ n2 ∧ n2 ≤ 9223372036854775807)) (hb : (-9223372036854775808 ≤ n3 ∧ n3 ≤ 9223372036854775807) ∧ (-9223372036854775808 ≤ n4 ∧ n4 ≤ 9223372036854775807)) : Pure Try.prog 20 [.agg [.int .i64 n1, .int .i64 n2].toArray, .agg [.int .i64 n3, .int .i64 n4].toArray] w (.tuple [.agg [.int .i64 (opA (n1, n2) (n3, n4) (mulF (n1, n2) (n3, n4))).1.1, .int .i64 (opA (n1, n2) (n3, n4) (mulF (n1, n2) (n3, n4))).1.2].toArray, .int .i64 (opA (n1, n2) (n3, n4) (mulF (n1, n2) (n3, n4))).2].toArray) := mul_ok (a := (n1, n2)) (b := (n3, n4)) hF ha hb

theorem rmul4 {w : World} {F : Know} (hF : ∀ a v, F a = some v → w.cell? a = some v) {n1 n2 n3 n4 : Int} (ha : (-9223372036854775808 ≤ n1 ∧ n1 ≤ 9223372036854775807) ∧ (-9223372036854775808 ≤ n2 ∧ n2 ≤ 9223372036854775807)) (hb : (-9223372036854775808 ≤ n3 ∧ n3 ≤ 9223372036854775807) ∧ (-9223372036854775808 ≤ n4 ∧ n4 ≤ 9223372036854775807)) : Pure Try.prog 21 [.agg [.int .i64 n1, .int .i64 n2].toArray, .agg [.int .i64 n3, .int .i64 n4].toArray] w (.tuple [.agg [.int .i64 (opA (n1, n2) (n3, n4) (mulF (n1, n2) (n3, n4))).1.1, .int .i64 (opA (n1, n2) (n3, n4) (mulF (n1, n2) (n3, n4))).1.2].toArray, .int .i64 (opA (n1, n2) (n3, n4) (mulF (n1, n2) (n3, n4))).2].toArray) := rmul_ok (a := (n1, n2)) (b := (n3, n4)) hF ha hb

theorem div4 {w : World} {F : Know} (hF : ∀ a v, F a = some v → w.cell? a = some v) {n1 n2 n3 n4 : Int} (ha : (-9223372036854775808 ≤ n1 ∧ n1 ≤ 9223372036854775807) ∧ (-9223372036854775808 ≤ n2 ∧ n2 ≤ 9223372036854775807)) (hb : (-9223372036854775808 ≤ n3 ∧ n3 ≤ 9223372036854775807) ∧ (-9223372036854775808 ≤ n4 ∧ n4 ≤ 9223372036854775807)) : Pure Try.prog 22 [.agg [.int .i64 n1, .int .i64 n2].toArray, .agg [.int .i64 n3, .int .i64 n4].toArray] w (.tuple [.agg [.int .i64 (opA (n1, n2) (n3, n4) (divF (n1, n2) (n3, n4))).1.1, .int .i64 (opA (n1, n2) (n3, n4) (divF (n1, n2) (n3, n4))).1.2].toArray, .int .i64 (opA (n1, n2) (n3, n4) (divF (n1, n2) (n3, n4))).2].toArray) := div_ok (a := (n1, n2)) (b := (n3, n4)) hF ha hb

theorem rdiv4 {w : World} {F : Know} (hF : ∀ a v, F a = some v → w.cell? a = some v) {n1 n2 n3 n4 : Int} (ha : (-9223372036854775808 ≤ n1 ∧ n1 ≤ 9223372036854775807) ∧ (-9223372036854775808 ≤ n2 ∧ n2 ≤ 9223372036854775807)) (hb : (-9223372036854775808 ≤ n3 ∧ n3 ≤ 9223372036854775807) ∧ (-9223372036854775808 ≤ n4 ∧ n4 ≤ 9223372036854775807)) : Pure Try.prog 23 [.agg [.int .i64 n1, .int .i64 n2].toArray, .agg [.int .i64 n3, .int .i64 n4].toArray] w (.tuple [.agg [.int .i64 (opA (n1, n2) (n3, n4) (divF (n1, n2) (n3, n4))).1.1, .int .i64 (opA (n1, n2) (n3, n4) (divF (n1, n2) (n3, n4))).1.2].toArray, .int .i64 (opA (n1, n2) (n3, n4) (divF (n1, n2) (n3, n4))).2].toArray) := rdiv_ok (a := (n1, n2)) (b := (n3, n4)) hF ha hb

theorem cmp4 {w : World} {F : Know} (hF : ∀ a v, F a = some v → w.cell? a = some v) {n1 n2 n3 n4 : Int} (ha : (-9223372036854775808 ≤ n1 ∧ n1 ≤ 9223372036854775807) ∧ (-9223372036854775808 ≤ n2 ∧ n2 ≤ 9223372036854775807)) (hb : (-9223372036854775808 ≤ n3 ∧ n3 ≤ 9223372036854775807) ∧ (-9223372036854775808 ≤ n4 ∧ n4 ≤ 9223372036854775807)) : Pure Try.prog 25 [.agg [.int .i64 n1, .int .i64 n2].toArray, .agg [.int .i64 n3, .int .i64 n4].toArray] w (.tuple [.int .i64 (cmpA (n1, n2) (n3, n4)).1, .int .i64 (cmpA (n1, n2) (n3, n4)).2].toArray) := cmp_ok (a := (n1, n2)) (b := (n3, n4)) hF ha hb

theorem rcmp4 {w : World} {F : Know} (hF : ∀ a v, F a = some v → w.cell? a = some v) {n1 n2 n3 n4 : Int} (ha : (-9223372036854775808 ≤ n1 ∧ n1 ≤ 9223372036854775807) ∧ (-9223372036854775808 ≤ n2 ∧ n2 ≤ 9223372036854775807)) (hb : (-9223372036854775808 ≤ n3 ∧ n3 ≤ 9223372036854775807) ∧ (-9223372036854775808 ≤ n4 ∧ n4 ≤ 9223372036854775807)) : Pure Try.prog 31 [.agg [.int .i64 n1, .int .i64 n2].toArray, .agg [.int .i64 n3, .int .i64 n4].toArray] w (.tuple [.int .i64 (cmpA (n1, n2) (n3, n4)).1, .int .i64 (cmpA (n1, n2) (n3, n4)).2].toArray) := rcmp_ok (a := (n1, n2)) (b := (n3, n4)) hF ha hb

theorem min4 {w : World} {F : Know} (hF : ∀ a v, F a = some v → w.cell? a = some v) {n1 n2 n3 n4 : Int} (ha : (-9223372036854775808 ≤ n1 ∧ n1 ≤ 9223372036854775807) ∧ (-9223372036854775808 ≤ n2 ∧ n2 ≤ 9223372036854775807)) (hb : (-9223372036854775808 ≤ n3 ∧ n3 ≤ 9223372036854775807) ∧ (-9223372036854775808 ≤ n4 ∧ n4 ≤ 9223372036854775807)) : Pure Try.prog 32 [.agg [.int .i64 n1, .int .i64 n2].toArray, .agg [.int .i64 n3, .int .i64 n4].toArray] w (.tuple [.agg [.int .i64 (minA (n1, n2) (n3, n4)).1.1, .int .i64 (minA (n1, n2) (n3, n4)).1.2].toArray, .int .i64 (minA (n1, n2) (n3, n4)).2].toArray) := min_ok (a := (n1, n2)) (b := (n3, n4)) hF ha hb

theorem rmin4 {w : World} {F : Know} (hF : ∀ a v, F a = some v → w.cell? a = some v) {n1 n2 n3 n4 : Int} (ha : (-9223372036854775808 ≤ n1 ∧ n1 ≤ 9223372036854775807) ∧ (-9223372036854775808 ≤ n2 ∧ n2 ≤ 9223372036854775807)) (hb : (-9223372036854775808 ≤ n3 ∧ n3 ≤ 9223372036854775807) ∧ (-9223372036854775808 ≤ n4 ∧ n4 ≤ 9223372036854775807)) : Pure Try.prog 33 [.agg [.int .i64 n1, .int .i64 n2].toArray, .agg [.int .i64 n3, .int .i64 n4].toArray] w (.tuple [.agg [.int .i64 (minA (n1, n2) (n3, n4)).1.1, .int .i64 (minA (n1, n2) (n3, n4)).1.2].toArray, .int .i64 (minA (n1, n2) (n3, n4)).2].toArray) := rmin_ok (a := (n1, n2)) (b := (n3, n4)) hF ha hb

theorem max4 {w : World} {F : Know} (hF : ∀ a v, F a = some v → w.cell? a = some v) {n1 n2 n3 n4 : Int} (ha : (-9223372036854775808 ≤ n1 ∧ n1 ≤ 9223372036854775807) ∧ (-9223372036854775808 ≤ n2 ∧ n2 ≤ 9223372036854775807)) (hb : (-9223372036854775808 ≤ n3 ∧ n3 ≤ 9223372036854775807) ∧ (-9223372036854775808 ≤ n4 ∧ n4 ≤ 9223372036854775807)) : Pure Try.prog 29 [.agg [.int .i64 n1, .int .i64 n2].toArray, .agg [.int .i64 n3, .int .i64 n4].toArray] w (.tuple [.agg [.int .i64 (maxA (n1, n2) (n3, n4)).1.1, .int .i64 (maxA (n1, n2) (n3, n4)).1.2].toArray, .int .i64 (maxA (n1, n2) (n3, n4)).2].toArray) := max_ok (a := (n1, n2)) (b := (n3, n4)) hF ha hb

theorem rmax4 {w : World} {F : Know} (hF : ∀ a v, F a = some v → w.cell? a = some v) {n1 n2 n3 n4 : Int} (ha : (-9223372036854775808 ≤ n1 ∧ n1 ≤ 9223372036854775807) ∧ (-9223372036854775808 ≤ n2 ∧ n2 ≤ 9223372036854775807)) (hb : (-9223372036854775808 ≤ n3 ∧ n3 ≤ 9223372036854775807) ∧ (-9223372036854775808 ≤ n4 ∧ n4 ≤ 9223372036854775807)) : Pure Try.prog 34 [.agg [.int .i64 n1, .int .i64 n2].toArray, .agg [.int .i64 n3, .int .i64 n4].toArray] w (.tuple [.agg [.int .i64 (maxA (n1, n2) (n3, n4)).1.1, .int .i64 (maxA (n1, n2) (n3, n4)).1.2].toArray, .int .i64 (maxA (n1, n2) (n3, n4)).2].toArray) := rmax_ok (a := (n1, n2)) (b := (n3, n4)) hF ha hb

theorem check2 {w : World} {F : Know} (hF : ∀ a v, F a = some v → w.cell? a = some v) {n1 n2 : Int} (hx : (-9223372036854775808 ≤ n1 ∧ n1 ≤ 9223372036854775807) ∧ (-9223372036854775808 ≤ n2 ∧ n2 ≤ 9223372036854775807)) : Pure Try.prog 12 [.agg [.int .i64 n1, .int .i64 n2].toArray] w (.int .i64 (if validE (n1, n2) = true then 0 else 120)) := check_ok (x := (n1, n2)) hF hx

theorem rcheck2 {w : World} {F : Know} (hF : ∀ a v, F a = some v → w.cell? a = some v) {n1 n2 : Int} (hx : (-9223372036854775808 ≤ n1 ∧ n1 ≤ 9223372036854775807) ∧ (-9223372036854775808 ≤ n2 ∧ n2 ≤ 9223372036854775807)) : Pure Try.prog 13 [.agg [.int .i64 n1, .int .i64 n2].toArray] w (.int .i64 (if validE (n1, n2) = true then 0 else 120)) := rcheck_ok (x := (n1, n2)) hF hx

theorem floor2 {w : World} {F : Know} (hF : ∀ a v, F a = some v → w.cell? a = some v) {n1 n2 : Int} (hx : (-9223372036854775808 ≤ n1 ∧ n1 ≤ 9223372036854775807) ∧ (-9223372036854775808 ≤ n2 ∧ n2 ≤ 9223372036854775807)) : Pure Try.prog 26 [.agg [.int .i64 n1, .int .i64 n2].toArray] w (.tuple [.int .i64 (floorA (n1, n2)).1, .int .i64 (floorA (n1, n2)).2].toArray) := floor_ok (x := (n1, n2)) hF hx

theorem rfloor2 {w : World} {F : Know} (hF : ∀ a v, F a = some v → w.cell? a = some v) {n1 n2 : Int} (hx : (-9223372036854775808 ≤ n1 ∧ n1 ≤ 9223372036854775807) ∧ (-9223372036854775808 ≤ n2 ∧ n2 ≤ 9223372036854775807)) : Pure Try.prog 35 [.agg [.int .i64 n1, .int .i64 n2].toArray] w (.tuple [.int .i64 (floorA (n1, n2)).1, .int .i64 (floorA (n1, n2)).2].toArray) := rfloor_ok (x := (n1, n2)) hF hx

theorem ceil2 {w : World} {F : Know} (hF : ∀ a v, F a = some v → w.cell? a = some v) {n1 n2 : Int} (hx : (-9223372036854775808 ≤ n1 ∧ n1 ≤ 9223372036854775807) ∧ (-9223372036854775808 ≤ n2 ∧ n2 ≤ 9223372036854775807)) : Pure Try.prog 27 [.agg [.int .i64 n1, .int .i64 n2].toArray] w (.tuple [.int .i64 (ceilA (n1, n2)).1, .int .i64 (ceilA (n1, n2)).2].toArray) := ceil_ok (x := (n1, n2)) hF hx

theorem rceil2 {w : World} {F : Know} (hF : ∀ a v, F a = some v → w.cell? a = some v) {n1 n2 : Int} (hx : (-9223372036854775808 ≤ n1 ∧ n1 ≤ 9223372036854775807) ∧ (-9223372036854775808 ≤ n2 ∧ n2 ≤ 9223372036854775807)) : Pure Try.prog 36 [.agg [.int .i64 n1, .int .i64 n2].toArray] w (.tuple [.int .i64 (ceilA (n1, n2)).1, .int .i64 (ceilA (n1, n2)).2].toArray) := rceil_ok (x := (n1, n2)) hF hx

/-- is. -/
theorem is_ok {w : World} {F : Know} (hF : ∀ a v, F a = some v → w.cell? a = some v) (n1 n2 e n d : Int) : Pure Try.prog 30 [.agg [.int .i64 n1, .int .i64 n2].toArray, .int .i64 e, .int .i64 n, .int .i64 d] w (.bool (isE n1 n2 e n d)) := by
  refine fn_pure (F := F) Try.func30 rfl Try.ntmps30 rfl hF ?_
  refine t_seq ?_
  refine b0 ?_
  refine om1 rfl (new_boxN rfl) rfl rfl trivial (fun p4 => ?_)
  refine o1 rfl (det_assign rfl) rfl rfl trivial ?_
  refine be rfl ?_
  refine k_then ?_
  refine t_seq ?_
  refine bD mixed ?_
  refine r_seg 10 10 [] [0, 1, 2, 3, 4, 5, 6, 7, 8, 9] (by kernel_rfl) ?_
  refine s1 rfl (det_move rfl) rfl rfl trivial rfl ?_
  refine s1 rfl (det_eql rfl rfl) rfl rfl trivial rfl ?_
  refine s2P beq_iff_eq rfl (det_move rfl) rfl rfl trivial rfl (fun hb => ?_) (fun hb => ?_)
  ·
    refine s1 rfl (det_loadN tN23 rfl rfl (.head _) rfl) rfl rfl ⟨_, rfl, rfl⟩ rfl ?_
    refine s1 rfl (det_move rfl) rfl rfl ⟨_, rfl, rfl⟩ rfl ?_
    refine s1 rfl (det_move rfl) rfl rfl ⟨_, rfl, rfl⟩ rfl ?_
    refine s1 rfl (det_call hb28 rfl rfl (fun w1 hs => of_ok hs.know _ _)) rfl rfl ⟨_, rfl, rfl⟩ rfl ?_
    refine s1 rfl (det_eqlS rfl rfl eqg23 (fun w => eq23 _ _ _ _ w)) rfl rfl ⟨_, rfl, rfl⟩ rfl ?_
    refine s1 rfl (det_pickT rfl rfl) rfl rfl trivial rfl ?_
    refine s1 rfl (det_assign rfl) rfl rfl trivial rfl ?_
    refine sg_nil ?_
    refine be rfl ?_
    refine k_then ?_
    refine t_ret ?_
    refine ret_tmp rfl rfl rfl (fun w1 hs => ?_)
    refine ⟨?_, hs.keep⟩
    rw [isE, hb]; rfl
  ·
    refine sn rfl rfl rfl ⟨_, rfl, .inl rfl⟩ ?_
    refine sn rfl rfl rfl ⟨_, rfl, .inl rfl⟩ ?_
    refine sn rfl rfl rfl ⟨_, rfl, .inl rfl⟩ ?_
    refine sn rfl rfl rfl ⟨_, rfl, .inl rfl⟩ ?_
    refine sn rfl rfl rfl ⟨_, rfl, .inl rfl⟩ ?_
    refine s1 rfl (det_pickF rfl rfl) rfl rfl trivial rfl ?_
    refine s1 rfl (det_assign rfl) rfl rfl trivial rfl ?_
    refine sg_nil ?_
    refine be rfl ?_
    refine k_then ?_
    refine t_ret ?_
    refine ret_tmp rfl rfl rfl (fun w1 hs => ?_)
    refine ⟨?_, hs.keep⟩
    rw [isE, beq_eq_false_iff_ne.2 hb]; rfl

/-- small. -/
theorem small_ok {w : World} {F : Know} (hF : ∀ a v, F a = some v → w.cell? a = some v) {n d : Int} (hn : -128 ≤ n ∧ n ≤ 127) (hd : 0 ≤ d ∧ d ≤ 255) : Pure Try.prog 24 [.int .i8 n, .int .u8 d] w (.agg [.int .i64 (smallE n d).1, .int .i64 (smallE n d).2].toArray) := by
  refine fn_pure (F := F) Try.func24 rfl Try.ntmps24 rfl hF ?_
  refine t_seq ?_
  refine b0 ?_
  refine om1 rfl (new_alloc z23) rfl rfl trivial (fun p4 => ?_)
  refine be rfl ?_
  refine k_then ?_
  refine t_seq ?_
  refine b0 ?_
  refine o1 rfl (det_move rfl) rfl rfl trivial ?_
  first | (refine o1 rfl (det_convW Try.underlying38 Try.underlying3 rfl ?_) rfl rfl trivial ?_; (· exact IntWalk.i64_in _ (by omega))) | refine o1 rfl (det_conv Try.underlying38 Try.underlying3 rfl) rfl rfl trivial ?_
  refine o1 rfl (det_move rfl) rfl rfl trivial ?_
  first | (refine o1 rfl (det_remP rfl rfl ?_) rfl rfl trivial ?_; (· omega)) | (refine o1 rfl (det_rem rfl rfl ?_) rfl rfl trivial ?_; (· (first | decide | omega)))
  first | (refine o1 rfl (det_convW Try.underlying5 Try.underlying3 rfl ?_) rfl rfl trivial ?_; (· exact IntWalk.i64_in _ (by omega))) | refine o1 rfl (det_conv Try.underlying5 Try.underlying3 rfl) rfl rfl trivial ?_
  first | (refine o1 rfl (det_addI rfl rfl ?_) rfl rfl trivial ?_; (· omega)) | refine o1 rfl (det_add rfl rfl) rfl rfl trivial ?_
  refine o1 rfl (det_call hb10 rfl rfl (fun w1 hs => make_ok hs.know _ _)) rfl rfl trivial ?_
  refine o1 rfl (det_move rfl) rfl rfl trivial ?_
  refine o1 rfl (det_extract rfl rfl) rfl rfl trivial ?_
  refine o1 rfl (det_extract rfl rfl) rfl rfl trivial ?_
  refine om1 rfl (new_alloc z23) rfl rfl trivial (fun p5 => ?_)
  refine stN nofun rfl tN23 rfl rfl rfl .head rfl trivial rfl rfl ?_
  refine o1 rfl (det_assign rfl) rfl rfl trivial ?_
  refine be rfl ?_
  refine k_then ?_
  refine t_seq ?_
  refine b0 ?_
  refine o1 rfl (det_loadN tN23 rfl rfl (.head _) rfl) rfl rfl trivial ?_
  refine stN nofun rfl tN23 rfl rfl rfl (.tail .head) rfl trivial rfl rfl ?_
  refine be rfl ?_
  refine k_then ?_
  refine t_ret ?_
  refine ret_any (vs := [_]) rfl rfl ⟨(.cellN tN23 rfl rfl (.tail _ (.head _)) rfl), trivial⟩ rfl (fun w1 hs => ?_)
  exact ⟨rfl, hs.keep⟩

/-- Of. -/
theorem of2_ok {w : World} {F : Know} (hF : ∀ a v, F a = some v → w.cell? a = some v) (n d : Int) : Pure Try.prog 42 [.int .i64 n, .int .i64 d] w (.agg [.int .i64 (ofE n d).1, .int .i64 (ofE n d).2].toArray) := by
  refine fn_pure (F := F) Try.func42 rfl Try.ntmps42 rfl hF ?_
  refine t_seq ?_
  refine b0 ?_
  refine om1 rfl (new_alloc z23) rfl rfl trivial (fun p4 => ?_)
  refine be rfl ?_
  refine k_then ?_
  refine t_seq ?_
  refine b0 ?_
  have hu := u64_rng d
  refine o1 rfl (det_move rfl) rfl rfl trivial ?_
  first | (refine o1 rfl (det_remP rfl rfl ?_) rfl rfl trivial ?_; (· omega)) | (refine o1 rfl (det_rem rfl rfl ?_) rfl rfl trivial ?_; (· (first | decide | omega)))
  refine o1 rfl (det_move rfl) rfl rfl trivial ?_
  first | (refine o1 rfl (det_convW Try.underlying3 Try.underlying24 rfl ?_) rfl rfl trivial ?_; (· exact IntWalk.u64_in _ (by omega))) | refine o1 rfl (det_conv Try.underlying3 Try.underlying24 rfl) rfl rfl trivial ?_
  first | (refine o1 rfl (det_remP rfl rfl ?_) rfl rfl trivial ?_; (· omega)) | (refine o1 rfl (det_rem rfl rfl ?_) rfl rfl trivial ?_; (· (first | decide | omega)))
  first | (refine o1 rfl (det_convW Try.underlying24 Try.underlying3 rfl ?_) rfl rfl trivial ?_; (· exact IntWalk.i64_in _ (by omega))) | refine o1 rfl (det_conv Try.underlying24 Try.underlying3 rfl) rfl rfl trivial ?_
  first | (refine o1 rfl (det_addI rfl rfl ?_) rfl rfl trivial ?_; (· omega)) | refine o1 rfl (det_add rfl rfl) rfl rfl trivial ?_
  refine o1 rfl (det_call hb11 rfl rfl (fun w1 hs => rmake_ok hs.know _ _)) rfl rfl trivial ?_
  refine o1 rfl (det_move rfl) rfl rfl trivial ?_
  refine o1 rfl (det_extract rfl rfl) rfl rfl trivial ?_
  refine o1 rfl (det_extract rfl rfl) rfl rfl trivial ?_
  refine om1 rfl (new_alloc z23) rfl rfl trivial (fun p5 => ?_)
  refine stN nofun rfl tN23 rfl rfl rfl .head rfl trivial rfl rfl ?_
  refine o1 rfl (det_assign rfl) rfl rfl trivial ?_
  refine be rfl ?_
  refine k_then ?_
  refine t_seq ?_
  refine t_seq ?_
  refine b0 ?_
  refine o1 rfl (det_move rfl) rfl rfl trivial ?_
  first | (refine o1 rfl (det_convW Try.underlying3 Try.underlying24 rfl ?_) rfl rfl trivial ?_; (· exact IntWalk.u64_in _ (by omega))) | refine o1 rfl (det_conv Try.underlying3 Try.underlying24 rfl) rfl rfl trivial ?_
  first | (refine o1 rfl (det_remP rfl rfl ?_) rfl rfl trivial ?_; (· omega)) | (refine o1 rfl (det_rem rfl rfl ?_) rfl rfl trivial ?_; (· (first | decide | omega)))
  refine o1 rfl (det_eql rfl rfl) rfl rfl trivial ?_
  refine be rfl ?_
  refine k_then ?_
  refine t_condP beq_iff_eq rfl (fun hb => ?_) (fun hb => ?_)
  ·
    have hr : ofR n d = makeA (n.tmod 2147483648) (1 + IntKind.u64.wrap d % 1073741824) := by rw [ofR, if_pos hb]
    refine b0 ?_
    refine o1 rfl (det_move rfl) rfl rfl trivial ?_
    first | (refine o1 rfl (det_remP rfl rfl ?_) rfl rfl trivial ?_; (· omega)) | (refine o1 rfl (det_rem rfl rfl ?_) rfl rfl trivial ?_; (· (first | decide | omega)))
    refine o1 rfl (det_move rfl) rfl rfl trivial ?_
    first | (refine o1 rfl (det_convW Try.underlying3 Try.underlying24 rfl ?_) rfl rfl trivial ?_; (· exact IntWalk.u64_in _ (by omega))) | refine o1 rfl (det_conv Try.underlying3 Try.underlying24 rfl) rfl rfl trivial ?_
    first | (refine o1 rfl (det_remP rfl rfl ?_) rfl rfl trivial ?_; (· omega)) | (refine o1 rfl (det_rem rfl rfl ?_) rfl rfl trivial ?_; (· (first | decide | omega)))
    first | (refine o1 rfl (det_convW Try.underlying24 Try.underlying3 rfl ?_) rfl rfl trivial ?_; (· exact IntWalk.i64_in _ (by omega))) | refine o1 rfl (det_conv Try.underlying24 Try.underlying3 rfl) rfl rfl trivial ?_
    first | (refine o1 rfl (det_addI rfl rfl ?_) rfl rfl trivial ?_; (· omega)) | refine o1 rfl (det_add rfl rfl) rfl rfl trivial ?_
    refine o1 rfl (det_call hb11 rfl rfl (fun w1 hs => rmake_ok hs.know _ _)) rfl rfl trivial ?_
    refine o1 rfl (det_move rfl) rfl rfl trivial ?_
    refine o1 rfl (det_extract rfl rfl) rfl rfl trivial ?_
    refine o1 rfl (det_extract rfl rfl) rfl rfl trivial ?_
    refine stN nofun rfl tN23 rfl rfl rfl .head rfl trivial rfl rfl ?_
    refine o1 rfl (det_assign rfl) rfl rfl trivial ?_
    refine be rfl ?_
    refine k_then ?_
    refine t_seq ?_
    refine t_seq ?_
    refine b0 ?_
    refine o1 rfl (det_move rfl) rfl rfl trivial ?_
    refine o1 rfl (det_neq rfl rfl) rfl rfl trivial ?_
    refine be rfl ?_
    refine k_then ?_
    refine t_condP bne_iff_ne rfl (fun hb => ?_) (fun hb => ?_)
    ·
      refine t_seq ?_
      refine b0 ?_
      refine o1 rfl (det_build rfl (fun w => bld23_0_1 _ _ w)) rfl rfl trivial ?_
      refine stN nofun rfl tN23 rfl rfl rfl (.tail .head) rfl trivial rfl rfl ?_
      refine be rfl ?_
      refine k_then ?_
      refine t_ret (k_thenR (?_))
      refine ret_any (vs := [_]) rfl rfl ⟨(.cellN tN23 rfl rfl (.tail _ (.head _)) rfl), trivial⟩ rfl (fun w1 hs => ?_)
      refine ⟨?_, hs.keep⟩
      rw [ofE, hr, if_pos hb]; try rfl
    ·
      refine t_skip ?_
      refine k_then ?_
      refine t_seq ?_
      refine b0 ?_
      refine o1 rfl (det_loadN tN23 rfl rfl (.head _) rfl) rfl rfl trivial ?_
      refine stN nofun rfl tN23 rfl rfl rfl (.tail .head) rfl trivial rfl rfl ?_
      refine be rfl ?_
      refine k_then ?_
      refine t_ret ?_
      refine ret_any (vs := [_]) rfl rfl ⟨(.cellN tN23 rfl rfl (.tail _ (.head _)) rfl), trivial⟩ rfl (fun w1 hs => ?_)
      refine ⟨?_, hs.keep⟩
      rw [ofE, hr, if_neg hb]; try rfl
  ·
    have hr : ofR n d = makeA (n.tmod 4096) (1 + IntKind.u64.wrap d % 64) := by rw [ofR, if_neg hb]
    refine t_skip ?_
    refine k_then ?_
    refine t_seq ?_
    refine t_seq ?_
    refine b0 ?_
    refine o1 rfl (det_move rfl) rfl rfl trivial ?_
    refine o1 rfl (det_neq rfl rfl) rfl rfl trivial ?_
    refine be rfl ?_
    refine k_then ?_
    refine t_condP bne_iff_ne rfl (fun hb => ?_) (fun hb => ?_)
    ·
      refine t_seq ?_
      refine b0 ?_
      refine o1 rfl (det_build rfl (fun w => bld23_0_1 _ _ w)) rfl rfl trivial ?_
      refine stN nofun rfl tN23 rfl rfl rfl (.tail .head) rfl trivial rfl rfl ?_
      refine be rfl ?_
      refine k_then ?_
      refine t_ret (k_thenR (?_))
      refine ret_any (vs := [_]) rfl rfl ⟨(.cellN tN23 rfl rfl (.tail _ (.head _)) rfl), trivial⟩ rfl (fun w1 hs => ?_)
      refine ⟨?_, hs.keep⟩
      rw [ofE, hr, if_pos hb]; try rfl
    ·
      refine t_skip ?_
      refine k_then ?_
      refine t_seq ?_
      refine b0 ?_
      refine o1 rfl (det_loadN tN23 rfl rfl (.head _) rfl) rfl rfl trivial ?_
      refine stN nofun rfl tN23 rfl rfl rfl (.tail .head) rfl trivial rfl rfl ?_
      refine be rfl ?_
      refine k_then ?_
      refine t_ret ?_
      refine ret_any (vs := [_]) rfl rfl ⟨(.cellN tN23 rfl rfl (.tail _ (.head _)) rfl), trivial⟩ rfl (fun w1 hs => ?_)
      refine ⟨?_, hs.keep⟩
      rw [ofE, hr, if_neg hb]; try rfl

/-- pairs. -/
theorem pairs_ok {w : World} {F : Know} (hF : ∀ a v, F a = some v → w.cell? a = some v) (n1 n2 n3 n4 : Int) : Pure Try.prog 15 [.agg [.int .i64 n1, .int .i64 n2].toArray, .agg [.int .i64 n3, .int .i64 n4].toArray] w (.agg [.int .i64 n1, .int .i64 n2, .int .i64 n3, .int .i64 n4, .int .i64 (ofE n1 n2).1, .int .i64 (ofE n1 n2).2, .int .i64 (ofE n3 n4).1, .int .i64 (ofE n3 n4).2, .int .i64 n1, .int .i64 n2, .int .i64 (ofE n3 n4).1, .int .i64 (ofE n3 n4).2, .int .i64 (ofE n1 n2).1, .int .i64 (ofE n1 n2).2, .int .i64 (ofE n1 n2).1, .int .i64 (ofE n1 n2).2].toArray) := by
  refine fn_pure (F := F) Try.func15 rfl Try.ntmps15 rfl hF ?_
  refine t_seq ?_
  refine b0 ?_
  refine om1 rfl (new_boxN rfl) rfl rfl trivial (fun p2 => ?_)
  refine om1 rfl (new_boxN rfl) rfl rfl trivial (fun p3 => ?_)
  refine om1 rfl (new_alloc z34) rfl rfl trivial (fun p4 => ?_)
  refine be rfl ?_
  refine k_then ?_
  refine t_seq ?_
  refine bD mixed ?_
  refine r_seg 14 12 [10, 11] [0, 1, 2, 3, 4, 5, 6, 7, 8, 9, 10, 11] (by kernel_rfl) ?_
  refine s1 rfl (det_fieldAddr fld23_0 rfl) rfl rfl trivial rfl ?_
  refine s1 rfl (det_load1 t1_3 rfl rfl (.tail _ (.tail _ (.head _))) rfl) rfl rfl trivial rfl ?_
  refine s1 rfl (det_fieldAddr fld23_1 rfl) rfl rfl trivial rfl ?_
  refine s1 rfl (det_load1 t1_3 rfl rfl (.tail _ (.tail _ (.head _))) rfl) rfl rfl trivial rfl ?_
  refine s1 rfl (det_call hb42 rfl rfl (fun w1 hs => of2_ok hs.know _ _)) rfl rfl trivial rfl ?_
  refine s1 rfl (det_fieldAddr fld23_0 rfl) rfl rfl trivial rfl ?_
  refine s1 rfl (det_load1 t1_3 rfl rfl (.tail _ (.head _)) rfl) rfl rfl trivial rfl ?_
  refine s1 rfl (det_fieldAddr fld23_1 rfl) rfl rfl trivial rfl ?_
  refine s1 rfl (det_load1 t1_3 rfl rfl (.tail _ (.head _)) rfl) rfl rfl trivial rfl ?_
  refine s1 rfl (det_call hb42 rfl rfl (fun w1 hs => of2_ok hs.know _ _)) rfl rfl trivial rfl ?_
  refine sm1 rfl (new_alloc z23) rfl rfl trivial rfl (fun p5 => ?_)
  refine sm1 rfl (new_alloc z23) rfl rfl trivial rfl (fun p6 => ?_)
  refine sg_nil ?_
  refine stN (fun _ => by kernel_rfl) rfl tN23 rfl rfl rfl (.tail .head) rfl trivial rfl rfl ?_
  refine stN (fun _ => by kernel_rfl) rfl tN23 rfl rfl rfl .head rfl trivial rfl rfl ?_
  refine be rfl ?_
  refine k_then ?_
  refine t_seq ?_
  refine b0 ?_
  refine o1 rfl (det_loadN tN23 rfl rfl (.tail _ (.tail _ (.tail _ (.tail _ (.head _))))) rfl) rfl rfl trivial ?_
  refine o1 rfl (det_loadN tN23 rfl rfl (.tail _ (.tail _ (.tail _ (.head _)))) rfl) rfl rfl trivial ?_
  refine o1 rfl (det_build rfl (fun w => bld33_0_1 _ _ _ _ w)) rfl rfl trivial ?_
  refine o1 rfl (det_loadN tN23 rfl rfl (.tail _ (.head _)) rfl) rfl rfl trivial ?_
  refine o1 rfl (det_loadN tN23 rfl rfl (.head _) rfl) rfl rfl trivial ?_
  refine o1 rfl (det_build rfl (fun w => bld33_0_1 _ _ _ _ w)) rfl rfl trivial ?_
  refine o1 rfl (det_loadN tN23 rfl rfl (.tail _ (.tail _ (.tail _ (.tail _ (.head _))))) rfl) rfl rfl trivial ?_
  refine o1 rfl (det_loadN tN23 rfl rfl (.head _) rfl) rfl rfl trivial ?_
  refine o1 rfl (det_build rfl (fun w => bld33_0_1 _ _ _ _ w)) rfl rfl trivial ?_
  refine o1 rfl (det_loadN tN23 rfl rfl (.tail _ (.head _)) rfl) rfl rfl trivial ?_
  refine o1 rfl (det_loadN tN23 rfl rfl (.tail _ (.head _)) rfl) rfl rfl trivial ?_
  refine o1 rfl (det_build rfl (fun w => bld33_0_1 _ _ _ _ w)) rfl rfl trivial ?_
  refine o1 rfl (det_build rfl (fun w => bld34_0_1_2_3 _ _ _ _ _ _ _ _ _ _ _ _ _ _ _ _ w)) rfl rfl trivial ?_
  refine stN nofun rfl tN34 rfl rfl rfl (.tail (.tail .head)) rfl trivial rfl rfl ?_
  refine be rfl ?_
  refine k_then ?_
  refine t_ret ?_
  refine ret_any (vs := [_]) rfl rfl ⟨(.cellN tN34 rfl rfl (.tail _ (.tail _ (.head _))) rfl), trivial⟩ rfl (fun w1 hs => ?_)
  exact ⟨rfl, hs.keep⟩

/-- works. -/
theorem works_ok {w : World} {F : Know} (hF : ∀ a v, F a = some v → w.cell? a = some v)  : Pure Try.prog 14 [] w (.bool true) := by
  refine fn_pure (F := F) Try.func14 rfl Try.ntmps14 rfl hF ?_
  refine t_seq ?_
  refine b0 ?_
  refine o1 rfl (det_assign rfl) rfl rfl trivial ?_
  refine be rfl ?_
  refine k_then ?_
  refine t_seq ?_
  refine b0 ?_
  refine o1 rfl (det_call hb10 rfl rfl (fun w1 hs => make_ok hs.know _ _)) rfl rfl trivial ?_
  refine o1 rfl (det_move rfl) rfl rfl trivial ?_
  refine o1 rfl (det_extract rfl rfl) rfl rfl trivial ?_
  refine o1 rfl (det_extract rfl rfl) rfl rfl trivial ?_
  refine om1 rfl (new_alloc z23) rfl rfl trivial (fun p1 => ?_)
  refine stN nofun rfl tN23 rfl rfl rfl .head rfl trivial rfl rfl ?_
  refine o1 rfl (det_assign rfl) rfl rfl trivial ?_
  refine be rfl ?_
  refine k_then ?_
  refine t_seq ?_
  refine b0 ?_
  refine o1 rfl (det_call hb10 rfl rfl (fun w1 hs => make_ok hs.know _ _)) rfl rfl trivial ?_
  refine o1 rfl (det_move rfl) rfl rfl trivial ?_
  refine o1 rfl (det_extract rfl rfl) rfl rfl trivial ?_
  refine o1 rfl (det_extract rfl rfl) rfl rfl trivial ?_
  refine om1 rfl (new_alloc z23) rfl rfl trivial (fun p3 => ?_)
  refine stN nofun rfl tN23 rfl rfl rfl .head rfl trivial rfl rfl ?_
  refine o1 rfl (det_assign rfl) rfl rfl trivial ?_
  refine be rfl ?_
  refine k_then ?_
  refine t_seq ?_
  refine b0 ?_
  refine o1 rfl (det_call hb10 rfl rfl (fun w1 hs => make_ok hs.know _ _)) rfl rfl trivial ?_
  refine o1 rfl (det_move rfl) rfl rfl trivial ?_
  refine o1 rfl (det_extract rfl rfl) rfl rfl trivial ?_
  refine o1 rfl (det_extract rfl rfl) rfl rfl trivial ?_
  refine om1 rfl (new_alloc z23) rfl rfl trivial (fun p5 => ?_)
  refine stN nofun rfl tN23 rfl rfl rfl .head rfl trivial rfl rfl ?_
  refine o1 rfl (det_assign rfl) rfl rfl trivial ?_
  refine be rfl ?_
  refine k_then ?_
  refine t_seq ?_
  refine b0 ?_
  refine o1 rfl (det_call hb10 rfl rfl (fun w1 hs => make_ok hs.know _ _)) rfl rfl trivial ?_
  refine o1 rfl (det_move rfl) rfl rfl trivial ?_
  refine o1 rfl (det_extract rfl rfl) rfl rfl trivial ?_
  refine o1 rfl (det_extract rfl rfl) rfl rfl trivial ?_
  refine om1 rfl (new_alloc z23) rfl rfl trivial (fun p7 => ?_)
  refine stN nofun rfl tN23 rfl rfl rfl .head rfl trivial rfl rfl ?_
  refine o1 rfl (det_assign rfl) rfl rfl trivial ?_
  refine be rfl ?_
  refine k_then ?_
  refine t_seq ?_
  refine b0 ?_
  refine o1 rfl (det_call hb10 rfl rfl (fun w1 hs => make_ok hs.know _ _)) rfl rfl trivial ?_
  refine o1 rfl (det_move rfl) rfl rfl trivial ?_
  refine o1 rfl (det_extract rfl rfl) rfl rfl trivial ?_
  refine o1 rfl (det_extract rfl rfl) rfl rfl trivial ?_
  refine om1 rfl (new_alloc z23) rfl rfl trivial (fun p9 => ?_)
  refine stN nofun rfl tN23 rfl rfl rfl .head rfl trivial rfl rfl ?_
  refine o1 rfl (det_assign rfl) rfl rfl trivial ?_
  refine be rfl ?_
  refine k_then ?_
  refine t_seq ?_
  refine b0 ?_
  refine o1 rfl (det_call hb10 rfl rfl (fun w1 hs => make_ok hs.know _ _)) rfl rfl trivial ?_
  refine o1 rfl (det_move rfl) rfl rfl trivial ?_
  refine o1 rfl (det_extract rfl rfl) rfl rfl trivial ?_
  refine o1 rfl (det_extract rfl rfl) rfl rfl trivial ?_
  refine om1 rfl (new_alloc z23) rfl rfl trivial (fun p11 => ?_)
  refine stN nofun rfl tN23 rfl rfl rfl .head rfl trivial rfl rfl ?_
  refine o1 rfl (det_assign rfl) rfl rfl trivial ?_
  refine be rfl ?_
  refine k_then ?_
  refine t_seq ?_
  refine b0 ?_
  refine o1 rfl (det_loadN tN23 rfl rfl (.tail _ (.tail _ (.tail _ (.tail _ (.tail _ (.head _)))))) rfl) rfl rfl trivial ?_
  refine o1 rfl (det_move rfl) rfl rfl trivial ?_
  refine o1 rfl (det_call hb30 rfl rfl (fun w1 hs => is_ok hs.know _ _ _ _ _)) rfl rfl trivial ?_
  refine o2P Iff.rfl rfl (det_move rfl) rfl rfl trivial (fun hb => ?_) (fun hb => ?_)
  rotate_left
  · exfalso; exact hb (by decide +kernel)
  refine o1 rfl (det_loadN tN23 rfl rfl (.tail _ (.tail _ (.tail _ (.tail _ (.head _))))) rfl) rfl rfl ⟨_, rfl, rfl⟩ ?_
  refine o1 rfl (det_move rfl) rfl rfl ⟨_, rfl, rfl⟩ ?_
  refine o1 rfl (det_call hb30 rfl rfl (fun w1 hs => is_ok hs.know _ _ _ _ _)) rfl rfl ⟨_, rfl, rfl⟩ ?_
  refine o1 rfl (det_pickT rfl rfl) rfl rfl trivial ?_
  refine o2P Iff.rfl rfl (det_move rfl) rfl rfl trivial (fun hb => ?_) (fun hb => ?_)
  rotate_left
  · exfalso; exact hb (by decide +kernel)
  refine o1 rfl (det_move rfl) rfl rfl ⟨_, rfl, rfl⟩ ?_
  refine o1 rfl (det_eql rfl rfl) rfl rfl ⟨_, rfl, rfl⟩ ?_
  refine o1 rfl (det_pickT rfl rfl) rfl rfl trivial ?_
  refine o2P beq_iff_eq rfl (det_move rfl) rfl rfl trivial (fun hb => ?_) (fun hb => ?_)
  rotate_left
  · exfalso; exact hb (by decide +kernel)
  refine o1 rfl (det_loadN tN23 rfl rfl (.tail _ (.tail _ (.head _))) rfl) rfl rfl ⟨_, rfl, rfl⟩ ?_
  refine o1 rfl (det_move rfl) rfl rfl ⟨_, rfl, rfl⟩ ?_
  refine o1 rfl (det_call hb30 rfl rfl (fun w1 hs => is_ok hs.know _ _ _ _ _)) rfl rfl ⟨_, rfl, rfl⟩ ?_
  refine o1 rfl (det_pickT rfl rfl) rfl rfl trivial ?_
  refine o2P Iff.rfl rfl (det_move rfl) rfl rfl trivial (fun hb => ?_) (fun hb => ?_)
  rotate_left
  · exfalso; exact hb (by decide +kernel)
  refine o1 rfl (det_move rfl) rfl rfl ⟨_, rfl, rfl⟩ ?_
  refine o1 rfl (det_eql rfl rfl) rfl rfl ⟨_, rfl, rfl⟩ ?_
  refine o1 rfl (det_pickT rfl rfl) rfl rfl trivial ?_
  refine o2P beq_iff_eq rfl (det_move rfl) rfl rfl trivial (fun hb => ?_) (fun hb => ?_)
  rotate_left
  · exfalso; exact hb (by decide +kernel)
  refine o1 rfl (det_loadN tN23 rfl rfl (.head _) rfl) rfl rfl ⟨_, rfl, rfl⟩ ?_
  refine o1 rfl (det_move rfl) rfl rfl ⟨_, rfl, rfl⟩ ?_
  refine o1 rfl (det_call hb30 rfl rfl (fun w1 hs => is_ok hs.know _ _ _ _ _)) rfl rfl ⟨_, rfl, rfl⟩ ?_
  refine o1 rfl (det_pickT rfl rfl) rfl rfl trivial ?_
  refine o2P Iff.rfl rfl (det_move rfl) rfl rfl trivial (fun hb => ?_) (fun hb => ?_)
  rotate_left
  · exfalso; exact hb (by decide +kernel)
  refine o1 rfl (det_call hb28 rfl rfl (fun w1 hs => of_ok hs.know _ _)) rfl rfl ⟨_, rfl, rfl⟩ ?_
  refine o1 rfl (det_call hb12 rfl rfl (fun w1 hs => check2 hs.know (by omega))) rfl rfl ⟨_, rfl, rfl⟩ ?_
  refine o1 rfl (det_eql rfl rfl) rfl rfl ⟨_, rfl, rfl⟩ ?_
  refine o1 rfl (det_pickT rfl rfl) rfl rfl trivial ?_
  refine o1 rfl (det_assign rfl) rfl rfl trivial ?_
  refine be rfl ?_
  refine k_then ?_
  refine t_seq ?_
  refine b0 ?_
  refine o1 rfl (det_call hb28 rfl rfl (fun w1 hs => of_ok hs.know _ _)) rfl rfl trivial ?_
  refine o1 rfl (det_call hb28 rfl rfl (fun w1 hs => of_ok hs.know _ _)) rfl rfl trivial ?_
  refine o1 rfl (det_call hb16 rfl rfl (fun w1 hs => add4 hs.know (by omega) (by omega))) rfl rfl trivial ?_
  refine o1 rfl (det_move rfl) rfl rfl trivial ?_
  refine o1 rfl (det_extract rfl rfl) rfl rfl trivial ?_
  refine o1 rfl (det_extract rfl rfl) rfl rfl trivial ?_
  refine om1 rfl (new_alloc z23) rfl rfl trivial (fun p14 => ?_)
  refine stN nofun rfl tN23 rfl rfl rfl .head rfl trivial rfl rfl ?_
  refine o1 rfl (det_assign rfl) rfl rfl trivial ?_
  refine be rfl ?_
  refine k_then ?_
  refine t_seq ?_
  refine b0 ?_
  refine o1 rfl (det_call hb28 rfl rfl (fun w1 hs => of_ok hs.know _ _)) rfl rfl trivial ?_
  refine o1 rfl (det_call hb28 rfl rfl (fun w1 hs => of_ok hs.know _ _)) rfl rfl trivial ?_
  refine o1 rfl (det_call hb18 rfl rfl (fun w1 hs => sub4 hs.know (by omega) (by omega))) rfl rfl trivial ?_
  refine o1 rfl (det_move rfl) rfl rfl trivial ?_
  refine o1 rfl (det_extract rfl rfl) rfl rfl trivial ?_
  refine o1 rfl (det_extract rfl rfl) rfl rfl trivial ?_
  refine om1 rfl (new_alloc z23) rfl rfl trivial (fun p16 => ?_)
  refine stN nofun rfl tN23 rfl rfl rfl .head rfl trivial rfl rfl ?_
  refine o1 rfl (det_assign rfl) rfl rfl trivial ?_
  refine be rfl ?_
  refine k_then ?_
  refine t_seq ?_
  refine b0 ?_
  refine o1 rfl (det_call hb28 rfl rfl (fun w1 hs => of_ok hs.know _ _)) rfl rfl trivial ?_
  refine o1 rfl (det_call hb28 rfl rfl (fun w1 hs => of_ok hs.know _ _)) rfl rfl trivial ?_
  refine o1 rfl (det_call hb20 rfl rfl (fun w1 hs => mul4 hs.know (by omega) (by omega))) rfl rfl trivial ?_
  refine o1 rfl (det_move rfl) rfl rfl trivial ?_
  refine o1 rfl (det_extract rfl rfl) rfl rfl trivial ?_
  refine o1 rfl (det_extract rfl rfl) rfl rfl trivial ?_
  refine om1 rfl (new_alloc z23) rfl rfl trivial (fun p18 => ?_)
  refine stN nofun rfl tN23 rfl rfl rfl .head rfl trivial rfl rfl ?_
  refine o1 rfl (det_assign rfl) rfl rfl trivial ?_
  refine be rfl ?_
  refine k_then ?_
  refine t_seq ?_
  refine b0 ?_
  refine o1 rfl (det_call hb28 rfl rfl (fun w1 hs => of_ok hs.know _ _)) rfl rfl trivial ?_
  refine o1 rfl (det_call hb28 rfl rfl (fun w1 hs => of_ok hs.know _ _)) rfl rfl trivial ?_
  refine o1 rfl (det_call hb22 rfl rfl (fun w1 hs => div4 hs.know (by omega) (by omega))) rfl rfl trivial ?_
  refine o1 rfl (det_move rfl) rfl rfl trivial ?_
  refine o1 rfl (det_extract rfl rfl) rfl rfl trivial ?_
  refine o1 rfl (det_extract rfl rfl) rfl rfl trivial ?_
  refine om1 rfl (new_alloc z23) rfl rfl trivial (fun p20 => ?_)
  refine stN nofun rfl tN23 rfl rfl rfl .head rfl trivial rfl rfl ?_
  refine o1 rfl (det_assign rfl) rfl rfl trivial ?_
  refine be rfl ?_
  refine k_then ?_
  refine t_seq ?_
  refine b0 ?_
  refine o1 rfl (det_call hb28 rfl rfl (fun w1 hs => of_ok hs.know _ _)) rfl rfl trivial ?_
  refine o1 rfl (det_call hb28 rfl rfl (fun w1 hs => of_ok hs.know _ _)) rfl rfl trivial ?_
  refine o1 rfl (det_call hb22 rfl rfl (fun w1 hs => div4 hs.know (by omega) (by omega))) rfl rfl trivial ?_
  refine o1 rfl (det_move rfl) rfl rfl trivial ?_
  refine o1 rfl (det_extract rfl rfl) rfl rfl trivial ?_
  refine o1 rfl (det_extract rfl rfl) rfl rfl trivial ?_
  refine om1 rfl (new_alloc z23) rfl rfl trivial (fun p22 => ?_)
  refine stN nofun rfl tN23 rfl rfl rfl .head rfl trivial rfl rfl ?_
  refine o1 rfl (det_assign rfl) rfl rfl trivial ?_
  refine be rfl ?_
  refine k_then ?_
  refine t_seq ?_
  refine b0 ?_
  refine o1 rfl (det_call hb28 rfl rfl (fun w1 hs => of_ok hs.know _ _)) rfl rfl trivial ?_
  refine o1 rfl (det_call hb28 rfl rfl (fun w1 hs => of_ok hs.know _ _)) rfl rfl trivial ?_
  refine o1 rfl (det_call hb20 rfl rfl (fun w1 hs => mul4 hs.know (by omega) (by omega))) rfl rfl trivial ?_
  refine o1 rfl (det_move rfl) rfl rfl trivial ?_
  refine o1 rfl (det_extract rfl rfl) rfl rfl trivial ?_
  refine o1 rfl (det_extract rfl rfl) rfl rfl trivial ?_
  refine om1 rfl (new_alloc z23) rfl rfl trivial (fun p24 => ?_)
  refine stN nofun rfl tN23 rfl rfl rfl .head rfl trivial rfl rfl ?_
  refine o1 rfl (det_assign rfl) rfl rfl trivial ?_
  refine be rfl ?_
  refine k_then ?_
  refine t_seq ?_
  refine b0 ?_
  refine o1 rfl (det_loadN tN23 rfl rfl (.tail _ (.tail _ (.tail _ (.tail _ (.tail _ (.head _)))))) rfl) rfl rfl trivial ?_
  refine o1 rfl (det_move rfl) rfl rfl trivial ?_
  refine o1 rfl (det_call hb30 rfl rfl (fun w1 hs => is_ok hs.know _ _ _ _ _)) rfl rfl trivial ?_
  refine o2P Iff.rfl rfl (det_move rfl) rfl rfl trivial (fun hb => ?_) (fun hb => ?_)
  rotate_left
  · exfalso; exact hb (by decide +kernel)
  refine o1 rfl (det_loadN tN23 rfl rfl (.tail _ (.tail _ (.tail _ (.tail _ (.head _))))) rfl) rfl rfl ⟨_, rfl, rfl⟩ ?_
  refine o1 rfl (det_move rfl) rfl rfl ⟨_, rfl, rfl⟩ ?_
  refine o1 rfl (det_call hb30 rfl rfl (fun w1 hs => is_ok hs.know _ _ _ _ _)) rfl rfl ⟨_, rfl, rfl⟩ ?_
  refine o1 rfl (det_pickT rfl rfl) rfl rfl trivial ?_
  refine o2P Iff.rfl rfl (det_move rfl) rfl rfl trivial (fun hb => ?_) (fun hb => ?_)
  rotate_left
  · exfalso; exact hb (by decide +kernel)
  refine o1 rfl (det_loadN tN23 rfl rfl (.tail _ (.tail _ (.tail _ (.head _)))) rfl) rfl rfl ⟨_, rfl, rfl⟩ ?_
  refine o1 rfl (det_move rfl) rfl rfl ⟨_, rfl, rfl⟩ ?_
  refine o1 rfl (det_call hb30 rfl rfl (fun w1 hs => is_ok hs.know _ _ _ _ _)) rfl rfl ⟨_, rfl, rfl⟩ ?_
  refine o1 rfl (det_pickT rfl rfl) rfl rfl trivial ?_
  refine o2P Iff.rfl rfl (det_move rfl) rfl rfl trivial (fun hb => ?_) (fun hb => ?_)
  rotate_left
  · exfalso; exact hb (by decide +kernel)
  refine o1 rfl (det_loadN tN23 rfl rfl (.tail _ (.tail _ (.head _))) rfl) rfl rfl ⟨_, rfl, rfl⟩ ?_
  refine o1 rfl (det_move rfl) rfl rfl ⟨_, rfl, rfl⟩ ?_
  refine o1 rfl (det_call hb30 rfl rfl (fun w1 hs => is_ok hs.know _ _ _ _ _)) rfl rfl ⟨_, rfl, rfl⟩ ?_
  refine o1 rfl (det_pickT rfl rfl) rfl rfl trivial ?_
  refine o2P Iff.rfl rfl (det_move rfl) rfl rfl trivial (fun hb => ?_) (fun hb => ?_)
  rotate_left
  · exfalso; exact hb (by decide +kernel)
  refine o1 rfl (det_move rfl) rfl rfl ⟨_, rfl, rfl⟩ ?_
  refine o1 rfl (det_eql rfl rfl) rfl rfl ⟨_, rfl, rfl⟩ ?_
  refine o1 rfl (det_pickT rfl rfl) rfl rfl trivial ?_
  refine o2P beq_iff_eq rfl (det_move rfl) rfl rfl trivial (fun hb => ?_) (fun hb => ?_)
  rotate_left
  · exfalso; exact hb (by decide +kernel)
  refine o1 rfl (det_move rfl) rfl rfl ⟨_, rfl, rfl⟩ ?_
  refine o1 rfl (det_eql rfl rfl) rfl rfl ⟨_, rfl, rfl⟩ ?_
  refine o1 rfl (det_pickT rfl rfl) rfl rfl trivial ?_
  refine o1 rfl (det_assign rfl) rfl rfl trivial ?_
  refine be rfl ?_
  refine k_then ?_
  refine t_seq ?_
  refine b0 ?_
  refine o1 rfl (det_call hb28 rfl rfl (fun w1 hs => of_ok hs.know _ _)) rfl rfl trivial ?_
  refine o1 rfl (det_call hb28 rfl rfl (fun w1 hs => of_ok hs.know _ _)) rfl rfl trivial ?_
  refine o1 rfl (det_call hb25 rfl rfl (fun w1 hs => cmp4 hs.know (by omega) (by omega))) rfl rfl trivial ?_
  refine o1 rfl (det_move rfl) rfl rfl trivial ?_
  refine o1 rfl (det_extract rfl rfl) rfl rfl trivial ?_
  refine o1 rfl (det_extract rfl rfl) rfl rfl trivial ?_
  refine o1 rfl (det_assign rfl) rfl rfl trivial ?_
  refine o1 rfl (det_assign rfl) rfl rfl trivial ?_
  refine be rfl ?_
  refine k_then ?_
  refine t_seq ?_
  refine b0 ?_
  refine o1 rfl (det_call hb28 rfl rfl (fun w1 hs => of_ok hs.know _ _)) rfl rfl trivial ?_
  refine o1 rfl (det_call hb26 rfl rfl (fun w1 hs => floor2 hs.know (by omega))) rfl rfl trivial ?_
  refine o1 rfl (det_move rfl) rfl rfl trivial ?_
  refine o1 rfl (det_extract rfl rfl) rfl rfl trivial ?_
  refine o1 rfl (det_extract rfl rfl) rfl rfl trivial ?_
  refine o1 rfl (det_assign rfl) rfl rfl trivial ?_
  refine o1 rfl (det_assign rfl) rfl rfl trivial ?_
  refine be rfl ?_
  refine k_then ?_
  refine t_seq ?_
  refine b0 ?_
  refine o1 rfl (det_call hb28 rfl rfl (fun w1 hs => of_ok hs.know _ _)) rfl rfl trivial ?_
  refine o1 rfl (det_call hb27 rfl rfl (fun w1 hs => ceil2 hs.know (by omega))) rfl rfl trivial ?_
  refine o1 rfl (det_move rfl) rfl rfl trivial ?_
  refine o1 rfl (det_extract rfl rfl) rfl rfl trivial ?_
  refine o1 rfl (det_extract rfl rfl) rfl rfl trivial ?_
  refine o1 rfl (det_assign rfl) rfl rfl trivial ?_
  refine o1 rfl (det_assign rfl) rfl rfl trivial ?_
  refine be rfl ?_
  refine k_then ?_
  refine t_seq ?_
  refine b0 ?_
  refine o1 rfl (det_call hb28 rfl rfl (fun w1 hs => of_ok hs.know _ _)) rfl rfl trivial ?_
  refine o1 rfl (det_call hb28 rfl rfl (fun w1 hs => of_ok hs.know _ _)) rfl rfl trivial ?_
  refine o1 rfl (det_call hb29 rfl rfl (fun w1 hs => max4 hs.know (by omega) (by omega))) rfl rfl trivial ?_
  refine o1 rfl (det_move rfl) rfl rfl trivial ?_
  refine o1 rfl (det_extract rfl rfl) rfl rfl trivial ?_
  refine o1 rfl (det_extract rfl rfl) rfl rfl trivial ?_
  refine om1 rfl (new_alloc z23) rfl rfl trivial (fun p33 => ?_)
  refine stN nofun rfl tN23 rfl rfl rfl .head rfl trivial rfl rfl ?_
  refine o1 rfl (det_assign rfl) rfl rfl trivial ?_
  refine be rfl ?_
  refine k_then ?_
  refine t_seq ?_
  refine b0 ?_
  refine o1 rfl (det_move rfl) rfl rfl trivial ?_
  refine o2P beq_iff_eq rfl (det_move rfl) rfl rfl trivial (fun hb => ?_) (fun hb => ?_)
  rotate_left
  · exfalso; exact hb (by decide +kernel)
  refine o1 rfl (det_move rfl) rfl rfl ⟨_, rfl, rfl⟩ ?_
  refine o1 rfl (det_pickT rfl rfl) rfl rfl trivial ?_
  refine o2P beq_iff_eq rfl (det_move rfl) rfl rfl trivial (fun hb => ?_) (fun hb => ?_)
  rotate_left
  · exfalso; exact hb (by decide +kernel)
  refine o1 rfl (det_move rfl) rfl rfl ⟨_, rfl, rfl⟩ ?_
  refine o1 rfl (det_eql rfl rfl) rfl rfl ⟨_, rfl, rfl⟩ ?_
  refine o1 rfl (det_pickT rfl rfl) rfl rfl trivial ?_
  refine o2P beq_iff_eq rfl (det_move rfl) rfl rfl trivial (fun hb => ?_) (fun hb => ?_)
  rotate_left
  · exfalso; exact hb (by decide +kernel)
  refine o1 rfl (det_move rfl) rfl rfl ⟨_, rfl, rfl⟩ ?_
  refine o1 rfl (det_eql rfl rfl) rfl rfl ⟨_, rfl, rfl⟩ ?_
  refine o1 rfl (det_pickT rfl rfl) rfl rfl trivial ?_
  refine o2P beq_iff_eq rfl (det_move rfl) rfl rfl trivial (fun hb => ?_) (fun hb => ?_)
  rotate_left
  · exfalso; exact hb (by decide +kernel)
  refine o1 rfl (det_move rfl) rfl rfl ⟨_, rfl, rfl⟩ ?_
  refine o1 rfl (det_eql rfl rfl) rfl rfl ⟨_, rfl, rfl⟩ ?_
  refine o1 rfl (det_pickT rfl rfl) rfl rfl trivial ?_
  refine o2P beq_iff_eq rfl (det_move rfl) rfl rfl trivial (fun hb => ?_) (fun hb => ?_)
  rotate_left
  · exfalso; exact hb (by decide +kernel)
  refine o1 rfl (det_move rfl) rfl rfl ⟨_, rfl, rfl⟩ ?_
  refine o1 rfl (det_eql rfl rfl) rfl rfl ⟨_, rfl, rfl⟩ ?_
  refine o1 rfl (det_pickT rfl rfl) rfl rfl trivial ?_
  refine o2P beq_iff_eq rfl (det_move rfl) rfl rfl trivial (fun hb => ?_) (fun hb => ?_)
  rotate_left
  · exfalso; exact hb (by decide +kernel)
  refine o1 rfl (det_move rfl) rfl rfl ⟨_, rfl, rfl⟩ ?_
  refine o1 rfl (det_eql rfl rfl) rfl rfl ⟨_, rfl, rfl⟩ ?_
  refine o1 rfl (det_pickT rfl rfl) rfl rfl trivial ?_
  refine o2P beq_iff_eq rfl (det_move rfl) rfl rfl trivial (fun hb => ?_) (fun hb => ?_)
  rotate_left
  · exfalso; exact hb (by decide +kernel)
  refine o1 rfl (det_move rfl) rfl rfl ⟨_, rfl, rfl⟩ ?_
  refine o1 rfl (det_eql rfl rfl) rfl rfl ⟨_, rfl, rfl⟩ ?_
  refine o1 rfl (det_pickT rfl rfl) rfl rfl trivial ?_
  refine o2P beq_iff_eq rfl (det_move rfl) rfl rfl trivial (fun hb => ?_) (fun hb => ?_)
  rotate_left
  · exfalso; exact hb (by decide +kernel)
  refine o1 rfl (det_loadN tN23 rfl rfl (.head _) rfl) rfl rfl ⟨_, rfl, rfl⟩ ?_
  refine o1 rfl (det_move rfl) rfl rfl ⟨_, rfl, rfl⟩ ?_
  refine o1 rfl (det_call hb30 rfl rfl (fun w1 hs => is_ok hs.know _ _ _ _ _)) rfl rfl ⟨_, rfl, rfl⟩ ?_
  refine o1 rfl (det_pickT rfl rfl) rfl rfl trivial ?_
  refine o1 rfl (det_assign rfl) rfl rfl trivial ?_
  refine be rfl ?_
  refine k_then ?_
  refine t_ret ?_
  refine ret_tmp rfl rfl rfl (fun w1 hs => ?_)
  exact ⟨rfl, hs.keep⟩

end Go.Proofs.Rt
