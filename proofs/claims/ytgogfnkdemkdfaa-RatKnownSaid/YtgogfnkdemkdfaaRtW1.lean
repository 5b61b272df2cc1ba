/-
  Walks through layer 2 and its reference.
-/
import Derived.Test.YtgogfnkdemkdfaaRtPlain
import Derived.Test.YtgogfnkdemkdfaaRtFacts
namespace Go.Proofs.Rt
open Go Go.Eng Go.Rt
set_option maxRecDepth 4000

/-- rat.gcd. -/
theorem gcd_ok {w : World} {F : Know} (hF : ∀ a v, F a = some v → w.cell? a = some v) {a b : Int} (ha : (-4611686018427387904 ≤ a ∧ a ≤ 4611686018427387904)) (hb : (-4611686018427387904 ≤ b ∧ b ≤ 4611686018427387904)) : Pure Try.prog 51 [.int .i64 a, .int .i64 b] w (.int .i64 (Int.gcd a b : Int)) := by
  refine fn_pure (F := F) Try.func51 rfl Try.ntmps51 rfl hF ?_
  refine t_seq ?_
  refine b0 ?_
  refine o1 rfl (det_assign rfl) rfl rfl trivial ?_
  refine be rfl ?_
  refine k_then ?_
  refine t_seq ?_
  refine t_block ?_
  refine t_whileM (σ := Int × Int) (fun s => [(0, .int .i64 s.1), (1, .int .i64 s.2)]) (fun _ => _) (fun s => s.2.natAbs) (fun s => Int.gcd s.1 s.2 = Int.gcd a b ∧ (-4611686018427387904 ≤ s.1 ∧ s.1 ≤ 4611686018427387904) ∧ (-4611686018427387904 ≤ s.2 ∧ s.2 ≤ 4611686018427387904)) (a, b) (env0 := [(4, _)]) ⟨rfl, ha, hb⟩ ⟨rfl, rfl, trivial⟩ ⟨rfl, trivial⟩ (.refl _) ?_
  rintro s ⟨hg, h1, h2⟩
  refine t_seq ?_
  refine t_seq ?_
  refine b0 ?_
  refine o1 rfl (det_move rfl) rfl rfl trivial ?_
  refine o1 rfl (det_neq rfl rfl) rfl rfl trivial ?_
  refine be rfl ?_
  refine k_then ?_
  refine t_condP bne_iff_ne rfl (fun hb => ?_) (fun hb => ?_)
  ·
    have hne : s.2 ≠ 0 := hb
    refine t_skip ?_
    refine k_then ?_
    refine t_block ?_
    refine bD mixed ?_
    refine r_seg 6 6 [] [0, 1, 2, 3, 4, 5] (by kernel_rfl) ?_
    refine s1 rfl (det_move rfl) rfl rfl trivial rfl ?_
    refine s1 rfl (det_move rfl) rfl rfl trivial rfl ?_
    refine s1 rfl (det_move rfl) rfl rfl trivial rfl ?_
    first | (refine s1 rfl (det_remP rfl rfl ?_) rfl rfl trivial rfl ?_; (· omega)) | (refine s1 rfl (det_rem rfl rfl ?_) rfl rfl trivial rfl ?_; (· (first | decide | omega)))
    refine s1 rfl (det_assign rfl) rfl rfl trivial rfl ?_
    refine s1 rfl (det_assign rfl) rfl rfl trivial rfl ?_
    refine sg_nil ?_
    refine be rfl ?_
    refine k_blk ?_
    refine k_then ?_
    refine loop_back (s.2, s.1.tmod s.2) ⟨by rw [← hg]; exact gcd_tmod _ _, h2, by have := tmod_lt s.1 hne; simp only; omega⟩ (tmod_lt _ hne) ⟨rfl, rfl, rfl, trivial⟩ (.refl _)
  ·
    have hz : s.2 = 0 := by simpa using hb
    rw [hz] at hg ⊢
    refine t_exit ?_
    refine k_thenE ?_
    refine k_thenE ?_
    refine k_blkE ?_
    refine k_then ?_
    refine t_seq ?_
    refine b0 ?_
    refine o1 rfl (det_move rfl) rfl rfl trivial ?_
    refine o1 rfl (det_move rfl) rfl rfl trivial ?_
    first | (refine o1 rfl (det_negI rfl ?_) rfl rfl trivial ?_; (· omega)) | refine o1 rfl (det_neg rfl) rfl rfl trivial ?_
    refine o1 rfl (det_max2 rfl rfl) rfl rfl trivial ?_
    refine o1 rfl (det_assign rfl) rfl rfl trivial ?_
    refine be rfl ?_
    refine k_then ?_
    refine t_ret ?_
    refine ret_tmp rfl rfl rfl (fun w1 hs => ?_)
    exact ⟨by rw [gcd_zero, hg], hs.keep⟩

/-- The reference's gcd. -/
theorem rgcd_ok {w : World} {F : Know} (hF : ∀ a v, F a = some v → w.cell? a = some v) {a b : Int} (ha : 0 ≤ a ∧ a ≤ 4611686018427387904) (hb : 0 ≤ b ∧ b ≤ 4611686018427387904) : Pure Try.prog 39 [.int .i64 a, .int .i64 b] w (.int .i64 (Int.gcd a b : Int)) := by
  refine fn_pure (F := F) Try.func39 rfl Try.ntmps39 rfl hF ?_
  refine t_seq ?_
  refine b0 ?_
  refine o1 rfl (det_assign rfl) rfl rfl trivial ?_
  refine be rfl ?_
  refine k_then ?_
  refine t_seq ?_
  refine t_block ?_
  refine t_whileM (σ := Int × Int) (fun s => [(0, .int .i64 s.1), (1, .int .i64 s.2)]) (fun _ => _) (fun s => s.2.natAbs) (fun s => Int.gcd s.1 s.2 = Int.gcd a b ∧ (0 ≤ s.1 ∧ s.1 ≤ 4611686018427387904) ∧ 0 ≤ s.2 ∧ s.2 ≤ 4611686018427387904) (a, b) (env0 := [(4, _)]) ⟨rfl, ha, hb⟩ ⟨rfl, rfl, trivial⟩ ⟨rfl, trivial⟩ (.refl _) ?_
  rintro s ⟨hg, h1, h2⟩
  refine t_seq ?_
  refine t_seq ?_
  refine b0 ?_
  refine o1 rfl (det_move rfl) rfl rfl trivial ?_
  refine o1 rfl (det_gtr rfl rfl) rfl rfl trivial ?_
  refine be rfl ?_
  refine k_then ?_
  refine t_condP decide_eq_true_iff rfl (fun hb => ?_) (fun hb => ?_)
  ·
    have hne : s.2 ≠ 0 := by omega
    have htm := tmod_lt s.1 hne
    have htn := Int.tmod_nonneg s.2 h1.1
    have hte := Int.tmod_eq_emod_of_nonneg (b := s.2) h1.1
    rw [hte] at htm htn
    refine t_skip ?_
    refine k_then ?_
    refine t_block ?_
    refine bD mixed ?_
    refine r_seg 6 6 [] [0, 1, 2, 3, 4, 5] (by kernel_rfl) ?_
    refine s1 rfl (det_move rfl) rfl rfl trivial rfl ?_
    refine s1 rfl (det_move rfl) rfl rfl trivial rfl ?_
    refine s1 rfl (det_move rfl) rfl rfl trivial rfl ?_
    first | (refine s1 rfl (det_remP rfl rfl ?_) rfl rfl trivial rfl ?_; (· omega)) | (refine s1 rfl (det_rem rfl rfl ?_) rfl rfl trivial rfl ?_; (· (first | decide | omega)))
    refine s1 rfl (det_assign rfl) rfl rfl trivial rfl ?_
    refine s1 rfl (det_assign rfl) rfl rfl trivial rfl ?_
    refine sg_nil ?_
    refine be rfl ?_
    refine k_blk ?_
    refine k_then ?_
    refine loop_back (s.2, s.1 % s.2) ⟨by rw [← hg, ← hte]; exact gcd_tmod _ _, h2, ⟨by simp only; omega, by simp only; omega⟩⟩ (by simp only; omega) ⟨rfl, rfl, rfl, trivial⟩ (.refl _)
  ·
    have hz : s.2 = 0 := by omega
    rw [hz] at hg
    refine t_exit ?_
    refine k_thenE ?_
    refine k_thenE ?_
    refine k_blkE ?_
    refine k_then ?_
    refine t_seq ?_
    refine b0 ?_
    refine o1 rfl (det_move rfl) rfl rfl trivial ?_
    refine o1 rfl (det_assign rfl) rfl rfl trivial ?_
    refine be rfl ?_
    refine k_then ?_
    refine t_ret ?_
    refine ret_tmp rfl rfl rfl (fun w1 hs => ?_)
    exact ⟨by rw [gcd_zero' h1.1, hg], hs.keep⟩

/-- abs. -/
theorem abs_ok {w : World} {F : Know} (hF : ∀ a v, F a = some v → w.cell? a = some v) {a : Int} (ha : (-4611686018427387904 ≤ a ∧ a ≤ 4611686018427387904)) : Pure Try.prog 40 [.int .i64 a] w (.int .i64 (a.natAbs : Int)) := by
  refine fn_pure (F := F) Try.func40 rfl Try.ntmps40 rfl hF ?_
  refine t_seq ?_
  refine b0 ?_
  refine o1 rfl (det_assign rfl) rfl rfl trivial ?_
  refine be rfl ?_
  refine k_then ?_
  refine t_seq ?_
  refine b0 ?_
  refine o1 rfl (det_move rfl) rfl rfl trivial ?_
  refine o1 rfl (det_move rfl) rfl rfl trivial ?_
  first | (refine o1 rfl (det_negI rfl ?_) rfl rfl trivial ?_; (· omega)) | refine o1 rfl (det_neg rfl) rfl rfl trivial ?_
  refine o1 rfl (det_max2 rfl rfl) rfl rfl trivial ?_
  refine o1 rfl (det_assign rfl) rfl rfl trivial ?_
  refine be rfl ?_
  refine k_then ?_
  refine t_ret ?_
  refine ret_tmp rfl rfl rfl (fun w1 hs => ?_)
  exact ⟨by rw [show max a (-a) = (a.natAbs : Int) by omega], hs.keep⟩

/-- reduce. -/
theorem red_ok {w : World} {F : Know} (hF : ∀ a v, F a = some v → w.cell? a = some v) {n d : Int} (hn : (-4611686018427387904 ≤ n ∧ n ≤ 4611686018427387904)) (hd : (-4611686018427387904 ≤ d ∧ d ≤ 4611686018427387904)) (hd0 : d ≠ 0) : Pure Try.prog 37 [.agg [.int .i64 n, .int .i64 d].toArray] w (.agg [.int .i64 (redE n d).1, .int .i64 (redE n d).2].toArray) := by
  refine fn_pure (F := F) Try.func37 rfl Try.ntmps37 rfl hF ?_
  refine t_seq ?_
  refine b0 ?_
  refine om1 rfl (new_boxN rfl) rfl rfl trivial (fun p1 => ?_)
  refine om1 rfl (new_alloc z23) rfl rfl trivial (fun p2 => ?_)
  refine be rfl ?_
  refine k_then ?_
  refine t_seq ?_
  refine b0 ?_
  refine o1 rfl (det_fieldAddr fld23_0 rfl) rfl rfl trivial ?_
  refine o1 rfl (det_load1 t1_3 rfl rfl (.tail _ (.head _)) rfl) rfl rfl trivial ?_
  refine o1 rfl (det_fieldAddr fld23_1 rfl) rfl rfl trivial ?_
  refine o1 rfl (det_load1 t1_3 rfl rfl (.tail _ (.head _)) rfl) rfl rfl trivial ?_
  refine o1 rfl (det_call hb51 rfl rfl (fun w1 hs => gcd_ok hs.know hn hd)) rfl rfl trivial ?_
  refine o1 rfl (det_assign rfl) rfl rfl trivial ?_
  refine be rfl ?_
  refine k_then ?_
  refine t_seq ?_
  refine t_seq ?_
  refine b0 ?_
  have hgp := gcd_pos (n := n) hd0
  have hgl := gcd_le (n := n) hd0
  have hrb := red_bounds n d
  simp only [redE] at hrb
  have hsn := sg_ne (n := n) hd0
  refine o1 rfl (det_fieldAddr fld23_1 rfl) rfl rfl trivial ?_
  refine o1 rfl (det_load1 t1_3 rfl rfl (.tail _ (.head _)) rfl) rfl rfl trivial ?_
  refine o1 rfl (det_lss rfl rfl) rfl rfl trivial ?_
  refine be rfl ?_
  refine k_then ?_
  refine t_condP decide_eq_true_iff rfl (fun hb => ?_) (fun hb => ?_)
  ·
    have hsg : sg n d = -(Int.gcd n d : Int) := by unfold sg; rw [if_pos hb]
    refine b0 ?_
    refine o1 rfl (det_move rfl) rfl rfl trivial ?_
    first | (refine o1 rfl (det_negI rfl ?_) rfl rfl trivial ?_; (· omega)) | refine o1 rfl (det_neg rfl) rfl rfl trivial ?_
    refine o1 rfl (det_assign rfl) rfl rfl trivial ?_
    refine be rfl ?_
    refine k_then ?_
    refine t_seq ?_
    refine bD mixed ?_
    refine r_seg 10 9 [] [0, 1, 2, 3, 4, 5, 6, 7, 8] (by kernel_rfl) ?_
    rw [← hsg]
    refine s1 rfl (det_fieldAddr fld23_0 rfl) rfl rfl trivial rfl ?_
    refine s1 rfl (det_load1 t1_3 rfl rfl (.tail _ (.head _)) rfl) rfl rfl trivial rfl ?_
    refine s1 rfl (det_move rfl) rfl rfl trivial rfl ?_
    first | (refine s1 rfl (det_quoP rfl rfl ?_ ?_) rfl rfl trivial rfl ?_; (· omega); (· omega)) | (refine s1 rfl (det_quoI rfl rfl ?_ ?_) rfl rfl trivial rfl ?_; (· (first | decide | omega)); (· omega)) | (refine s1 rfl (det_quo rfl rfl ?_) rfl rfl trivial rfl ?_; (· (first | decide | omega)))
    refine s1 rfl (det_fieldAddr fld23_1 rfl) rfl rfl trivial rfl ?_
    refine s1 rfl (det_load1 t1_3 rfl rfl (.tail _ (.head _)) rfl) rfl rfl trivial rfl ?_
    refine s1 rfl (det_move rfl) rfl rfl trivial rfl ?_
    first | (refine s1 rfl (det_quoP rfl rfl ?_ ?_) rfl rfl trivial rfl ?_; (· omega); (· omega)) | (refine s1 rfl (det_quoI rfl rfl ?_ ?_) rfl rfl trivial rfl ?_; (· (first | decide | omega)); (· omega)) | (refine s1 rfl (det_quo rfl rfl ?_) rfl rfl trivial rfl ?_; (· (first | decide | omega)))
    refine s1 rfl (det_build rfl (fun w => bld23_0_1 _ _ w)) rfl rfl trivial rfl ?_
    refine sg_nil ?_
    refine stN (fun _ => by kernel_rfl) rfl tN23 rfl rfl rfl .head rfl trivial rfl rfl ?_
    refine be rfl ?_
    refine k_then ?_
    refine t_ret ?_
    refine ret_any (vs := [_]) rfl rfl ⟨(.cellN tN23 rfl rfl (.head _) rfl), trivial⟩ rfl (fun w1 hs => ?_)
    exact ⟨rfl, hs.keep⟩
  ·
    have hsg : sg n d = (Int.gcd n d : Int) := by unfold sg; rw [if_neg hb]
    refine t_skip ?_
    refine k_then ?_
    refine t_seq ?_
    refine bD mixed ?_
    refine r_seg 10 9 [] [0, 1, 2, 3, 4, 5, 6, 7, 8] (by kernel_rfl) ?_
    rw [← hsg]
    refine s1 rfl (det_fieldAddr fld23_0 rfl) rfl rfl trivial rfl ?_
    refine s1 rfl (det_load1 t1_3 rfl rfl (.tail _ (.head _)) rfl) rfl rfl trivial rfl ?_
    refine s1 rfl (det_move rfl) rfl rfl trivial rfl ?_
    first | (refine s1 rfl (det_quoP rfl rfl ?_ ?_) rfl rfl trivial rfl ?_; (· omega); (· omega)) | (refine s1 rfl (det_quoI rfl rfl ?_ ?_) rfl rfl trivial rfl ?_; (· (first | decide | omega)); (· omega)) | (refine s1 rfl (det_quo rfl rfl ?_) rfl rfl trivial rfl ?_; (· (first | decide | omega)))
    refine s1 rfl (det_fieldAddr fld23_1 rfl) rfl rfl trivial rfl ?_
    refine s1 rfl (det_load1 t1_3 rfl rfl (.tail _ (.head _)) rfl) rfl rfl trivial rfl ?_
    refine s1 rfl (det_move rfl) rfl rfl trivial rfl ?_
    first | (refine s1 rfl (det_quoP rfl rfl ?_ ?_) rfl rfl trivial rfl ?_; (· omega); (· omega)) | (refine s1 rfl (det_quoI rfl rfl ?_ ?_) rfl rfl trivial rfl ?_; (· (first | decide | omega)); (· omega)) | (refine s1 rfl (det_quo rfl rfl ?_) rfl rfl trivial rfl ?_; (· (first | decide | omega)))
    refine s1 rfl (det_build rfl (fun w => bld23_0_1 _ _ w)) rfl rfl trivial rfl ?_
    refine sg_nil ?_
    refine stN (fun _ => by kernel_rfl) rfl tN23 rfl rfl rfl .head rfl trivial rfl rfl ?_
    refine be rfl ?_
    refine k_then ?_
    refine t_ret ?_
    refine ret_any (vs := [_]) rfl rfl ⟨(.cellN tN23 rfl rfl (.head _) rfl), trivial⟩ rfl (fun w1 hs => ?_)
    exact ⟨by simp only [redE]; rw [Int.tdiv_eq_ediv_of_nonneg (a := d) (by omega)]; rfl, hs.keep⟩

end Go.Proofs.Rt
