/-
  Walks through layer 2 and its reference.
-/
import Derived.Test.YtgogfnkdemkdfaaRtW3
namespace Go.Proofs.Rt
open Go Go.Eng Go.Rt
set_option maxRecDepth 4000

/-- Right. -/
theorem right_ok {w : World} {F : Know} (hF : ∀ a v, F a = some v → w.cell? a = some v) {x : Q} (hx : (-9223372036854775808 ≤ x.1 ∧ x.1 ≤ 9223372036854775807) ∧ (-9223372036854775808 ≤ x.2 ∧ x.2 ≤ 9223372036854775807)) : Pure Try.prog 41 [.agg [.int .i64 x.1, .int .i64 x.2].toArray] w (.bool (validE x)) := by
  refine fn_pure (F := F) Try.func41 rfl Try.ntmps41 rfl hF ?_
  refine t_seq ?_
  refine b0 ?_
  refine om1 rfl (new_boxN rfl) rfl rfl trivial (fun p1 => ?_)
  refine o1 rfl (det_assign rfl) rfl rfl trivial ?_
  refine be rfl ?_
  refine k_then ?_
  refine t_seq ?_
  refine bD mixed ?_
  refine r_seg 28 28 [] [0, 1, 2, 3, 4, 5, 6, 7, 8, 9, 10, 11, 12, 13, 14, 15, 16, 17, 18, 19, 20, 21, 22, 23, 24, 25, 26, 27] (by kernel_rfl) ?_
  refine s1 rfl (det_fieldAddr fld23_1 rfl) rfl rfl trivial rfl ?_
  refine s1 rfl (det_load1 t1_3 rfl rfl (.head _) rfl) rfl rfl trivial rfl ?_
  refine s1 rfl (det_geq rfl rfl) rfl rfl trivial rfl ?_
  refine s2P decide_eq_true_iff rfl (det_move rfl) rfl rfl trivial rfl (fun hb => ?_) (fun hb => ?_)
  ·
    refine s1 rfl (det_fieldAddr fld23_1 rfl) rfl rfl ⟨_, rfl, rfl⟩ rfl ?_
    refine s1 rfl (det_load1 t1_3 rfl rfl (.head _) rfl) rfl rfl ⟨_, rfl, rfl⟩ rfl ?_
    refine s1 rfl (det_leq rfl rfl) rfl rfl ⟨_, rfl, rfl⟩ rfl ?_
    refine s1 rfl (det_pickT rfl rfl) rfl rfl trivial rfl ?_
    refine s2P decide_eq_true_iff rfl (det_move rfl) rfl rfl trivial rfl (fun hb => ?_) (fun hb => ?_)
    ·
      refine s1 rfl (det_fieldAddr fld23_0 rfl) rfl rfl ⟨_, rfl, rfl⟩ rfl ?_
      refine s1 rfl (det_load1 t1_3 rfl rfl (.head _) rfl) rfl rfl ⟨_, rfl, rfl⟩ rfl ?_
      refine s1 rfl (det_geq rfl rfl) rfl rfl ⟨_, rfl, rfl⟩ rfl ?_
      refine s1 rfl (det_pickT rfl rfl) rfl rfl trivial rfl ?_
      refine s2P decide_eq_true_iff rfl (det_move rfl) rfl rfl trivial rfl (fun hb => ?_) (fun hb => ?_)
      ·
        refine s1 rfl (det_fieldAddr fld23_0 rfl) rfl rfl ⟨_, rfl, rfl⟩ rfl ?_
        refine s1 rfl (det_load1 t1_3 rfl rfl (.head _) rfl) rfl rfl ⟨_, rfl, rfl⟩ rfl ?_
        refine s1 rfl (det_leq rfl rfl) rfl rfl ⟨_, rfl, rfl⟩ rfl ?_
        refine s1 rfl (det_pickT rfl rfl) rfl rfl trivial rfl ?_
        refine s2P decide_eq_true_iff rfl (det_move rfl) rfl rfl trivial rfl (fun hb => ?_) (fun hb => ?_)
        ·
          refine s1 rfl (det_fieldAddr fld23_0 rfl) rfl rfl ⟨_, rfl, rfl⟩ rfl ?_
          refine s1 rfl (det_load1 t1_3 rfl rfl (.head _) rfl) rfl rfl ⟨_, rfl, rfl⟩ rfl ?_
          refine s1 rfl (det_call hb40 rfl rfl (fun w1 hs => abs_ok hs.know (by omega))) rfl rfl ⟨_, rfl, rfl⟩ rfl ?_
          refine s1 rfl (det_fieldAddr fld23_1 rfl) rfl rfl ⟨_, rfl, rfl⟩ rfl ?_
          refine s1 rfl (det_load1 t1_3 rfl rfl (.head _) rfl) rfl rfl ⟨_, rfl, rfl⟩ rfl ?_
          refine s1 rfl (det_call hb39 rfl rfl (fun w1 hs => rgcd_ok hs.know (by omega) (by omega))) rfl rfl ⟨_, rfl, rfl⟩ rfl ?_
          refine s1 rfl (det_eql rfl rfl) rfl rfl ⟨_, rfl, rfl⟩ rfl ?_
          refine s1 rfl (det_pickT rfl rfl) rfl rfl trivial rfl ?_
          refine s1 rfl (det_assign rfl) rfl rfl trivial rfl ?_
          refine sg_nil ?_
          refine be rfl ?_
          refine k_then ?_
          refine t_ret ?_
          refine ret_tmp rfl rfl rfl (fun w1 hs => ?_)
          refine ⟨?_, hs.keep⟩
          rw [valid_gcd (by omega)]
        ·
          refine sn rfl rfl rfl ⟨_, rfl, .inl rfl⟩ ?_
          refine sn rfl rfl rfl ⟨_, rfl, .inl rfl⟩ ?_
          refine sn rfl rfl rfl ⟨_, rfl, .inl rfl⟩ ?_
          refine sn rfl rfl rfl ⟨_, rfl, .inl rfl⟩ ?_
          refine sn rfl rfl rfl ⟨_, rfl, .inl rfl⟩ ?_
          refine sn rfl rfl rfl ⟨_, rfl, .inl rfl⟩ ?_
          refine sn rfl rfl rfl ⟨_, rfl, .inl rfl⟩ ?_
          refine s1 rfl (det_pickF rfl rfl) rfl rfl trivial rfl ?_
          refine s1 rfl (det_assign rfl) rfl rfl trivial rfl ?_
          refine sg_nil ?_
          refine be rfl ?_
          refine k_then ?_
          refine t_ret ?_
          refine ret_tmp rfl rfl rfl (fun w1 hs => ?_)
          have hv : validE x = false := by unfold validE; rw [decide_eq_false (by omega)]; rfl
          exact ⟨by rw [hv], hs.keep⟩
      ·
        refine sn rfl rfl rfl ⟨_, rfl, .inl rfl⟩ ?_
        refine sn rfl rfl rfl ⟨_, rfl, .inl rfl⟩ ?_
        refine sn rfl rfl rfl ⟨_, rfl, .inl rfl⟩ ?_
        refine s1 rfl (det_pickF rfl rfl) rfl rfl trivial rfl ?_
        refine s1 rfl (det_move rfl) rfl rfl trivial rfl ?_
        refine sn rfl rfl rfl ⟨_, rfl, .inl rfl⟩ ?_
        refine sn rfl rfl rfl ⟨_, rfl, .inl rfl⟩ ?_
        refine sn rfl rfl rfl ⟨_, rfl, .inl rfl⟩ ?_
        refine sn rfl rfl rfl ⟨_, rfl, .inl rfl⟩ ?_
        refine sn rfl rfl rfl ⟨_, rfl, .inl rfl⟩ ?_
        refine sn rfl rfl rfl ⟨_, rfl, .inl rfl⟩ ?_
        refine sn rfl rfl rfl ⟨_, rfl, .inl rfl⟩ ?_
        refine s1 rfl (det_pickF rfl rfl) rfl rfl trivial rfl ?_
        refine s1 rfl (det_assign rfl) rfl rfl trivial rfl ?_
        refine sg_nil ?_
        refine be rfl ?_
        refine k_then ?_
        refine t_ret ?_
        refine ret_tmp rfl rfl rfl (fun w1 hs => ?_)
        have hv : validE x = false := by unfold validE; rw [decide_eq_false (by omega)]; rfl
        exact ⟨by rw [hv], hs.keep⟩
    ·
      refine sn rfl rfl rfl ⟨_, rfl, .inl rfl⟩ ?_
      refine sn rfl rfl rfl ⟨_, rfl, .inl rfl⟩ ?_
      refine sn rfl rfl rfl ⟨_, rfl, .inl rfl⟩ ?_
      refine s1 rfl (det_pickF rfl rfl) rfl rfl trivial rfl ?_
      refine s1 rfl (det_move rfl) rfl rfl trivial rfl ?_
      refine sn rfl rfl rfl ⟨_, rfl, .inl rfl⟩ ?_
      refine sn rfl rfl rfl ⟨_, rfl, .inl rfl⟩ ?_
      refine sn rfl rfl rfl ⟨_, rfl, .inl rfl⟩ ?_
      refine s1 rfl (det_pickF rfl rfl) rfl rfl trivial rfl ?_
      refine s1 rfl (det_move rfl) rfl rfl trivial rfl ?_
      refine sn rfl rfl rfl ⟨_, rfl, .inl rfl⟩ ?_
      refine sn rfl rfl rfl ⟨_, rfl, .inl rfl⟩ ?_
      refine sn rfl rfl rfl ⟨_, rfl, .inl rfl⟩ ?_
      refine sn rfl rfl rfl ⟨_, rfl, .inl rfl⟩ ?_
      refine sn rfl rfl rfl ⟨_, rfl, .inl rfl⟩ ?_
      refine sn rfl rfl rfl ⟨_, rfl, .inl rfl⟩ ?_
      refine sn rfl rfl rfl ⟨_, rfl, .inl rfl⟩ ?_
      refine s1 rfl (det_pickF rfl rfl) rfl rfl trivial rfl ?_
      refine s1 rfl (det_assign rfl) rfl rfl trivial rfl ?_
      refine sg_nil ?_
      refine be rfl ?_
      refine k_then ?_
      refine t_ret ?_
      refine ret_tmp rfl rfl rfl (fun w1 hs => ?_)
      have hv : validE x = false := by unfold validE; rw [decide_eq_false (by omega)]; rfl
      exact ⟨by rw [hv], hs.keep⟩
  ·
    refine sn rfl rfl rfl ⟨_, rfl, .inl rfl⟩ ?_
    refine sn rfl rfl rfl ⟨_, rfl, .inl rfl⟩ ?_
    refine sn rfl rfl rfl ⟨_, rfl, .inl rfl⟩ ?_
    refine s1 rfl (det_pickF rfl rfl) rfl rfl trivial rfl ?_
    refine s1 rfl (det_move rfl) rfl rfl trivial rfl ?_
    refine sn rfl rfl rfl ⟨_, rfl, .inl rfl⟩ ?_
    refine sn rfl rfl rfl ⟨_, rfl, .inl rfl⟩ ?_
    refine sn rfl rfl rfl ⟨_, rfl, .inl rfl⟩ ?_
    refine s1 rfl (det_pickF rfl rfl) rfl rfl trivial rfl ?_
    refine s1 rfl (det_move rfl) rfl rfl trivial rfl ?_
    refine sn rfl rfl rfl ⟨_, rfl, .inl rfl⟩ ?_
    refine sn rfl rfl rfl ⟨_, rfl, .inl rfl⟩ ?_
    refine sn rfl rfl rfl ⟨_, rfl, .inl rfl⟩ ?_
    refine s1 rfl (det_pickF rfl rfl) rfl rfl trivial rfl ?_
    refine s1 rfl (det_move rfl) rfl rfl trivial rfl ?_
    refine sn rfl rfl rfl ⟨_, rfl, .inl rfl⟩ ?_
    refine sn rfl rfl rfl ⟨_, rfl, .inl rfl⟩ ?_
    refine sn rfl rfl rfl ⟨_, rfl, .inl rfl⟩ ?_
    refine sn rfl rfl rfl ⟨_, rfl, .inl rfl⟩ ?_
    refine sn rfl rfl rfl ⟨_, rfl, .inl rfl⟩ ?_
    refine sn rfl rfl rfl ⟨_, rfl, .inl rfl⟩ ?_
    refine sn rfl rfl rfl ⟨_, rfl, .inl rfl⟩ ?_
    refine s1 rfl (det_pickF rfl rfl) rfl rfl trivial rfl ?_
    refine s1 rfl (det_assign rfl) rfl rfl trivial rfl ?_
    refine sg_nil ?_
    refine be rfl ?_
    refine k_then ?_
    refine t_ret ?_
    refine ret_tmp rfl rfl rfl (fun w1 hs => ?_)
    have hv : validE x = false := by unfold validE; rw [decide_eq_false (by omega)]; rfl
    exact ⟨by rw [hv], hs.keep⟩

/-- The reference's Make. -/
theorem rmake_ok {w : World} {F : Know} (hF : ∀ a v, F a = some v → w.cell? a = some v) (n d : Int) : Pure Try.prog 11 [.int .i64 n, .int .i64 d] w (.tuple [.agg [.int .i64 (makeA n d).1.1, .int .i64 (makeA n d).1.2].toArray, .int .i64 (makeA n d).2].toArray) := by
  refine fn_pure (F := F) Try.func11 rfl Try.ntmps11 rfl hF ?_
  refine t_seq ?_
  refine b0 ?_
  refine om1 rfl (new_alloc z23) rfl rfl trivial (fun p4 => ?_)
  refine o1 rfl (det_assign rfl) rfl rfl trivial ?_
  refine be rfl ?_
  refine k_then ?_
  refine t_seq ?_
  refine t_seq ?_
  refine b0 ?_
  refine o1 rfl (det_move rfl) rfl rfl trivial ?_
  refine o1 rfl (det_eql rfl rfl) rfl rfl trivial ?_
  refine be rfl ?_
  refine k_then ?_
  refine t_condP beq_iff_eq rfl (fun hb => ?_) (fun hb => ?_)
  ·
    have hz : d = 0 := hb
    refine t_seq ?_
    refine b0 ?_
    refine o1 rfl (det_build rfl (fun w => bld23_ w)) rfl rfl trivial ?_
    refine stN nofun rfl tN23 rfl rfl rfl .head rfl trivial rfl rfl ?_
    refine o1 rfl (det_assign rfl) rfl rfl trivial ?_
    refine be rfl ?_
    refine k_then ?_
    refine t_ret (k_thenR (?_))
    refine ret_any (vs := [_, _]) rfl rfl ⟨(.cellN tN23 rfl rfl (.head _) rfl), (.tmp rfl), trivial⟩ rfl (fun w1 hs => ?_)
    exact ⟨by rw [makeA, if_pos hz]; rfl, hs.keep⟩
  ·
    have hz : d ≠ 0 := hb
    refine t_skip ?_
    refine k_then ?_
    refine t_seq ?_
    refine t_seq ?_
    refine b0 ?_
    refine o1 rfl (det_move rfl) rfl rfl trivial ?_
    refine o1 rfl (det_gtr rfl rfl) rfl rfl trivial ?_
    refine o2P decide_eq_true_iff rfl (det_move rfl) rfl rfl trivial (fun hb => ?_) (fun hb => ?_)
    ·
      refine on rfl rfl rfl ⟨_, rfl, .inl rfl⟩ ?_
      refine on rfl rfl rfl ⟨_, rfl, .inl rfl⟩ ?_
      refine o1 rfl (det_pickT rfl rfl) rfl rfl trivial ?_
      refine o1 rfl (det_move rfl) rfl rfl trivial ?_
      refine on rfl rfl rfl ⟨_, rfl, .inl rfl⟩ ?_
      refine on rfl rfl rfl ⟨_, rfl, .inl rfl⟩ ?_
      refine o1 rfl (det_pickT rfl rfl) rfl rfl trivial ?_
      refine o1 rfl (det_move rfl) rfl rfl trivial ?_
      refine on rfl rfl rfl ⟨_, rfl, .inl rfl⟩ ?_
      refine on rfl rfl rfl ⟨_, rfl, .inl rfl⟩ ?_
      refine o1 rfl (det_pickT rfl rfl) rfl rfl trivial ?_
      refine be rfl ?_
      refine k_then ?_
      refine t_condT rfl ?_
      refine t_seq ?_
      refine b0 ?_
      refine o1 rfl (det_build rfl (fun w => bld23_ w)) rfl rfl trivial ?_
      refine stN nofun rfl tN23 rfl rfl rfl .head rfl trivial rfl rfl ?_
      refine o1 rfl (det_assign rfl) rfl rfl trivial ?_
      refine be rfl ?_
      refine k_then ?_
      refine t_ret (k_thenR (?_))
      refine ret_any (vs := [_, _]) rfl rfl ⟨(.cellN tN23 rfl rfl (.head _) rfl), (.tmp rfl), trivial⟩ rfl (fun w1 hs => ?_)
      have hw : wideE n d = false := by unfold wideE; rw [decide_eq_false (by omega)]
      exact ⟨by rw [makeA, if_neg hz, if_pos hw]; rfl, hs.keep⟩
    ·
      refine o1 rfl (det_move rfl) rfl rfl ⟨_, rfl, rfl⟩ ?_
      refine o1 rfl (det_lss rfl rfl) rfl rfl ⟨_, rfl, rfl⟩ ?_
      refine o1 rfl (det_pickF rfl rfl) rfl rfl trivial ?_
      refine o2P decide_eq_true_iff rfl (det_move rfl) rfl rfl trivial (fun hb => ?_) (fun hb => ?_)
      ·
        refine on rfl rfl rfl ⟨_, rfl, .inl rfl⟩ ?_
        refine on rfl rfl rfl ⟨_, rfl, .inl rfl⟩ ?_
        refine o1 rfl (det_pickT rfl rfl) rfl rfl trivial ?_
        refine o1 rfl (det_move rfl) rfl rfl trivial ?_
        refine on rfl rfl rfl ⟨_, rfl, .inl rfl⟩ ?_
        refine on rfl rfl rfl ⟨_, rfl, .inl rfl⟩ ?_
        refine o1 rfl (det_pickT rfl rfl) rfl rfl trivial ?_
        refine be rfl ?_
        refine k_then ?_
        refine t_condT rfl ?_
        refine t_seq ?_
        refine b0 ?_
        refine o1 rfl (det_build rfl (fun w => bld23_ w)) rfl rfl trivial ?_
        refine stN nofun rfl tN23 rfl rfl rfl .head rfl trivial rfl rfl ?_
        refine o1 rfl (det_assign rfl) rfl rfl trivial ?_
        refine be rfl ?_
        refine k_then ?_
        refine t_ret (k_thenR (?_))
        refine ret_any (vs := [_, _]) rfl rfl ⟨(.cellN tN23 rfl rfl (.head _) rfl), (.tmp rfl), trivial⟩ rfl (fun w1 hs => ?_)
        have hw : wideE n d = false := by unfold wideE; rw [decide_eq_false (by omega)]
        exact ⟨by rw [makeA, if_neg hz, if_pos hw]; rfl, hs.keep⟩
      ·
        refine o1 rfl (det_move rfl) rfl rfl ⟨_, rfl, rfl⟩ ?_
        refine o1 rfl (det_gtr rfl rfl) rfl rfl ⟨_, rfl, rfl⟩ ?_
        refine o1 rfl (det_pickF rfl rfl) rfl rfl trivial ?_
        refine o2P decide_eq_true_iff rfl (det_move rfl) rfl rfl trivial (fun hb => ?_) (fun hb => ?_)
        ·
          refine on rfl rfl rfl ⟨_, rfl, .inl rfl⟩ ?_
          refine on rfl rfl rfl ⟨_, rfl, .inl rfl⟩ ?_
          refine o1 rfl (det_pickT rfl rfl) rfl rfl trivial ?_
          refine be rfl ?_
          refine k_then ?_
          refine t_condT rfl ?_
          refine t_seq ?_
          refine b0 ?_
          refine o1 rfl (det_build rfl (fun w => bld23_ w)) rfl rfl trivial ?_
          refine stN nofun rfl tN23 rfl rfl rfl .head rfl trivial rfl rfl ?_
          refine o1 rfl (det_assign rfl) rfl rfl trivial ?_
          refine be rfl ?_
          refine k_then ?_
          refine t_ret (k_thenR (?_))
          refine ret_any (vs := [_, _]) rfl rfl ⟨(.cellN tN23 rfl rfl (.head _) rfl), (.tmp rfl), trivial⟩ rfl (fun w1 hs => ?_)
          have hw : wideE n d = false := by unfold wideE; rw [decide_eq_false (by omega)]
          exact ⟨by rw [makeA, if_neg hz, if_pos hw]; rfl, hs.keep⟩
        ·
          refine o1 rfl (det_move rfl) rfl rfl ⟨_, rfl, rfl⟩ ?_
          refine o1 rfl (det_lss rfl rfl) rfl rfl ⟨_, rfl, rfl⟩ ?_
          refine o1 rfl (det_pickF rfl rfl) rfl rfl trivial ?_
          refine be rfl ?_
          refine k_then ?_
          refine t_condP decide_eq_true_iff rfl (fun hb => ?_) (fun hb => ?_)
          ·
            refine t_seq ?_
            refine b0 ?_
            refine o1 rfl (det_build rfl (fun w => bld23_ w)) rfl rfl trivial ?_
            refine stN nofun rfl tN23 rfl rfl rfl .head rfl trivial rfl rfl ?_
            refine o1 rfl (det_assign rfl) rfl rfl trivial ?_
            refine be rfl ?_
            refine k_then ?_
            refine t_ret (k_thenR (?_))
            refine ret_any (vs := [_, _]) rfl rfl ⟨(.cellN tN23 rfl rfl (.head _) rfl), (.tmp rfl), trivial⟩ rfl (fun w1 hs => ?_)
            have hw : wideE n d = false := by unfold wideE; rw [decide_eq_false (by omega)]
            exact ⟨by rw [makeA, if_neg hz, if_pos hw]; rfl, hs.keep⟩
          ·
            refine t_skip ?_
            refine k_then ?_
            refine t_seq ?_
            refine t_seq ?_
            refine b0 ?_
            have hw : ¬ wideE n d = false := by unfold wideE; rw [decide_eq_true (by omega)]; simp
            have hrb := red_bounds n d
            have hgp := gcd_pos (n := n) hz
            have hgl := gcd_le (n := n) hz
            refine o1 rfl (det_move rfl) rfl rfl trivial ?_
            refine o1 rfl (det_lss rfl rfl) rfl rfl trivial ?_
            refine be rfl ?_
            refine k_then ?_
            refine t_condP decide_eq_true_iff rfl (fun hb => ?_) (fun hb => ?_)
            ·
              have hsg : sg n d = -(Int.gcd n d : Int) := by unfold sg; rw [if_pos hb]
              have hred : redE n d = ((-n).tdiv (Int.gcd n d), (-d).tdiv (Int.gcd n d)) := by rw [neg_red, redE, hsg]
              have hqb := tdiv_abs (-n) (Int.gcd n d)
              have hq1 : (-n).tdiv (Int.gcd n d) = (redE n d).1 := by rw [hred]
              have hq2 : (-d) / (Int.gcd n d) = (redE n d).2 := by rw [hred]; exact (Int.tdiv_eq_ediv_of_nonneg (by omega)).symm
              refine b0 ?_
              refine o1 rfl (det_move rfl) rfl rfl trivial ?_
              first | (refine o1 rfl (det_negI rfl ?_) rfl rfl trivial ?_; (· omega)) | refine o1 rfl (det_neg rfl) rfl rfl trivial ?_
              refine o1 rfl (det_move rfl) rfl rfl trivial ?_
              first | (refine o1 rfl (det_negI rfl ?_) rfl rfl trivial ?_; (· omega)) | refine o1 rfl (det_neg rfl) rfl rfl trivial ?_
              refine o1 rfl (det_assign rfl) rfl rfl trivial ?_
              refine o1 rfl (det_assign rfl) rfl rfl trivial ?_
              refine be rfl ?_
              refine k_then ?_
              refine t_seq ?_
              refine b0 ?_
              refine o1 rfl (det_move rfl) rfl rfl trivial ?_
              refine o1 rfl (det_call hb40 rfl rfl (fun w1 hs => abs_ok hs.know (by omega))) rfl rfl trivial ?_
              refine o1 rfl (det_move rfl) rfl rfl trivial ?_
              refine o1 rfl (det_call hb39 rfl rfl (fun w1 hs => rgcd_ok hs.know (by omega) (by omega))) rfl rfl trivial ?_
              refine o1 rfl (det_assign rfl) rfl rfl trivial ?_
              refine be rfl ?_
              refine k_then ?_
              refine t_seq ?_
              refine bD mixed ?_
              refine r_seg 9 8 [7] [0, 1, 2, 3, 4, 5, 6, 7] (by kernel_rfl) ?_
              first | rw [gcd_abs, Int.neg_gcd, Int.gcd_neg] | rw [gcd_abs]
              refine s1 rfl (det_move rfl) rfl rfl trivial rfl ?_
              refine s1 rfl (det_move rfl) rfl rfl trivial rfl ?_
              first | (refine s1 rfl (det_quoP rfl rfl ?_ ?_) rfl rfl trivial rfl ?_; (· omega); (· omega)) | (refine s1 rfl (det_quoI rfl rfl ?_ ?_) rfl rfl trivial rfl ?_; (· (first | decide | omega)); (· omega)) | (refine s1 rfl (det_quo rfl rfl ?_) rfl rfl trivial rfl ?_; (· (first | decide | omega)))
              refine s1 rfl (det_move rfl) rfl rfl trivial rfl ?_
              refine s1 rfl (det_move rfl) rfl rfl trivial rfl ?_
              first | (refine s1 rfl (det_quoP rfl rfl ?_ ?_) rfl rfl trivial rfl ?_; (· omega); (· omega)) | (refine s1 rfl (det_quoI rfl rfl ?_ ?_) rfl rfl trivial rfl ?_; (· (first | decide | omega)); (· omega)) | (refine s1 rfl (det_quo rfl rfl ?_) rfl rfl trivial rfl ?_; (· (first | decide | omega)))
              rw [hq1, hq2]
              refine s1 rfl (det_build rfl (fun w => bld23_0_1 _ _ w)) rfl rfl trivial rfl ?_
              refine sm1 rfl (new_alloc z23) rfl rfl trivial rfl (fun p7 => ?_)
              refine sg_nil ?_
              refine stN (fun _ => by kernel_rfl) rfl tN23 rfl rfl rfl .head rfl trivial rfl rfl ?_
              refine be rfl ?_
              refine k_then ?_
              refine t_seq ?_
              refine t_seq ?_
              refine b0 ?_
              refine o1 rfl (det_loadN tN23 rfl rfl (.head _) rfl) rfl rfl trivial ?_
              refine o1 rfl (det_call hb41 rfl rfl (fun w1 hs => right_ok (x := redE n d) hs.know (by omega))) rfl rfl trivial ?_
              refine o1 rfl (det_not rfl) rfl rfl trivial ?_
              refine be rfl ?_
              refine k_then ?_
              refine t_condP not_iff_false rfl (fun hb => ?_) (fun hb => ?_)
              ·
                have hv : ¬ validE (redE n d) = true := by simpa using hb
                refine t_seq ?_
                refine b0 ?_
                refine o1 rfl (det_build rfl (fun w => bld23_ w)) rfl rfl trivial ?_
                refine stN nofun rfl tN23 rfl rfl rfl (.tail .head) rfl trivial rfl rfl ?_
                refine o1 rfl (det_assign rfl) rfl rfl trivial ?_
                refine be rfl ?_
                refine k_then ?_
                refine t_ret (k_thenR (?_))
                refine ret_any (vs := [_, _]) rfl rfl ⟨(.cellN tN23 rfl rfl (.tail _ (.head _)) rfl), (.tmp rfl), trivial⟩ rfl (fun w1 hs => ?_)
                exact ⟨by rw [makeA, if_neg hz, if_neg hw, if_neg hv]; rfl, hs.keep⟩
              ·
                have hv : validE (redE n d) = true := by simpa using hb
                refine t_skip ?_
                refine k_then ?_
                refine t_seq ?_
                refine b0 ?_
                refine o1 rfl (det_loadN tN23 rfl rfl (.head _) rfl) rfl rfl trivial ?_
                refine stN nofun rfl tN23 rfl rfl rfl (.tail .head) rfl trivial rfl rfl ?_
                refine o1 rfl (det_assign rfl) rfl rfl trivial ?_
                refine be rfl ?_
                refine k_then ?_
                refine t_ret ?_
                refine ret_any (vs := [_, _]) rfl rfl ⟨(.cellN tN23 rfl rfl (.tail _ (.head _)) rfl), (.tmp rfl), trivial⟩ rfl (fun w1 hs => ?_)
                exact ⟨by rw [makeA, if_neg hz, if_neg hw, if_pos hv]; rfl, hs.keep⟩
            ·
              have hsg : sg n d = (Int.gcd n d : Int) := by unfold sg; rw [if_neg hb]
              have hred : redE n d = (n.tdiv (Int.gcd n d), d.tdiv (Int.gcd n d)) := by rw [redE, hsg]
              have hqb := tdiv_abs n (Int.gcd n d)
              have hq1 : n.tdiv (Int.gcd n d) = (redE n d).1 := by rw [hred]
              have hq2 : d / (Int.gcd n d) = (redE n d).2 := by rw [hred]; exact (Int.tdiv_eq_ediv_of_nonneg (by omega)).symm
              refine t_skip ?_
              refine k_then ?_
              refine t_seq ?_
              refine b0 ?_
              refine o1 rfl (det_move rfl) rfl rfl trivial ?_
              refine o1 rfl (det_call hb40 rfl rfl (fun w1 hs => abs_ok hs.know (by omega))) rfl rfl trivial ?_
              refine o1 rfl (det_move rfl) rfl rfl trivial ?_
              refine o1 rfl (det_call hb39 rfl rfl (fun w1 hs => rgcd_ok hs.know (by omega) (by omega))) rfl rfl trivial ?_
              refine o1 rfl (det_assign rfl) rfl rfl trivial ?_
              refine be rfl ?_
              refine k_then ?_
              refine t_seq ?_
              refine bD mixed ?_
              refine r_seg 9 8 [7] [0, 1, 2, 3, 4, 5, 6, 7] (by kernel_rfl) ?_
              first | rw [gcd_abs, Int.neg_gcd, Int.gcd_neg] | rw [gcd_abs]
              refine s1 rfl (det_move rfl) rfl rfl trivial rfl ?_
              refine s1 rfl (det_move rfl) rfl rfl trivial rfl ?_
              first | (refine s1 rfl (det_quoP rfl rfl ?_ ?_) rfl rfl trivial rfl ?_; (· omega); (· omega)) | (refine s1 rfl (det_quoI rfl rfl ?_ ?_) rfl rfl trivial rfl ?_; (· (first | decide | omega)); (· omega)) | (refine s1 rfl (det_quo rfl rfl ?_) rfl rfl trivial rfl ?_; (· (first | decide | omega)))
              refine s1 rfl (det_move rfl) rfl rfl trivial rfl ?_
              refine s1 rfl (det_move rfl) rfl rfl trivial rfl ?_
              first | (refine s1 rfl (det_quoP rfl rfl ?_ ?_) rfl rfl trivial rfl ?_; (· omega); (· omega)) | (refine s1 rfl (det_quoI rfl rfl ?_ ?_) rfl rfl trivial rfl ?_; (· (first | decide | omega)); (· omega)) | (refine s1 rfl (det_quo rfl rfl ?_) rfl rfl trivial rfl ?_; (· (first | decide | omega)))
              rw [hq1, hq2]
              refine s1 rfl (det_build rfl (fun w => bld23_0_1 _ _ w)) rfl rfl trivial rfl ?_
              refine sm1 rfl (new_alloc z23) rfl rfl trivial rfl (fun p7 => ?_)
              refine sg_nil ?_
              refine stN (fun _ => by kernel_rfl) rfl tN23 rfl rfl rfl .head rfl trivial rfl rfl ?_
              refine be rfl ?_
              refine k_then ?_
              refine t_seq ?_
              refine t_seq ?_
              refine b0 ?_
              refine o1 rfl (det_loadN tN23 rfl rfl (.head _) rfl) rfl rfl trivial ?_
              refine o1 rfl (det_call hb41 rfl rfl (fun w1 hs => right_ok (x := redE n d) hs.know (by omega))) rfl rfl trivial ?_
              refine o1 rfl (det_not rfl) rfl rfl trivial ?_
              refine be rfl ?_
              refine k_then ?_
              refine t_condP not_iff_false rfl (fun hb => ?_) (fun hb => ?_)
              ·
                have hv : ¬ validE (redE n d) = true := by simpa using hb
                refine t_seq ?_
                refine b0 ?_
                refine o1 rfl (det_build rfl (fun w => bld23_ w)) rfl rfl trivial ?_
                refine stN nofun rfl tN23 rfl rfl rfl (.tail .head) rfl trivial rfl rfl ?_
                refine o1 rfl (det_assign rfl) rfl rfl trivial ?_
                refine be rfl ?_
                refine k_then ?_
                refine t_ret (k_thenR (?_))
                refine ret_any (vs := [_, _]) rfl rfl ⟨(.cellN tN23 rfl rfl (.tail _ (.head _)) rfl), (.tmp rfl), trivial⟩ rfl (fun w1 hs => ?_)
                exact ⟨by rw [makeA, if_neg hz, if_neg hw, if_neg hv]; rfl, hs.keep⟩
              ·
                have hv : validE (redE n d) = true := by simpa using hb
                refine t_skip ?_
                refine k_then ?_
                refine t_seq ?_
                refine b0 ?_
                refine o1 rfl (det_loadN tN23 rfl rfl (.head _) rfl) rfl rfl trivial ?_
                refine stN nofun rfl tN23 rfl rfl rfl (.tail .head) rfl trivial rfl rfl ?_
                refine o1 rfl (det_assign rfl) rfl rfl trivial ?_
                refine be rfl ?_
                refine k_then ?_
                refine t_ret ?_
                refine ret_any (vs := [_, _]) rfl rfl ⟨(.cellN tN23 rfl rfl (.tail _ (.head _)) rfl), (.tmp rfl), trivial⟩ rfl (fun w1 hs => ?_)
                exact ⟨by rw [makeA, if_neg hz, if_neg hw, if_pos hv]; rfl, hs.keep⟩

end Go.Proofs.Rt
