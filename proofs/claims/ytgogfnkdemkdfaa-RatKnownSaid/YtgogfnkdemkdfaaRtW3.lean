/-
  Walks through layer 2 and its reference.
-/
import Derived.Test.YtgogfnkdemkdfaaRtW2
namespace Go.Proofs.Rt
open Go Go.Eng Go.Rt
set_option maxRecDepth 4000

/-- rat.Make. -/
theorem make_ok {w : World} {F : Know} (hF : ∀ a v, F a = some v → w.cell? a = some v) (n d : Int) : Pure Try.prog 10 [.int .i64 n, .int .i64 d] w (.tuple [.agg [.int .i64 (makeA n d).1.1, .int .i64 (makeA n d).1.2].toArray, .int .i64 (makeA n d).2].toArray) := by
  refine fn_pure (F := F) Try.func10 rfl Try.ntmps10 rfl hF ?_
  refine t_seq ?_
  refine b0 ?_
  refine om1 rfl (new_alloc z23) rfl rfl trivial (fun p4 => ?_)
  refine o1 rfl (det_assign rfl) rfl rfl trivial ?_
  refine be rfl ?_
  refine k_then ?_
  refine t_seq ?_
  refine t_block ?_
  refine t_seq ?_
  refine b0 ?_
  refine o1 rfl (det_move rfl) rfl rfl trivial ?_
  refine o1 rfl (det_eql rfl rfl) rfl rfl trivial ?_
  refine o1 rfl (det_assign rfl) rfl rfl trivial ?_
  refine be rfl ?_
  refine k_then ?_
  refine t_condP beq_iff_eq rfl (fun hb => ?_) (fun hb => ?_)
  ·
    have hz : d = 0 := by simpa using hb
    refine t_seq ?_
    refine b0 ?_
    refine o1 rfl (det_build rfl (fun w => bld23_ w)) rfl rfl trivial ?_
    refine stN nofun rfl tN23 rfl rfl rfl .head rfl trivial rfl rfl ?_
    refine o1 rfl (det_assign rfl) rfl rfl trivial ?_
    refine be rfl ?_
    refine k_then ?_
    refine t_ret (k_blkR (k_thenR (?_)))
    refine ret_any (vs := [_, _]) rfl rfl ⟨(.cellN tN23 rfl rfl (.head _) rfl), (.tmp rfl), trivial⟩ rfl (fun w1 hs => ?_)
    exact ⟨by rw [makeA, if_pos hz]; rfl, hs.keep⟩
  ·
    have hz : d ≠ 0 := by simpa using hb
    refine t_seq ?_
    refine b0 ?_
    refine o1 rfl (det_move rfl) rfl rfl trivial ?_
    refine o1 rfl (det_gtr rfl rfl) rfl rfl trivial ?_
    refine o2P decide_eq_true_iff rfl (det_move rfl) rfl rfl trivial (fun hb => ?_) (fun hb => ?_)
    ·
      refine on rfl rfl rfl ⟨_, rfl, .inl rfl⟩ ?_
      refine on rfl rfl rfl ⟨_, rfl, .inl rfl⟩ ?_
      refine o1 rfl (det_pickT rfl rfl) rfl rfl trivial ?_
      refine o1 rfl (det_move rfl) rfl rfl trivial ?_
      refine on rfl rfl rfl ⟨_, rfl, .inl rfl⟩ ?_
      refine on rfl rfl rfl ⟨_, rfl, .inl rfl⟩ ?_
      refine o1 rfl (det_pickT rfl rfl) rfl rfl trivial ?_
      refine o1 rfl (det_move rfl) rfl rfl trivial ?_
      refine on rfl rfl rfl ⟨_, rfl, .inl rfl⟩ ?_
      refine on rfl rfl rfl ⟨_, rfl, .inl rfl⟩ ?_
      refine o1 rfl (det_pickT rfl rfl) rfl rfl trivial ?_
      refine o1 rfl (det_assign rfl) rfl rfl trivial ?_
      refine be rfl ?_
      refine k_then ?_
      refine t_condT rfl ?_
      refine t_seq ?_
      refine b0 ?_
      refine o1 rfl (det_build rfl (fun w => bld23_ w)) rfl rfl trivial ?_
      refine stN nofun rfl tN23 rfl rfl rfl .head rfl trivial rfl rfl ?_
      refine o1 rfl (det_assign rfl) rfl rfl trivial ?_
      refine be rfl ?_
      refine k_then ?_
      refine t_ret (k_blkR (k_thenR (?_)))
      refine ret_any (vs := [_, _]) rfl rfl ⟨(.cellN tN23 rfl rfl (.head _) rfl), (.tmp rfl), trivial⟩ rfl (fun w1 hs => ?_)
      have hw : wideE n d = false := by unfold wideE; rw [decide_eq_false (by omega)]
      exact ⟨by rw [makeA, if_neg hz, if_pos hw]; rfl, hs.keep⟩
    ·
      refine o1 rfl (det_move rfl) rfl rfl ⟨_, rfl, rfl⟩ ?_
      refine o1 rfl (det_lss rfl rfl) rfl rfl ⟨_, rfl, rfl⟩ ?_
      refine o1 rfl (det_pickF rfl rfl) rfl rfl trivial ?_
      refine o2P decide_eq_true_iff rfl (det_move rfl) rfl rfl trivial (fun hb => ?_) (fun hb => ?_)
      ·
        refine on rfl rfl rfl ⟨_, rfl, .inl rfl⟩ ?_
        refine on rfl rfl rfl ⟨_, rfl, .inl rfl⟩ ?_
        refine o1 rfl (det_pickT rfl rfl) rfl rfl trivial ?_
        refine o1 rfl (det_move rfl) rfl rfl trivial ?_
        refine on rfl rfl rfl ⟨_, rfl, .inl rfl⟩ ?_
        refine on rfl rfl rfl ⟨_, rfl, .inl rfl⟩ ?_
        refine o1 rfl (det_pickT rfl rfl) rfl rfl trivial ?_
        refine o1 rfl (det_assign rfl) rfl rfl trivial ?_
        refine be rfl ?_
        refine k_then ?_
        refine t_condT rfl ?_
        refine t_seq ?_
        refine b0 ?_
        refine o1 rfl (det_build rfl (fun w => bld23_ w)) rfl rfl trivial ?_
        refine stN nofun rfl tN23 rfl rfl rfl .head rfl trivial rfl rfl ?_
        refine o1 rfl (det_assign rfl) rfl rfl trivial ?_
        refine be rfl ?_
        refine k_then ?_
        refine t_ret (k_blkR (k_thenR (?_)))
        refine ret_any (vs := [_, _]) rfl rfl ⟨(.cellN tN23 rfl rfl (.head _) rfl), (.tmp rfl), trivial⟩ rfl (fun w1 hs => ?_)
        have hw : wideE n d = false := by unfold wideE; rw [decide_eq_false (by omega)]
        exact ⟨by rw [makeA, if_neg hz, if_pos hw]; rfl, hs.keep⟩
      ·
        refine o1 rfl (det_move rfl) rfl rfl ⟨_, rfl, rfl⟩ ?_
        refine o1 rfl (det_gtr rfl rfl) rfl rfl ⟨_, rfl, rfl⟩ ?_
        refine o1 rfl (det_pickF rfl rfl) rfl rfl trivial ?_
        refine o2P decide_eq_true_iff rfl (det_move rfl) rfl rfl trivial (fun hb => ?_) (fun hb => ?_)
        ·
          refine on rfl rfl rfl ⟨_, rfl, .inl rfl⟩ ?_
          refine on rfl rfl rfl ⟨_, rfl, .inl rfl⟩ ?_
          refine o1 rfl (det_pickT rfl rfl) rfl rfl trivial ?_
          refine o1 rfl (det_assign rfl) rfl rfl trivial ?_
          refine be rfl ?_
          refine k_then ?_
          refine t_condT rfl ?_
          refine t_seq ?_
          refine b0 ?_
          refine o1 rfl (det_build rfl (fun w => bld23_ w)) rfl rfl trivial ?_
          refine stN nofun rfl tN23 rfl rfl rfl .head rfl trivial rfl rfl ?_
          refine o1 rfl (det_assign rfl) rfl rfl trivial ?_
          refine be rfl ?_
          refine k_then ?_
          refine t_ret (k_blkR (k_thenR (?_)))
          refine ret_any (vs := [_, _]) rfl rfl ⟨(.cellN tN23 rfl rfl (.head _) rfl), (.tmp rfl), trivial⟩ rfl (fun w1 hs => ?_)
          have hw : wideE n d = false := by unfold wideE; rw [decide_eq_false (by omega)]
          exact ⟨by rw [makeA, if_neg hz, if_pos hw]; rfl, hs.keep⟩
        ·
          refine o1 rfl (det_move rfl) rfl rfl ⟨_, rfl, rfl⟩ ?_
          refine o1 rfl (det_lss rfl rfl) rfl rfl ⟨_, rfl, rfl⟩ ?_
          refine o1 rfl (det_pickF rfl rfl) rfl rfl trivial ?_
          refine o1 rfl (det_assign rfl) rfl rfl trivial ?_
          refine be rfl ?_
          refine k_then ?_
          refine t_condP decide_eq_true_iff rfl (fun hb => ?_) (fun hb => ?_)
          ·
            refine t_seq ?_
            refine b0 ?_
            refine o1 rfl (det_build rfl (fun w => bld23_ w)) rfl rfl trivial ?_
            refine stN nofun rfl tN23 rfl rfl rfl .head rfl trivial rfl rfl ?_
            refine o1 rfl (det_assign rfl) rfl rfl trivial ?_
            refine be rfl ?_
            refine k_then ?_
            refine t_ret (k_blkR (k_thenR (?_)))
            refine ret_any (vs := [_, _]) rfl rfl ⟨(.cellN tN23 rfl rfl (.head _) rfl), (.tmp rfl), trivial⟩ rfl (fun w1 hs => ?_)
            have hw : wideE n d = false := by unfold wideE; rw [decide_eq_false (by omega)]
            exact ⟨by rw [makeA, if_neg hz, if_pos hw]; rfl, hs.keep⟩
          ·
            refine t_skip ?_
            refine k_blk ?_
            refine k_then ?_
            refine t_seq ?_
            refine b0 ?_
            have hw : ¬ wideE n d = false := by unfold wideE; rw [decide_eq_true (by omega)]; simp
            have hrb := red_bounds n d
            refine o1 rfl (det_move rfl) rfl rfl trivial ?_
            refine o1 rfl (det_move rfl) rfl rfl trivial ?_
            refine o1 rfl (det_build rfl (fun w => bld23_0_1 _ _ w)) rfl rfl trivial ?_
            refine o1 rfl (det_call hb37 rfl rfl (fun w1 hs => red_ok hs.know (by omega) (by omega) hz)) rfl rfl trivial ?_
            refine om1 rfl (new_alloc z23) rfl rfl trivial (fun p6 => ?_)
            refine stN nofun rfl tN23 rfl rfl rfl .head rfl trivial rfl rfl ?_
            refine be rfl ?_
            refine k_then ?_
            refine t_seq ?_
            refine t_seq ?_
            refine b0 ?_
            refine o1 rfl (det_loadN tN23 rfl rfl (.head _) rfl) rfl rfl trivial ?_
            refine om1 rfl (new_buildSlice rfl (fun w => bsl61_1_0 _ _ w)) rfl rfl trivial (fun p32 => ?_)
            refine tk_freeze (pre := []) rfl (fun F1 hF1 hNF1 hKF1 => ?_)
            have hX : PairsK F1 (some ⟨p32, 0, none⟩) (List.length ([((redE n d).1, (redE n d).2)] : Prs)) ([((redE n d).1, (redE n d).2)] : Prs) := pairsK_lit (by intro i hi; match i, hi with | 0, _ => (simp only [List.getElem_cons_zero]; omega)) hKF1
            refine o1 rfl (det_call hb38 rfl rfl (fun w1 hs => chk_ok hs.know hX (by simp))) rfl rfl trivial ?_
            refine o1 rfl (det_neq rfl rfl) rfl rfl trivial ?_
            refine be rfl ?_
            refine k_then ?_
            refine t_condP bne_iff_ne rfl (fun hb => ?_) (fun hb => ?_)
            ·
              have hv : ¬ validE (redE n d) = true := by
                intro h; rw [if_pos (by simp only [List.all_cons, List.all_nil, Bool.and_true]; exact h)] at hb; exact hb rfl
              refine t_seq ?_
              refine b0 ?_
              refine o1 rfl (det_build rfl (fun w => bld23_ w)) rfl rfl trivial ?_
              refine stN nofun rfl tN23 rfl rfl rfl (.tail .head) rfl trivial rfl rfl ?_
              refine o1 rfl (det_assign rfl) rfl rfl trivial ?_
              refine be rfl ?_
              refine k_then ?_
              refine t_ret (k_thenR (?_))
              refine ret_any (vs := [_, _]) rfl rfl ⟨(.cellN tN23 rfl rfl (.tail _ (.head _)) rfl), (.tmp rfl), trivial⟩ rfl (fun w1 hs => ?_)
              exact ⟨by rw [makeA, if_neg hz, if_neg hw, if_neg hv]; rfl, hs.keep⟩
            ·
              have hv : validE (redE n d) = true := by
                cases h : validE (redE n d) with
                | true => rfl
                | false => rw [if_neg (by simp only [List.all_cons, List.all_nil, Bool.and_true]; rw [h]; simp)] at hb; exact absurd (by decide) hb
              refine t_skip ?_
              refine k_then ?_
              refine t_seq ?_
              refine b0 ?_
              refine o1 rfl (det_loadN tN23 rfl rfl (.head _) rfl) rfl rfl trivial ?_
              refine stN nofun rfl tN23 rfl rfl rfl (.tail .head) rfl trivial rfl rfl ?_
              refine o1 rfl (det_assign rfl) rfl rfl trivial ?_
              refine be rfl ?_
              refine k_then ?_
              refine t_ret ?_
              refine ret_any (vs := [_, _]) rfl rfl ⟨(.cellN tN23 rfl rfl (.tail _ (.head _)) rfl), (.tmp rfl), trivial⟩ rfl (fun w1 hs => ?_)
              exact ⟨by rw [makeA, if_neg hz, if_neg hw, if_pos hv]; rfl, hs.keep⟩

end Go.Proofs.Rt
