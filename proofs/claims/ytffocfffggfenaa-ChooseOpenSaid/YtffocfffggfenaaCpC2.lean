/-
  Walks through layers 36, 37 and 38 and their references.
-/
import Derived.Test.YtffocfffggfenaaCpC1
namespace Go.Proofs.Cp
open Go Go.Eng Go.Gt Go.Proofs.Gt Go.Sw Go.Qu Go.Ch
set_option maxRecDepth 4000

/-- CheckLine. -/
theorem cline_ok {w : World} {F : Know} (hF : ∀ a v, F a = some v → w.cell? a = some v) {l : Ln} (hl : LnK F l) : Pure Try.prog 17 [.agg (lnv l).toArray] w (.int .i64 (if okL l then 0 else 471)) := by
  refine fn_pure (F := F) Try.func17 rfl Try.ntmps17 rfl hF ?_
  refine t_seq ?_
  refine b0 ?_
  refine om1 rfl (new_boxN rfl) rfl rfl trivial (fun p1 => ?_)
  refine o1 rfl (det_assign rfl) rfl rfl trivial ?_
  refine be rfl ?_
  refine k_then ?_
  refine t_seq ?_
  refine b0 ?_
  refine o1 rfl (det_makeFunc rfl rfl) rfl rfl trivial ?_
  refine o1 rfl (det_makeFunc rfl rfl) rfl rfl trivial ?_
  refine o1 rfl (det_makeFunc rfl rfl) rfl rfl trivial ?_
  refine o1 rfl (det_build rfl (fun w => bld103_0_1_2 _ _ _ _ _ _ _ _ _ w)) rfl rfl trivial ?_
  refine om1 rfl (new_alloc z103) rfl rfl trivial (fun p3 => ?_)
  refine stN nofun rfl tN103 rfl rfl rfl .head rfl trivial rfl rfl ?_
  refine be rfl ?_
  refine k_then ?_
  refine t_seq ?_
  refine t_seq ?_
  refine b0 ?_
  refine tk_freeze (pre := [_]) rfl (fun F1 hF1 hN1 hK1 => ?_)
  have hp1 : ∀ j, j < 4 → F1 ((⟨p1, 0, none⟩ : Addr).add j) = (lnv l)[j]? := by
    intro j hj
    obtain ⟨u, hu⟩ : ∃ u, (lnv l)[j]? = some u := ⟨_, List.getElem?_eq_getElem (by rw [lnv_len]; exact hj)⟩
    rw [hu, add_mk, Nat.zero_add]
    exact hK1 j u hu
  have hl1 := EntK.mono hl hF1
  refine o1 rfl (det_loadN tN103 rfl rfl (.head _) rfl) rfl rfl trivial ?_
  refine o1 rfl (det_move rfl) rfl rfl trivial ?_
  refine be rfl ?_
  refine k_then ?_
  refine t_block ?_
  refine t_whileM (σ := Nat) (fun s => [(11, .int .i64 (s : Int))]) (fun _ => _) (fun s => 3 - s) (fun s => s ≤ 3 ∧ (0 < s → okG l.g.es l.g.cyc = true) ∧ (1 < s → decide (1 ≤ l.per ∧ l.per ≤ 1000) = true) ∧ (2 < s → decide (-1000 ≤ l.sh ∧ l.sh ≤ 1000) = true)) 0 (env0 := [(10, _)]) ⟨by omega, by omega, by omega, by omega⟩ ⟨rfl, trivial⟩ ⟨rfl, trivial⟩ (.refl _) ?_
  rintro s ⟨hs3, hA, hB, hC⟩
  refine t_seq ?_
  refine b0 ?_
  refine o1 rfl (det_lss rfl rfl) rfl rfl trivial ?_
  refine be rfl ?_
  refine k_then ?_
  refine t_seq ?_
  refine t_condP decide_eq_true_iff rfl (fun hb => ?_) (fun hb => ?_)
  ·
    skip
    refine t_skip ?_
    refine k_then ?_
    refine t_seq ?_
    refine t_block ?_
    refine t_seq ?_
    refine b0 ?_
    have h6 : s = 0 ∨ s = 1 ∨ s = 2 := by omega
    rcases h6 with rfl | rfl | rfl
    ·
      refine o1 rfl (det_index1 ar103 t1_28 rfl rfl (by decide) rfl) rfl rfl trivial ?_
      refine o1 rfl (det_assign rfl) rfl rfl trivial ?_
      refine be rfl ?_
      refine k_then ?_
      refine t_seq ?_
      refine b0 ?_
      refine o1 rfl (det_move rfl) rfl rfl trivial ?_
      refine o1 rfl (det_call hb49 rfl rfl (fun w1 hs => cl1_ok hs.know hl1 hp1)) rfl rfl trivial ?_
      refine o1 rfl (det_not rfl) rfl rfl trivial ?_
      refine be rfl ?_
      refine k_then ?_
      refine t_condP not_iff_false rfl (fun hb => ?_) (fun hb => ?_)
      ·
        refine t_seq ?_
        refine b0 ?_
        refine o1 rfl (det_assign rfl) rfl rfl trivial ?_
        refine be rfl ?_
        refine k_then ?_
        refine t_ret (k_blkR (k_thenR (k_thenR (k_blkR (k_thenR (?_))))))
        refine ret_tmp rfl rfl rfl (fun w1 hs => ?_)
        exact ⟨by rw [if_neg (by unfold okL; grind)], hs.keep⟩
      ·
        refine t_skip ?_
        refine k_blk ?_
        refine k_then ?_
        refine b0 ?_
        first | (refine o1 rfl (det_addI rfl rfl ?_) rfl rfl trivial ?_; (· omega)) | refine o1 rfl (det_add rfl rfl) rfl rfl trivial ?_
        refine o1 rfl (det_move rfl) rfl rfl trivial ?_
        refine be rfl ?_
        refine k_then ?_
        refine loop_back (1) ⟨by omega, by grind, by grind, by grind⟩ (by omega) ⟨rfl, rfl, trivial⟩ (.refl _)
    ·
      refine o1 rfl (det_index1 ar103 t1_28 rfl rfl (by decide) rfl) rfl rfl trivial ?_
      refine o1 rfl (det_assign rfl) rfl rfl trivial ?_
      refine be rfl ?_
      refine k_then ?_
      refine t_seq ?_
      refine b0 ?_
      refine o1 rfl (det_move rfl) rfl rfl trivial ?_
      refine o1 rfl (det_call hb50 rfl rfl (fun w1 hs => cl2_ok hs.know hp1)) rfl rfl trivial ?_
      refine o1 rfl (det_not rfl) rfl rfl trivial ?_
      refine be rfl ?_
      refine k_then ?_
      refine t_condP not_iff_false rfl (fun hb => ?_) (fun hb => ?_)
      ·
        refine t_seq ?_
        refine b0 ?_
        refine o1 rfl (det_assign rfl) rfl rfl trivial ?_
        refine be rfl ?_
        refine k_then ?_
        refine t_ret (k_blkR (k_thenR (k_thenR (k_blkR (k_thenR (?_))))))
        refine ret_tmp rfl rfl rfl (fun w1 hs => ?_)
        exact ⟨by rw [if_neg (by unfold okL; grind)], hs.keep⟩
      ·
        refine t_skip ?_
        refine k_blk ?_
        refine k_then ?_
        refine b0 ?_
        first | (refine o1 rfl (det_addI rfl rfl ?_) rfl rfl trivial ?_; (· omega)) | refine o1 rfl (det_add rfl rfl) rfl rfl trivial ?_
        refine o1 rfl (det_move rfl) rfl rfl trivial ?_
        refine be rfl ?_
        refine k_then ?_
        refine loop_back (2) ⟨by omega, by grind, by grind, by grind⟩ (by omega) ⟨rfl, rfl, trivial⟩ (.refl _)
    ·
      refine o1 rfl (det_index1 ar103 t1_28 rfl rfl (by decide) rfl) rfl rfl trivial ?_
      refine o1 rfl (det_assign rfl) rfl rfl trivial ?_
      refine be rfl ?_
      refine k_then ?_
      refine t_seq ?_
      refine b0 ?_
      refine o1 rfl (det_move rfl) rfl rfl trivial ?_
      refine o1 rfl (det_call hb51 rfl rfl (fun w1 hs => cl3_ok hs.know hp1)) rfl rfl trivial ?_
      refine o1 rfl (det_not rfl) rfl rfl trivial ?_
      refine be rfl ?_
      refine k_then ?_
      refine t_condP not_iff_false rfl (fun hb => ?_) (fun hb => ?_)
      ·
        refine t_seq ?_
        refine b0 ?_
        refine o1 rfl (det_assign rfl) rfl rfl trivial ?_
        refine be rfl ?_
        refine k_then ?_
        refine t_ret (k_blkR (k_thenR (k_thenR (k_blkR (k_thenR (?_))))))
        refine ret_tmp rfl rfl rfl (fun w1 hs => ?_)
        exact ⟨by rw [if_neg (by unfold okL; grind)], hs.keep⟩
      ·
        refine t_skip ?_
        refine k_blk ?_
        refine k_then ?_
        refine b0 ?_
        first | (refine o1 rfl (det_addI rfl rfl ?_) rfl rfl trivial ?_; (· omega)) | refine o1 rfl (det_add rfl rfl) rfl rfl trivial ?_
        refine o1 rfl (det_move rfl) rfl rfl trivial ?_
        refine be rfl ?_
        refine k_then ?_
        refine loop_back (3) ⟨by omega, by grind, by grind, by grind⟩ (by omega) ⟨rfl, rfl, trivial⟩ (.refl _)
  ·
    have hs4 : s = 3 := by omega
    refine t_exit ?_
    refine k_thenE ?_
    refine k_thenE ?_
    refine k_blkE ?_
    refine k_then ?_
    refine t_seq ?_
    refine b0 ?_
    refine o1 rfl (det_assign rfl) rfl rfl trivial ?_
    refine be rfl ?_
    refine k_then ?_
    refine t_ret ?_
    refine ret_tmp rfl rfl rfl (fun w1 hs => ?_)
    exact ⟨by rw [if_pos (by unfold okL; grind)], hs.keep⟩

end Go.Proofs.Cp
