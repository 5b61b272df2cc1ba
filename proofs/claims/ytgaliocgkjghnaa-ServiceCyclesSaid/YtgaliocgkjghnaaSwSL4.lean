/-
  Walks through layer 30 and its reference.
-/
import Derived.Test.YtgaliocgkjghnaaSwSW
import Derived.Test.YtgaliocgkjghnaaSwPlain3ToSvPlain14
namespace Go.Proofs.Sw
open Go Go.Eng Go.Gt Go.Proofs.Gt Go.Sw Go.Sv
set_option maxRecDepth 4000

theorem k_rng {k y K Y : Int} (hk : 0 ≤ k ∧ k ≤ K) (hy : -Y ≤ y ∧ y ≤ Y) : -(K * Y) ≤ k * y ∧ k * y ≤ K * Y := by
  have hY : 0 ≤ Y := by omega
  have a1 : k * y ≤ k * Y := Int.mul_le_mul_of_nonneg_left hy.2 hk.1
  have a2 : k * Y ≤ K * Y := Int.mul_le_mul_of_nonneg_right hk.2 hY
  have a3 : k * -Y ≤ k * y := Int.mul_le_mul_of_nonneg_left hy.1 hk.1
  rw [Int.mul_neg] at a3
  omega
/-- Check. -/
theorem scheck_ok {w : World} {F : Know} (hF : ∀ a v, F a = some v → w.cell? a = some v) {r l : Int} : Pure Try.prog 44 [.agg [.int .i64 r, .int .i64 l].toArray] w (.int .i64 (if 1 ≤ r ∧ r ≤ 2097152 ∧ 0 ≤ l ∧ l ≤ 268435456 then 0 else 140)) := by
  refine fn_pure (F := F) Try.func44 rfl Try.ntmps44 rfl hF ?_
  refine t_seq ?_
  refine b0 ?_
  refine om1 rfl (new_boxN rfl) rfl rfl trivial (fun p1 => ?_)
  refine o1 rfl (det_assign rfl) rfl rfl trivial ?_
  refine be rfl ?_
  refine k_then ?_
  refine t_seq ?_
  refine t_seq ?_
  refine t_merge (env0 := [(2, _)]) ⟨rfl, trivial⟩ 20 (.bool (!decide (1 ≤ r ∧ r ≤ 2097152 ∧ 0 ≤ l ∧ l ≤ 268435456))) ?_ (fun hK => ?_)
  ·
    refine k_then ?_
    refine t_condP Iff.rfl rfl (fun hb => ?_) (fun hb => ?_)
    ·
      refine t_seq ?_
      refine b0 ?_
      refine o1 rfl (det_assign rfl) rfl rfl trivial ?_
      refine be rfl ?_
      refine k_then ?_
      refine t_ret (k_thenR (?_))
      refine ret_tmp rfl rfl rfl (fun w1 hs => ?_)
      exact ⟨by rw [if_neg (fun h => by simp [h] at hb)], hs.keep⟩
    ·
      refine t_skip ?_
      refine k_then ?_
      refine t_seq ?_
      refine b0 ?_
      refine o1 rfl (det_assign rfl) rfl rfl trivial ?_
      refine be rfl ?_
      refine k_then ?_
      refine t_ret ?_
      refine ret_tmp rfl rfl rfl (fun w1 hs => ?_)
      exact ⟨by rw [if_pos (by simp at hb; omega)], hs.keep⟩
  ·
    refine b0 ?_
    refine o1 rfl (det_fieldAddr fld75_0 rfl) rfl rfl trivial ?_
    refine o1 rfl (det_load1 t1_3 rfl rfl (.head _) rfl) rfl rfl trivial ?_
    refine o1 rfl (det_lss rfl rfl) rfl rfl trivial ?_
    refine o2P decide_eq_true_iff rfl (det_move rfl) rfl rfl trivial (fun hb => ?_) (fun hb => ?_)
    ·
      refine on rfl rfl rfl ⟨_, rfl, .inl rfl⟩ ?_
      refine on rfl rfl rfl ⟨_, rfl, .inl rfl⟩ ?_
      refine on rfl rfl rfl ⟨_, rfl, .inl rfl⟩ ?_
      refine o1 rfl (det_pickT rfl rfl) rfl rfl trivial ?_
      refine o1 rfl (det_move rfl) rfl rfl trivial ?_
      refine on rfl rfl rfl ⟨_, rfl, .inl rfl⟩ ?_
      refine on rfl rfl rfl ⟨_, rfl, .inl rfl⟩ ?_
      refine on rfl rfl rfl ⟨_, rfl, .inl rfl⟩ ?_
      refine o1 rfl (det_pickT rfl rfl) rfl rfl trivial ?_
      refine o1 rfl (det_move rfl) rfl rfl trivial ?_
      refine on rfl rfl rfl ⟨_, rfl, .inl rfl⟩ ?_
      refine on rfl rfl rfl ⟨_, rfl, .inl rfl⟩ ?_
      refine on rfl rfl rfl ⟨_, rfl, .inl rfl⟩ ?_
      refine o1 rfl (det_pickT rfl rfl) rfl rfl trivial ?_
      refine be rfl ?_
      refine tk_drop ?_ (.refl _) hK
      exact ⟨(mb rfl (by grind)), rfl, trivial⟩
    ·
      refine o1 rfl (det_fieldAddr fld75_0 rfl) rfl rfl ⟨_, rfl, rfl⟩ ?_
      refine o1 rfl (det_load1 t1_3 rfl rfl (.head _) rfl) rfl rfl ⟨_, rfl, rfl⟩ ?_
      refine o1 rfl (det_gtr rfl rfl) rfl rfl ⟨_, rfl, rfl⟩ ?_
      refine o1 rfl (det_pickF rfl rfl) rfl rfl trivial ?_
      refine o2P decide_eq_true_iff rfl (det_move rfl) rfl rfl trivial (fun hb => ?_) (fun hb => ?_)
      ·
        refine on rfl rfl rfl ⟨_, rfl, .inl rfl⟩ ?_
        refine on rfl rfl rfl ⟨_, rfl, .inl rfl⟩ ?_
        refine on rfl rfl rfl ⟨_, rfl, .inl rfl⟩ ?_
        refine o1 rfl (det_pickT rfl rfl) rfl rfl trivial ?_
        refine o1 rfl (det_move rfl) rfl rfl trivial ?_
        refine on rfl rfl rfl ⟨_, rfl, .inl rfl⟩ ?_
        refine on rfl rfl rfl ⟨_, rfl, .inl rfl⟩ ?_
        refine on rfl rfl rfl ⟨_, rfl, .inl rfl⟩ ?_
        refine o1 rfl (det_pickT rfl rfl) rfl rfl trivial ?_
        refine be rfl ?_
        refine tk_drop ?_ (.refl _) hK
        exact ⟨(mb rfl (by grind)), rfl, trivial⟩
      ·
        refine o1 rfl (det_fieldAddr fld75_1 rfl) rfl rfl ⟨_, rfl, rfl⟩ ?_
        refine o1 rfl (det_load1 t1_3 rfl rfl (.head _) rfl) rfl rfl ⟨_, rfl, rfl⟩ ?_
        refine o1 rfl (det_lss rfl rfl) rfl rfl ⟨_, rfl, rfl⟩ ?_
        refine o1 rfl (det_pickF rfl rfl) rfl rfl trivial ?_
        refine o2P decide_eq_true_iff rfl (det_move rfl) rfl rfl trivial (fun hb => ?_) (fun hb => ?_)
        ·
          refine on rfl rfl rfl ⟨_, rfl, .inl rfl⟩ ?_
          refine on rfl rfl rfl ⟨_, rfl, .inl rfl⟩ ?_
          refine on rfl rfl rfl ⟨_, rfl, .inl rfl⟩ ?_
          refine o1 rfl (det_pickT rfl rfl) rfl rfl trivial ?_
          refine be rfl ?_
          refine tk_drop ?_ (.refl _) hK
          exact ⟨(mb rfl (by grind)), rfl, trivial⟩
        ·
          refine o1 rfl (det_fieldAddr fld75_1 rfl) rfl rfl ⟨_, rfl, rfl⟩ ?_
          refine o1 rfl (det_load1 t1_3 rfl rfl (.head _) rfl) rfl rfl ⟨_, rfl, rfl⟩ ?_
          refine o1 rfl (det_gtr rfl rfl) rfl rfl ⟨_, rfl, rfl⟩ ?_
          refine o1 rfl (det_pickF rfl rfl) rfl rfl trivial ?_
          refine be rfl ?_
          refine tk_drop ?_ (.refl _) hK
          exact ⟨(mb rfl (by grind)), rfl, trivial⟩

/-- ServiceHolds. -/
theorem sholds_ok {w : World} {F : Know} (hF : ∀ a v, F a = some v → w.cell? a = some v) {A1 A2 : Option Addr} {n1 c1 n2 c2 : Nat} {ss ls : List Int} (h1 : IntsK F .u8 A1 n1 ss) (h2 : IntsK F .u8 A2 n2 ls) {per most : Int} (hper : 0 ≤ per ∧ per ≤ 255) (hmost : 0 ≤ most ∧ most ≤ 255) {t lg : Int} (ht : -32768 ≤ t ∧ t ≤ 32767) (hlg : 0 ≤ lg ∧ lg ≤ 65535) : Pure Try.prog 12 [.agg [.slice A1 n1 c1, .slice A2 n2 c2].toArray, .int .u8 per, .int .u8 most, .int .i16 t, .int .u16 lg] w (.bool true) := by
  refine fn_pure (F := F) Try.func12 rfl Try.ntmps12 rfl hF ?_
  refine t_seq ?_
  refine b0 ?_
  refine om1 rfl (new_boxN rfl) rfl rfl trivial (fun p5 => ?_)
  refine o1 rfl (det_assign rfl) rfl rfl trivial ?_
  refine be rfl ?_
  refine k_then ?_
  refine t_seq ?_
  refine t_seq ?_
  refine b0 ?_
  refine o1 rfl (det_call hb37 rfl rfl (fun w1 hs => works30_ok hs.know)) rfl rfl trivial ?_
  refine o1 rfl (det_not rfl) rfl rfl trivial ?_
  refine be rfl ?_
  refine k_then ?_
  refine t_condP not_iff_false rfl (fun hb => ?_) (fun hb => ?_)
  · exfalso; simp at hb
  refine t_skip ?_
  refine k_then ?_
  refine t_seq ?_
  refine b0 ?_
  refine o1 rfl (det_loadN tN64 rfl rfl (.head _) rfl) rfl rfl trivial ?_
  refine oF nofun rfl hb33 rfl rfl rfl trivial (fun w1 hs => (draft30_ok hs.know h1 h2).any) (fun v11 F1 hF1 hN1 ⟨B, capb, hv, hcb, hE⟩ => ?_)
  subst hv
  rw [show glv (⟨B, (Sv.draftE ss ls).length, capb, (Sv.draftE ss ls), sumL (Sv.draftE ss ls)⟩ : Gl) = [.slice B (Sv.draftE ss ls).length capb, .int .i64 (sumL (Sv.draftE ss ls))] from rfl]
  refine om1 rfl (new_alloc z30) rfl rfl trivial (fun p11 => ?_)
  refine stN nofun rfl tN30 rfl rfl rfl .head rfl trivial rfl rfl ?_
  refine be rfl ?_
  refine k_then ?_
  refine t_seq ?_
  refine b0 ?_
  refine o1 rfl (det_move rfl) rfl rfl trivial ?_
  first | (refine o1 rfl (det_remP rfl rfl ?_) rfl rfl trivial ?_; (· omega)) | (refine o1 rfl (det_rem rfl rfl ?_) rfl rfl trivial ?_; (· (first | decide | omega)))
  first | (refine o1 rfl (det_convW Try.underlying5 Try.underlying3 rfl ?_) rfl rfl trivial ?_; (· exact IntWalk.i64_in _ (by omega))) | refine o1 rfl (det_conv Try.underlying5 Try.underlying3 rfl) rfl rfl trivial ?_
  first | (refine o1 rfl (det_addI rfl rfl ?_) rfl rfl trivial ?_; (· omega)) | refine o1 rfl (det_add rfl rfl) rfl rfl trivial ?_
  refine o1 rfl (det_move rfl) rfl rfl trivial ?_
  first | (refine o1 rfl (det_convW Try.underlying5 Try.underlying3 rfl ?_) rfl rfl trivial ?_; (· exact IntWalk.i64_in _ (by omega))) | refine o1 rfl (det_conv Try.underlying5 Try.underlying3 rfl) rfl rfl trivial ?_
  first | (refine o1 rfl (det_addI rfl rfl ?_) rfl rfl trivial ?_; (· omega)) | refine o1 rfl (det_add rfl rfl) rfl rfl trivial ?_
  refine o1 rfl (det_assign rfl) rfl rfl trivial ?_
  refine o1 rfl (det_assign rfl) rfl rfl trivial ?_
  refine be rfl ?_
  refine k_then ?_
  refine t_seq ?_
  refine b0 ?_
  obtain ⟨P, hP⟩ : ∃ P, 1 + per % 5 = P := ⟨_, rfl⟩
  obtain ⟨M, hM⟩ : ∃ M, 84 + most = M := ⟨_, rfl⟩
  rw [hP, hM]
  have hb1 : bytesL ss := fun i h => h1.rng i h
  have hb2 : bytesL ls := fun i h => h2.rng i h
  have hG := Sv.draft_good hb1 hb2
  have hcy := Sv.draft_cyc hb1 hb2
  have hc1 := okG_cyc hG
  have hPM : 1 ≤ P ∧ P ≤ 1000 ∧ 84 ≤ M ∧ M ≤ 1542 := by have := Int.emod_nonneg per (show (5 : Int) ≠ 0 by decide); have := Int.emod_lt_of_pos per (show (0 : Int) < 5 by decide); omega
  refine o1 rfl (det_loadN tN30 rfl rfl (.head _) rfl) rfl rfl trivial ?_
  refine o1 rfl (det_move rfl) rfl rfl trivial ?_
  refine o1 rfl (det_move rfl) rfl rfl trivial ?_
  refine o1 rfl (det_call hb40 rfl rfl (fun w1 hs => Of_at hs.know hE (v := ofS (Sv.draftE ss ls) (sumL (Sv.draftE ss ls)) P M) rfl)) rfl rfl trivial ?_
  refine o1 rfl (det_move rfl) rfl rfl trivial ?_
  refine o1 rfl (det_extract rfl rfl) rfl rfl trivial ?_
  refine o1 rfl (det_extract rfl rfl) rfl rfl trivial ?_
  refine om1 rfl (new_alloc z75) rfl rfl trivial (fun p14 => ?_)
  refine stN nofun rfl tN75 rfl rfl rfl .head rfl trivial rfl rfl ?_
  refine o1 rfl (det_assign rfl) rfl rfl trivial ?_
  refine be rfl ?_
  refine k_then ?_
  refine t_seq ?_
  refine t_seq ?_
  refine b0 ?_
  refine o1 rfl (det_move rfl) rfl rfl trivial ?_
  refine o1 rfl (det_neq rfl rfl) rfl rfl trivial ?_
  refine be rfl ?_
  refine k_then ?_
  refine t_condP bne_iff_ne rfl (fun hb => ?_) (fun hb => ?_)
  ·
    have hno : ¬ 1 ≤ rateS (Sv.draftE ss ls) (sumL (Sv.draftE ss ls)) (M * P) P := fun h => by rw [of_val ⟨hG, hPM, h⟩] at hb; exact hb rfl
    rw [of_none hG hPM hno]
    refine t_seq ?_
    refine b0 ?_
    refine o1 rfl (det_move rfl) rfl rfl trivial ?_
    refine o1 rfl (det_eql rfl rfl) rfl rfl trivial ?_
    refine o1 rfl (det_assign rfl) rfl rfl trivial ?_
    refine be rfl ?_
    refine k_then ?_
    refine t_ret (k_thenR (?_))
    refine ret_tmp rfl rfl rfl (fun w1 hs => ?_)
    exact ⟨rfl, hs.keep⟩
  ·
    have hOk : Ok30 (Sv.draftE ss ls) (sumL (Sv.draftE ss ls)) P M := ⟨hG, hPM, by
      by_cases h : 1 ≤ rateS (Sv.draftE ss ls) (sumL (Sv.draftE ss ls)) (M * P) P
      · exact h
      · rw [of_none hG hPM h] at hb; exact absurd (by decide) hb⟩
    rw [of_val hOk]
    obtain ⟨R, hR⟩ : ∃ R, rateS (Sv.draftE ss ls) (sumL (Sv.draftE ss ls)) (M * P) P = R := ⟨_, rfl⟩
    rw [hR]
    obtain ⟨L, hL⟩ : ∃ L, latS P R (worstP (Sv.draftE ss ls) (sumL (Sv.draftE ss ls)) (M * P) R P) = L := ⟨_, rfl⟩
    rw [hL]
    dsimp only
    have hlf := lat_facts hOk hcy hR hL
    refine t_skip ?_
    refine k_then ?_
    refine t_seq ?_
    refine t_seq ?_
    refine bD mixed ?_
    refine r_seg 22 22 [] [0, 1, 2, 3, 4, 5, 6, 7, 8, 9, 10, 11, 12, 13, 14, 15, 16, 17, 18, 19, 20, 21] (by kernel_rfl) ?_
    refine s1 rfl (det_move rfl) rfl rfl trivial rfl ?_
    first | (refine s1 rfl (det_convW Try.underlying53 Try.underlying3 rfl ?_) rfl rfl trivial rfl ?_; (· exact IntWalk.i64_in _ (by omega))) | refine s1 rfl (det_conv Try.underlying53 Try.underlying3 rfl) rfl rfl trivial rfl ?_
    refine s1 rfl (det_fieldAddr fld30_1 rfl) rfl rfl trivial rfl ?_
    refine s1 rfl (det_load1 t1_3 rfl rfl (.tail _ (.head _)) rfl) rfl rfl trivial rfl ?_
    first | (refine s1 rfl (det_mulI rfl rfl ?_) rfl rfl trivial rfl ?_; (· omega)) | refine s1 rfl (det_mul rfl rfl) rfl rfl trivial rfl ?_
    first | (refine s1 rfl (det_addI rfl rfl ?_) rfl rfl trivial rfl ?_; (· omega)) | refine s1 rfl (det_add rfl rfl) rfl rfl trivial rfl ?_
    first | (refine s1 rfl (det_remP rfl rfl ?_) rfl rfl trivial rfl ?_; (· omega)) | (refine s1 rfl (det_rem rfl rfl ?_) rfl rfl trivial rfl ?_; (· (first | decide | omega)))
    refine s1 rfl (det_move rfl) rfl rfl trivial rfl ?_
    first | (refine s1 rfl (det_convW Try.underlying53 Try.underlying3 rfl ?_) rfl rfl trivial rfl ?_; (· exact IntWalk.i64_in _ (by omega))) | refine s1 rfl (det_conv Try.underlying53 Try.underlying3 rfl) rfl rfl trivial rfl ?_
    refine s1 rfl (det_fieldAddr fld30_1 rfl) rfl rfl trivial rfl ?_
    refine s1 rfl (det_load1 t1_3 rfl rfl (.tail _ (.head _)) rfl) rfl rfl trivial rfl ?_
    first | (refine s1 rfl (det_addI rfl rfl ?_) rfl rfl trivial rfl ?_; (· omega)) | refine s1 rfl (det_add rfl rfl) rfl rfl trivial rfl ?_
    first | (refine s1 rfl (det_remP rfl rfl ?_) rfl rfl trivial rfl ?_; (· omega)) | (refine s1 rfl (det_rem rfl rfl ?_) rfl rfl trivial rfl ?_; (· (first | decide | omega)))
    refine s1 rfl (det_move rfl) rfl rfl trivial rfl ?_
    first | (refine s1 rfl (det_convW Try.underlying53 Try.underlying3 rfl ?_) rfl rfl trivial rfl ?_; (· exact IntWalk.i64_in _ (by omega))) | refine s1 rfl (det_conv Try.underlying53 Try.underlying3 rfl) rfl rfl trivial rfl ?_
    first | (refine s1 rfl (det_remP rfl rfl ?_) rfl rfl trivial rfl ?_; (· omega)) | (refine s1 rfl (det_rem rfl rfl ?_) rfl rfl trivial rfl ?_; (· (first | decide | omega)))
    refine s1 rfl (det_fieldAddr fld30_1 rfl) rfl rfl trivial rfl ?_
    refine s1 rfl (det_load1 t1_3 rfl rfl (.tail _ (.head _)) rfl) rfl rfl trivial rfl ?_
    first | (refine s1 rfl (det_addI rfl rfl ?_) rfl rfl trivial rfl ?_; (· omega)) | refine s1 rfl (det_add rfl rfl) rfl rfl trivial rfl ?_
    first | (refine s1 rfl (det_remP rfl rfl ?_) rfl rfl trivial rfl ?_; (· omega)) | (refine s1 rfl (det_rem rfl rfl ?_) rfl rfl trivial rfl ?_; (· (first | decide | omega)))
    refine s1 rfl (det_build rfl (fun w => bld40_0_1_2 _ _ _ w)) rfl rfl trivial rfl ?_
    refine s1 rfl (det_move rfl) rfl rfl trivial rfl ?_
    refine sg_nil ?_
    refine be rfl ?_
    refine k_then ?_
    refine t_block ?_
    refine t_whileM (σ := Nat) (fun s => [(62, .int .i64 s)]) (fun _ => _) (fun s => 3 - s) (fun s => s ≤ 3) 0 (env0 := [(3, _), (11, _), (12, _), (13, _), (14, _), (61, _)]) (Nat.zero_le _) ⟨rfl, trivial⟩ ⟨rfl, rfl, rfl, rfl, rfl, rfl, trivial⟩ (.refl _) ?_
    intro s hsl
    refine t_seq ?_
    refine b0 ?_
    refine o1 rfl (det_lss rfl rfl) rfl rfl trivial ?_
    refine be rfl ?_
    refine k_then ?_
    refine t_seq ?_
    refine t_condP decide_eq_true_iff rfl (fun hb => ?_) (fun hb => ?_)
    ·
      obtain ⟨x, hx, hxb⟩ : ∃ x : Int, nthV [Value.int .i64 (lg % (4 * sumL (Sv.draftE ss ls) + 1)), .int .i64 (lg % (sumL (Sv.draftE ss ls) + 1)), .int .i64 (lg % 600 % (sumL (Sv.draftE ss ls) + 1))] (s : Int).toNat = some (.int .i64 x) ∧ (0 ≤ x ∧ x ≤ 4 * sumL (Sv.draftE ss ls)) := by
        have m1 := Int.emod_nonneg lg (show 4 * sumL (Sv.draftE ss ls) + 1 ≠ 0 by omega)
        have m2 := Int.emod_lt_of_pos lg (show 0 < 4 * sumL (Sv.draftE ss ls) + 1 by omega)
        have m3 := Int.emod_nonneg lg (show sumL (Sv.draftE ss ls) + 1 ≠ 0 by omega)
        have m4 := Int.emod_lt_of_pos lg (show 0 < sumL (Sv.draftE ss ls) + 1 by omega)
        have m5 := Int.emod_nonneg (lg % 600) (show sumL (Sv.draftE ss ls) + 1 ≠ 0 by omega)
        have m6 := Int.emod_lt_of_pos (lg % 600) (show 0 < sumL (Sv.draftE ss ls) + 1 by omega)
        have h6 : s = 0 ∨ s = 1 ∨ s = 2 := by omega
        rcases h6 with rfl | rfl | rfl
        · exact ⟨_, rfl, by omega⟩
        · exact ⟨_, rfl, by omega⟩
        · exact ⟨_, rfl, by omega⟩
      refine t_skip ?_
      refine k_then ?_
      refine t_seq ?_
      refine t_block ?_
      refine t_seq ?_
      refine b0 ?_
      refine o1 rfl (det_index1 ar40 t1_3 rfl rfl (by omega) hx) rfl rfl trivial ?_
      refine o1 rfl (det_assign rfl) rfl rfl trivial ?_
      refine be rfl ?_
      refine k_then ?_
      refine t_seq ?_
      refine b0 ?_
      refine o1 rfl (det_loadN tN30 rfl rfl (.tail _ (.head _)) rfl) rfl rfl trivial ?_
      refine o1 rfl (det_move rfl) rfl rfl trivial ?_
      refine o1 rfl (det_move rfl) rfl rfl trivial ?_
      refine o1 rfl (det_move rfl) rfl rfl trivial ?_
      first | (refine o1 rfl (det_convW Try.underlying25 Try.underlying3 rfl ?_) rfl rfl trivial ?_; (· exact IntWalk.i64_in _ (by omega))) | refine o1 rfl (det_conv Try.underlying25 Try.underlying3 rfl) rfl rfl trivial ?_
      refine o1 rfl (det_move rfl) rfl rfl trivial ?_
      refine o1 rfl (det_call hb43 rfl rfl (fun w1 hs => hsends_at hs.know hE (n := hsendS (Sv.draftE ss ls) (sumL (Sv.draftE ss ls)) P M t x) rfl)) rfl rfl trivial ?_
      refine o1 rfl (det_assign rfl) rfl rfl trivial ?_
      refine be rfl ?_
      refine k_then ?_
      refine t_seq ?_
      refine b0 ?_
      have hh := hold_ok (t := t) (lg := x) hOk hcy (by omega) hxb hR hL
      have hkr := k_rng (k := R * P) (y := x - L) (K := 1048576) (Y := 300000000) ⟨by omega, hlf.1.2.2.2⟩ (by omega)
      refine o1 rfl (det_move rfl) rfl rfl trivial ?_
      refine o1 rfl (det_lss rfl rfl) rfl rfl trivial ?_
      refine o2P decide_eq_true_iff rfl (det_move rfl) rfl rfl trivial (fun hb => ?_) (fun hb => ?_)
      · exfalso; omega
      refine o1 rfl (det_move rfl) rfl rfl ⟨_, rfl, rfl⟩ ?_
      first | (refine o1 rfl (det_mulI rfl rfl ?_) rfl rfl ⟨_, rfl, rfl⟩ ?_; (· omega)) | refine o1 rfl (det_mul rfl rfl) rfl rfl ⟨_, rfl, rfl⟩ ?_
      refine o1 rfl (det_fieldAddr fld75_0 rfl) rfl rfl ⟨_, rfl, rfl⟩ ?_
      refine o1 rfl (det_load1 t1_3 rfl rfl (.head _) rfl) rfl rfl ⟨_, rfl, rfl⟩ ?_
      refine o1 rfl (det_move rfl) rfl rfl ⟨_, rfl, rfl⟩ ?_
      first | (refine o1 rfl (det_mulI rfl rfl ?_) rfl rfl ⟨_, rfl, rfl⟩ ?_; (· omega)) | refine o1 rfl (det_mul rfl rfl) rfl rfl ⟨_, rfl, rfl⟩ ?_
      refine o1 rfl (det_move rfl) rfl rfl ⟨_, rfl, rfl⟩ ?_
      refine o1 rfl (det_fieldAddr fld75_1 rfl) rfl rfl ⟨_, rfl, rfl⟩ ?_
      refine o1 rfl (det_load1 t1_3 rfl rfl (.head _) rfl) rfl rfl ⟨_, rfl, rfl⟩ ?_
      first | (refine o1 rfl (det_subI rfl rfl ?_) rfl rfl ⟨_, rfl, rfl⟩ ?_; (· omega)) | refine o1 rfl (det_sub rfl rfl) rfl rfl ⟨_, rfl, rfl⟩ ?_
      first | (refine o1 rfl (det_mulI rfl rfl ?_) rfl rfl ⟨_, rfl, rfl⟩ ?_; (· omega)) | refine o1 rfl (det_mul rfl rfl) rfl rfl ⟨_, rfl, rfl⟩ ?_
      refine o1 rfl (det_lss rfl rfl) rfl rfl ⟨_, rfl, rfl⟩ ?_
      refine o1 rfl (det_pickF rfl rfl) rfl rfl trivial ?_
      refine be rfl ?_
      refine k_then ?_
      refine t_condP decide_eq_true_iff rfl (fun hb => ?_) (fun hb => ?_)
      · exfalso; first | omega | (simp at hb; omega)
      refine t_skip ?_
      refine k_blk ?_
      refine k_then ?_
      refine b0 ?_
      first | (refine o1 rfl (det_addI rfl rfl ?_) rfl rfl trivial ?_; (· omega)) | refine o1 rfl (det_add rfl rfl) rfl rfl trivial ?_
      refine o1 rfl (det_move rfl) rfl rfl trivial ?_
      refine be rfl ?_
      refine k_then ?_
      refine loop_back (s + 1) (by omega) (by omega) ⟨rfl, rfl, rfl, rfl, rfl, rfl, rfl, trivial⟩ (.refl _)
    ·
      skip
      refine t_exit ?_
      refine k_thenE ?_
      refine k_thenE ?_
      refine k_blkE ?_
      refine k_then ?_
      refine t_seq ?_
      refine b0 ?_
      refine o1 rfl (det_loadN tN75 rfl rfl (.head _) rfl) rfl rfl trivial ?_
      refine o1 rfl (det_call hb44 rfl rfl (fun w1 hs => scheck_ok hs.know)) rfl rfl trivial ?_
      refine o1 rfl (det_eql rfl rfl) rfl rfl trivial ?_
      refine o2P beq_iff_eq rfl (det_move rfl) rfl rfl trivial (fun hb => ?_) (fun hb => ?_)
      rotate_left
      · exfalso; rw [if_pos ⟨hlf.1.1, by omega, hlf.2.1.1, hlf.2.1.2⟩] at hb; simp at hb
      refine o1 rfl (det_fieldAddr fld75_1 rfl) rfl rfl ⟨_, rfl, rfl⟩ ?_
      refine o1 rfl (det_load1 t1_3 rfl rfl (.head _) rfl) rfl rfl ⟨_, rfl, rfl⟩ ?_
      refine o1 rfl (det_fieldAddr fld75_0 rfl) rfl rfl ⟨_, rfl, rfl⟩ ?_
      refine o1 rfl (det_load1 t1_3 rfl rfl (.head _) rfl) rfl rfl ⟨_, rfl, rfl⟩ ?_
      have hkr2 := k_rng (k := R) (y := L) (K := 1048576) (Y := 300000000) ⟨by omega, hlf.1.2.1⟩ (by omega)
      have hcm : L * R = R * L := Int.mul_comm _ _
      first | (refine o1 rfl (det_mulI rfl rfl ?_) rfl rfl ⟨_, rfl, rfl⟩ ?_; (· omega)) | refine o1 rfl (det_mul rfl rfl) rfl rfl ⟨_, rfl, rfl⟩ ?_
      refine o1 rfl (det_geq rfl rfl) rfl rfl ⟨_, rfl, rfl⟩ ?_
      refine o1 rfl (det_pickT rfl rfl) rfl rfl trivial ?_
      refine o1 rfl (det_assign rfl) rfl rfl trivial ?_
      refine be rfl ?_
      refine k_then ?_
      refine t_ret ?_
      refine ret_tmp rfl rfl rfl (fun w1 hs => ?_)
      have hlr3 := hlf.2.2.1
      first | exact ⟨by rw [show decide (133169152 ≤ L * R) = true from decide_eq_true (by omega)], hs.keep⟩ | exact ⟨by rw [show decide (L * R ≥ 133169152) = true from decide_eq_true (by omega)], hs.keep⟩

end Go.Proofs.Sw
