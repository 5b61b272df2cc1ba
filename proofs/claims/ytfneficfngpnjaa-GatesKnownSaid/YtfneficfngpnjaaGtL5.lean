/-
  Walks through layer 27 and its reference.
-/
import Derived.Test.YtfneficfngpnjaaGtW13
import Derived.Test.YtfneficfngpnjaaGtPlain5
namespace Go.Proofs.Gt
open Go Go.Eng Go.Gt
set_option maxRecDepth 4000

/-- The law GatesKnown. -/
theorem known_ok {w : World} {F : Know} (hF : ∀ a v, F a = some v → w.cell? a = some v)  : Pure Try.prog 9 [] w (.bool true) := by
  refine fn_pure (F := F) Try.func9 rfl Try.ntmps9 rfl hF ?_
  refine t_seq ?_
  refine b0 ?_
  refine o1 rfl (det_assign rfl) rfl rfl trivial ?_
  refine be rfl ?_
  refine k_then ?_
  refine t_seq ?_
  refine b0 ?_
  refine om1 rfl (new_makeSlice mk52 rfl rfl (by omega) (by omega) (by omega) (by omega)) rfl rfl trivial (fun p34 => ?_)
  rw [flat_one]
  refine o1 rfl (det_assign rfl) rfl rfl trivial ?_
  refine be rfl ?_
  refine k_then ?_
  refine t_seq ?_
  refine t_seq ?_
  refine b0 ?_
  refine o1 rfl (det_assign rfl) rfl rfl trivial ?_
  refine be rfl ?_
  refine k_then ?_
  refine t_block ?_
  refine t_whileM (σ := Nat) (fun s => [(2, .int .i64 (s : Int))]) (fun s => [(p34, .cells (List.replicate s (Value.int .i64 1) ++ List.replicate (258 - s) (Value.int .i64 0)).toArray 3 (0, 0))]) (fun s => 258 - s) (fun s => s ≤ 258) 0 (env0 := [(0, _), (1, _)]) (Nat.zero_le _) ⟨rfl, trivial⟩ ⟨rfl, rfl, trivial⟩ (.refl _) ?_
  intro s hs0
  refine t_seq ?_
  refine t_seq ?_
  refine b0 ?_
  refine o1 rfl (det_move rfl) rfl rfl trivial ?_
  refine o1 rfl (det_lss rfl rfl) rfl rfl trivial ?_
  refine be rfl ?_
  refine k_then ?_
  refine t_condP decide_eq_true_iff rfl (fun hb => ?_) (fun hb => ?_)
  ·
    refine t_skip ?_
    refine k_then ?_
    refine t_seq ?_
    refine t_block ?_
    refine b0 ?_
    refine o1 rfl (det_move rfl) rfl rfl trivial ?_
    refine o1 rfl (det_move rfl) rfl rfl trivial ?_
    first | (refine o1 rfl (det_indexAddr sl52 rfl rfl ?_) rfl rfl trivial ?_; · (first | decide | omega))
    refine st1 (p := p34) nofun rfl t1_3 rfl (by rw [add_mk, Nat.zero_add, Nat.mul_one]) rfl .head (setV_one (by simp; omega) _) trivial rfl ?_
    refine be rfl ?_
    refine k_blk ?_
    refine k_then ?_
    refine b0 ?_
    refine o1 rfl (det_move rfl) rfl rfl trivial ?_
    first | (refine o1 rfl (det_addI rfl rfl ?_) rfl rfl trivial ?_; · omega) | refine o1 rfl (det_add rfl rfl) rfl rfl trivial ?_
    refine o1 rfl (det_assign rfl) rfl rfl trivial ?_
    refine be rfl ?_
    refine k_then ?_
    rw [show ((s : Int)).toNat = s from by omega, rep_set (by omega)]
    refine loop_back (s + 1) (by show s + 1 ≤ _; omega) (by omega) ⟨rfl, rfl, rfl, trivial⟩ (.refl _)
  ·
    have hs8 : s = 258 := by omega
    subst hs8
    rw [show List.replicate 258 (Value.int .i64 1) ++ List.replicate (258 - 258) (Value.int .i64 0) = List.replicate (129 * 2) (Value.int .i64 1) from by simp]
    clear hb
    refine t_exit ?_
    refine k_thenE ?_
    refine k_thenE ?_
    refine k_blkE ?_
    refine k_then ?_
    refine t_seq ?_
    refine b0 ?_
    refine tk_freeze (pre := []) rfl (fun F1 hF1 hN1 hK1 => ?_)
    have hErr : ∀ m, m ≤ 129 → EntK F1 (some ⟨p34, 0, none⟩) (List.replicate m (1, 1) : Ents).length (List.replicate m (1, 1)) := fun m hm => entK_rep hm hK1
    refine om1 rfl (new_buildSlice rfl (fun w => bsl52_2_0_1 _ _ w)) rfl rfl trivial (fun p42 => ?_)
    refine tk_freeze (pre := []) rfl (fun F2 hF2 hNF2 hKF2 => ?_)
    have hd43 : ∀ (i : Nat) (h : i < (([(1, 5)] : Ents) : Ents).length), -20000000 ≤ (([(1, 5)] : Ents) : Ents)[i].2 ∧ (([(1, 5)] : Ents) : Ents)[i].2 ≤ 20000000 := by decide
    have hE43 : EntK F2 (some ⟨p42, 0, none⟩) (List.length (([(1, 5)] : Ents) : Ents)) (([(1, 5)] : Ents) : Ents) := entK_lit (by decide) hKF2
    refine oF nofun rfl hb28 rfl rfl rfl trivial (fun w1 hs => (list_ok hs.know hE43 (by decide) hd43).any) (fun v43 F3 hF3 hNF3 hR43 => ?_)
    obtain ⟨B43, cap43, rfl, hcp43, hG43⟩ := hR43
    refine om1 rfl (new_alloc z27) rfl rfl trivial (fun p3 => ?_)
    refine stN nofun rfl tN27 rfl rfl rfl .head rfl trivial rfl rfl ?_
    refine be rfl ?_
    refine k_then ?_
    refine t_seq ?_
    refine b0 ?_
    refine o1 rfl (det_fieldAddr fld27_1 rfl) rfl rfl trivial ?_
    refine st1 nofun rfl t1_3 rfl rfl rfl .head rfl trivial rfl ?_
    refine be rfl ?_
    refine k_then ?_
    refine t_seq ?_
    refine bD mixed ?_
    refine r_segF 16 16 [1, 3, 5, 7, 9, 14] [(2, Go.Eng.Told F3 (fun v F1 => ∃ A1 cap1, v = .agg [.slice A1 (([(-1, 5)] : Ents)).length cap1, .int .i64 (sumL (([(-1, 5)] : Ents)))].toArray ∧ (([(-1, 5)] : Ents)).length ≤ cap1 ∧ EntK F1 A1 (([(-1, 5)] : Ents)).length (([(-1, 5)] : Ents)))), (4, Go.Eng.Told F3 (fun v F1 => ∃ A1 cap1, v = .agg [.slice A1 (([(256, 5)] : Ents)).length cap1, .int .i64 (sumL (([(256, 5)] : Ents)))].toArray ∧ (([(256, 5)] : Ents)).length ≤ cap1 ∧ EntK F1 A1 (([(256, 5)] : Ents)).length (([(256, 5)] : Ents)))), (6, Go.Eng.Told F3 (fun v F1 => ∃ A1 cap1, v = .agg [.slice A1 (([(1, 0)] : Ents)).length cap1, .int .i64 (sumL (([(1, 0)] : Ents)))].toArray ∧ (([(1, 0)] : Ents)).length ≤ cap1 ∧ EntK F1 A1 (([(1, 0)] : Ents)).length (([(1, 0)] : Ents)))), (8, Go.Eng.Told F3 (fun v F1 => ∃ A1 cap1, v = .agg [.slice A1 (([(1, 9600001)] : Ents)).length cap1, .int .i64 (sumL (([(1, 9600001)] : Ents)))].toArray ∧ (([(1, 9600001)] : Ents)).length ≤ cap1 ∧ EntK F1 A1 (([(1, 9600001)] : Ents)).length (([(1, 9600001)] : Ents)))), (10, Go.Eng.Told F3 (fun v F1 => ∃ A1 cap1, v = .agg [.slice A1 (([(1, 9600000), (1, 1)] : Ents)).length cap1, .int .i64 (sumL (([(1, 9600000), (1, 1)] : Ents)))].toArray ∧ (([(1, 9600000), (1, 1)] : Ents)).length ≤ cap1 ∧ EntK F1 A1 (([(1, 9600000), (1, 1)] : Ents)).length (([(1, 9600000), (1, 1)] : Ents)))), (13, Go.Eng.Told F3 (fun v F1 => ∃ A1 cap1, v = .agg [.slice A1 ((List.replicate 129 (1, 1) : Ents)).length cap1, .int .i64 (sumL ((List.replicate 129 (1, 1) : Ents)))].toArray ∧ ((List.replicate 129 (1, 1) : Ents)).length ≤ cap1 ∧ EntK F1 A1 ((List.replicate 129 (1, 1) : Ents)).length ((List.replicate 129 (1, 1) : Ents))))] [0, 1, 2, 3, 4, 5, 6, 7, 8, 9, 10, 11, 12, 13, 14, 15] (by kernel_rfl) ?_
    have hEr : EntK F3 (some ⟨p34, 0, none⟩) (List.replicate 129 (1, 1) : Ents).length (List.replicate 129 (1, 1)) := ((hErr 129 (by omega)).mono hF2).mono hF3
    have hdr := big_rep 129
    refine s1 rfl (det_build rfl (fun w => bld27_ w)) rfl rfl trivial rfl ?_
    refine sm1 rfl (new_buildSlice rfl (fun w => bsl52_2_0_1 _ _ w)) rfl rfl trivial rfl (fun p46 => ?_)
    refine sM [_] (needC (.head _) rfl need0) rfl (fun F2 hF2 hN => mem_call hF2 hb28 rfl rfl (fun w1 hs => (by
      have hd0 : ∀ (i : Nat) (h : i < ([(-1, 5)] : Ents).length), -20000000 ≤ ([(-1, 5)] : Ents)[i].2 ∧ ([(-1, 5)] : Ents)[i].2 ≤ 20000000 := by decide
      have hE0 : EntK F2 (some ⟨p46, 0, none⟩) (List.length ([(-1, 5)] : Ents)) ([(-1, 5)] : Ents) := entK_lit (by decide) (holdsK (hN _ (.head _)))
      exact (list_ok hs.know hE0 (by decide) hd0).any))) rfl rfl trivial rfl (fun v47 hv47 => ?_)
    obtain ⟨_, A47, cap47, rfl, -, -⟩ := hv47
    refine sm1 rfl (new_buildSlice rfl (fun w => bsl52_2_0_1 _ _ w)) rfl rfl trivial rfl (fun p48 => ?_)
    refine sM [_] (needC (.head _) rfl need0) rfl (fun F2 hF2 hN => mem_call hF2 hb28 rfl rfl (fun w1 hs => (by
      have hd0 : ∀ (i : Nat) (h : i < ([(256, 5)] : Ents).length), -20000000 ≤ ([(256, 5)] : Ents)[i].2 ∧ ([(256, 5)] : Ents)[i].2 ≤ 20000000 := by decide
      have hE0 : EntK F2 (some ⟨p48, 0, none⟩) (List.length ([(256, 5)] : Ents)) ([(256, 5)] : Ents) := entK_lit (by decide) (holdsK (hN _ (.head _)))
      exact (list_ok hs.know hE0 (by decide) hd0).any))) rfl rfl trivial rfl (fun v49 hv49 => ?_)
    obtain ⟨_, A49, cap49, rfl, -, -⟩ := hv49
    refine sm1 rfl (new_buildSlice rfl (fun w => bsl52_2_0_1 _ _ w)) rfl rfl trivial rfl (fun p50 => ?_)
    refine sM [_] (needC (.head _) rfl need0) rfl (fun F2 hF2 hN => mem_call hF2 hb28 rfl rfl (fun w1 hs => (by
      have hd0 : ∀ (i : Nat) (h : i < ([(1, 0)] : Ents).length), -20000000 ≤ ([(1, 0)] : Ents)[i].2 ∧ ([(1, 0)] : Ents)[i].2 ≤ 20000000 := by decide
      have hE0 : EntK F2 (some ⟨p50, 0, none⟩) (List.length ([(1, 0)] : Ents)) ([(1, 0)] : Ents) := entK_lit (by decide) (holdsK (hN _ (.head _)))
      exact (list_ok hs.know hE0 (by decide) hd0).any))) rfl rfl trivial rfl (fun v51 hv51 => ?_)
    obtain ⟨_, A51, cap51, rfl, -, -⟩ := hv51
    refine sm1 rfl (new_buildSlice rfl (fun w => bsl52_2_0_1 _ _ w)) rfl rfl trivial rfl (fun p52 => ?_)
    refine sM [_] (needC (.head _) rfl need0) rfl (fun F2 hF2 hN => mem_call hF2 hb28 rfl rfl (fun w1 hs => (by
      have hd0 : ∀ (i : Nat) (h : i < ([(1, 9600001)] : Ents).length), -20000000 ≤ ([(1, 9600001)] : Ents)[i].2 ∧ ([(1, 9600001)] : Ents)[i].2 ≤ 20000000 := by decide
      have hE0 : EntK F2 (some ⟨p52, 0, none⟩) (List.length ([(1, 9600001)] : Ents)) ([(1, 9600001)] : Ents) := entK_lit (by decide) (holdsK (hN _ (.head _)))
      exact (list_ok hs.know hE0 (by decide) hd0).any))) rfl rfl trivial rfl (fun v53 hv53 => ?_)
    obtain ⟨_, A53, cap53, rfl, -, -⟩ := hv53
    refine sm1 rfl (new_buildSlice rfl (fun w => bsl52_4_0_1_2_3 _ _ _ _ w)) rfl rfl trivial rfl (fun p54 => ?_)
    refine sM [_] (needC (.head _) rfl need0) rfl (fun F2 hF2 hN => mem_call hF2 hb28 rfl rfl (fun w1 hs => (by
      have hd0 : ∀ (i : Nat) (h : i < ([(1, 9600000), (1, 1)] : Ents).length), -20000000 ≤ ([(1, 9600000), (1, 1)] : Ents)[i].2 ∧ ([(1, 9600000), (1, 1)] : Ents)[i].2 ≤ 20000000 := by decide
      have hE0 : EntK F2 (some ⟨p54, 0, none⟩) (List.length ([(1, 9600000), (1, 1)] : Ents)) ([(1, 9600000), (1, 1)] : Ents) := entK_lit (by decide) (holdsK (hN _ (.head _)))
      exact (list_ok hs.know hE0 (by decide) hd0).any))) rfl rfl trivial rfl (fun v55 hv55 => ?_)
    obtain ⟨_, A55, cap55, rfl, -, -⟩ := hv55
    refine s1 rfl (det_loadN tN27 rfl rfl (.head _) rfl) rfl rfl trivial rfl ?_
    refine s1 rfl (det_move rfl) rfl rfl trivial rfl ?_
    refine sM [] need0 rfl (fun F2 hF2 hN => mem_call hF2 hb28 rfl rfl (fun w1 hs => (list_ok hs.know (hEr.mono hF2) (by decide) hdr).any)) rfl rfl trivial rfl (fun v58 hv58 => ?_)
    obtain ⟨_, A58, cap58, rfl, -, -⟩ := hv58
    refine sm1 rfl (new_buildSlice rfl (fun w => bsl54_8_0_1_2_3_4_5_6_7 _ _ _ _ _ _ _ _ _ _ _ _ _ _ _ _ _ _ _ _ _ _ _ _ _ _ _ _ _ _ _ _ w)) rfl rfl trivial rfl (fun p59 => ?_)
    refine s1 rfl (det_assign rfl) rfl rfl trivial rfl ?_
    refine sg_nil ?_
    rintro F_8_16 hF_8_16 hN_8_16 ⟨hR58, hR55, hR53, hR51, hR49, hR47, -⟩
    obtain ⟨_, _, h58, -, hE58⟩ := hR58
    cases h58
    obtain ⟨_, _, h55, -, hE55⟩ := hR55
    cases h55
    obtain ⟨_, _, h53, -, hE53⟩ := hR53
    cases h53
    obtain ⟨_, _, h51, -, hE51⟩ := hR51
    cases h51
    obtain ⟨_, _, h49, -, hE49⟩ := hR49
    cases h49
    obtain ⟨_, _, h47, -, hE47⟩ := hR47
    cases h47
    refine be rfl ?_
    refine k_then ?_
    refine t_seq ?_
    refine t_seq ?_
    refine b0 ?_
    refine tk_freeze (pre := []) rfl (fun F9 hF9 hN9 hK9 => ?_)
    refine o1 rfl (det_assign rfl) rfl rfl trivial ?_
    refine be rfl ?_
    refine k_then ?_
    refine t_block ?_
    refine t_whileM (σ := Nat) (fun s => [(5, .int .i64 (s : Int))]) (fun _ => _) (fun s => 8 - s) (fun s => s ≤ 8) 0 (env0 := [(1, _), (4, _)]) (Nat.zero_le _) ⟨rfl, trivial⟩ ⟨rfl, rfl, trivial⟩ (.refl _) ?_
    intro s hs0
    refine t_seq ?_
    refine t_seq ?_
    refine b0 ?_
    refine o1 rfl (det_move rfl) rfl rfl trivial ?_
    refine o1 rfl (det_move rfl) rfl rfl trivial ?_
    refine o1 rfl (det_lenS sl54 rfl) rfl rfl trivial ?_
    refine o1 rfl (det_lss rfl rfl) rfl rfl trivial ?_
    refine be rfl ?_
    refine k_then ?_
    refine t_condP decide_eq_true_iff rfl (fun hb => ?_) (fun hb => ?_)
    ·
      have hlt : s < 8 := by omega
      have hix : ∃ (Ag : Option Addr) (ng cg : Nat) (eg : Ents) (yg : Int), (∀ j, j < 2 → F9 (((⟨p59, 0, none⟩ : Addr).add (((s : Int)).toNat * 2)).add j) = [Value.slice Ag ng cg, .int .i64 yg][j]?) ∧ EntK F9 Ag ng eg ∧ okG eg yg = false := by
        rcases (show s = 0 ∨ s = 1 ∨ s = 2 ∨ s = 3 ∨ s = 4 ∨ s = 5 ∨ s = 6 ∨ s = 7 by omega) with rfl | rfl | rfl | rfl | rfl | rfl | rfl | rfl
        · exact ⟨_, _, _, _, _, pairK hK9 0 rfl rfl, EntK.nil _, by decide +kernel⟩
        · exact ⟨_, _, _, _, _, pairK hK9 1 rfl rfl, hE47.mono hF9, by decide +kernel⟩
        · exact ⟨_, _, _, _, _, pairK hK9 2 rfl rfl, hE49.mono hF9, by decide +kernel⟩
        · exact ⟨_, _, _, _, _, pairK hK9 3 rfl rfl, hE51.mono hF9, by decide +kernel⟩
        · exact ⟨_, _, _, _, _, pairK hK9 4 rfl rfl, hE53.mono hF9, by decide +kernel⟩
        · exact ⟨_, _, _, _, _, pairK hK9 5 rfl rfl, hE55.mono hF9, by decide +kernel⟩
        · exact ⟨_, _, _, _, _, pairK hK9 6 rfl rfl, (hG43.mono hF_8_16).mono hF9, by decide +kernel⟩
        · exact ⟨_, _, _, _, _, pairK hK9 7 rfl rfl, hE58.mono hF9, by decide +kernel⟩
      obtain ⟨Ag, ng, cg, eg, yg, hcell, hEg, hbad⟩ := hix
      have hball := bad_all hbad
      refine t_skip ?_
      refine k_then ?_
      refine t_seq ?_
      refine t_block ?_
      refine t_seq ?_
      refine b0 ?_
      refine o1 rfl (det_move rfl) rfl rfl trivial ?_
      refine o1 rfl (det_move rfl) rfl rfl trivial ?_
      first | (refine o1 rfl (det_indexAddr sl54 rfl rfl ?_) rfl rfl trivial ?_; · (first | decide | omega))
      refine o1 rfl (det_loadKN tN27 rfl rfl hcell) rfl rfl trivial ?_
      refine o1 rfl (det_call hb11 rfl rfl (fun w1 hs => mask_ok hs.know hEg _)) rfl rfl trivial ?_
      refine o1 rfl (det_move rfl) rfl rfl trivial ?_
      refine o1 rfl (det_extract rfl rfl) rfl rfl trivial ?_
      refine o1 rfl (det_extract rfl rfl) rfl rfl trivial ?_
      refine o1 rfl (det_assign rfl) rfl rfl trivial ?_
      refine o1 rfl (det_assign rfl) rfl rfl trivial ?_
      refine be rfl ?_
      refine k_then ?_
      refine t_seq ?_
      refine b0 ?_
      refine o1 rfl (det_move rfl) rfl rfl trivial ?_
      refine o1 rfl (det_move rfl) rfl rfl trivial ?_
      first | (refine o1 rfl (det_indexAddr sl54 rfl rfl ?_) rfl rfl trivial ?_; · (first | decide | omega))
      refine o1 rfl (det_loadKN tN27 rfl rfl hcell) rfl rfl trivial ?_
      refine o1 rfl (det_call hb18 rfl rfl (fun w1 hs => Open_ok hs.know hEg _ (by decide) _)) rfl rfl trivial ?_
      refine o1 rfl (det_move rfl) rfl rfl trivial ?_
      refine o1 rfl (det_extract rfl rfl) rfl rfl trivial ?_
      refine o1 rfl (det_extract rfl rfl) rfl rfl trivial ?_
      refine o1 rfl (det_assign rfl) rfl rfl trivial ?_
      refine o1 rfl (det_assign rfl) rfl rfl trivial ?_
      refine be rfl ?_
      refine k_then ?_
      refine t_seq ?_
      refine b0 ?_
      refine o1 rfl (det_move rfl) rfl rfl trivial ?_
      refine o1 rfl (det_move rfl) rfl rfl trivial ?_
      first | (refine o1 rfl (det_indexAddr sl54 rfl rfl ?_) rfl rfl trivial ?_; · (first | decide | omega))
      refine o1 rfl (det_loadKN tN27 rfl rfl hcell) rfl rfl trivial ?_
      refine o1 rfl (det_call hb20 rfl rfl (fun w1 hs => Fits_ok hs.know hEg _ (by decide) _ _)) rfl rfl trivial ?_
      refine o1 rfl (det_move rfl) rfl rfl trivial ?_
      refine o1 rfl (det_extract rfl rfl) rfl rfl trivial ?_
      refine o1 rfl (det_extract rfl rfl) rfl rfl trivial ?_
      refine o1 rfl (det_assign rfl) rfl rfl trivial ?_
      refine o1 rfl (det_assign rfl) rfl rfl trivial ?_
      refine be rfl ?_
      refine k_then ?_
      refine t_seq ?_
      refine b0 ?_
      refine o1 rfl (det_move rfl) rfl rfl trivial ?_
      refine o1 rfl (det_move rfl) rfl rfl trivial ?_
      first | (refine o1 rfl (det_indexAddr sl54 rfl rfl ?_) rfl rfl trivial ?_; · (first | decide | omega))
      refine o1 rfl (det_loadKN tN27 rfl rfl hcell) rfl rfl trivial ?_
      refine o1 rfl (det_call hb22 rfl rfl (fun w1 hs => Fit_ok hs.know hEg _ (by decide) _ _)) rfl rfl trivial ?_
      refine o1 rfl (det_move rfl) rfl rfl trivial ?_
      refine o1 rfl (det_extract rfl rfl) rfl rfl trivial ?_
      refine o1 rfl (det_extract rfl rfl) rfl rfl trivial ?_
      refine o1 rfl (det_assign rfl) rfl rfl trivial ?_
      refine o1 rfl (det_assign rfl) rfl rfl trivial ?_
      refine be rfl ?_
      refine k_then ?_
      refine t_seq ?_
      refine b0 ?_
      refine o1 rfl (det_move rfl) rfl rfl trivial ?_
      refine o1 rfl (det_move rfl) rfl rfl trivial ?_
      first | (refine o1 rfl (det_indexAddr sl54 rfl rfl ?_) rfl rfl trivial ?_; · (first | decide | omega))
      refine o1 rfl (det_loadKN tN27 rfl rfl hcell) rfl rfl trivial ?_
      refine o1 rfl (det_call hb13 rfl rfl (fun w1 hs => Turn_ok hs.know hEg _)) rfl rfl trivial ?_
      refine o1 rfl (det_move rfl) rfl rfl trivial ?_
      refine o1 rfl (det_extract rfl rfl) rfl rfl trivial ?_
      refine o1 rfl (det_extract rfl rfl) rfl rfl trivial ?_
      refine o1 rfl (det_assign rfl) rfl rfl trivial ?_
      refine o1 rfl (det_assign rfl) rfl rfl trivial ?_
      refine be rfl ?_
      refine k_then ?_
      refine t_seq ?_
      refine b0 ?_
      refine o1 rfl (det_move rfl) rfl rfl trivial ?_
      refine o1 rfl (det_move rfl) rfl rfl trivial ?_
      first | (refine o1 rfl (det_indexAddr sl54 rfl rfl ?_) rfl rfl trivial ?_; · (first | decide | omega))
      refine o1 rfl (det_loadKN tN27 rfl rfl hcell) rfl rfl trivial ?_
      refine o1 rfl (det_call hb15 rfl rfl (fun w1 hs => check_ok hs.know hEg)) rfl rfl trivial ?_
      refine o1 rfl (det_neq rfl rfl) rfl rfl trivial ?_
      refine o2P bne_iff_ne rfl (det_move rfl) rfl rfl trivial (fun hb => ?_) (fun hb => ?_)
      · exfalso; exact hb (by rw [hbad]; rfl)
      refine o1 rfl (det_move rfl) rfl rfl ⟨_, rfl, rfl⟩ ?_
      refine o1 rfl (det_neq rfl rfl) rfl rfl ⟨_, rfl, rfl⟩ ?_
      refine o1 rfl (det_pickF rfl rfl) rfl rfl trivial ?_
      refine o2P bne_iff_ne rfl (det_move rfl) rfl rfl trivial (fun hb => ?_) (fun hb => ?_)
      · exfalso; exact hb (hball 0 _ 0).1
      refine o1 rfl (det_move rfl) rfl rfl ⟨_, rfl, rfl⟩ ?_
      refine o1 rfl (det_neq rfl rfl) rfl rfl ⟨_, rfl, rfl⟩ ?_
      refine o1 rfl (det_pickF rfl rfl) rfl rfl trivial ?_
      refine o2P bne_iff_ne rfl (det_move rfl) rfl rfl trivial (fun hb => ?_) (fun hb => ?_)
      · exfalso; exact hb (hball _ _ 0).2.1
      refine o1 rfl (det_move rfl) rfl rfl ⟨_, rfl, rfl⟩ ?_
      refine o1 rfl (det_neq rfl rfl) rfl rfl ⟨_, rfl, rfl⟩ ?_
      refine o1 rfl (det_pickF rfl rfl) rfl rfl trivial ?_
      refine o2P bne_iff_ne rfl (det_move rfl) rfl rfl trivial (fun hb => ?_) (fun hb => ?_)
      · exfalso; exact hb (hball _ _ _).2.2.1
      refine o1 rfl (det_move rfl) rfl rfl ⟨_, rfl, rfl⟩ ?_
      refine o1 rfl (det_neq rfl rfl) rfl rfl ⟨_, rfl, rfl⟩ ?_
      refine o1 rfl (det_pickF rfl rfl) rfl rfl trivial ?_
      refine o2P bne_iff_ne rfl (det_move rfl) rfl rfl trivial (fun hb => ?_) (fun hb => ?_)
      · exfalso; exact hb (hball _ _ _).2.2.2.1
      refine o1 rfl (det_move rfl) rfl rfl ⟨_, rfl, rfl⟩ ?_
      refine o1 rfl (det_neq rfl rfl) rfl rfl ⟨_, rfl, rfl⟩ ?_
      refine o1 rfl (det_pickF rfl rfl) rfl rfl trivial ?_
      refine be rfl ?_
      refine k_then ?_
      refine t_condP bne_iff_ne rfl (fun hb => ?_) (fun hb => ?_)
      · exfalso; exact hb ((hball 0 0 0).2.2.2.2)
      refine t_skip ?_
      refine k_blk ?_
      refine k_then ?_
      refine b0 ?_
      refine o1 rfl (det_move rfl) rfl rfl trivial ?_
      first | (refine o1 rfl (det_addI rfl rfl ?_) rfl rfl trivial ?_; · omega) | refine o1 rfl (det_add rfl rfl) rfl rfl trivial ?_
      refine o1 rfl (det_assign rfl) rfl rfl trivial ?_
      refine be rfl ?_
      refine k_then ?_
      refine loop_back (s + 1) (by show s + 1 ≤ _; omega) (by omega) ⟨rfl, rfl, rfl, trivial⟩ (.refl _)
    ·
      refine t_exit ?_
      refine k_thenE ?_
      refine k_thenE ?_
      refine k_blkE ?_
      refine k_then ?_
      refine t_seq ?_
      refine b0 ?_
      refine om1 rfl (new_buildSlice rfl (fun w => bsl52_2_0_1 _ _ w)) rfl rfl trivial (fun p132 => ?_)
      refine tk_freeze (pre := []) rfl (fun F12 hF12 hNF12 hKF12 => ?_)
      have hd133 : ∀ (i : Nat) (h : i < (([(65, 7)] : Ents) : Ents).length), -20000000 ≤ (([(65, 7)] : Ents) : Ents)[i].2 ∧ (([(65, 7)] : Ents) : Ents)[i].2 ≤ 20000000 := by decide
      have hE133 : EntK F12 (some ⟨p132, 0, none⟩) (List.length (([(65, 7)] : Ents) : Ents)) (([(65, 7)] : Ents) : Ents) := entK_lit (by decide) hKF12
      refine oF nofun rfl hb28 rfl rfl rfl trivial (fun w1 hs => (list_ok hs.know hE133 (by decide) hd133).any) (fun v133 F13 hF13 hNF13 hR133 => ?_)
      obtain ⟨B133, cap133, rfl, hcp133, hG133⟩ := hR133
      refine om1 rfl (new_alloc z27) rfl rfl trivial (fun p16 => ?_)
      refine stN nofun rfl tN27 rfl rfl rfl .head rfl trivial rfl rfl ?_
      refine be rfl ?_
      refine k_then ?_
      refine t_seq ?_
      refine b0 ?_
      refine o1 rfl (det_loadN tN27 rfl rfl (.head _) rfl) rfl rfl trivial ?_
      refine o1 rfl (det_call hb18 rfl rfl (fun w1 hs => Open_ok hs.know hG133 _ (by decide) _)) rfl rfl trivial ?_
      refine o1 rfl (det_move rfl) rfl rfl trivial ?_
      refine o1 rfl (det_extract rfl rfl) rfl rfl trivial ?_
      refine o1 rfl (det_extract rfl rfl) rfl rfl trivial ?_
      refine o1 rfl (det_assign rfl) rfl rfl trivial ?_
      refine o1 rfl (det_assign rfl) rfl rfl trivial ?_
      refine be rfl ?_
      refine k_then ?_
      refine t_seq ?_
      refine b0 ?_
      refine o1 rfl (det_loadN tN27 rfl rfl (.head _) rfl) rfl rfl trivial ?_
      refine o1 rfl (det_call hb18 rfl rfl (fun w1 hs => Open_ok hs.know hG133 _ (by decide) _)) rfl rfl trivial ?_
      refine o1 rfl (det_move rfl) rfl rfl trivial ?_
      refine o1 rfl (det_extract rfl rfl) rfl rfl trivial ?_
      refine o1 rfl (det_extract rfl rfl) rfl rfl trivial ?_
      refine o1 rfl (det_assign rfl) rfl rfl trivial ?_
      refine o1 rfl (det_assign rfl) rfl rfl trivial ?_
      refine be rfl ?_
      refine k_then ?_
      refine t_seq ?_
      refine b0 ?_
      refine o1 rfl (det_loadN tN27 rfl rfl (.head _) rfl) rfl rfl trivial ?_
      refine o1 rfl (det_call hb20 rfl rfl (fun w1 hs => Fits_ok hs.know hG133 _ (by decide) _ _)) rfl rfl trivial ?_
      refine o1 rfl (det_move rfl) rfl rfl trivial ?_
      refine o1 rfl (det_extract rfl rfl) rfl rfl trivial ?_
      refine o1 rfl (det_extract rfl rfl) rfl rfl trivial ?_
      refine o1 rfl (det_assign rfl) rfl rfl trivial ?_
      refine o1 rfl (det_assign rfl) rfl rfl trivial ?_
      refine be rfl ?_
      refine k_then ?_
      refine t_seq ?_
      refine b0 ?_
      refine o1 rfl (det_loadN tN27 rfl rfl (.head _) rfl) rfl rfl trivial ?_
      refine o1 rfl (det_call hb22 rfl rfl (fun w1 hs => Fit_ok hs.know hG133 _ (by decide) _ _)) rfl rfl trivial ?_
      refine o1 rfl (det_move rfl) rfl rfl trivial ?_
      refine o1 rfl (det_extract rfl rfl) rfl rfl trivial ?_
      refine o1 rfl (det_extract rfl rfl) rfl rfl trivial ?_
      refine o1 rfl (det_assign rfl) rfl rfl trivial ?_
      refine o1 rfl (det_assign rfl) rfl rfl trivial ?_
      refine be rfl ?_
      refine k_then ?_
      refine t_seq ?_
      refine b0 ?_
      refine o1 rfl (det_loadN tN27 rfl rfl (.head _) rfl) rfl rfl trivial ?_
      refine o1 rfl (det_call hb22 rfl rfl (fun w1 hs => Fit_ok hs.know hG133 _ (by decide) _ _)) rfl rfl trivial ?_
      refine o1 rfl (det_move rfl) rfl rfl trivial ?_
      refine o1 rfl (det_extract rfl rfl) rfl rfl trivial ?_
      refine o1 rfl (det_extract rfl rfl) rfl rfl trivial ?_
      refine o1 rfl (det_assign rfl) rfl rfl trivial ?_
      refine o1 rfl (det_assign rfl) rfl rfl trivial ?_
      refine be rfl ?_
      refine k_then ?_
      refine t_seq ?_
      refine b0 ?_
      refine o1 rfl (det_loadN tN27 rfl rfl (.head _) rfl) rfl rfl trivial ?_
      refine o1 rfl (det_call hb13 rfl rfl (fun w1 hs => Turn_ok hs.know hG133 _)) rfl rfl trivial ?_
      refine o1 rfl (det_move rfl) rfl rfl trivial ?_
      refine o1 rfl (det_extract rfl rfl) rfl rfl trivial ?_
      refine o1 rfl (det_extract rfl rfl) rfl rfl trivial ?_
      refine o1 rfl (det_assign rfl) rfl rfl trivial ?_
      refine o1 rfl (det_assign rfl) rfl rfl trivial ?_
      refine be rfl ?_
      refine k_then ?_
      refine t_seq ?_
      refine b0 ?_
      refine o1 rfl (det_loadN tN27 rfl rfl (.head _) rfl) rfl rfl trivial ?_
      refine o1 rfl (det_call hb22 rfl rfl (fun w1 hs => Fit_ok hs.know hG133 _ (by decide) _ _)) rfl rfl trivial ?_
      refine o1 rfl (det_move rfl) rfl rfl trivial ?_
      refine o1 rfl (det_extract rfl rfl) rfl rfl trivial ?_
      refine o1 rfl (det_extract rfl rfl) rfl rfl trivial ?_
      refine o1 rfl (det_assign rfl) rfl rfl trivial ?_
      refine o1 rfl (det_assign rfl) rfl rfl trivial ?_
      refine be rfl ?_
      refine k_then ?_
      refine t_seq ?_
      refine b0 ?_
      refine o1 rfl (det_loadN tN27 rfl rfl (.head _) rfl) rfl rfl trivial ?_
      refine o1 rfl (det_call hb26 rfl rfl (fun w1 hs => hopen_ok hs.know hG133 _ (by decide) _)) rfl rfl trivial ?_
      refine o1 rfl (det_eql rfl rfl) rfl rfl trivial ?_
      refine o2P beq_iff_eq rfl (det_move rfl) rfl rfl trivial (fun hb => ?_) (fun hb => ?_)
      rotate_left
      · exfalso; exact hb (by decide +kernel)
      refine o1 rfl (det_loadN tN27 rfl rfl (.head _) rfl) rfl rfl ⟨_, rfl, rfl⟩ ?_
      refine o1 rfl (det_call hb27 rfl rfl (fun w1 hs => hfits_ok hs.know hG133 _ (by decide) _ _)) rfl rfl ⟨_, rfl, rfl⟩ ?_
      refine o1 rfl (det_pickT rfl rfl) rfl rfl trivial ?_
      refine o2P Iff.rfl rfl (det_move rfl) rfl rfl trivial (fun hb => ?_) (fun hb => ?_)
      rotate_left
      · exfalso; exact hb (by decide +kernel)
      refine o1 rfl (det_loadN tN27 rfl rfl (.head _) rfl) rfl rfl ⟨_, rfl, rfl⟩ ?_
      refine o1 rfl (det_call hb29 rfl rfl (fun w1 hs => hfit_ok hs.know hG133 _ (by decide) _ _)) rfl rfl ⟨_, rfl, rfl⟩ ?_
      refine o1 rfl (det_eql rfl rfl) rfl rfl ⟨_, rfl, rfl⟩ ?_
      refine o1 rfl (det_pickT rfl rfl) rfl rfl trivial ?_
      refine o2P beq_iff_eq rfl (det_move rfl) rfl rfl trivial (fun hb => ?_) (fun hb => ?_)
      rotate_left
      · exfalso; exact hb (by decide +kernel)
      refine o1 rfl (det_loadN tN27 rfl rfl (.head _) rfl) rfl rfl ⟨_, rfl, rfl⟩ ?_
      refine o1 rfl (det_call hb26 rfl rfl (fun w1 hs => hopen_ok hs.know hG133 _ (by decide) _)) rfl rfl ⟨_, rfl, rfl⟩ ?_
      refine o1 rfl (det_eql rfl rfl) rfl rfl ⟨_, rfl, rfl⟩ ?_
      refine o1 rfl (det_pickT rfl rfl) rfl rfl trivial ?_
      refine o2P beq_iff_eq rfl (det_move rfl) rfl rfl trivial (fun hb => ?_) (fun hb => ?_)
      rotate_left
      · exfalso; exact hb (by decide +kernel)
      refine o1 rfl (det_loadN tN27 rfl rfl (.head _) rfl) rfl rfl ⟨_, rfl, rfl⟩ ?_
      refine o1 rfl (det_call hb27 rfl rfl (fun w1 hs => hfits_ok hs.know hG133 _ (by decide) _ _)) rfl rfl ⟨_, rfl, rfl⟩ ?_
      refine o1 rfl (det_pickT rfl rfl) rfl rfl trivial ?_
      refine o2P Iff.rfl rfl (det_move rfl) rfl rfl trivial (fun hb => ?_) (fun hb => ?_)
      rotate_left
      · exfalso; exact hb (by decide +kernel)
      refine o1 rfl (det_loadN tN27 rfl rfl (.head _) rfl) rfl rfl ⟨_, rfl, rfl⟩ ?_
      refine o1 rfl (det_call hb29 rfl rfl (fun w1 hs => hfit_ok hs.know hG133 _ (by decide) _ _)) rfl rfl ⟨_, rfl, rfl⟩ ?_
      refine o1 rfl (det_eql rfl rfl) rfl rfl ⟨_, rfl, rfl⟩ ?_
      refine o1 rfl (det_pickT rfl rfl) rfl rfl trivial ?_
      refine o1 rfl (det_assign rfl) rfl rfl trivial ?_
      refine be rfl ?_
      refine k_then ?_
      refine t_seq ?_
      refine b0 ?_
      refine om1 rfl (new_buildSlice rfl (fun w => bsl52_6_0_1_2_3_4_5 _ _ _ _ _ _ w)) rfl rfl trivial (fun p195 => ?_)
      refine tk_freeze (pre := []) rfl (fun F18 hF18 hNF18 hKF18 => ?_)
      have hd196 : ∀ (i : Nat) (h : i < (([(1, 5), (2, 5), (1, 5)] : Ents) : Ents).length), -20000000 ≤ (([(1, 5), (2, 5), (1, 5)] : Ents) : Ents)[i].2 ∧ (([(1, 5), (2, 5), (1, 5)] : Ents) : Ents)[i].2 ≤ 20000000 := by decide
      have hE196 : EntK F18 (some ⟨p195, 0, none⟩) (List.length (([(1, 5), (2, 5), (1, 5)] : Ents) : Ents)) (([(1, 5), (2, 5), (1, 5)] : Ents) : Ents) := entK_lit (by decide) hKF18
      refine oF nofun rfl hb28 rfl rfl rfl trivial (fun w1 hs => (list_ok hs.know hE196 (by decide) hd196).any) (fun v196 F19 hF19 hNF19 hR196 => ?_)
      obtain ⟨B196, cap196, rfl, hcp196, hG196⟩ := hR196
      refine om1 rfl (new_alloc z27) rfl rfl trivial (fun p32 => ?_)
      refine stN nofun rfl tN27 rfl rfl rfl .head rfl trivial rfl rfl ?_
      refine be rfl ?_
      refine k_then ?_
      refine t_seq ?_
      refine b0 ?_
      refine o1 rfl (det_loadN tN27 rfl rfl (.head _) rfl) rfl rfl trivial ?_
      refine o1 rfl (det_call hb26 rfl rfl (fun w1 hs => hopen_ok hs.know hG196 _ (by decide) _)) rfl rfl trivial ?_
      refine o1 rfl (det_eql rfl rfl) rfl rfl trivial ?_
      refine o2P beq_iff_eq rfl (det_move rfl) rfl rfl trivial (fun hb => ?_) (fun hb => ?_)
      rotate_left
      · exfalso; exact hb (by decide +kernel)
      refine o1 rfl (det_loadN tN27 rfl rfl (.head _) rfl) rfl rfl ⟨_, rfl, rfl⟩ ?_
      refine o1 rfl (det_call hb29 rfl rfl (fun w1 hs => hfit_ok hs.know hG196 _ (by decide) _ _)) rfl rfl ⟨_, rfl, rfl⟩ ?_
      refine o1 rfl (det_eql rfl rfl) rfl rfl ⟨_, rfl, rfl⟩ ?_
      refine o1 rfl (det_pickT rfl rfl) rfl rfl trivial ?_
      refine o2P beq_iff_eq rfl (det_move rfl) rfl rfl trivial (fun hb => ?_) (fun hb => ?_)
      rotate_left
      · exfalso; exact hb (by decide +kernel)
      refine o1 rfl (det_loadN tN27 rfl rfl (.head _) rfl) rfl rfl ⟨_, rfl, rfl⟩ ?_
      refine o1 rfl (det_call hb29 rfl rfl (fun w1 hs => hfit_ok hs.know hG196 _ (by decide) _ _)) rfl rfl ⟨_, rfl, rfl⟩ ?_
      refine o1 rfl (det_eql rfl rfl) rfl rfl ⟨_, rfl, rfl⟩ ?_
      refine o1 rfl (det_pickT rfl rfl) rfl rfl trivial ?_
      refine o2P beq_iff_eq rfl (det_move rfl) rfl rfl trivial (fun hb => ?_) (fun hb => ?_)
      rotate_left
      · exfalso; exact hb (by decide +kernel)
      refine o1 rfl (det_loadN tN27 rfl rfl (.head _) rfl) rfl rfl ⟨_, rfl, rfl⟩ ?_
      refine o1 rfl (det_call hb25 rfl rfl (fun w1 hs => hmask_ok hs.know hG196 _)) rfl rfl ⟨_, rfl, rfl⟩ ?_
      refine o1 rfl (det_eql rfl rfl) rfl rfl ⟨_, rfl, rfl⟩ ?_
      refine o1 rfl (det_pickT rfl rfl) rfl rfl trivial ?_
      refine o2P beq_iff_eq rfl (det_move rfl) rfl rfl trivial (fun hb => ?_) (fun hb => ?_)
      rotate_left
      · exfalso; exact hb (by decide +kernel)
      refine o1 rfl (det_loadN tN27 rfl rfl (.head _) rfl) rfl rfl ⟨_, rfl, rfl⟩ ?_
      refine o1 rfl (det_call hb25 rfl rfl (fun w1 hs => hmask_ok hs.know hG196 _)) rfl rfl ⟨_, rfl, rfl⟩ ?_
      refine o1 rfl (det_geq rfl rfl) rfl rfl ⟨_, rfl, rfl⟩ ?_
      refine o1 rfl (det_pickT rfl rfl) rfl rfl trivial ?_
      refine o2P decide_eq_true_iff rfl (det_move rfl) rfl rfl trivial (fun hb => ?_) (fun hb => ?_)
      rotate_left
      · exfalso; exact hb (by decide +kernel)
      refine om1 rfl (new_buildSlice rfl (fun w => bsl52_2_0_1 _ _ w)) rfl rfl ⟨_, rfl, rfl⟩ (fun p221 => ?_)
      refine tk_freeze (pre := []) rfl (fun F21 hF21 hNF21 hKF21 => ?_)
      have hd222 : ∀ (i : Nat) (h : i < (([(1, 9600000)] : Ents) : Ents).length), -20000000 ≤ (([(1, 9600000)] : Ents) : Ents)[i].2 ∧ (([(1, 9600000)] : Ents) : Ents)[i].2 ≤ 20000000 := by decide
      have hE222 : EntK F21 (some ⟨p221, 0, none⟩) (List.length (([(1, 9600000)] : Ents) : Ents)) (([(1, 9600000)] : Ents) : Ents) := entK_lit (by decide) hKF21
      refine oF nofun rfl hb28 rfl rfl rfl ⟨_, rfl, rfl⟩ (fun w1 hs => (list_ok hs.know hE222 (by decide) hd222).any) (fun v222 F22 hF22 hNF22 hR222 => ?_)
      obtain ⟨B222, cap222, rfl, hcp222, hG222⟩ := hR222
      refine o1 rfl (det_call hb26 rfl rfl (fun w1 hs => hopen_ok hs.know hG222 _ (by decide) _)) rfl rfl ⟨_, rfl, rfl⟩ ?_
      refine o1 rfl (det_eql rfl rfl) rfl rfl ⟨_, rfl, rfl⟩ ?_
      refine o1 rfl (det_pickT rfl rfl) rfl rfl trivial ?_
      refine o1 rfl (det_assign rfl) rfl rfl trivial ?_
      refine be rfl ?_
      refine k_then ?_
      refine t_seq ?_
      refine b0 ?_
      refine o1 rfl (det_move rfl) rfl rfl trivial ?_
      refine o1 rfl (det_call hb17 rfl rfl (fun w1 hs => works_ok hs.know)) rfl rfl ⟨_, rfl, rfl⟩ ?_
      refine o1 rfl (det_pickT rfl rfl) rfl rfl trivial ?_
      refine o1 rfl (det_move rfl) rfl rfl trivial ?_
      refine o1 rfl (det_move rfl) rfl rfl ⟨_, rfl, rfl⟩ ?_
      refine o1 rfl (det_eql rfl rfl) rfl rfl ⟨_, rfl, rfl⟩ ?_
      refine o1 rfl (det_pickT rfl rfl) rfl rfl trivial ?_
      refine o2P beq_iff_eq rfl (det_move rfl) rfl rfl trivial (fun hb => ?_) (fun hb => ?_)
      rotate_left
      · exfalso; exact hb (by decide +kernel)
      refine o1 rfl (det_move rfl) rfl rfl ⟨_, rfl, rfl⟩ ?_
      refine o1 rfl (det_eql rfl rfl) rfl rfl ⟨_, rfl, rfl⟩ ?_
      refine o1 rfl (det_pickT rfl rfl) rfl rfl trivial ?_
      refine o2P beq_iff_eq rfl (det_move rfl) rfl rfl trivial (fun hb => ?_) (fun hb => ?_)
      rotate_left
      · exfalso; exact hb (by decide +kernel)
      refine o1 rfl (det_move rfl) rfl rfl ⟨_, rfl, rfl⟩ ?_
      refine o1 rfl (det_eql rfl rfl) rfl rfl ⟨_, rfl, rfl⟩ ?_
      refine o1 rfl (det_pickT rfl rfl) rfl rfl trivial ?_
      refine o2P beq_iff_eq rfl (det_move rfl) rfl rfl trivial (fun hb => ?_) (fun hb => ?_)
      rotate_left
      · exfalso; exact hb (by decide +kernel)
      refine o1 rfl (det_move rfl) rfl rfl ⟨_, rfl, rfl⟩ ?_
      refine o1 rfl (det_eql rfl rfl) rfl rfl ⟨_, rfl, rfl⟩ ?_
      refine o1 rfl (det_pickT rfl rfl) rfl rfl trivial ?_
      refine o2P beq_iff_eq rfl (det_move rfl) rfl rfl trivial (fun hb => ?_) (fun hb => ?_)
      rotate_left
      · exfalso; exact hb (by decide +kernel)
      refine o1 rfl (det_move rfl) rfl rfl ⟨_, rfl, rfl⟩ ?_
      refine o1 rfl (det_eql rfl rfl) rfl rfl ⟨_, rfl, rfl⟩ ?_
      refine o1 rfl (det_pickT rfl rfl) rfl rfl trivial ?_
      refine o2P beq_iff_eq rfl (det_move rfl) rfl rfl trivial (fun hb => ?_) (fun hb => ?_)
      rotate_left
      · exfalso; exact hb (by decide +kernel)
      refine o1 rfl (det_move rfl) rfl rfl ⟨_, rfl, rfl⟩ ?_
      refine o1 rfl (det_eql rfl rfl) rfl rfl ⟨_, rfl, rfl⟩ ?_
      refine o1 rfl (det_pickT rfl rfl) rfl rfl trivial ?_
      refine o2P beq_iff_eq rfl (det_move rfl) rfl rfl trivial (fun hb => ?_) (fun hb => ?_)
      rotate_left
      · exfalso; exact hb (by decide +kernel)
      refine o1 rfl (det_move rfl) rfl rfl ⟨_, rfl, rfl⟩ ?_
      refine o1 rfl (det_eql rfl rfl) rfl rfl ⟨_, rfl, rfl⟩ ?_
      refine o1 rfl (det_pickT rfl rfl) rfl rfl trivial ?_
      refine o2P beq_iff_eq rfl (det_move rfl) rfl rfl trivial (fun hb => ?_) (fun hb => ?_)
      rotate_left
      · exfalso; exact hb (by decide +kernel)
      refine o1 rfl (det_move rfl) rfl rfl ⟨_, rfl, rfl⟩ ?_
      refine o1 rfl (det_pickT rfl rfl) rfl rfl trivial ?_
      refine o2P beq_iff_eq rfl (det_move rfl) rfl rfl trivial (fun hb => ?_) (fun hb => ?_)
      rotate_left
      · exfalso; exact hb (by decide +kernel)
      refine o1 rfl (det_move rfl) rfl rfl ⟨_, rfl, rfl⟩ ?_
      refine o1 rfl (det_pickT rfl rfl) rfl rfl trivial ?_
      refine o2P beq_iff_eq rfl (det_move rfl) rfl rfl trivial (fun hb => ?_) (fun hb => ?_)
      rotate_left
      · exfalso; exact hb (by decide +kernel)
      refine o1 rfl (det_move rfl) rfl rfl ⟨_, rfl, rfl⟩ ?_
      first | (refine o1 rfl (det_sliceTo sl52 rfl rfl ?_) rfl rfl ⟨_, rfl, rfl⟩ ?_; · omega)
      have hEq := (((((((((hErr 128 (by omega)).mono hF2).mono hF3).mono hF_8_16).mono hF9).mono hF12).mono hF13).mono hF18).mono hF19)
      have hEq := (hEq.mono hF21).mono hF22
      have hdq := big_rep 128
      refine oF nofun rfl hb28 rfl rfl rfl ⟨_, rfl, rfl⟩ (fun w1 hs => (list_ok hs.know hEq (by decide) hdq).any) (fun v266 F26 hF26 hN26 hR266 => ?_)
      obtain ⟨B266, cap266, rfl, hcp266, hG266⟩ := hR266
      refine o1 rfl (det_call hb15 rfl rfl (fun w1 hs => check_ok hs.know hG266)) rfl rfl ⟨_, rfl, rfl⟩ ?_
      refine o1 rfl (det_eql rfl rfl) rfl rfl ⟨_, rfl, rfl⟩ ?_
      refine o1 rfl (det_pickT rfl rfl) rfl rfl trivial ?_
      refine o1 rfl (det_assign rfl) rfl rfl trivial ?_
      refine be rfl ?_
      refine k_then ?_
      refine t_ret ?_
      refine ret_tmp rfl rfl rfl (fun w1 hs => ?_)
      exact ⟨rfl, hs.keep⟩

end Go.Proofs.Gt
