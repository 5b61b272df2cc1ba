/-
  Walks through layer 2 and its reference.
-/
import Derived.Test.YtgogfnkdemkdfaaRtW8
namespace Go.Proofs.Rt
open Go Go.Eng Go.Rt
set_option maxRecDepth 4000

/-- The law RatKnown. -/
theorem known_ok {w : World} {F : Know} (hF : ∀ a v, F a = some v → w.cell? a = some v)  : Pure Try.prog 8 [] w (.bool true) := by
  refine fn_pure (F := F) Try.func8 rfl Try.ntmps8 rfl hF ?_
  refine t_seq ?_
  refine b0 ?_
  refine o1 rfl (det_assign rfl) rfl rfl trivial ?_
  refine be rfl ?_
  refine k_then ?_
  refine t_seq ?_
  refine t_seq ?_
  refine b0 ?_
  refine o1 rfl (det_build rfl (fun w => bld23_ w)) rfl rfl trivial ?_
  refine o1 rfl (det_build rfl (fun w => bld23_0 _ w)) rfl rfl trivial ?_
  refine o1 rfl (det_build rfl (fun w => bld23_0_1 _ _ w)) rfl rfl trivial ?_
  refine o1 rfl (det_build rfl (fun w => bld23_0_1 _ _ w)) rfl rfl trivial ?_
  refine o1 rfl (det_build rfl (fun w => bld23_0_1 _ _ w)) rfl rfl trivial ?_
  refine o1 rfl (det_build rfl (fun w => bld23_0_1 _ _ w)) rfl rfl trivial ?_
  refine o1 rfl (det_build rfl (fun w => bld23_0_1 _ _ w)) rfl rfl trivial ?_
  refine o1 rfl (det_build rfl (fun w => bld48_0_1_2_3_4_5_6 _ _ _ _ _ _ _ _ _ _ _ _ _ _ w)) rfl rfl trivial ?_
  refine o1 rfl (det_move rfl) rfl rfl trivial ?_
  refine be rfl ?_
  refine k_then ?_
  refine t_block ?_
  refine t_whileM (σ := Nat) (fun s => [(41, .int .i64 (s : Int))]) (fun _ => _) (fun s => 7 - s) (fun s => s ≤ 7) 0 (env0 := [(40, _)]) (Nat.zero_le _) ⟨rfl, trivial⟩ ⟨rfl, trivial⟩ (.refl _) ?_
  intro s hks
  refine t_seq ?_
  refine b0 ?_
  refine o1 rfl (det_lss rfl rfl) rfl rfl trivial ?_
  refine be rfl ?_
  refine k_then ?_
  refine t_seq ?_
  refine t_condP decide_eq_true_iff rfl (fun hb => ?_) (fun hb => ?_)
  ·
    have hlts : s < 7 := by omega
    have hix : ∃ x0 x1 : Int, cutV ((s : Int).toNat * 2) 2 [.int .i64 (0), .int .i64 (0), .int .i64 (1), .int .i64 (0), .int .i64 (1), .int .i64 (-1), .int .i64 (0), .int .i64 (2), .int .i64 (1073741825), .int .i64 (1), .int .i64 (1), .int .i64 (1073741825), .int .i64 (-9223372036854775808), .int .i64 (1)] = some [.int .i64 x0, .int .i64 x1] ∧ (-9223372036854775808 ≤ x0 ∧ x0 ≤ 9223372036854775807) ∧ (-9223372036854775808 ≤ x1 ∧ x1 ≤ 9223372036854775807) ∧ validE (x0, x1) = false := by
      rcases (show s = 0 ∨ s = 1 ∨ s = 2 ∨ s = 3 ∨ s = 4 ∨ s = 5 ∨ s = 6 by omega) with rfl | rfl | rfl | rfl | rfl | rfl | rfl
      · exact ⟨_, _, rfl, by decide, by decide, by decide +kernel⟩
      · exact ⟨_, _, rfl, by decide, by decide, by decide +kernel⟩
      · exact ⟨_, _, rfl, by decide, by decide, by decide +kernel⟩
      · exact ⟨_, _, rfl, by decide, by decide, by decide +kernel⟩
      · exact ⟨_, _, rfl, by decide, by decide, by decide +kernel⟩
      · exact ⟨_, _, rfl, by decide, by decide, by decide +kernel⟩
      · exact ⟨_, _, rfl, by decide, by decide, by decide +kernel⟩
    obtain ⟨x0, x1, hcut, hx0, hx1, hbad⟩ := hix
    refine t_skip ?_
    refine k_then ?_
    refine t_seq ?_
    refine t_block ?_
    refine t_seq ?_
    refine b0 ?_
    refine o1 rfl (det_indexN ar48 tN23 rfl rfl (by omega) hcut) rfl rfl trivial ?_
    refine om1 rfl (new_alloc z23) rfl rfl trivial (fun p2 => ?_)
    refine stN nofun rfl tN23 rfl rfl rfl .head rfl trivial rfl rfl ?_
    refine be rfl ?_
    refine k_then ?_
    refine t_seq ?_
    refine bD mixed ?_
    refine r_force 5 7 (by kernel_rfl) ?_
    refine r_seg 9 7 [6] [0, 1, 2, 3, 4, 5, 6] (by kernel_rfl) ?_
    refine s1 rfl (det_loadN tN23 rfl rfl (.head _) rfl) rfl rfl trivial rfl ?_
    refine s1 rfl (det_call hb28 rfl rfl (fun w1 hs => of_ok hs.know _ _)) rfl rfl trivial rfl ?_
    refine s1 rfl (det_call hb16 rfl rfl (fun w1 hs => add4 hs.know ⟨hx0, hx1⟩ (by omega))) rfl rfl trivial rfl ?_
    refine s1 rfl (det_move rfl) rfl rfl trivial rfl ?_
    refine s1 rfl (det_extract rfl rfl) rfl rfl trivial rfl ?_
    refine s1 rfl (det_extract rfl rfl) rfl rfl trivial rfl ?_
    refine sm1 rfl (new_alloc z23) rfl rfl trivial rfl (fun p3 => ?_)
    refine sg_nil ?_
    refine stN (fun _ => by kernel_rfl) rfl tN23 rfl rfl rfl .head rfl trivial rfl rfl ?_
    refine r_seg 9 9 [] [8] (by kernel_rfl) ?_
    refine s1 rfl (det_assign rfl) rfl rfl trivial rfl ?_
    refine sg_nil ?_
    refine be rfl ?_
    refine np ?_
    refine k_then ?_
    refine t_seq ?_
    refine bD mixed ?_
    refine r_force 5 7 (by kernel_rfl) ?_
    refine r_seg 9 7 [6] [0, 1, 2, 3, 4, 5, 6] (by kernel_rfl) ?_
    refine s1 rfl (det_call hb28 rfl rfl (fun w1 hs => of_ok hs.know _ _)) rfl rfl trivial rfl ?_
    refine s1 rfl (det_loadN tN23 rfl rfl (.tail _ (.head _)) rfl) rfl rfl trivial rfl ?_
    refine s1 rfl (det_call hb22 rfl rfl (fun w1 hs => div4 hs.know (by omega) ⟨hx0, hx1⟩)) rfl rfl trivial rfl ?_
    refine s1 rfl (det_move rfl) rfl rfl trivial rfl ?_
    refine s1 rfl (det_extract rfl rfl) rfl rfl trivial rfl ?_
    refine s1 rfl (det_extract rfl rfl) rfl rfl trivial rfl ?_
    refine sm1 rfl (new_alloc z23) rfl rfl trivial rfl (fun p5 => ?_)
    refine sg_nil ?_
    refine stN (fun _ => by kernel_rfl) rfl tN23 rfl rfl rfl .head rfl trivial rfl rfl ?_
    refine r_seg 9 9 [] [8] (by kernel_rfl) ?_
    refine s1 rfl (det_assign rfl) rfl rfl trivial rfl ?_
    refine sg_nil ?_
    refine be rfl ?_
    refine np ?_
    refine k_then ?_
    refine t_seq ?_
    refine b0 ?_
    refine o1 rfl (det_loadN tN23 rfl rfl (.tail _ (.tail _ (.head _))) rfl) rfl rfl trivial ?_
    refine o1 rfl (det_loadN tN23 rfl rfl (.tail _ (.tail _ (.head _))) rfl) rfl rfl trivial ?_
    refine o1 rfl (det_call hb25 rfl rfl (fun w1 hs => cmp4 hs.know ⟨hx0, hx1⟩ ⟨hx0, hx1⟩)) rfl rfl trivial ?_
    refine o1 rfl (det_move rfl) rfl rfl trivial ?_
    refine o1 rfl (det_extract rfl rfl) rfl rfl trivial ?_
    refine o1 rfl (det_extract rfl rfl) rfl rfl trivial ?_
    refine o1 rfl (det_assign rfl) rfl rfl trivial ?_
    refine o1 rfl (det_assign rfl) rfl rfl trivial ?_
    refine be rfl ?_
    refine k_then ?_
    refine t_seq ?_
    refine b0 ?_
    refine o1 rfl (det_loadN tN23 rfl rfl (.tail _ (.tail _ (.head _))) rfl) rfl rfl trivial ?_
    refine o1 rfl (det_call hb26 rfl rfl (fun w1 hs => floor2 hs.know ⟨hx0, hx1⟩)) rfl rfl trivial ?_
    refine o1 rfl (det_move rfl) rfl rfl trivial ?_
    refine o1 rfl (det_extract rfl rfl) rfl rfl trivial ?_
    refine o1 rfl (det_extract rfl rfl) rfl rfl trivial ?_
    refine o1 rfl (det_assign rfl) rfl rfl trivial ?_
    refine o1 rfl (det_assign rfl) rfl rfl trivial ?_
    refine be rfl ?_
    refine k_then ?_
    refine t_seq ?_
    refine bD mixed ?_
    refine r_force 5 7 (by kernel_rfl) ?_
    refine r_seg 9 7 [6] [0, 1, 2, 3, 4, 5, 6] (by kernel_rfl) ?_
    refine s1 rfl (det_call hb28 rfl rfl (fun w1 hs => of_ok hs.know _ _)) rfl rfl trivial rfl ?_
    refine s1 rfl (det_loadN tN23 rfl rfl (.tail _ (.tail _ (.head _))) rfl) rfl rfl trivial rfl ?_
    refine s1 rfl (det_call hb29 rfl rfl (fun w1 hs => max4 hs.know (by omega) ⟨hx0, hx1⟩)) rfl rfl trivial rfl ?_
    refine s1 rfl (det_move rfl) rfl rfl trivial rfl ?_
    refine s1 rfl (det_extract rfl rfl) rfl rfl trivial rfl ?_
    refine s1 rfl (det_extract rfl rfl) rfl rfl trivial rfl ?_
    refine sm1 rfl (new_alloc z23) rfl rfl trivial rfl (fun p11 => ?_)
    refine sg_nil ?_
    refine stN (fun _ => by kernel_rfl) rfl tN23 rfl rfl rfl .head rfl trivial rfl rfl ?_
    refine r_seg 9 9 [] [8] (by kernel_rfl) ?_
    refine s1 rfl (det_assign rfl) rfl rfl trivial rfl ?_
    refine sg_nil ?_
    refine be rfl ?_
    refine np ?_
    refine k_then ?_
    refine t_seq ?_
    refine b0 ?_
    refine o1 rfl (det_loadN tN23 rfl rfl (.tail _ (.tail _ (.tail _ (.head _)))) rfl) rfl rfl trivial ?_
    refine o1 rfl (det_call hb12 rfl rfl (fun w1 hs => check2 hs.know ⟨hx0, hx1⟩)) rfl rfl trivial ?_
    refine o1 rfl (det_neq rfl rfl) rfl rfl trivial ?_
    refine o2P bne_iff_ne rfl (det_move rfl) rfl rfl trivial (fun hb => ?_) (fun hb => ?_)
    · exfalso; exact hb (by rw [hbad]; rfl)
    refine o1 rfl (det_move rfl) rfl rfl ⟨_, rfl, rfl⟩ ?_
    refine o1 rfl (det_neq rfl rfl) rfl rfl ⟨_, rfl, rfl⟩ ?_
    refine o1 rfl (det_pickF rfl rfl) rfl rfl trivial ?_
    refine o2P bne_iff_ne rfl (det_move rfl) rfl rfl trivial (fun hb => ?_) (fun hb => ?_)
    · exfalso; exact hb (by simp [opA, hbad])
    refine o1 rfl (det_move rfl) rfl rfl ⟨_, rfl, rfl⟩ ?_
    refine o1 rfl (det_neq rfl rfl) rfl rfl ⟨_, rfl, rfl⟩ ?_
    refine o1 rfl (det_pickF rfl rfl) rfl rfl trivial ?_
    refine o2P bne_iff_ne rfl (det_move rfl) rfl rfl trivial (fun hb => ?_) (fun hb => ?_)
    · exfalso; exact hb (by simp [opA, hbad])
    refine o1 rfl (det_move rfl) rfl rfl ⟨_, rfl, rfl⟩ ?_
    refine o1 rfl (det_neq rfl rfl) rfl rfl ⟨_, rfl, rfl⟩ ?_
    refine o1 rfl (det_pickF rfl rfl) rfl rfl trivial ?_
    refine o2P bne_iff_ne rfl (det_move rfl) rfl rfl trivial (fun hb => ?_) (fun hb => ?_)
    · exfalso; exact hb (by simp [cmpA, hbad])
    refine o1 rfl (det_move rfl) rfl rfl ⟨_, rfl, rfl⟩ ?_
    refine o1 rfl (det_neq rfl rfl) rfl rfl ⟨_, rfl, rfl⟩ ?_
    refine o1 rfl (det_pickF rfl rfl) rfl rfl trivial ?_
    refine o2P bne_iff_ne rfl (det_move rfl) rfl rfl trivial (fun hb => ?_) (fun hb => ?_)
    · exfalso; exact hb (by simp [floorA, hbad])
    refine o1 rfl (det_move rfl) rfl rfl ⟨_, rfl, rfl⟩ ?_
    refine o1 rfl (det_neq rfl rfl) rfl rfl ⟨_, rfl, rfl⟩ ?_
    refine o1 rfl (det_pickF rfl rfl) rfl rfl trivial ?_
    refine be rfl ?_
    refine k_then ?_
    refine t_condP bne_iff_ne rfl (fun hb => ?_) (fun hb => ?_)
    · exfalso; exact hb (by simp [maxA, hbad])
    refine t_skip ?_
    refine k_blk ?_
    refine k_then ?_
    refine b0 ?_
    first | (refine o1 rfl (det_addI rfl rfl ?_) rfl rfl trivial ?_; (· omega)) | refine o1 rfl (det_add rfl rfl) rfl rfl trivial ?_
    refine o1 rfl (det_move rfl) rfl rfl trivial ?_
    refine be rfl ?_
    refine k_then ?_
    refine loop_back (s + 1) (by show s + 1 ≤ _; omega) (by omega) ⟨rfl, rfl, trivial⟩ (.cons _ (.cons _ (.cons _ (.cons _ (.refl _)))))
  ·
    refine t_exit ?_
    refine k_thenE ?_
    refine k_thenE ?_
    refine k_blkE ?_
    refine k_then ?_
    refine t_seq ?_
    refine b0 ?_
    refine o1 rfl (det_call hb28 rfl rfl (fun w1 hs => of_ok hs.know _ _)) rfl rfl trivial ?_
    refine o1 rfl (det_call hb28 rfl rfl (fun w1 hs => of_ok hs.know _ _)) rfl rfl trivial ?_
    refine o1 rfl (det_call hb18 rfl rfl (fun w1 hs => sub4 hs.know (by omega) (by omega))) rfl rfl trivial ?_
    refine o1 rfl (det_move rfl) rfl rfl trivial ?_
    refine o1 rfl (det_extract rfl rfl) rfl rfl trivial ?_
    refine o1 rfl (det_extract rfl rfl) rfl rfl trivial ?_
    refine om1 rfl (new_alloc z23) rfl rfl trivial (fun p13 => ?_)
    refine stN nofun rfl tN23 rfl rfl rfl .head rfl trivial rfl rfl ?_
    refine o1 rfl (det_assign rfl) rfl rfl trivial ?_
    refine be rfl ?_
    refine k_then ?_
    refine t_seq ?_
    refine b0 ?_
    refine o1 rfl (det_call hb28 rfl rfl (fun w1 hs => of_ok hs.know _ _)) rfl rfl trivial ?_
    refine o1 rfl (det_call hb28 rfl rfl (fun w1 hs => of_ok hs.know _ _)) rfl rfl trivial ?_
    refine o1 rfl (det_call hb18 rfl rfl (fun w1 hs => sub4 hs.know (by omega) (by omega))) rfl rfl trivial ?_
    refine o1 rfl (det_move rfl) rfl rfl trivial ?_
    refine o1 rfl (det_extract rfl rfl) rfl rfl trivial ?_
    refine o1 rfl (det_extract rfl rfl) rfl rfl trivial ?_
    refine om1 rfl (new_alloc z23) rfl rfl trivial (fun p15 => ?_)
    refine stN nofun rfl tN23 rfl rfl rfl .head rfl trivial rfl rfl ?_
    refine o1 rfl (det_assign rfl) rfl rfl trivial ?_
    refine be rfl ?_
    refine k_then ?_
    refine t_seq ?_
    refine b0 ?_
    refine o1 rfl (det_call hb28 rfl rfl (fun w1 hs => of_ok hs.know _ _)) rfl rfl trivial ?_
    refine o1 rfl (det_call hb28 rfl rfl (fun w1 hs => of_ok hs.know _ _)) rfl rfl trivial ?_
    refine o1 rfl (det_call hb16 rfl rfl (fun w1 hs => add4 hs.know (by omega) (by omega))) rfl rfl trivial ?_
    refine o1 rfl (det_move rfl) rfl rfl trivial ?_
    refine o1 rfl (det_extract rfl rfl) rfl rfl trivial ?_
    refine o1 rfl (det_extract rfl rfl) rfl rfl trivial ?_
    refine om1 rfl (new_alloc z23) rfl rfl trivial (fun p17 => ?_)
    refine stN nofun rfl tN23 rfl rfl rfl .head rfl trivial rfl rfl ?_
    refine o1 rfl (det_assign rfl) rfl rfl trivial ?_
    refine be rfl ?_
    refine k_then ?_
    refine t_seq ?_
    refine b0 ?_
    refine o1 rfl (det_call hb28 rfl rfl (fun w1 hs => of_ok hs.know _ _)) rfl rfl trivial ?_
    refine o1 rfl (det_call hb28 rfl rfl (fun w1 hs => of_ok hs.know _ _)) rfl rfl trivial ?_
    refine o1 rfl (det_call hb16 rfl rfl (fun w1 hs => add4 hs.know (by omega) (by omega))) rfl rfl trivial ?_
    refine o1 rfl (det_move rfl) rfl rfl trivial ?_
    refine o1 rfl (det_extract rfl rfl) rfl rfl trivial ?_
    refine o1 rfl (det_extract rfl rfl) rfl rfl trivial ?_
    refine om1 rfl (new_alloc z23) rfl rfl trivial (fun p19 => ?_)
    refine stN nofun rfl tN23 rfl rfl rfl .head rfl trivial rfl rfl ?_
    refine o1 rfl (det_assign rfl) rfl rfl trivial ?_
    refine be rfl ?_
    refine k_then ?_
    refine t_seq ?_
    refine b0 ?_
    refine o1 rfl (det_call hb10 rfl rfl (fun w1 hs => make_ok hs.know _ _)) rfl rfl trivial ?_
    refine o1 rfl (det_move rfl) rfl rfl trivial ?_
    refine o1 rfl (det_extract rfl rfl) rfl rfl trivial ?_
    refine o1 rfl (det_extract rfl rfl) rfl rfl trivial ?_
    refine om1 rfl (new_alloc z23) rfl rfl trivial (fun p21 => ?_)
    refine stN nofun rfl tN23 rfl rfl rfl .head rfl trivial rfl rfl ?_
    refine o1 rfl (det_assign rfl) rfl rfl trivial ?_
    refine be rfl ?_
    refine k_then ?_
    refine t_seq ?_
    refine b0 ?_
    refine o1 rfl (det_call hb10 rfl rfl (fun w1 hs => make_ok hs.know _ _)) rfl rfl trivial ?_
    refine o1 rfl (det_move rfl) rfl rfl trivial ?_
    refine o1 rfl (det_extract rfl rfl) rfl rfl trivial ?_
    refine o1 rfl (det_extract rfl rfl) rfl rfl trivial ?_
    refine om1 rfl (new_alloc z23) rfl rfl trivial (fun p23 => ?_)
    refine stN nofun rfl tN23 rfl rfl rfl .head rfl trivial rfl rfl ?_
    refine o1 rfl (det_assign rfl) rfl rfl trivial ?_
    refine be rfl ?_
    refine k_then ?_
    refine t_seq ?_
    refine b0 ?_
    refine o1 rfl (det_call hb10 rfl rfl (fun w1 hs => make_ok hs.know _ _)) rfl rfl trivial ?_
    refine o1 rfl (det_move rfl) rfl rfl trivial ?_
    refine o1 rfl (det_extract rfl rfl) rfl rfl trivial ?_
    refine o1 rfl (det_extract rfl rfl) rfl rfl trivial ?_
    refine om1 rfl (new_alloc z23) rfl rfl trivial (fun p25 => ?_)
    refine stN nofun rfl tN23 rfl rfl rfl .head rfl trivial rfl rfl ?_
    refine o1 rfl (det_assign rfl) rfl rfl trivial ?_
    refine be rfl ?_
    refine k_then ?_
    refine t_seq ?_
    refine b0 ?_
    refine o1 rfl (det_call hb28 rfl rfl (fun w1 hs => of_ok hs.know _ _)) rfl rfl trivial ?_
    refine o1 rfl (det_call hb28 rfl rfl (fun w1 hs => of_ok hs.know _ _)) rfl rfl trivial ?_
    refine o1 rfl (det_call hb20 rfl rfl (fun w1 hs => mul4 hs.know (by omega) (by omega))) rfl rfl trivial ?_
    refine o1 rfl (det_move rfl) rfl rfl trivial ?_
    refine o1 rfl (det_extract rfl rfl) rfl rfl trivial ?_
    refine o1 rfl (det_extract rfl rfl) rfl rfl trivial ?_
    refine om1 rfl (new_alloc z23) rfl rfl trivial (fun p27 => ?_)
    refine stN nofun rfl tN23 rfl rfl rfl .head rfl trivial rfl rfl ?_
    refine o1 rfl (det_assign rfl) rfl rfl trivial ?_
    refine be rfl ?_
    refine k_then ?_
    refine t_seq ?_
    refine b0 ?_
    refine o1 rfl (det_call hb28 rfl rfl (fun w1 hs => of_ok hs.know _ _)) rfl rfl trivial ?_
    refine o1 rfl (det_call hb26 rfl rfl (fun w1 hs => floor2 hs.know (by omega))) rfl rfl trivial ?_
    refine o1 rfl (det_move rfl) rfl rfl trivial ?_
    refine o1 rfl (det_extract rfl rfl) rfl rfl trivial ?_
    refine o1 rfl (det_extract rfl rfl) rfl rfl trivial ?_
    refine o1 rfl (det_assign rfl) rfl rfl trivial ?_
    refine o1 rfl (det_assign rfl) rfl rfl trivial ?_
    refine be rfl ?_
    refine k_then ?_
    refine t_seq ?_
    refine b0 ?_
    refine o1 rfl (det_call hb28 rfl rfl (fun w1 hs => of_ok hs.know _ _)) rfl rfl trivial ?_
    refine o1 rfl (det_call hb27 rfl rfl (fun w1 hs => ceil2 hs.know (by omega))) rfl rfl trivial ?_
    refine o1 rfl (det_move rfl) rfl rfl trivial ?_
    refine o1 rfl (det_extract rfl rfl) rfl rfl trivial ?_
    refine o1 rfl (det_extract rfl rfl) rfl rfl trivial ?_
    refine o1 rfl (det_assign rfl) rfl rfl trivial ?_
    refine o1 rfl (det_assign rfl) rfl rfl trivial ?_
    refine be rfl ?_
    refine k_then ?_
    refine t_seq ?_
    refine b0 ?_
    refine o1 rfl (det_move rfl) rfl rfl trivial ?_
    refine o1 rfl (det_call hb14 rfl rfl (fun w1 hs => works_ok hs.know)) rfl rfl ⟨_, rfl, rfl⟩ ?_
    refine o1 rfl (det_pickT rfl rfl) rfl rfl trivial ?_
    refine o1 rfl (det_move rfl) rfl rfl trivial ?_
    refine o1 rfl (det_pickT rfl rfl) rfl rfl trivial ?_
    refine o1 rfl (det_move rfl) rfl rfl trivial ?_
    refine o1 rfl (det_loadN tN23 rfl rfl (.tail _ (.tail _ (.tail _ (.tail _ (.tail _ (.tail _ (.tail _ (.head _)))))))) rfl) rfl rfl ⟨_, rfl, rfl⟩ ?_
    refine o1 rfl (det_move rfl) rfl rfl ⟨_, rfl, rfl⟩ ?_
    refine o1 rfl (det_call hb30 rfl rfl (fun w1 hs => is_ok hs.know _ _ _ _ _)) rfl rfl ⟨_, rfl, rfl⟩ ?_
    refine o1 rfl (det_pickT rfl rfl) rfl rfl trivial ?_
    refine o2P Iff.rfl rfl (det_move rfl) rfl rfl trivial (fun hb => ?_) (fun hb => ?_)
    rotate_left
    · exfalso; exact hb (by decide +kernel)
    refine o1 rfl (det_move rfl) rfl rfl ⟨_, rfl, rfl⟩ ?_
    refine o1 rfl (det_eql rfl rfl) rfl rfl ⟨_, rfl, rfl⟩ ?_
    refine o1 rfl (det_pickT rfl rfl) rfl rfl trivial ?_
    refine o2P beq_iff_eq rfl (det_move rfl) rfl rfl trivial (fun hb => ?_) (fun hb => ?_)
    rotate_left
    · exfalso; exact hb (by decide +kernel)
    refine o1 rfl (det_loadN tN23 rfl rfl (.tail _ (.tail _ (.tail _ (.tail _ (.tail _ (.head _)))))) rfl) rfl rfl ⟨_, rfl, rfl⟩ ?_
    refine o1 rfl (det_move rfl) rfl rfl ⟨_, rfl, rfl⟩ ?_
    refine o1 rfl (det_call hb30 rfl rfl (fun w1 hs => is_ok hs.know _ _ _ _ _)) rfl rfl ⟨_, rfl, rfl⟩ ?_
    refine o1 rfl (det_pickT rfl rfl) rfl rfl trivial ?_
    refine o2P Iff.rfl rfl (det_move rfl) rfl rfl trivial (fun hb => ?_) (fun hb => ?_)
    rotate_left
    · exfalso; exact hb (by decide +kernel)
    refine o1 rfl (det_move rfl) rfl rfl ⟨_, rfl, rfl⟩ ?_
    refine o1 rfl (det_eql rfl rfl) rfl rfl ⟨_, rfl, rfl⟩ ?_
    refine o1 rfl (det_pickT rfl rfl) rfl rfl trivial ?_
    refine o2P beq_iff_eq rfl (det_move rfl) rfl rfl trivial (fun hb => ?_) (fun hb => ?_)
    rotate_left
    · exfalso; exact hb (by decide +kernel)
    refine o1 rfl (det_loadN tN23 rfl rfl (.tail _ (.tail _ (.tail _ (.head _)))) rfl) rfl rfl ⟨_, rfl, rfl⟩ ?_
    refine o1 rfl (det_move rfl) rfl rfl ⟨_, rfl, rfl⟩ ?_
    refine o1 rfl (det_call hb30 rfl rfl (fun w1 hs => is_ok hs.know _ _ _ _ _)) rfl rfl ⟨_, rfl, rfl⟩ ?_
    refine o1 rfl (det_pickT rfl rfl) rfl rfl trivial ?_
    refine o2P Iff.rfl rfl (det_move rfl) rfl rfl trivial (fun hb => ?_) (fun hb => ?_)
    rotate_left
    · exfalso; exact hb (by decide +kernel)
    refine o1 rfl (det_move rfl) rfl rfl ⟨_, rfl, rfl⟩ ?_
    refine o1 rfl (det_eql rfl rfl) rfl rfl ⟨_, rfl, rfl⟩ ?_
    refine o1 rfl (det_pickT rfl rfl) rfl rfl trivial ?_
    refine o2P beq_iff_eq rfl (det_move rfl) rfl rfl trivial (fun hb => ?_) (fun hb => ?_)
    rotate_left
    · exfalso; exact hb (by decide +kernel)
    refine o1 rfl (det_move rfl) rfl rfl ⟨_, rfl, rfl⟩ ?_
    refine o1 rfl (det_eql rfl rfl) rfl rfl ⟨_, rfl, rfl⟩ ?_
    refine o1 rfl (det_pickT rfl rfl) rfl rfl trivial ?_
    refine o2P beq_iff_eq rfl (det_move rfl) rfl rfl trivial (fun hb => ?_) (fun hb => ?_)
    rotate_left
    · exfalso; exact hb (by decide +kernel)
    refine o1 rfl (det_loadN tN23 rfl rfl (.head _) rfl) rfl rfl ⟨_, rfl, rfl⟩ ?_
    refine o1 rfl (det_move rfl) rfl rfl ⟨_, rfl, rfl⟩ ?_
    refine o1 rfl (det_call hb30 rfl rfl (fun w1 hs => is_ok hs.know _ _ _ _ _)) rfl rfl ⟨_, rfl, rfl⟩ ?_
    refine o1 rfl (det_pickT rfl rfl) rfl rfl trivial ?_
    refine o2P Iff.rfl rfl (det_move rfl) rfl rfl trivial (fun hb => ?_) (fun hb => ?_)
    rotate_left
    · exfalso; exact hb (by decide +kernel)
    refine o1 rfl (det_move rfl) rfl rfl ⟨_, rfl, rfl⟩ ?_
    refine o1 rfl (det_eql rfl rfl) rfl rfl ⟨_, rfl, rfl⟩ ?_
    refine o1 rfl (det_pickT rfl rfl) rfl rfl trivial ?_
    refine o2P beq_iff_eq rfl (det_move rfl) rfl rfl trivial (fun hb => ?_) (fun hb => ?_)
    rotate_left
    · exfalso; exact hb (by decide +kernel)
    refine o1 rfl (det_move rfl) rfl rfl ⟨_, rfl, rfl⟩ ?_
    refine o1 rfl (det_eql rfl rfl) rfl rfl ⟨_, rfl, rfl⟩ ?_
    refine o1 rfl (det_pickT rfl rfl) rfl rfl trivial ?_
    refine o2P beq_iff_eq rfl (det_move rfl) rfl rfl trivial (fun hb => ?_) (fun hb => ?_)
    rotate_left
    · exfalso; exact hb (by decide +kernel)
    refine o1 rfl (det_move rfl) rfl rfl ⟨_, rfl, rfl⟩ ?_
    refine o1 rfl (det_eql rfl rfl) rfl rfl ⟨_, rfl, rfl⟩ ?_
    refine o1 rfl (det_pickT rfl rfl) rfl rfl trivial ?_
    refine o2P beq_iff_eq rfl (det_move rfl) rfl rfl trivial (fun hb => ?_) (fun hb => ?_)
    rotate_left
    · exfalso; exact hb (by decide +kernel)
    refine o1 rfl (det_move rfl) rfl rfl ⟨_, rfl, rfl⟩ ?_
    refine o1 rfl (det_eql rfl rfl) rfl rfl ⟨_, rfl, rfl⟩ ?_
    refine o1 rfl (det_pickT rfl rfl) rfl rfl trivial ?_
    refine o1 rfl (det_assign rfl) rfl rfl trivial ?_
    refine be rfl ?_
    refine k_then ?_
    refine t_ret ?_
    refine ret_tmp rfl rfl rfl (fun w1 hs => ?_)
    exact ⟨rfl, hs.keep⟩

end Go.Proofs.Rt
