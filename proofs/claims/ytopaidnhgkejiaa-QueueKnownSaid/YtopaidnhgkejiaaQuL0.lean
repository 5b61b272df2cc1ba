/-
  Walks through layer 36 and its reference.
-/
import Derived.Test.YtopaidnhgkejiaaQuK
namespace Go.Proofs.Qu
open Go Go.Eng Go.Qu
set_option maxRecDepth 4000

/-- wakes. -/
theorem wakes_ok {w : World} {F : Know} (hF : ∀ a v, F a = some v → w.cell? a = some v)  : Pure Try.prog 9 [] w (.bool true) := by
  refine fn_pure (F := F) Try.func9 rfl Try.ntmps9 rfl hF ?_
  refine t_seq ?_
  refine b0 ?_
  refine o1 rfl (det_assign rfl) rfl rfl trivial ?_
  refine be rfl ?_
  refine k_then ?_
  refine t_seq ?_
  refine b0 ?_
  refine o1 rfl (det_call hb19 rfl rfl (fun w1 hs => new_at hs.know (by decide))) rfl rfl trivial ?_
  refine o1 rfl (det_move rfl) rfl rfl trivial ?_
  refine o1 rfl (det_extract rfl rfl) rfl rfl trivial ?_
  refine o1 rfl (det_extract rfl rfl) rfl rfl trivial ?_
  refine om1 rfl (new_alloc z24) rfl rfl trivial (fun p1 => ?_)
  refine stN nofun rfl tN24 rfl rfl rfl .head rfl trivial rfl rfl ?_
  refine o1 rfl (det_assign rfl) rfl rfl trivial ?_
  refine be rfl ?_
  refine k_then ?_
  refine t_seq ?_
  refine bD mixed ?_
  refine r_force 5 7 (by kernel_rfl) ?_
  refine r_force 6 7 (by kernel_rfl) ?_
  refine r_segF 10 7 [] [(2, Go.Eng.Told F (fun v F2 => ∃ A1 n1 c1, v = .tuple [qA 250 A1 n1 c1, .bool true, .int .i64 0].toArray ∧ n1 ≤ c1 ∧ c1 ≤ maxLen ∧ PK F2 A1 n1 [(whole ⟨0, 0, 3, 100, 0⟩)]))] [0, 1, 2, 3, 4, 5, 6] (by kernel_rfl) ?_
  refine s1 rfl (det_loadN tN24 rfl rfl (.head _) rfl) rfl rfl trivial rfl ?_
  refine s1 rfl (det_call hb28 rfl rfl (fun w1 hs => frame_ok hs.know)) rfl rfl trivial rfl ?_
  refine sM [] need0 rfl (fun F2 hF2 hN => mem_call hF2 hb21 rfl rfl (fun w1 hs => push_at (fun a u h => hs.know a u (hF2 a u h)) RowsK.nil (Nat.zero_le _) (Nat.le_refl _) (Nat.zero_le _)  (x := ⟨0, 0, 3, 100, 0⟩) (show pushQ 250 [] ⟨0, 0, 3, 100, 0⟩ = ((250, [(whole ⟨0, 0, 3, 100, 0⟩)]), true, 0) by rfl))) rfl rfl trivial rfl (fun v29 hv29 => ?_)
  obtain ⟨F9, Aa, na, ca, rfl, -⟩ := hv29
  refine s1 rfl (det_move rfl) rfl rfl trivial rfl ?_
  refine s1 rfl (det_extract rfl rfl) rfl rfl trivial rfl ?_
  refine s1 rfl (det_extract rfl rfl) rfl rfl trivial rfl ?_
  refine s1 rfl (det_extract rfl rfl) rfl rfl trivial rfl ?_
  refine sg_nil ?_
  rintro F_2_7 hF_2_7 hN_2_7 ⟨hR29, -⟩
  obtain ⟨A9, n9, c9, hq, hna, hma, hPa⟩ := hR29
  cases hq
  
  refine stN (fun _ => by kernel_rfl) rfl tN24 rfl rfl rfl .head rfl trivial rfl rfl ?_
  refine r_seg 10 10 [] [8, 9] (by kernel_rfl) ?_
  refine s1 rfl (det_assign rfl) rfl rfl trivial rfl ?_
  refine s1 rfl (det_assign rfl) rfl rfl trivial rfl ?_
  refine sg_nil ?_
  refine be rfl ?_
  refine np ?_
  refine np ?_
  refine k_then ?_
  refine t_seq ?_
  refine bD mixed ?_
  refine r_force 5 7 (by kernel_rfl) ?_
  refine r_force 6 7 (by kernel_rfl) ?_
  refine r_segF 10 7 [] [(2, Go.Eng.Told F_2_7 (fun v F2 => ∃ A1 n1 c1, v = .tuple [qA 250 A1 n1 c1, .bool true, .int .i64 0].toArray ∧ n1 ≤ c1 ∧ c1 ≤ maxLen ∧ PK F2 A1 n1 [(whole ⟨0, 0, 3, 100, 0⟩), (whole ⟨0, 0, 3, 100, 0⟩)]))] [0, 1, 2, 3, 4, 5, 6] (by kernel_rfl) ?_
  refine s1 rfl (det_loadN tN24 rfl rfl (.head _) rfl) rfl rfl trivial rfl ?_
  refine s1 rfl (det_call hb28 rfl rfl (fun w1 hs => frame_ok hs.know)) rfl rfl trivial rfl ?_
  refine sM [] need0 rfl (fun F2 hF2 hN => mem_call hF2 hb21 rfl rfl (fun w1 hs => push_at (fun a u h => hs.know a u (hF2 a u h)) hPa (by rw [hPa.len]; decide) hna hma  (x := ⟨0, 0, 3, 100, 0⟩) (show pushQ 250 [(whole ⟨0, 0, 3, 100, 0⟩)] ⟨0, 0, 3, 100, 0⟩ = ((250, [(whole ⟨0, 0, 3, 100, 0⟩), (whole ⟨0, 0, 3, 100, 0⟩)]), true, 0) by rfl))) rfl rfl trivial rfl (fun v36 hv36 => ?_)
  obtain ⟨F9, Ab, nb, cb, rfl, -⟩ := hv36
  refine s1 rfl (det_move rfl) rfl rfl trivial rfl ?_
  refine s1 rfl (det_extract rfl rfl) rfl rfl trivial rfl ?_
  refine s1 rfl (det_extract rfl rfl) rfl rfl trivial rfl ?_
  refine s1 rfl (det_extract rfl rfl) rfl rfl trivial rfl ?_
  refine sg_nil ?_
  rintro F_3_7 hF_3_7 hN_3_7 ⟨hR36, -⟩
  obtain ⟨A9, n9, c9, hq, hnb, hmb, hPb⟩ := hR36
  cases hq
  replace hPa := hPa.mono hF_3_7
  refine stN (fun _ => by kernel_rfl) rfl tN24 rfl rfl rfl .head rfl trivial rfl rfl ?_
  refine r_seg 10 10 [] [8, 9] (by kernel_rfl) ?_
  refine s1 rfl (det_assign rfl) rfl rfl trivial rfl ?_
  refine s1 rfl (det_assign rfl) rfl rfl trivial rfl ?_
  refine sg_nil ?_
  refine be rfl ?_
  refine np ?_
  refine np ?_
  refine k_then ?_
  refine t_seq ?_
  refine bD mixed ?_
  refine r_force 5 7 (by kernel_rfl) ?_
  refine r_force 6 7 (by kernel_rfl) ?_
  refine r_segF 10 7 [] [(2, Go.Eng.Told F_3_7 (fun v F2 => ∃ A1 n1 c1, v = .tuple [qA 250 A1 n1 c1, .bool false, .int .i64 0].toArray ∧ n1 ≤ c1 ∧ c1 ≤ maxLen ∧ PK F2 A1 n1 [(whole ⟨0, 0, 3, 100, 0⟩), (whole ⟨0, 0, 3, 100, 0⟩)]))] [0, 1, 2, 3, 4, 5, 6] (by kernel_rfl) ?_
  refine s1 rfl (det_loadN tN24 rfl rfl (.head _) rfl) rfl rfl trivial rfl ?_
  refine s1 rfl (det_call hb28 rfl rfl (fun w1 hs => frame_ok hs.know)) rfl rfl trivial rfl ?_
  refine sM [] need0 rfl (fun F2 hF2 hN => mem_call hF2 hb21 rfl rfl (fun w1 hs => push_at (fun a u h => hs.know a u (hF2 a u h)) hPb (by rw [hPb.len]; decide) hnb hmb  (x := ⟨0, 0, 3, 100, 0⟩) (show pushQ 250 [(whole ⟨0, 0, 3, 100, 0⟩), (whole ⟨0, 0, 3, 100, 0⟩)] ⟨0, 0, 3, 100, 0⟩ = ((250, [(whole ⟨0, 0, 3, 100, 0⟩), (whole ⟨0, 0, 3, 100, 0⟩)]), false, 0) by rfl))) rfl rfl trivial rfl (fun v43 hv43 => ?_)
  obtain ⟨F9, Ac, nc, cc, rfl, -⟩ := hv43
  refine s1 rfl (det_move rfl) rfl rfl trivial rfl ?_
  refine s1 rfl (det_extract rfl rfl) rfl rfl trivial rfl ?_
  refine s1 rfl (det_extract rfl rfl) rfl rfl trivial rfl ?_
  refine s1 rfl (det_extract rfl rfl) rfl rfl trivial rfl ?_
  refine sg_nil ?_
  rintro F_4_7 hF_4_7 hN_4_7 ⟨hR43, -⟩
  obtain ⟨A9, n9, c9, hq, hnc, hmc, hPc⟩ := hR43
  cases hq
  replace hPa := hPa.mono hF_4_7
  replace hPb := hPb.mono hF_4_7
  refine stN (fun _ => by kernel_rfl) rfl tN24 rfl rfl rfl .head rfl trivial rfl rfl ?_
  refine r_seg 10 10 [] [8, 9] (by kernel_rfl) ?_
  refine s1 rfl (det_assign rfl) rfl rfl trivial rfl ?_
  refine s1 rfl (det_assign rfl) rfl rfl trivial rfl ?_
  refine sg_nil ?_
  refine be rfl ?_
  refine np ?_
  refine np ?_
  refine k_then ?_
  refine t_seq ?_
  refine b0 ?_
  refine o1 rfl (det_loadN tN24 rfl rfl (.head _) rfl) rfl rfl trivial ?_
  refine o1 rfl (det_call hb17 rfl rfl (fun w1 hs => octets_at hs.know hPc (by rw [hPc.len]; decide) (show _ = ((200 : Int), (0 : Int)) by rfl))) rfl rfl trivial ?_
  refine o1 rfl (det_move rfl) rfl rfl trivial ?_
  refine o1 rfl (det_extract rfl rfl) rfl rfl trivial ?_
  refine o1 rfl (det_extract rfl rfl) rfl rfl trivial ?_
  refine o1 rfl (det_assign rfl) rfl rfl trivial ?_
  refine o1 rfl (det_assign rfl) rfl rfl trivial ?_
  refine be rfl ?_
  refine k_then ?_
  refine t_seq ?_
  refine b0 ?_
  refine o1 rfl (det_loadN tN24 rfl rfl (.head _) rfl) rfl rfl trivial ?_
  refine oF nofun rfl hb24 rfl rfl rfl trivial (fun w1 hs => pop_at hs.know hPc (by rw [hPc.len]; decide) hnc hmc (show popQ 250 [(whole ⟨0, 0, 3, 100, 0⟩), (whole ⟨0, 0, 3, 100, 0⟩)] = ((250, [(whole ⟨0, 0, 3, 100, 0⟩)]), (whole ⟨0, 0, 3, 100, 0⟩), 0) by rfl)) (fun vd Fd hFd hNd ⟨Ad, nd, cd, hv, hnd, hmd, hPd⟩ => ?_)
  subst hv
  replace hPa := hPa.mono hFd
  replace hPb := hPb.mono hFd
  replace hPc := hPc.mono hFd
  refine o1 rfl (det_move rfl) rfl rfl trivial ?_
  refine o1 rfl (det_extract rfl rfl) rfl rfl trivial ?_
  refine o1 rfl (det_extract rfl rfl) rfl rfl trivial ?_
  refine o1 rfl (det_extract rfl rfl) rfl rfl trivial ?_
  refine om1 rfl (new_alloc z24) rfl rfl trivial (fun p11 => ?_)
  refine om1 rfl (new_alloc z28) rfl rfl trivial (fun p12 => ?_)
  refine stN nofun rfl tN24 rfl rfl rfl (.tail .head) rfl trivial rfl rfl ?_
  refine stN nofun rfl tN28 rfl rfl rfl .head rfl trivial rfl rfl ?_
  refine o1 rfl (det_assign rfl) rfl rfl trivial ?_
  refine be rfl ?_
  refine k_then ?_
  refine t_seq ?_
  refine bD mixed ?_
  refine r_force 6 8 (by kernel_rfl) ?_
  refine r_segF 10 8 [7] [(3, Go.Eng.Told Fd (fun v F2 => ∃ A1 n1 c1, v = .tuple [qA 250 A1 n1 c1, .int .i64 0].toArray ∧ n1 ≤ c1 ∧ c1 ≤ maxLen ∧ PK F2 A1 n1 [⟨⟨0, 0, 3, 200, 0⟩, 160, true⟩, (whole ⟨0, 0, 3, 100, 0⟩)]))] [0, 1, 2, 3, 4, 5, 6, 7] (by kernel_rfl) ?_
  refine s1 rfl (det_loadN tN24 rfl rfl (.tail _ (.head _)) rfl) rfl rfl trivial rfl ?_
  refine s1 rfl (det_call hb28 rfl rfl (fun w1 hs => frame_ok hs.know)) rfl rfl trivial rfl ?_
  refine s1 rfl (det_build rfl (fun w => bld28_0_1_2 _ _ _ _ _ _ _ w)) rfl rfl trivial rfl ?_
  refine sM [] need0 rfl (fun F2 hF2 hN => mem_call hF2 hb25 rfl rfl (fun w1 hs => ret_at (fun a u h => hs.know a u (hF2 a u h)) hPd (by rw [hPd.len]; decide) hnd hmd (x := ⟨⟨0, 0, 3, 200, 0⟩, 160, true⟩) (show retQ 250 [(whole ⟨0, 0, 3, 100, 0⟩)] ⟨⟨0, 0, 3, 200, 0⟩, 160, true⟩ = ((250, [⟨⟨0, 0, 3, 200, 0⟩, 160, true⟩, (whole ⟨0, 0, 3, 100, 0⟩)]), 0) by rfl))) rfl rfl trivial rfl (fun v62 hv62 => ?_)
  obtain ⟨F9, Ae, ne, ce, rfl, -⟩ := hv62
  refine s1 rfl (det_move rfl) rfl rfl trivial rfl ?_
  refine s1 rfl (det_extract rfl rfl) rfl rfl trivial rfl ?_
  refine s1 rfl (det_extract rfl rfl) rfl rfl trivial rfl ?_
  refine sm1 rfl (new_alloc z24) rfl rfl trivial rfl (fun p14 => ?_)
  refine sg_nil ?_
  rintro F_7_8 hF_7_8 hN_7_8 ⟨hR62, -⟩
  obtain ⟨A9, n9, c9, hq, hne, hme, hPe⟩ := hR62
  cases hq
  replace hPa := hPa.mono hF_7_8
  replace hPb := hPb.mono hF_7_8
  replace hPc := hPc.mono hF_7_8
  replace hPd := hPd.mono hF_7_8
  refine stN (fun _ => by kernel_rfl) rfl tN24 rfl rfl rfl .head rfl trivial rfl rfl ?_
  refine r_seg 10 10 [] [9] (by kernel_rfl) ?_
  refine s1 rfl (det_assign rfl) rfl rfl trivial rfl ?_
  refine sg_nil ?_
  refine be rfl ?_
  refine np ?_
  refine k_then ?_
  refine t_seq ?_
  refine b0 ?_
  refine o1 rfl (det_loadN tN24 rfl rfl (.head _) rfl) rfl rfl trivial ?_
  refine o1 rfl (det_call hb23 rfl rfl (fun w1 hs => head_at hs.know hPe (by rw [hPe.len]; decide) (show headQ 250 [⟨⟨0, 0, 3, 200, 0⟩, 160, true⟩, (whole ⟨0, 0, 3, 100, 0⟩)] = (⟨⟨0, 0, 3, 200, 0⟩, 160, true⟩, true) by rfl))) rfl rfl trivial ?_
  refine o1 rfl (det_move rfl) rfl rfl trivial ?_
  refine o1 rfl (det_extract rfl rfl) rfl rfl trivial ?_
  refine o1 rfl (det_extract rfl rfl) rfl rfl trivial ?_
  refine om1 rfl (new_alloc z28) rfl rfl trivial (fun p16 => ?_)
  refine stN nofun rfl tN28 rfl rfl rfl .head rfl trivial rfl rfl ?_
  refine o1 rfl (det_assign rfl) rfl rfl trivial ?_
  refine be rfl ?_
  refine k_then ?_
  refine t_seq ?_
  refine b0 ?_
  refine o1 rfl (det_build rfl (fun w => bld24_ w)) rfl rfl trivial ?_
  refine oF nofun rfl hb24 rfl rfl rfl trivial (fun w1 hs => pop_at hs.know RowsK.nil (Nat.zero_le _) (Nat.le_refl _) (Nat.zero_le _) (show popQ 0 [] = ((0, []), dPt, 4) by rfl)) (fun vf Ff hFf hNf ⟨Af, nf, cf, hv, hnf, hmf, hPf⟩ => ?_)
  subst hv
  replace hPa := hPa.mono hFf
  replace hPb := hPb.mono hFf
  replace hPc := hPc.mono hFf
  replace hPd := hPd.mono hFf
  replace hPe := hPe.mono hFf
  refine o1 rfl (det_move rfl) rfl rfl trivial ?_
  refine o1 rfl (det_extract rfl rfl) rfl rfl trivial ?_
  refine o1 rfl (det_extract rfl rfl) rfl rfl trivial ?_
  refine o1 rfl (det_extract rfl rfl) rfl rfl trivial ?_
  refine om1 rfl (new_alloc z24) rfl rfl trivial (fun p18 => ?_)
  refine om1 rfl (new_alloc z28) rfl rfl trivial (fun p19 => ?_)
  refine stN nofun rfl tN24 rfl rfl rfl (.tail .head) rfl trivial rfl rfl ?_
  refine stN nofun rfl tN28 rfl rfl rfl .head rfl trivial rfl rfl ?_
  refine o1 rfl (det_assign rfl) rfl rfl trivial ?_
  refine be rfl ?_
  refine k_then ?_
  refine t_seq ?_
  refine b0 ?_
  refine o1 rfl (det_move rfl) rfl rfl trivial ?_
  refine o1 rfl (det_eql rfl rfl) rfl rfl trivial ?_
  refine o2P beq_iff_eq rfl (det_move rfl) rfl rfl trivial (fun hb => ?_) (fun hb => ?_)
  rotate_left
  · exfalso; first | exact hb rfl | simp at hb | (revert hb; decide)
  refine o1 rfl (det_move rfl) rfl rfl ⟨_, rfl, rfl⟩ ?_
  refine o1 rfl (det_eql rfl rfl) rfl rfl ⟨_, rfl, rfl⟩ ?_
  refine o1 rfl (det_pickT rfl rfl) rfl rfl trivial ?_
  refine o2P beq_iff_eq rfl (det_move rfl) rfl rfl trivial (fun hb => ?_) (fun hb => ?_)
  rotate_left
  · exfalso; first | exact hb rfl | simp at hb | (revert hb; decide)
  refine o1 rfl (det_move rfl) rfl rfl ⟨_, rfl, rfl⟩ ?_
  refine o1 rfl (det_eql rfl rfl) rfl rfl ⟨_, rfl, rfl⟩ ?_
  refine o1 rfl (det_pickT rfl rfl) rfl rfl trivial ?_
  refine o2P beq_iff_eq rfl (det_move rfl) rfl rfl trivial (fun hb => ?_) (fun hb => ?_)
  rotate_left
  · exfalso; first | exact hb rfl | simp at hb | (revert hb; decide)
  refine o1 rfl (det_move rfl) rfl rfl ⟨_, rfl, rfl⟩ ?_
  refine o1 rfl (det_eql rfl rfl) rfl rfl ⟨_, rfl, rfl⟩ ?_
  refine o1 rfl (det_pickT rfl rfl) rfl rfl trivial ?_
  refine o2P beq_iff_eq rfl (det_move rfl) rfl rfl trivial (fun hb => ?_) (fun hb => ?_)
  rotate_left
  · exfalso; first | exact hb rfl | simp at hb | (revert hb; decide)
  refine o1 rfl (det_move rfl) rfl rfl ⟨_, rfl, rfl⟩ ?_
  refine o1 rfl (det_eql rfl rfl) rfl rfl ⟨_, rfl, rfl⟩ ?_
  refine o1 rfl (det_pickT rfl rfl) rfl rfl trivial ?_
  refine o2P beq_iff_eq rfl (det_move rfl) rfl rfl trivial (fun hb => ?_) (fun hb => ?_)
  rotate_left
  · exfalso; first | exact hb rfl | simp at hb | (revert hb; decide)
  refine o1 rfl (det_move rfl) rfl rfl ⟨_, rfl, rfl⟩ ?_
  refine o1 rfl (det_eql rfl rfl) rfl rfl ⟨_, rfl, rfl⟩ ?_
  refine o1 rfl (det_pickT rfl rfl) rfl rfl trivial ?_
  refine o2P beq_iff_eq rfl (det_move rfl) rfl rfl trivial (fun hb => ?_) (fun hb => ?_)
  rotate_left
  · exfalso; first | exact hb rfl | simp at hb | (revert hb; decide)
  refine o1 rfl (det_move rfl) rfl rfl ⟨_, rfl, rfl⟩ ?_
  refine o1 rfl (det_eql rfl rfl) rfl rfl ⟨_, rfl, rfl⟩ ?_
  refine o1 rfl (det_pickT rfl rfl) rfl rfl trivial ?_
  refine o1 rfl (det_assign rfl) rfl rfl trivial ?_
  refine be rfl ?_
  refine k_then ?_
  refine t_seq ?_
  refine bD mixed ?_
  refine r_seg 43 43 [] [0, 1, 2, 3, 4, 5, 6, 7, 8, 9, 10, 11, 12, 13, 14, 15, 16, 17, 18, 19, 20, 21, 22, 23, 24, 25, 26, 27, 28, 29, 30, 31, 32, 33, 34, 35, 36, 37, 38, 39, 40, 41, 42] (by kernel_rfl) ?_
  refine s1 rfl (det_move rfl) rfl rfl trivial rfl ?_
  refine s2P beq_iff_eq rfl (det_move rfl) rfl rfl trivial rfl (fun hb => ?_) (fun hb => ?_)
  rotate_left
  · exfalso; first | exact hb rfl | simp at hb | (revert hb; decide)
  refine s1 rfl (det_move rfl) rfl rfl ⟨_, rfl, rfl⟩ rfl ?_
  refine s1 rfl (det_pickT rfl rfl) rfl rfl trivial rfl ?_
  refine s2P Iff.rfl rfl (det_move rfl) rfl rfl trivial rfl (fun hb => ?_) (fun hb => ?_)
  rotate_left
  · exfalso; first | exact hb rfl | simp at hb | (revert hb; decide)
  refine s1 rfl (det_move rfl) rfl rfl ⟨_, rfl, rfl⟩ rfl ?_
  refine s1 rfl (det_pickT rfl rfl) rfl rfl trivial rfl ?_
  refine s2P Iff.rfl rfl (det_move rfl) rfl rfl trivial rfl (fun hb => ?_) (fun hb => ?_)
  rotate_left
  · exfalso; first | exact hb rfl | simp at hb | (revert hb; decide)
  refine s1 rfl (det_move rfl) rfl rfl ⟨_, rfl, rfl⟩ rfl ?_
  refine s1 rfl (det_not rfl) rfl rfl ⟨_, rfl, rfl⟩ rfl ?_
  refine s1 rfl (det_pickT rfl rfl) rfl rfl trivial rfl ?_
  refine s2P not_iff_false rfl (det_move rfl) rfl rfl trivial rfl (fun hb => ?_) (fun hb => ?_)
  rotate_left
  · exfalso; first | exact hb rfl | simp at hb | (revert hb; decide)
  refine s1 rfl (det_move rfl) rfl rfl ⟨_, rfl, rfl⟩ rfl ?_
  refine s1 rfl (det_eql rfl rfl) rfl rfl ⟨_, rfl, rfl⟩ rfl ?_
  refine s1 rfl (det_pickT rfl rfl) rfl rfl trivial rfl ?_
  refine s2P beq_iff_eq rfl (det_move rfl) rfl rfl trivial rfl (fun hb => ?_) (fun hb => ?_)
  rotate_left
  · exfalso; first | exact hb rfl | simp at hb | (revert hb; decide)
  refine s1 rfl (det_loadN tN28 rfl rfl (.tail _ (.tail _ (.tail _ (.tail _ (.head _))))) rfl) rfl rfl ⟨_, rfl, rfl⟩ rfl ?_
  refine s1 rfl (det_call hb28 rfl rfl (fun w1 hs => frame_ok hs.know)) rfl rfl ⟨_, rfl, rfl⟩ rfl ?_
  refine s1 rfl (det_build rfl (fun w => bld28_0_1 _ _ _ _ _ _ w)) rfl rfl ⟨_, rfl, rfl⟩ rfl ?_
  refine s1 rfl (det_eqlS rfl rfl eqg28 (fun w => eq28 _ _ _ _ _ _ _ _ _ _ _ _ _ _ w)) rfl rfl ⟨_, rfl, rfl⟩ rfl ?_
  refine s1 rfl (det_pickT rfl rfl) rfl rfl trivial rfl ?_
  refine s2P Iff.rfl rfl (det_move rfl) rfl rfl trivial rfl (fun hb => ?_) (fun hb => ?_)
  rotate_left
  · exfalso; first | exact hb rfl | simp at hb | (revert hb; decide)
  refine s1 rfl (det_move rfl) rfl rfl ⟨_, rfl, rfl⟩ rfl ?_
  refine s1 rfl (det_pickT rfl rfl) rfl rfl trivial rfl ?_
  refine s2P Iff.rfl rfl (det_move rfl) rfl rfl trivial rfl (fun hb => ?_) (fun hb => ?_)
  rotate_left
  · exfalso; first | exact hb rfl | simp at hb | (revert hb; decide)
  refine s1 rfl (det_fieldAddr fld28_2 rfl) rfl rfl ⟨_, rfl, rfl⟩ rfl ?_
  refine s1 rfl (det_load1 t1_4 rfl rfl (.tail _ (.tail _ (.head _))) rfl) rfl rfl ⟨_, rfl, rfl⟩ rfl ?_
  refine s1 rfl (det_pickT rfl rfl) rfl rfl trivial rfl ?_
  refine s2P Iff.rfl rfl (det_move rfl) rfl rfl trivial rfl (fun hb => ?_) (fun hb => ?_)
  rotate_left
  · exfalso; first | exact hb rfl | simp at hb | (revert hb; decide)
  refine s1 rfl (det_fieldAddr fld28_1 rfl) rfl rfl ⟨_, rfl, rfl⟩ rfl ?_
  refine s1 rfl (det_load1 t1_3 rfl rfl (.tail _ (.tail _ (.head _))) rfl) rfl rfl ⟨_, rfl, rfl⟩ rfl ?_
  refine s1 rfl (det_eql rfl rfl) rfl rfl ⟨_, rfl, rfl⟩ rfl ?_
  refine s1 rfl (det_pickT rfl rfl) rfl rfl trivial rfl ?_
  refine s2P beq_iff_eq rfl (det_move rfl) rfl rfl trivial rfl (fun hb => ?_) (fun hb => ?_)
  rotate_left
  · exfalso; first | exact hb rfl | simp at hb | (revert hb; decide)
  refine s1 rfl (det_move rfl) rfl rfl ⟨_, rfl, rfl⟩ rfl ?_
  refine s1 rfl (det_eql rfl rfl) rfl rfl ⟨_, rfl, rfl⟩ rfl ?_
  refine s1 rfl (det_pickT rfl rfl) rfl rfl trivial rfl ?_
  refine s2P beq_iff_eq rfl (det_move rfl) rfl rfl trivial rfl (fun hb => ?_) (fun hb => ?_)
  rotate_left
  · exfalso; first | exact hb rfl | simp at hb | (revert hb; decide)
  refine s1 rfl (det_build rfl (fun w => bld24_0 _ w)) rfl rfl ⟨_, rfl, rfl⟩ rfl ?_
  refine s1 rfl (det_call hb12 rfl rfl (fun w1 hs => check_at hs.know RowsK.nil (Nat.zero_le _) (show _ = (461 : Int) by rfl))) rfl rfl ⟨_, rfl, rfl⟩ rfl ?_
  refine s1 rfl (det_eql rfl rfl) rfl rfl ⟨_, rfl, rfl⟩ rfl ?_
  refine s1 rfl (det_pickT rfl rfl) rfl rfl trivial rfl ?_
  refine s1 rfl (det_assign rfl) rfl rfl trivial rfl ?_
  refine sg_nil ?_
  refine be rfl ?_
  refine k_then ?_
  refine t_ret ?_
  refine ret_tmp rfl rfl rfl (fun w1 hs => ?_)
  exact ⟨rfl, hs.keep⟩

end Go.Proofs.Qu
