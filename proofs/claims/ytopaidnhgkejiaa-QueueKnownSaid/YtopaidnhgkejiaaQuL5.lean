/-
  Walks through layer 36 and its reference.
-/
import Derived.Test.YtopaidnhgkejiaaQuL0
namespace Go.Proofs.Qu
open Go Go.Eng Go.Qu
set_option maxRecDepth 4000

/-- QueueKnown. -/
theorem known_ok {w : World} {F : Know} (hF : ∀ a v, F a = some v → w.cell? a = some v)  : Pure Try.prog 8 [] w (.bool true) := by
  refine fn_pure (F := F) Try.func8 rfl Try.ntmps8 rfl hF ?_
  refine t_seq ?_
  refine b0 ?_
  refine o1 rfl (det_assign rfl) rfl rfl trivial ?_
  refine be rfl ?_
  refine k_then ?_
  refine t_seq ?_
  refine t_seq ?_
  refine b0 ?_
  refine o1 rfl (det_call hb9 rfl rfl (fun w1 hs => wakes_ok hs.know)) rfl rfl trivial ?_
  refine o1 rfl (det_not rfl) rfl rfl trivial ?_
  refine be rfl ?_
  refine k_then ?_
  refine t_condP not_iff_false rfl (fun hb => ?_) (fun hb => ?_)
  · exfalso; simp at hb
  refine t_skip ?_
  refine k_then ?_
  refine t_seq ?_
  refine b0 ?_
  refine o1 rfl (det_call hb19 rfl rfl (fun w1 hs => new_bad hs.know (by decide))) rfl rfl trivial ?_
  refine o1 rfl (det_move rfl) rfl rfl trivial ?_
  refine o1 rfl (det_extract rfl rfl) rfl rfl trivial ?_
  refine o1 rfl (det_extract rfl rfl) rfl rfl trivial ?_
  refine om1 rfl (new_alloc z24) rfl rfl trivial (fun p1 => ?_)
  refine stN nofun rfl tN24 rfl rfl rfl .head rfl trivial rfl rfl ?_
  refine o1 rfl (det_assign rfl) rfl rfl trivial ?_
  refine be rfl ?_
  refine k_then ?_
  refine t_seq ?_
  refine b0 ?_
  refine o1 rfl (det_build rfl (fun w => bld24_0 _ w)) rfl rfl trivial ?_
  refine o1 rfl (det_call hb28 rfl rfl (fun w1 hs => frame_ok hs.know)) rfl rfl trivial ?_
  refine oF nofun rfl hb21 rfl rfl rfl trivial (fun w1 hs => push_at hs.know RowsK.nil (Nat.zero_le _) (Nat.le_refl _) (Nat.zero_le _) (x := ⟨0, 0, 3, 83, 0⟩) (show pushQ 250 [] ⟨0, 0, 3, 83, 0⟩ = ((0, []), false, 460) by rfl)) (fun va Fa hFa hNa ⟨Aa, na, ca, hv, hna, hma, hPa⟩ => ?_)
  subst hv
  
  refine o1 rfl (det_move rfl) rfl rfl trivial ?_
  refine o1 rfl (det_extract rfl rfl) rfl rfl trivial ?_
  refine o1 rfl (det_extract rfl rfl) rfl rfl trivial ?_
  refine o1 rfl (det_extract rfl rfl) rfl rfl trivial ?_
  refine om1 rfl (new_alloc z24) rfl rfl trivial (fun p3 => ?_)
  refine stN nofun rfl tN24 rfl rfl rfl .head rfl trivial rfl rfl ?_
  refine o1 rfl (det_assign rfl) rfl rfl trivial ?_
  refine o1 rfl (det_assign rfl) rfl rfl trivial ?_
  refine be rfl ?_
  refine k_then ?_
  refine t_seq ?_
  refine b0 ?_
  refine o1 rfl (det_build rfl (fun w => bld24_0 _ w)) rfl rfl trivial ?_
  refine o1 rfl (det_call hb28 rfl rfl (fun w1 hs => frame_ok hs.know)) rfl rfl trivial ?_
  refine oF nofun rfl hb21 rfl rfl rfl trivial (fun w1 hs => push_at hs.know RowsK.nil (Nat.zero_le _) (Nat.le_refl _) (Nat.zero_le _) (x := ⟨0, 0, 3, 84, 0⟩) (show pushQ 83 [] ⟨0, 0, 3, 84, 0⟩ = ((83, []), false, 0) by rfl)) (fun vb Fb hFb hNb ⟨Ab, nb, cb, hv, hnb, hmb, hPb⟩ => ?_)
  subst hv
  replace hPa := hPa.mono hFb
  refine o1 rfl (det_move rfl) rfl rfl trivial ?_
  refine o1 rfl (det_extract rfl rfl) rfl rfl trivial ?_
  refine o1 rfl (det_extract rfl rfl) rfl rfl trivial ?_
  refine o1 rfl (det_extract rfl rfl) rfl rfl trivial ?_
  refine om1 rfl (new_alloc z24) rfl rfl trivial (fun p6 => ?_)
  refine stN nofun rfl tN24 rfl rfl rfl .head rfl trivial rfl rfl ?_
  refine o1 rfl (det_assign rfl) rfl rfl trivial ?_
  refine o1 rfl (det_assign rfl) rfl rfl trivial ?_
  refine be rfl ?_
  refine k_then ?_
  refine t_seq ?_
  refine b0 ?_
  refine o1 rfl (det_build rfl (fun w => bld24_0 _ w)) rfl rfl trivial ?_
  refine o1 rfl (det_call hb28 rfl rfl (fun w1 hs => frame_ok hs.know)) rfl rfl trivial ?_
  refine oF nofun rfl hb21 rfl rfl rfl trivial (fun w1 hs => push_at hs.know RowsK.nil (Nat.zero_le _) (Nat.le_refl _) (Nat.zero_le _) (x := ⟨0, 0, 3, 200, 0⟩) (show pushQ 250 [] ⟨0, 0, 3, 200, 0⟩ = ((250, [(whole ⟨0, 0, 3, 200, 0⟩)]), true, 0) by rfl)) (fun vc Fc hFc hNc ⟨Ac, nc, cc, hv, hnc, hmc, hPc⟩ => ?_)
  subst hv
  replace hPa := hPa.mono hFc
  replace hPb := hPb.mono hFc
  refine o1 rfl (det_move rfl) rfl rfl trivial ?_
  refine o1 rfl (det_extract rfl rfl) rfl rfl trivial ?_
  refine o1 rfl (det_extract rfl rfl) rfl rfl trivial ?_
  refine o1 rfl (det_extract rfl rfl) rfl rfl trivial ?_
  refine om1 rfl (new_alloc z24) rfl rfl trivial (fun p9 => ?_)
  refine stN nofun rfl tN24 rfl rfl rfl .head rfl trivial rfl rfl ?_
  refine o1 rfl (det_assign rfl) rfl rfl trivial ?_
  refine o1 rfl (det_assign rfl) rfl rfl trivial ?_
  refine be rfl ?_
  refine k_then ?_
  refine t_seq ?_
  refine b0 ?_
  refine o1 rfl (det_loadN tN24 rfl rfl (.head _) rfl) rfl rfl trivial ?_
  refine oF nofun rfl hb24 rfl rfl rfl trivial (fun w1 hs => pop_at hs.know hPc (by rw [hPc.len]; decide) hnc hmc (show popQ 250 [(whole ⟨0, 0, 3, 200, 0⟩)] = ((250, []), (whole ⟨0, 0, 3, 200, 0⟩), 0) by rfl)) (fun vd Fd hFd hNd ⟨Ad, nd, cd, hv, hnd, hmd, hPd⟩ => ?_)
  subst hv
  replace hPa := hPa.mono hFd
  replace hPb := hPb.mono hFd
  replace hPc := hPc.mono hFd
  refine o1 rfl (det_move rfl) rfl rfl trivial ?_
  refine o1 rfl (det_extract rfl rfl) rfl rfl trivial ?_
  refine o1 rfl (det_extract rfl rfl) rfl rfl trivial ?_
  refine o1 rfl (det_extract rfl rfl) rfl rfl trivial ?_
  refine om1 rfl (new_alloc z28) rfl rfl trivial (fun p12 => ?_)
  refine stN nofun rfl tN24 rfl rfl rfl (.tail .head) rfl trivial rfl rfl ?_
  refine stN nofun rfl tN28 rfl rfl rfl .head rfl trivial rfl rfl ?_
  refine o1 rfl (det_assign rfl) rfl rfl trivial ?_
  refine be rfl ?_
  refine k_then ?_
  refine t_seq ?_
  refine bD mixed ?_
  refine r_force 6 7 (by kernel_rfl) ?_
  refine r_segF 9 7 [] [(3, Go.Eng.Told Fd (fun v F2 => ∃ A1 n1 c1, v = .tuple [qA 250 A1 n1 c1, .int .i64 0].toArray ∧ n1 ≤ c1 ∧ c1 ≤ maxLen ∧ PK F2 A1 n1 [⟨⟨0, 0, 3, 200, 0⟩, 160, true⟩]))] [0, 1, 2, 3, 4, 5, 6] (by kernel_rfl) ?_
  refine s1 rfl (det_loadN tN24 rfl rfl (.tail _ (.head _)) rfl) rfl rfl trivial rfl ?_
  refine s1 rfl (det_call hb28 rfl rfl (fun w1 hs => frame_ok hs.know)) rfl rfl trivial rfl ?_
  refine s1 rfl (det_build rfl (fun w => bld28_0_1_2 _ _ _ _ _ _ _ w)) rfl rfl trivial rfl ?_
  refine sM [] need0 rfl (fun F2 hF2 hN => mem_call hF2 hb25 rfl rfl (fun w1 hs => ret_at (fun a u h => hs.know a u (hF2 a u h)) hPd (by rw [hPd.len]; decide) hnd hmd (x := ⟨⟨0, 0, 3, 200, 0⟩, 160, true⟩) (show retQ 250 [] ⟨⟨0, 0, 3, 200, 0⟩, 160, true⟩ = ((250, [⟨⟨0, 0, 3, 200, 0⟩, 160, true⟩]), 0) by rfl))) rfl rfl trivial rfl (fun v62 hv62 => ?_)
  obtain ⟨F9, Ae, ne, ce, rfl, -⟩ := hv62
  refine s1 rfl (det_move rfl) rfl rfl trivial rfl ?_
  refine s1 rfl (det_extract rfl rfl) rfl rfl trivial rfl ?_
  refine s1 rfl (det_extract rfl rfl) rfl rfl trivial rfl ?_
  refine sg_nil ?_
  rintro F_8_7 hF_8_7 hN_8_7 ⟨hR62, -⟩
  obtain ⟨A9, n9, c9, hq, hne, hme, hPe⟩ := hR62
  cases hq
  replace hPa := hPa.mono hF_8_7
  replace hPb := hPb.mono hF_8_7
  replace hPc := hPc.mono hF_8_7
  replace hPd := hPd.mono hF_8_7
  refine stN (fun _ => by kernel_rfl) rfl tN24 rfl rfl rfl (.tail .head) rfl trivial rfl rfl ?_
  refine r_seg 9 9 [] [8] (by kernel_rfl) ?_
  refine s1 rfl (det_assign rfl) rfl rfl trivial rfl ?_
  refine sg_nil ?_
  refine be rfl ?_
  refine np ?_
  refine k_then ?_
  refine t_seq ?_
  refine bD mixed ?_
  refine r_force 5 7 (by kernel_rfl) ?_
  refine r_force 6 7 (by kernel_rfl) ?_
  refine r_segF 10 7 [] [(2, Go.Eng.Told F_8_7 (fun v F2 => ∃ A1 n1 c1, v = .tuple [qA 250 A1 n1 c1, .bool false, .int .i64 0].toArray ∧ n1 ≤ c1 ∧ c1 ≤ maxLen ∧ PK F2 A1 n1 [⟨⟨0, 0, 3, 200, 0⟩, 160, true⟩]))] [0, 1, 2, 3, 4, 5, 6] (by kernel_rfl) ?_
  refine s1 rfl (det_loadN tN24 rfl rfl (.tail _ (.head _)) rfl) rfl rfl trivial rfl ?_
  refine s1 rfl (det_call hb28 rfl rfl (fun w1 hs => frame_ok hs.know)) rfl rfl trivial rfl ?_
  refine sM [] need0 rfl (fun F2 hF2 hN => mem_call hF2 hb21 rfl rfl (fun w1 hs => push_at (fun a u h => hs.know a u (hF2 a u h)) hPe (by rw [hPe.len]; decide) hne hme (x := ⟨0, 0, 3, 100, 0⟩) (show pushQ 250 [⟨⟨0, 0, 3, 200, 0⟩, 160, true⟩] ⟨0, 0, 3, 100, 0⟩ = ((250, [⟨⟨0, 0, 3, 200, 0⟩, 160, true⟩]), false, 0) by rfl))) rfl rfl trivial rfl (fun v68 hv68 => ?_)
  obtain ⟨F9, Af, nf, cf, rfl, -⟩ := hv68
  refine s1 rfl (det_move rfl) rfl rfl trivial rfl ?_
  refine s1 rfl (det_extract rfl rfl) rfl rfl trivial rfl ?_
  refine s1 rfl (det_extract rfl rfl) rfl rfl trivial rfl ?_
  refine s1 rfl (det_extract rfl rfl) rfl rfl trivial rfl ?_
  refine sg_nil ?_
  rintro F_9_7 hF_9_7 hN_9_7 ⟨hR68, -⟩
  obtain ⟨A9, n9, c9, hq, hnf, hmf, hPf⟩ := hR68
  cases hq
  replace hPa := hPa.mono hF_9_7
  replace hPb := hPb.mono hF_9_7
  replace hPc := hPc.mono hF_9_7
  replace hPd := hPd.mono hF_9_7
  replace hPe := hPe.mono hF_9_7
  refine stN (fun _ => by kernel_rfl) rfl tN24 rfl rfl rfl (.tail .head) rfl trivial rfl rfl ?_
  refine r_seg 10 10 [] [8, 9] (by kernel_rfl) ?_
  refine s1 rfl (det_assign rfl) rfl rfl trivial rfl ?_
  refine s1 rfl (det_assign rfl) rfl rfl trivial rfl ?_
  refine sg_nil ?_
  refine be rfl ?_
  refine np ?_
  refine np ?_
  refine k_then ?_
  refine t_seq ?_
  refine bD mixed ?_
  refine r_force 6 8 (by kernel_rfl) ?_
  refine r_segF 10 8 [7] [(3, Go.Eng.Told F_9_7 (fun v F2 => ∃ A1 n1 c1, v = .tuple [qA 0 A1 n1 c1, .int .i64 2].toArray ∧ n1 ≤ c1 ∧ c1 ≤ maxLen ∧ PK F2 A1 n1 []))] [0, 1, 2, 3, 4, 5, 6, 7] (by kernel_rfl) ?_
  refine s1 rfl (det_loadN tN24 rfl rfl (.tail _ (.head _)) rfl) rfl rfl trivial rfl ?_
  refine s1 rfl (det_call hb28 rfl rfl (fun w1 hs => frame_ok hs.know)) rfl rfl trivial rfl ?_
  refine s1 rfl (det_build rfl (fun w => bld28_0_1_2 _ _ _ _ _ _ _ w)) rfl rfl trivial rfl ?_
  refine sM [] need0 rfl (fun F2 hF2 hN => mem_call hF2 hb25 rfl rfl (fun w1 hs => ret_at (fun a u h => hs.know a u (hF2 a u h)) hPf (by rw [hPf.len]; decide) hnf hmf (x := ⟨⟨0, 0, 3, 200, 0⟩, 90, true⟩) (show retQ 250 [⟨⟨0, 0, 3, 200, 0⟩, 160, true⟩] ⟨⟨0, 0, 3, 200, 0⟩, 90, true⟩ = ((0, []), 2) by rfl))) rfl rfl trivial rfl (fun v76 hv76 => ?_)
  obtain ⟨F9, Ag, ng, cg, rfl, -⟩ := hv76
  refine s1 rfl (det_move rfl) rfl rfl trivial rfl ?_
  refine s1 rfl (det_extract rfl rfl) rfl rfl trivial rfl ?_
  refine s1 rfl (det_extract rfl rfl) rfl rfl trivial rfl ?_
  refine sm1 rfl (new_alloc z24) rfl rfl trivial rfl (fun p17 => ?_)
  refine sg_nil ?_
  rintro F_10_8 hF_10_8 hN_10_8 ⟨hR76, -⟩
  obtain ⟨A9, n9, c9, hq, hng, hmg, hPg⟩ := hR76
  cases hq
  replace hPa := hPa.mono hF_10_8
  replace hPb := hPb.mono hF_10_8
  replace hPc := hPc.mono hF_10_8
  replace hPd := hPd.mono hF_10_8
  replace hPe := hPe.mono hF_10_8
  replace hPf := hPf.mono hF_10_8
  refine stN (fun _ => by kernel_rfl) rfl tN24 rfl rfl rfl .head rfl trivial rfl rfl ?_
  refine r_seg 10 10 [] [9] (by kernel_rfl) ?_
  refine s1 rfl (det_assign rfl) rfl rfl trivial rfl ?_
  refine sg_nil ?_
  refine be rfl ?_
  refine np ?_
  refine k_then ?_
  refine t_seq ?_
  refine bD mixed ?_
  refine r_force 6 8 (by kernel_rfl) ?_
  refine r_segF 10 8 [7] [(3, Go.Eng.Told F_10_8 (fun v F2 => ∃ A1 n1 c1, v = .tuple [qA 0 A1 n1 c1, .int .i64 2].toArray ∧ n1 ≤ c1 ∧ c1 ≤ maxLen ∧ PK F2 A1 n1 []))] [0, 1, 2, 3, 4, 5, 6, 7] (by kernel_rfl) ?_
  refine s1 rfl (det_loadN tN24 rfl rfl (.tail _ (.tail _ (.head _))) rfl) rfl rfl trivial rfl ?_
  refine s1 rfl (det_call hb28 rfl rfl (fun w1 hs => frame_ok hs.know)) rfl rfl trivial rfl ?_
  refine s1 rfl (det_build rfl (fun w => bld28_0_1 _ _ _ _ _ _ w)) rfl rfl trivial rfl ?_
  refine sM [] need0 rfl (fun F2 hF2 hN => mem_call hF2 hb25 rfl rfl (fun w1 hs => ret_at (fun a u h => hs.know a u (hF2 a u h)) hPf (by rw [hPf.len]; decide) hnf hmf (x := ⟨⟨0, 0, 3, 200, 0⟩, 200, false⟩) (show retQ 250 [⟨⟨0, 0, 3, 200, 0⟩, 160, true⟩] ⟨⟨0, 0, 3, 200, 0⟩, 200, false⟩ = ((0, []), 2) by rfl))) rfl rfl trivial rfl (fun v83 hv83 => ?_)
  obtain ⟨F9, Ah, nh, ch, rfl, -⟩ := hv83
  refine s1 rfl (det_move rfl) rfl rfl trivial rfl ?_
  refine s1 rfl (det_extract rfl rfl) rfl rfl trivial rfl ?_
  refine s1 rfl (det_extract rfl rfl) rfl rfl trivial rfl ?_
  refine sm1 rfl (new_alloc z24) rfl rfl trivial rfl (fun p19 => ?_)
  refine sg_nil ?_
  rintro F_11_8 hF_11_8 hN_11_8 ⟨hR83, -⟩
  obtain ⟨A9, n9, c9, hq, hnh, hmh, hPh⟩ := hR83
  cases hq
  replace hPa := hPa.mono hF_11_8
  replace hPb := hPb.mono hF_11_8
  replace hPc := hPc.mono hF_11_8
  replace hPd := hPd.mono hF_11_8
  replace hPe := hPe.mono hF_11_8
  replace hPf := hPf.mono hF_11_8
  replace hPg := hPg.mono hF_11_8
  refine stN (fun _ => by kernel_rfl) rfl tN24 rfl rfl rfl .head rfl trivial rfl rfl ?_
  refine r_seg 10 10 [] [9] (by kernel_rfl) ?_
  refine s1 rfl (det_assign rfl) rfl rfl trivial rfl ?_
  refine sg_nil ?_
  refine be rfl ?_
  refine np ?_
  refine k_then ?_
  refine t_seq ?_
  refine b0 ?_
  refine o1 rfl (det_loadN tN24 rfl rfl (.tail _ (.tail _ (.tail _ (.head _)))) rfl) rfl rfl trivial ?_
  refine o1 rfl (det_call hb17 rfl rfl (fun w1 hs => octets_at hs.know hPf (by rw [hPf.len]; decide) (show _ = ((160 : Int), (0 : Int)) by rfl))) rfl rfl trivial ?_
  refine o1 rfl (det_move rfl) rfl rfl trivial ?_
  refine o1 rfl (det_extract rfl rfl) rfl rfl trivial ?_
  refine o1 rfl (det_extract rfl rfl) rfl rfl trivial ?_
  refine o1 rfl (det_assign rfl) rfl rfl trivial ?_
  refine o1 rfl (det_assign rfl) rfl rfl trivial ?_
  refine be rfl ?_
  refine k_then ?_
  refine t_seq ?_
  refine b0 ?_
  refine o1 rfl (det_call hb28 rfl rfl (fun w1 hs => frame_ok hs.know)) rfl rfl trivial ?_
  refine o1 rfl (det_build rfl (fun w => bld28_0_1_2 _ _ _ _ _ _ _ w)) rfl rfl trivial ?_
  refine o1 rfl (det_call hb13 rfl rfl (fun w1 hs => cpart_at hs.know (p := ⟨⟨0, 0, 3, 100, 0⟩, 90, true⟩) (show _ = (460 : Int) by rfl))) rfl rfl trivial ?_
  refine o1 rfl (det_eql rfl rfl) rfl rfl trivial ?_
  refine o2P beq_iff_eq rfl (det_move rfl) rfl rfl trivial (fun hb => ?_) (fun hb => ?_)
  rotate_left
  · exfalso; first | exact hb rfl | simp at hb | (revert hb; decide)
  refine o1 rfl (det_call hb28 rfl rfl (fun w1 hs => frame_ok hs.know)) rfl rfl ⟨_, rfl, rfl⟩ ?_
  refine o1 rfl (det_build rfl (fun w => bld28_0_1_2 _ _ _ _ _ _ _ w)) rfl rfl ⟨_, rfl, rfl⟩ ?_
  refine o1 rfl (det_call hb13 rfl rfl (fun w1 hs => cpart_at hs.know (p := ⟨⟨0, 0, 3, 100, 0⟩, 60, true⟩) (show _ = (460 : Int) by rfl))) rfl rfl ⟨_, rfl, rfl⟩ ?_
  refine o1 rfl (det_eql rfl rfl) rfl rfl ⟨_, rfl, rfl⟩ ?_
  refine o1 rfl (det_pickT rfl rfl) rfl rfl trivial ?_
  refine o2P beq_iff_eq rfl (det_move rfl) rfl rfl trivial (fun hb => ?_) (fun hb => ?_)
  rotate_left
  · exfalso; first | exact hb rfl | simp at hb | (revert hb; decide)
  refine o1 rfl (det_call hb28 rfl rfl (fun w1 hs => frame_ok hs.know)) rfl rfl ⟨_, rfl, rfl⟩ ?_
  refine o1 rfl (det_build rfl (fun w => bld28_0_1_2 _ _ _ _ _ _ _ w)) rfl rfl ⟨_, rfl, rfl⟩ ?_
  refine o1 rfl (det_call hb13 rfl rfl (fun w1 hs => cpart_at hs.know (p := ⟨⟨0, 0, 3, 128, 0⟩, 88, true⟩) (show _ = (0 : Int) by rfl))) rfl rfl ⟨_, rfl, rfl⟩ ?_
  refine o1 rfl (det_eql rfl rfl) rfl rfl ⟨_, rfl, rfl⟩ ?_
  refine o1 rfl (det_pickT rfl rfl) rfl rfl trivial ?_
  refine o2P beq_iff_eq rfl (det_move rfl) rfl rfl trivial (fun hb => ?_) (fun hb => ?_)
  rotate_left
  · exfalso; first | exact hb rfl | simp at hb | (revert hb; decide)
  refine o1 rfl (det_build rfl (fun w => bld26_2_3 _ _ w)) rfl rfl ⟨_, rfl, rfl⟩ ?_
  refine o1 rfl (det_build rfl (fun w => bld28_0_1_2 _ _ _ _ _ _ _ w)) rfl rfl ⟨_, rfl, rfl⟩ ?_
  refine o1 rfl (det_call hb13 rfl rfl (fun w1 hs => cpart_at hs.know (p := ⟨⟨0, 0, 6, 200, 0⟩, 100, true⟩) (show _ = (460 : Int) by rfl))) rfl rfl ⟨_, rfl, rfl⟩ ?_
  refine o1 rfl (det_eql rfl rfl) rfl rfl ⟨_, rfl, rfl⟩ ?_
  refine o1 rfl (det_pickT rfl rfl) rfl rfl trivial ?_
  refine o2P beq_iff_eq rfl (det_move rfl) rfl rfl trivial (fun hb => ?_) (fun hb => ?_)
  rotate_left
  · exfalso; first | exact hb rfl | simp at hb | (revert hb; decide)
  refine o1 rfl (det_call hb28 rfl rfl (fun w1 hs => frame_ok hs.know)) rfl rfl ⟨_, rfl, rfl⟩ ?_
  refine o1 rfl (det_build rfl (fun w => bld28_0_1 _ _ _ _ _ _ w)) rfl rfl ⟨_, rfl, rfl⟩ ?_
  refine o1 rfl (det_call hb13 rfl rfl (fun w1 hs => cpart_at hs.know (p := ⟨⟨0, 0, 3, 100, 0⟩, 99, false⟩) (show _ = (460 : Int) by rfl))) rfl rfl ⟨_, rfl, rfl⟩ ?_
  refine o1 rfl (det_eql rfl rfl) rfl rfl ⟨_, rfl, rfl⟩ ?_
  refine o1 rfl (det_pickT rfl rfl) rfl rfl trivial ?_
  refine o1 rfl (det_assign rfl) rfl rfl trivial ?_
  refine be rfl ?_
  refine k_then ?_
  refine t_seq ?_
  refine b0 ?_
  refine o1 rfl (det_call hb28 rfl rfl (fun w1 hs => frame_ok hs.know)) rfl rfl trivial ?_
  refine o1 rfl (det_build rfl (fun w => bld28_0_1_2 _ _ _ _ _ _ _ w)) rfl rfl trivial ?_
  refine o1 rfl (det_call hb28 rfl rfl (fun w1 hs => frame_ok hs.know)) rfl rfl trivial ?_
  refine o1 rfl (det_build rfl (fun w => bld28_0_1 _ _ _ _ _ _ w)) rfl rfl trivial ?_
  refine om1 rfl (new_buildSlice rfl (fun w => bsl22_2_0_1 _ _ _ _ _ _ _ _ _ _ _ _ _ _ w)) rfl rfl trivial (fun p123 => ?_)
  refine o1 rfl (det_build rfl (fun w => bld24_0_1 _ _ _ _ w)) rfl rfl trivial ?_
  refine tk_freeze (pre := []) rfl (fun Fx hFx hNx hKx => ?_)
  have hL := pk_lit [⟨⟨0, 0, 3, 200, 0⟩, 160, true⟩, (whole ⟨0, 0, 3, 100, 0⟩)] hKx rfl
  refine o1 rfl (det_call hb12 rfl rfl (fun w1 hs => check_at hs.know hL (by decide) (show _ = (0 : Int) by rfl))) rfl rfl trivial ?_
  refine o1 rfl (det_eql rfl rfl) rfl rfl trivial ?_
  refine o2P beq_iff_eq rfl (det_move rfl) rfl rfl trivial (fun hb => ?_) (fun hb => ?_)
  rotate_left
  · exfalso; first | exact hb rfl | simp at hb | (revert hb; decide)
  refine o1 rfl (det_call hb28 rfl rfl (fun w1 hs => frame_ok hs.know)) rfl rfl ⟨_, rfl, rfl⟩ ?_
  refine o1 rfl (det_build rfl (fun w => bld28_0_1 _ _ _ _ _ _ w)) rfl rfl ⟨_, rfl, rfl⟩ ?_
  refine om1 rfl (new_buildSlice rfl (fun w => bsl22_1_0 _ _ _ _ _ _ _ w)) rfl rfl ⟨_, rfl, rfl⟩ (fun p130 => ?_)
  refine o1 rfl (det_build rfl (fun w => bld24_0_1 _ _ _ _ w)) rfl rfl ⟨_, rfl, rfl⟩ ?_
  refine tk_freeze (pre := []) rfl (fun Fy hFy hNy hKy => ?_)
  have hL := pk_lit [(whole ⟨0, 0, 3, 100, 0⟩)] hKy rfl
  refine o1 rfl (det_call hb12 rfl rfl (fun w1 hs => check_at hs.know hL (by decide) (show _ = (461 : Int) by rfl))) rfl rfl ⟨_, rfl, rfl⟩ ?_
  refine o1 rfl (det_eql rfl rfl) rfl rfl ⟨_, rfl, rfl⟩ ?_
  refine o1 rfl (det_pickT rfl rfl) rfl rfl trivial ?_
  refine o2P beq_iff_eq rfl (det_move rfl) rfl rfl trivial (fun hb => ?_) (fun hb => ?_)
  rotate_left
  · exfalso; first | exact hb rfl | simp at hb | (revert hb; decide)
  refine o1 rfl (det_call hb28 rfl rfl (fun w1 hs => frame_ok hs.know)) rfl rfl ⟨_, rfl, rfl⟩ ?_
  refine o1 rfl (det_build rfl (fun w => bld28_0_1 _ _ _ _ _ _ w)) rfl rfl ⟨_, rfl, rfl⟩ ?_
  refine o1 rfl (det_call hb28 rfl rfl (fun w1 hs => frame_ok hs.know)) rfl rfl ⟨_, rfl, rfl⟩ ?_
  refine o1 rfl (det_build rfl (fun w => bld28_0_1_2 _ _ _ _ _ _ _ w)) rfl rfl ⟨_, rfl, rfl⟩ ?_
  refine om1 rfl (new_buildSlice rfl (fun w => bsl22_2_0_1 _ _ _ _ _ _ _ _ _ _ _ _ _ _ w)) rfl rfl ⟨_, rfl, rfl⟩ (fun p140 => ?_)
  refine o1 rfl (det_build rfl (fun w => bld24_0_1 _ _ _ _ w)) rfl rfl ⟨_, rfl, rfl⟩ ?_
  refine tk_freeze (pre := []) rfl (fun Fz hFz hNz hKz => ?_)
  have hL := pk_lit [(whole ⟨0, 0, 3, 100, 0⟩), ⟨⟨0, 0, 3, 200, 0⟩, 160, true⟩] hKz rfl
  refine o1 rfl (det_call hb12 rfl rfl (fun w1 hs => check_at hs.know hL (by decide) (show _ = (461 : Int) by rfl))) rfl rfl ⟨_, rfl, rfl⟩ ?_
  refine o1 rfl (det_eql rfl rfl) rfl rfl ⟨_, rfl, rfl⟩ ?_
  refine o1 rfl (det_pickT rfl rfl) rfl rfl trivial ?_
  refine o1 rfl (det_assign rfl) rfl rfl trivial ?_
  refine be rfl ?_
  refine k_then ?_
  refine t_seq ?_
  refine b0 ?_
  refine o1 rfl (det_move rfl) rfl rfl trivial ?_
  refine o1 rfl (det_eql rfl rfl) rfl rfl trivial ?_
  refine o2P beq_iff_eq rfl (det_move rfl) rfl rfl trivial (fun hb => ?_) (fun hb => ?_)
  rotate_left
  · exfalso; first | exact hb rfl | simp at hb | (revert hb; decide)
  refine o1 rfl (det_move rfl) rfl rfl ⟨_, rfl, rfl⟩ ?_
  refine o1 rfl (det_eql rfl rfl) rfl rfl ⟨_, rfl, rfl⟩ ?_
  refine o1 rfl (det_pickT rfl rfl) rfl rfl trivial ?_
  refine o2P beq_iff_eq rfl (det_move rfl) rfl rfl trivial (fun hb => ?_) (fun hb => ?_)
  rotate_left
  · exfalso; first | exact hb rfl | simp at hb | (revert hb; decide)
  refine o1 rfl (det_move rfl) rfl rfl ⟨_, rfl, rfl⟩ ?_
  refine o1 rfl (det_not rfl) rfl rfl ⟨_, rfl, rfl⟩ ?_
  refine o1 rfl (det_pickT rfl rfl) rfl rfl trivial ?_
  refine o2P not_iff_false rfl (det_move rfl) rfl rfl trivial (fun hb => ?_) (fun hb => ?_)
  rotate_left
  · exfalso; first | exact hb rfl | simp at hb | (revert hb; decide)
  refine o1 rfl (det_move rfl) rfl rfl ⟨_, rfl, rfl⟩ ?_
  refine o1 rfl (det_eql rfl rfl) rfl rfl ⟨_, rfl, rfl⟩ ?_
  refine o1 rfl (det_pickT rfl rfl) rfl rfl trivial ?_
  refine o2P beq_iff_eq rfl (det_move rfl) rfl rfl trivial (fun hb => ?_) (fun hb => ?_)
  rotate_left
  · exfalso; first | exact hb rfl | simp at hb | (revert hb; decide)
  refine o1 rfl (det_move rfl) rfl rfl ⟨_, rfl, rfl⟩ ?_
  refine o1 rfl (det_eql rfl rfl) rfl rfl ⟨_, rfl, rfl⟩ ?_
  refine o1 rfl (det_pickT rfl rfl) rfl rfl trivial ?_
  refine o2P beq_iff_eq rfl (det_move rfl) rfl rfl trivial (fun hb => ?_) (fun hb => ?_)
  rotate_left
  · exfalso; first | exact hb rfl | simp at hb | (revert hb; decide)
  refine o1 rfl (det_fieldAddr fld28_1 rfl) rfl rfl ⟨_, rfl, rfl⟩ ?_
  refine o1 rfl (det_load1 t1_3 rfl rfl (.tail _ (.tail _ (.head _))) rfl) rfl rfl ⟨_, rfl, rfl⟩ ?_
  refine o1 rfl (det_eql rfl rfl) rfl rfl ⟨_, rfl, rfl⟩ ?_
  refine o1 rfl (det_pickT rfl rfl) rfl rfl trivial ?_
  refine o2P beq_iff_eq rfl (det_move rfl) rfl rfl trivial (fun hb => ?_) (fun hb => ?_)
  rotate_left
  · exfalso; first | exact hb rfl | simp at hb | (revert hb; decide)
  refine o1 rfl (det_move rfl) rfl rfl ⟨_, rfl, rfl⟩ ?_
  refine o1 rfl (det_eql rfl rfl) rfl rfl ⟨_, rfl, rfl⟩ ?_
  refine o1 rfl (det_pickT rfl rfl) rfl rfl trivial ?_
  refine o2P beq_iff_eq rfl (det_move rfl) rfl rfl trivial (fun hb => ?_) (fun hb => ?_)
  rotate_left
  · exfalso; first | exact hb rfl | simp at hb | (revert hb; decide)
  refine o1 rfl (det_move rfl) rfl rfl ⟨_, rfl, rfl⟩ ?_
  refine o1 rfl (det_eql rfl rfl) rfl rfl ⟨_, rfl, rfl⟩ ?_
  refine o1 rfl (det_pickT rfl rfl) rfl rfl trivial ?_
  refine o2P beq_iff_eq rfl (det_move rfl) rfl rfl trivial (fun hb => ?_) (fun hb => ?_)
  rotate_left
  · exfalso; first | exact hb rfl | simp at hb | (revert hb; decide)
  refine o1 rfl (det_move rfl) rfl rfl ⟨_, rfl, rfl⟩ ?_
  refine o1 rfl (det_not rfl) rfl rfl ⟨_, rfl, rfl⟩ ?_
  refine o1 rfl (det_pickT rfl rfl) rfl rfl trivial ?_
  refine o2P not_iff_false rfl (det_move rfl) rfl rfl trivial (fun hb => ?_) (fun hb => ?_)
  rotate_left
  · exfalso; first | exact hb rfl | simp at hb | (revert hb; decide)
  refine o1 rfl (det_move rfl) rfl rfl ⟨_, rfl, rfl⟩ ?_
  refine o1 rfl (det_eql rfl rfl) rfl rfl ⟨_, rfl, rfl⟩ ?_
  refine o1 rfl (det_pickT rfl rfl) rfl rfl trivial ?_
  refine o2P beq_iff_eq rfl (det_move rfl) rfl rfl trivial (fun hb => ?_) (fun hb => ?_)
  rotate_left
  · exfalso; first | exact hb rfl | simp at hb | (revert hb; decide)
  refine o1 rfl (det_move rfl) rfl rfl ⟨_, rfl, rfl⟩ ?_
  refine o1 rfl (det_eql rfl rfl) rfl rfl ⟨_, rfl, rfl⟩ ?_
  refine o1 rfl (det_pickT rfl rfl) rfl rfl trivial ?_
  refine o2P beq_iff_eq rfl (det_move rfl) rfl rfl trivial (fun hb => ?_) (fun hb => ?_)
  rotate_left
  · exfalso; first | exact hb rfl | simp at hb | (revert hb; decide)
  refine o1 rfl (det_move rfl) rfl rfl ⟨_, rfl, rfl⟩ ?_
  refine o1 rfl (det_eql rfl rfl) rfl rfl ⟨_, rfl, rfl⟩ ?_
  refine o1 rfl (det_pickT rfl rfl) rfl rfl trivial ?_
  refine o2P beq_iff_eq rfl (det_move rfl) rfl rfl trivial (fun hb => ?_) (fun hb => ?_)
  rotate_left
  · exfalso; first | exact hb rfl | simp at hb | (revert hb; decide)
  refine o1 rfl (det_move rfl) rfl rfl ⟨_, rfl, rfl⟩ ?_
  refine o1 rfl (det_eql rfl rfl) rfl rfl ⟨_, rfl, rfl⟩ ?_
  refine o1 rfl (det_pickT rfl rfl) rfl rfl trivial ?_
  refine o2P beq_iff_eq rfl (det_move rfl) rfl rfl trivial (fun hb => ?_) (fun hb => ?_)
  rotate_left
  · exfalso; first | exact hb rfl | simp at hb | (revert hb; decide)
  refine o1 rfl (det_move rfl) rfl rfl ⟨_, rfl, rfl⟩ ?_
  refine o1 rfl (det_eql rfl rfl) rfl rfl ⟨_, rfl, rfl⟩ ?_
  refine o1 rfl (det_pickT rfl rfl) rfl rfl trivial ?_
  refine o2P beq_iff_eq rfl (det_move rfl) rfl rfl trivial (fun hb => ?_) (fun hb => ?_)
  rotate_left
  · exfalso; first | exact hb rfl | simp at hb | (revert hb; decide)
  refine o1 rfl (det_move rfl) rfl rfl ⟨_, rfl, rfl⟩ ?_
  refine o1 rfl (det_pickT rfl rfl) rfl rfl trivial ?_
  refine o2P beq_iff_eq rfl (det_move rfl) rfl rfl trivial (fun hb => ?_) (fun hb => ?_)
  rotate_left
  · exfalso; first | exact hb rfl | simp at hb | (revert hb; decide)
  refine o1 rfl (det_move rfl) rfl rfl ⟨_, rfl, rfl⟩ ?_
  refine o1 rfl (det_pickT rfl rfl) rfl rfl trivial ?_
  refine o1 rfl (det_assign rfl) rfl rfl trivial ?_
  refine be rfl ?_
  refine k_then ?_
  refine t_ret ?_
  refine ret_tmp rfl rfl rfl (fun w1 hs => ?_)
  exact ⟨rfl, hs.keep⟩

end Go.Proofs.Qu
