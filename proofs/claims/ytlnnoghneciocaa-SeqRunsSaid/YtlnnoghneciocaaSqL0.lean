/-
  Walks through layer 39 and its reference.
-/
import Derived.Test.YtlnnoghneciocaaSqK2
namespace Go.Proofs.Sq
open Go Go.Eng Go.Sq
set_option maxRecDepth 4000

/-- works. -/
theorem works_ok {w : World} {F : Know} (hF : ∀ a v, F a = some v → w.cell? a = some v)  : Pure Try.prog 9 [] w (.bool true) := by
  refine fn_pure (F := F) Try.func9 rfl Try.ntmps9 rfl hF ?_
  refine t_seq ?_
  refine b0 ?_
  refine o1 rfl (det_assign rfl) rfl rfl trivial ?_
  refine be rfl ?_
  refine k_then ?_
  refine t_seq ?_
  refine b0 ?_
  refine oF nofun rfl hb18 rfl rfl rfl trivial (fun w1 hs => (next_ok hs.know RowsK.nil (Nat.zero_le _) (Nat.le_refl _) (Nat.zero_le _) (t := 5) (show nextL [] 5 = (([⟨5, 1⟩], 0), 0) by rfl)).any) (fun va Fa hFa hNa ⟨Aa, na, ca, hv, hna, hma, hPa⟩ => ?_)
  subst hv
  
  refine o1 rfl (det_move rfl) rfl rfl trivial ?_
  refine o1 rfl (det_extract rfl rfl) rfl rfl trivial ?_
  refine o1 rfl (det_extract rfl rfl) rfl rfl trivial ?_
  refine o1 rfl (det_extract rfl rfl) rfl rfl trivial ?_
  refine o1 rfl (det_assign rfl) rfl rfl trivial ?_
  refine o1 rfl (det_assign rfl) rfl rfl trivial ?_
  refine o1 rfl (det_assign rfl) rfl rfl trivial ?_
  refine be rfl ?_
  refine k_then ?_
  refine t_seq ?_
  refine b0 ?_
  refine o1 rfl (det_build rfl (fun w => bld50_0_1 _ _ w)) rfl rfl trivial ?_
  refine o1 rfl (det_build rfl (fun w => bld50_0_1 _ _ w)) rfl rfl trivial ?_
  refine om1 rfl (new_buildSlice rfl (fun w => bsl46_2_0_1 _ _ _ _ w)) rfl rfl trivial (fun p34 => ?_)
  refine tk_freeze (pre := []) rfl (fun Fx hFx hNx hKx => ?_)
  replace hPa := hPa.mono hFx
  have hPx := ck_lit [⟨3, 65535⟩, ⟨9, 4⟩] hKx rfl
  have hnx : 2 ≤ 2 := Nat.le_refl _
  have hmx : 2 ≤ maxLen := by decide
  refine oF nofun rfl hb18 rfl rfl rfl trivial (fun w1 hs => (next_ok hs.know hPx (by rw [hPx.len]; decide) hnx hmx (t := 3) (show nextL [⟨3, 65535⟩, ⟨9, 4⟩] 3 = (([⟨3, 0⟩, ⟨9, 4⟩], 65535), 0) by rfl)).any) (fun vb Fb hFb hNb ⟨Ab, nb, cb, hv, hnb, hmb, hPb⟩ => ?_)
  subst hv
  replace hPa := hPa.mono hFb
  replace hPx := hPx.mono hFb
  refine o1 rfl (det_move rfl) rfl rfl trivial ?_
  refine o1 rfl (det_extract rfl rfl) rfl rfl trivial ?_
  refine o1 rfl (det_extract rfl rfl) rfl rfl trivial ?_
  refine o1 rfl (det_extract rfl rfl) rfl rfl trivial ?_
  refine o1 rfl (det_assign rfl) rfl rfl trivial ?_
  refine o1 rfl (det_assign rfl) rfl rfl trivial ?_
  refine o1 rfl (det_assign rfl) rfl rfl trivial ?_
  refine be rfl ?_
  refine k_then ?_
  refine t_seq ?_
  refine b0 ?_
  refine o1 rfl (det_move rfl) rfl rfl trivial ?_
  refine oF nofun rfl hb18 rfl rfl rfl trivial (fun w1 hs => (next_ok hs.know hPb (by rw [hPb.len]; decide) hnb hmb (t := 7) (show nextL [⟨3, 0⟩, ⟨9, 4⟩] 7 = (([⟨3, 0⟩, ⟨7, 1⟩, ⟨9, 4⟩], 0), 0) by rfl)).any) (fun vc Fc hFc hNc ⟨Ac, nc, cc, hv, hnc, hmc, hPc⟩ => ?_)
  subst hv
  replace hPa := hPa.mono hFc
  replace hPx := hPx.mono hFc
  replace hPb := hPb.mono hFc
  refine o1 rfl (det_move rfl) rfl rfl trivial ?_
  refine o1 rfl (det_extract rfl rfl) rfl rfl trivial ?_
  refine o1 rfl (det_extract rfl rfl) rfl rfl trivial ?_
  refine o1 rfl (det_extract rfl rfl) rfl rfl trivial ?_
  refine o1 rfl (det_assign rfl) rfl rfl trivial ?_
  refine o1 rfl (det_assign rfl) rfl rfl trivial ?_
  refine o1 rfl (det_assign rfl) rfl rfl trivial ?_
  refine be rfl ?_
  refine k_then ?_
  refine t_seq ?_
  refine b0 ?_
  refine o1 rfl (det_call hb10 rfl rfl (fun w1 hs => delta_at hs.know (a := 65535) (b := 1) (show _ = ((2 : Int), (0 : Int)) by rfl))) rfl rfl trivial ?_
  refine o1 rfl (det_move rfl) rfl rfl trivial ?_
  refine o1 rfl (det_extract rfl rfl) rfl rfl trivial ?_
  refine o1 rfl (det_extract rfl rfl) rfl rfl trivial ?_
  refine o1 rfl (det_assign rfl) rfl rfl trivial ?_
  refine o1 rfl (det_assign rfl) rfl rfl trivial ?_
  refine be rfl ?_
  refine k_then ?_
  refine t_seq ?_
  refine b0 ?_
  refine o1 rfl (det_call hb10 rfl rfl (fun w1 hs => delta_at hs.know (a := 0) (b := 32768) (show _ = ((-32768 : Int), (0 : Int)) by rfl))) rfl rfl trivial ?_
  refine o1 rfl (det_move rfl) rfl rfl trivial ?_
  refine o1 rfl (det_extract rfl rfl) rfl rfl trivial ?_
  refine o1 rfl (det_extract rfl rfl) rfl rfl trivial ?_
  refine o1 rfl (det_assign rfl) rfl rfl trivial ?_
  refine o1 rfl (det_assign rfl) rfl rfl trivial ?_
  refine be rfl ?_
  refine k_then ?_
  refine t_seq ?_
  refine b0 ?_
  refine o1 rfl (det_call hb11 rfl rfl (fun w1 hs => after_at hs.know (a := 1) (b := -2) (show _ = ((65535 : Int), (0 : Int)) by rfl))) rfl rfl trivial ?_
  refine o1 rfl (det_move rfl) rfl rfl trivial ?_
  refine o1 rfl (det_extract rfl rfl) rfl rfl trivial ?_
  refine o1 rfl (det_extract rfl rfl) rfl rfl trivial ?_
  refine o1 rfl (det_assign rfl) rfl rfl trivial ?_
  refine o1 rfl (det_assign rfl) rfl rfl trivial ?_
  refine be rfl ?_
  refine k_then ?_
  refine t_seq ?_
  refine b0 ?_
  refine o1 rfl (det_call hb11 rfl rfl (fun w1 hs => after_at hs.know (a := 0) (b := 65536) (show _ = ((0 : Int), (0 : Int)) by rfl))) rfl rfl trivial ?_
  refine o1 rfl (det_move rfl) rfl rfl trivial ?_
  refine o1 rfl (det_extract rfl rfl) rfl rfl trivial ?_
  refine o1 rfl (det_extract rfl rfl) rfl rfl trivial ?_
  refine o1 rfl (det_assign rfl) rfl rfl trivial ?_
  refine o1 rfl (det_assign rfl) rfl rfl trivial ?_
  refine be rfl ?_
  refine k_then ?_
  refine t_seq ?_
  refine b0 ?_
  refine o1 rfl (det_call hb11 rfl rfl (fun w1 hs => after_at hs.know (a := 65536) (b := 0) (show _ = ((0 : Int), (2 : Int)) by rfl))) rfl rfl trivial ?_
  refine o1 rfl (det_move rfl) rfl rfl trivial ?_
  refine o1 rfl (det_extract rfl rfl) rfl rfl trivial ?_
  refine o1 rfl (det_extract rfl rfl) rfl rfl trivial ?_
  refine o1 rfl (det_assign rfl) rfl rfl trivial ?_
  refine o1 rfl (det_assign rfl) rfl rfl trivial ?_
  refine be rfl ?_
  refine k_then ?_
  refine t_seq ?_
  refine b0 ?_
  refine oF nofun rfl hb18 rfl rfl rfl trivial (fun w1 hs => (next_ok hs.know RowsK.nil (Nat.zero_le _) (Nat.le_refl _) (Nat.zero_le _) (t := 0) (show nextL [] 0 = (([], 0), 2) by rfl)).any) (fun vd Fd hFd hNd ⟨Ad, nd, cd, hv, hnd, hmd, hPd⟩ => ?_)
  subst hv
  replace hPa := hPa.mono hFd
  replace hPx := hPx.mono hFd
  replace hPb := hPb.mono hFd
  replace hPc := hPc.mono hFd
  refine o1 rfl (det_move rfl) rfl rfl trivial ?_
  refine o1 rfl (det_extract rfl rfl) rfl rfl trivial ?_
  refine o1 rfl (det_extract rfl rfl) rfl rfl trivial ?_
  refine o1 rfl (det_extract rfl rfl) rfl rfl trivial ?_
  refine o1 rfl (det_assign rfl) rfl rfl trivial ?_
  refine o1 rfl (det_assign rfl) rfl rfl trivial ?_
  refine o1 rfl (det_assign rfl) rfl rfl trivial ?_
  refine be rfl ?_
  refine k_then ?_
  refine t_seq ?_
  refine b0 ?_
  refine o1 rfl (det_build rfl (fun w => bld31_0 _ w)) rfl rfl trivial ?_
  refine oF nofun rfl hb15 rfl rfl rfl trivial (fun w1 hs => (copies_ok hs.know (rs := []) RowsK.nil (Nat.zero_le _) (x := ⟨1, 0, 0, 0, 0⟩)).any) (fun ve Fe hFe hNe ⟨Ae, ne, ce, hv, hne, hme, hRe⟩ => ?_)
  rw [show okCp ⟨1, 0, 0, 0, 0⟩ [] = false by rfl] at hv
  subst hv
  replace hPa := hPa.mono hFe
  replace hPx := hPx.mono hFe
  replace hPb := hPb.mono hFe
  replace hPc := hPc.mono hFe
  replace hPd := hPd.mono hFe
  refine o1 rfl (det_move rfl) rfl rfl trivial ?_
  refine o1 rfl (det_extract rfl rfl) rfl rfl trivial ?_
  refine o1 rfl (det_extract rfl rfl) rfl rfl trivial ?_
  refine o1 rfl (det_assign rfl) rfl rfl trivial ?_
  refine o1 rfl (det_assign rfl) rfl rfl trivial ?_
  refine be rfl ?_
  refine k_then ?_
  refine t_seq ?_
  refine b0 ?_
  refine o1 rfl (det_move rfl) rfl rfl trivial ?_
  refine o1 rfl (det_eql rfl rfl) rfl rfl trivial ?_
  refine o2P beq_iff_eq rfl (det_move rfl) rfl rfl trivial (fun hb => ?_) (fun hb => ?_)
  rotate_left
  · exfalso; first | exact hb rfl | simp at hb | (revert hb; decide)
  refine o1 rfl (det_move rfl) rfl rfl ⟨_, rfl, rfl⟩ ?_
  refine o1 rfl (det_eql rfl rfl) rfl rfl ⟨_, rfl, rfl⟩ ?_
  refine o1 rfl (det_pickT rfl rfl) rfl rfl trivial ?_
  refine o2P beq_iff_eq rfl (det_move rfl) rfl rfl trivial (fun hb => ?_) (fun hb => ?_)
  rotate_left
  · exfalso; first | exact hb rfl | simp at hb | (revert hb; decide)
  refine o1 rfl (det_move rfl) rfl rfl ⟨_, rfl, rfl⟩ ?_
  refine o1 rfl (det_eql rfl rfl) rfl rfl ⟨_, rfl, rfl⟩ ?_
  refine o1 rfl (det_pickT rfl rfl) rfl rfl trivial ?_
  refine o2P beq_iff_eq rfl (det_move rfl) rfl rfl trivial (fun hb => ?_) (fun hb => ?_)
  rotate_left
  · exfalso; first | exact hb rfl | simp at hb | (revert hb; decide)
  refine o1 rfl (det_move rfl) rfl rfl ⟨_, rfl, rfl⟩ ?_
  refine o1 rfl (det_eql rfl rfl) rfl rfl ⟨_, rfl, rfl⟩ ?_
  refine o1 rfl (det_pickT rfl rfl) rfl rfl trivial ?_
  refine o2P beq_iff_eq rfl (det_move rfl) rfl rfl trivial (fun hb => ?_) (fun hb => ?_)
  rotate_left
  · exfalso; first | exact hb rfl | simp at hb | (revert hb; decide)
  refine o1 rfl (det_move rfl) rfl rfl ⟨_, rfl, rfl⟩ ?_
  refine o1 rfl (det_eql rfl rfl) rfl rfl ⟨_, rfl, rfl⟩ ?_
  refine o1 rfl (det_pickT rfl rfl) rfl rfl trivial ?_
  refine o2P beq_iff_eq rfl (det_move rfl) rfl rfl trivial (fun hb => ?_) (fun hb => ?_)
  rotate_left
  · exfalso; first | exact hb rfl | simp at hb | (revert hb; decide)
  refine o1 rfl (det_move rfl) rfl rfl ⟨_, rfl, rfl⟩ ?_
  refine o1 rfl (det_eql rfl rfl) rfl rfl ⟨_, rfl, rfl⟩ ?_
  refine o1 rfl (det_pickT rfl rfl) rfl rfl trivial ?_
  refine o2P beq_iff_eq rfl (det_move rfl) rfl rfl trivial (fun hb => ?_) (fun hb => ?_)
  rotate_left
  · exfalso; first | exact hb rfl | simp at hb | (revert hb; decide)
  refine o1 rfl (det_move rfl) rfl rfl ⟨_, rfl, rfl⟩ ?_
  refine o1 rfl (det_eql rfl rfl) rfl rfl ⟨_, rfl, rfl⟩ ?_
  refine o1 rfl (det_pickT rfl rfl) rfl rfl trivial ?_
  refine o2P beq_iff_eq rfl (det_move rfl) rfl rfl trivial (fun hb => ?_) (fun hb => ?_)
  rotate_left
  · exfalso; first | exact hb rfl | simp at hb | (revert hb; decide)
  refine o1 rfl (det_move rfl) rfl rfl ⟨_, rfl, rfl⟩ ?_
  refine o1 rfl (det_eql rfl rfl) rfl rfl ⟨_, rfl, rfl⟩ ?_
  refine o1 rfl (det_pickT rfl rfl) rfl rfl trivial ?_
  refine o2P beq_iff_eq rfl (det_move rfl) rfl rfl trivial (fun hb => ?_) (fun hb => ?_)
  rotate_left
  · exfalso; first | exact hb rfl | simp at hb | (revert hb; decide)
  refine o1 rfl (det_move rfl) rfl rfl ⟨_, rfl, rfl⟩ ?_
  refine o1 rfl (det_eql rfl rfl) rfl rfl ⟨_, rfl, rfl⟩ ?_
  refine o1 rfl (det_pickT rfl rfl) rfl rfl trivial ?_
  refine o2P beq_iff_eq rfl (det_move rfl) rfl rfl trivial (fun hb => ?_) (fun hb => ?_)
  rotate_left
  · exfalso; first | exact hb rfl | simp at hb | (revert hb; decide)
  refine o1 rfl (det_move rfl) rfl rfl ⟨_, rfl, rfl⟩ ?_
  refine o1 rfl (det_eql rfl rfl) rfl rfl ⟨_, rfl, rfl⟩ ?_
  refine o1 rfl (det_pickT rfl rfl) rfl rfl trivial ?_
  refine o1 rfl (det_assign rfl) rfl rfl trivial ?_
  refine be rfl ?_
  refine k_then ?_
  refine t_seq ?_
  refine b0 ?_
  refine o1 rfl (det_move rfl) rfl rfl trivial ?_
  refine o2P beq_iff_eq rfl (det_move rfl) rfl rfl trivial (fun hb => ?_) (fun hb => ?_)
  rotate_left
  · exfalso; first | exact hb rfl | simp at hb | (revert hb; decide)
  refine o1 rfl (det_move rfl) rfl rfl ⟨_, rfl, rfl⟩ ?_
  refine o1 rfl (det_build rfl (fun w => bld50_0_1 _ _ w)) rfl rfl ⟨_, rfl, rfl⟩ ?_
  refine om1 rfl (new_buildSlice rfl (fun w => bsl46_1_0 _ _ w)) rfl rfl ⟨_, rfl, rfl⟩ (fun p117 => ?_)
  refine tk_freeze (pre := []) rfl (fun Fy hFy hNy hKy => ?_)
  replace hPa := hPa.mono hFy
  replace hPx := hPx.mono hFy
  replace hPb := hPb.mono hFy
  replace hPc := hPc.mono hFy
  replace hPd := hPd.mono hFy
  have hPy := ck_lit [⟨5, 1⟩] hKy rfl
  have hny : 1 ≤ 1 := Nat.le_refl _
  have hmy : 1 ≤ maxLen := by decide
  refine o1 rfl (det_call hb24 rfl rfl (fun w1 hs => equal_at hs.know hPa hPy (by rw [hPa.len]; decide) (show decide _ = true by rfl))) rfl rfl ⟨_, rfl, rfl⟩ ?_
  refine o1 rfl (det_pickT rfl rfl) rfl rfl trivial ?_
  refine o2P Iff.rfl rfl (det_move rfl) rfl rfl trivial (fun hb => ?_) (fun hb => ?_)
  rotate_left
  · exfalso; first | exact hb rfl | simp at hb | (revert hb; decide)
  refine o1 rfl (det_move rfl) rfl rfl ⟨_, rfl, rfl⟩ ?_
  refine o1 rfl (det_eql rfl rfl) rfl rfl ⟨_, rfl, rfl⟩ ?_
  refine o1 rfl (det_pickT rfl rfl) rfl rfl trivial ?_
  refine o2P beq_iff_eq rfl (det_move rfl) rfl rfl trivial (fun hb => ?_) (fun hb => ?_)
  rotate_left
  · exfalso; first | exact hb rfl | simp at hb | (revert hb; decide)
  refine o1 rfl (det_move rfl) rfl rfl ⟨_, rfl, rfl⟩ ?_
  refine o1 rfl (det_build rfl (fun w => bld50_0 _ w)) rfl rfl ⟨_, rfl, rfl⟩ ?_
  refine o1 rfl (det_build rfl (fun w => bld50_0_1 _ _ w)) rfl rfl ⟨_, rfl, rfl⟩ ?_
  refine om1 rfl (new_buildSlice rfl (fun w => bsl46_2_0_1 _ _ _ _ w)) rfl rfl ⟨_, rfl, rfl⟩ (fun p128 => ?_)
  refine tk_freeze (pre := []) rfl (fun Fz hFz hNz hKz => ?_)
  replace hPa := hPa.mono hFz
  replace hPx := hPx.mono hFz
  replace hPb := hPb.mono hFz
  replace hPc := hPc.mono hFz
  replace hPd := hPd.mono hFz
  replace hPy := hPy.mono hFz
  have hPz := ck_lit [⟨3, 0⟩, ⟨9, 4⟩] hKz rfl
  have hnz : 2 ≤ 2 := Nat.le_refl _
  have hmz : 2 ≤ maxLen := by decide
  refine o1 rfl (det_call hb24 rfl rfl (fun w1 hs => equal_at hs.know hPb hPz (by rw [hPb.len]; decide) (show decide _ = true by rfl))) rfl rfl ⟨_, rfl, rfl⟩ ?_
  refine o1 rfl (det_pickT rfl rfl) rfl rfl trivial ?_
  refine o2P Iff.rfl rfl (det_move rfl) rfl rfl trivial (fun hb => ?_) (fun hb => ?_)
  rotate_left
  · exfalso; first | exact hb rfl | simp at hb | (revert hb; decide)
  refine o1 rfl (det_move rfl) rfl rfl ⟨_, rfl, rfl⟩ ?_
  refine o1 rfl (det_eql rfl rfl) rfl rfl ⟨_, rfl, rfl⟩ ?_
  refine o1 rfl (det_pickT rfl rfl) rfl rfl trivial ?_
  refine o1 rfl (det_assign rfl) rfl rfl trivial ?_
  refine be rfl ?_
  refine k_then ?_
  refine t_seq ?_
  refine b0 ?_
  refine o1 rfl (det_move rfl) rfl rfl trivial ?_
  refine o2P beq_iff_eq rfl (det_move rfl) rfl rfl trivial (fun hb => ?_) (fun hb => ?_)
  rotate_left
  · exfalso; first | exact hb rfl | simp at hb | (revert hb; decide)
  refine o1 rfl (det_move rfl) rfl rfl ⟨_, rfl, rfl⟩ ?_
  refine o1 rfl (det_build rfl (fun w => bld50_0 _ w)) rfl rfl ⟨_, rfl, rfl⟩ ?_
  refine o1 rfl (det_build rfl (fun w => bld50_0_1 _ _ w)) rfl rfl ⟨_, rfl, rfl⟩ ?_
  refine o1 rfl (det_build rfl (fun w => bld50_0_1 _ _ w)) rfl rfl ⟨_, rfl, rfl⟩ ?_
  refine om1 rfl (new_buildSlice rfl (fun w => bsl46_3_0_1_2 _ _ _ _ _ _ w)) rfl rfl ⟨_, rfl, rfl⟩ (fun p141 => ?_)
  refine tk_freeze (pre := []) rfl (fun Fu hFu hNu hKu => ?_)
  replace hPa := hPa.mono hFu
  replace hPx := hPx.mono hFu
  replace hPb := hPb.mono hFu
  replace hPc := hPc.mono hFu
  replace hPd := hPd.mono hFu
  replace hPy := hPy.mono hFu
  replace hPz := hPz.mono hFu
  have hPu := ck_lit [⟨3, 0⟩, ⟨7, 1⟩, ⟨9, 4⟩] hKu rfl
  have hnu : 3 ≤ 3 := Nat.le_refl _
  have hmu : 3 ≤ maxLen := by decide
  refine o1 rfl (det_call hb24 rfl rfl (fun w1 hs => equal_at hs.know hPc hPu (by rw [hPc.len]; decide) (show decide _ = true by rfl))) rfl rfl ⟨_, rfl, rfl⟩ ?_
  refine o1 rfl (det_pickT rfl rfl) rfl rfl trivial ?_
  refine o2P Iff.rfl rfl (det_move rfl) rfl rfl trivial (fun hb => ?_) (fun hb => ?_)
  rotate_left
  · exfalso; first | exact hb rfl | simp at hb | (revert hb; decide)
  refine o1 rfl (det_move rfl) rfl rfl ⟨_, rfl, rfl⟩ ?_
  refine o1 rfl (det_eql rfl rfl) rfl rfl ⟨_, rfl, rfl⟩ ?_
  refine o1 rfl (det_pickT rfl rfl) rfl rfl trivial ?_
  refine o1 rfl (det_assign rfl) rfl rfl trivial ?_
  refine be rfl ?_
  refine k_then ?_
  refine t_seq ?_
  refine b0 ?_
  refine o1 rfl (det_move rfl) rfl rfl trivial ?_
  refine o2P beq_iff_eq rfl (det_move rfl) rfl rfl trivial (fun hb => ?_) (fun hb => ?_)
  rotate_left
  · exfalso; first | exact hb rfl | simp at hb | (revert hb; decide)
  refine o1 rfl (det_move rfl) rfl rfl ⟨_, rfl, rfl⟩ ?_
  refine o1 rfl (det_eql rfl rfl) rfl rfl ⟨_, rfl, rfl⟩ ?_
  refine o1 rfl (det_pickT rfl rfl) rfl rfl trivial ?_
  refine o2P beq_iff_eq rfl (det_move rfl) rfl rfl trivial (fun hb => ?_) (fun hb => ?_)
  rotate_left
  · exfalso; first | exact hb rfl | simp at hb | (revert hb; decide)
  refine o1 rfl (det_move rfl) rfl rfl ⟨_, rfl, rfl⟩ ?_
  refine o1 rfl (det_eql rfl rfl) rfl rfl ⟨_, rfl, rfl⟩ ?_
  refine o1 rfl (det_pickT rfl rfl) rfl rfl trivial ?_
  refine o2P beq_iff_eq rfl (det_move rfl) rfl rfl trivial (fun hb => ?_) (fun hb => ?_)
  rotate_left
  · exfalso; first | exact hb rfl | simp at hb | (revert hb; decide)
  refine o1 rfl (det_move rfl) rfl rfl ⟨_, rfl, rfl⟩ ?_
  refine o1 rfl (det_eql rfl rfl) rfl rfl ⟨_, rfl, rfl⟩ ?_
  refine o1 rfl (det_pickT rfl rfl) rfl rfl trivial ?_
  refine o2P beq_iff_eq rfl (det_move rfl) rfl rfl trivial (fun hb => ?_) (fun hb => ?_)
  rotate_left
  · exfalso; first | exact hb rfl | simp at hb | (revert hb; decide)
  refine o1 rfl (det_move rfl) rfl rfl ⟨_, rfl, rfl⟩ ?_
  refine o1 rfl (det_eql rfl rfl) rfl rfl ⟨_, rfl, rfl⟩ ?_
  refine o1 rfl (det_pickT rfl rfl) rfl rfl trivial ?_
  refine o2P beq_iff_eq rfl (det_move rfl) rfl rfl trivial (fun hb => ?_) (fun hb => ?_)
  rotate_left
  · exfalso; first | exact hb rfl | simp at hb | (revert hb; decide)
  refine o1 rfl (det_build rfl (fun w => bld50_0 _ w)) rfl rfl ⟨_, rfl, rfl⟩ ?_
  refine o1 rfl (det_build rfl (fun w => bld50_0 _ w)) rfl rfl ⟨_, rfl, rfl⟩ ?_
  refine om1 rfl (new_buildSlice rfl (fun w => bsl46_2_0_1 _ _ _ _ w)) rfl rfl ⟨_, rfl, rfl⟩ (fun p168 => ?_)
  refine tk_freeze (pre := []) rfl (fun Fv hFv hNv hKv => ?_)
  replace hPa := hPa.mono hFv
  replace hPx := hPx.mono hFv
  replace hPb := hPb.mono hFv
  replace hPc := hPc.mono hFv
  replace hPd := hPd.mono hFv
  replace hPy := hPy.mono hFv
  replace hPz := hPz.mono hFv
  replace hPu := hPu.mono hFv
  have hPv := ck_lit [⟨9, 0⟩, ⟨3, 0⟩] hKv rfl
  have hnv : 2 ≤ 2 := Nat.le_refl _
  have hmv : 2 ≤ maxLen := by decide
  refine o1 rfl (det_call hb19 rfl rfl (fun w1 hs => check_at hs.know hPv (show _ = (490 : Int) by rfl))) rfl rfl ⟨_, rfl, rfl⟩ ?_
  refine o1 rfl (det_eql rfl rfl) rfl rfl ⟨_, rfl, rfl⟩ ?_
  refine o1 rfl (det_pickT rfl rfl) rfl rfl trivial ?_
  refine o1 rfl (det_assign rfl) rfl rfl trivial ?_
  refine be rfl ?_
  refine k_then ?_
  refine t_ret ?_
  refine ret_tmp rfl rfl rfl (fun w1 hs => ?_)
  exact ⟨rfl, hs.keep⟩

end Go.Proofs.Sq
