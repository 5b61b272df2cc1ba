/-
  Walks through layer 39 and its reference.
-/
import Derived.Test.YtlnnoghneciocaaSqL0
import Derived.Test.YtlnnoghneciocaaSqW7
import Derived.Test.YtlnnoghneciocaaSqK4
namespace Go.Proofs.Sq
open Go Go.Eng Go.Sq
set_option maxRecDepth 4000

/-- SeqKnown. -/
theorem known_ok {w : World} {F : Know} (hF : ∀ a v, F a = some v → w.cell? a = some v)  : Pure Try.prog 7 [] w (.bool true) := by
  refine fn_pure (F := F) Try.func7 rfl Try.ntmps7 rfl hF ?_
  refine t_seq ?_
  refine b0 ?_
  refine o1 rfl (det_assign rfl) rfl rfl trivial ?_
  refine be rfl ?_
  refine k_then ?_
  refine t_seq ?_
  refine t_seq ?_
  refine b0 ?_
  refine o1 rfl (det_call hb9 rfl rfl (fun w1 hs => works_ok hs.know)) rfl rfl trivial ?_
  refine o1 rfl (det_not rfl) rfl rfl trivial ?_
  refine be rfl ?_
  refine k_then ?_
  refine t_condP not_iff_false rfl (fun hb => ?_) (fun hb => ?_)
  · exfalso; simp at hb
  refine t_skip ?_
  refine k_then ?_
  refine t_seq ?_
  refine b0 ?_
  refine o1 rfl (det_assign rfl) rfl rfl trivial ?_
  refine be rfl ?_
  refine k_then ?_
  refine t_seq ?_
  refine t_seq ?_
  refine b0 ?_
  refine o1 rfl (det_move rfl) rfl rfl trivial ?_
  refine be rfl ?_
  refine k_then ?_
  refine t_block ?_
  refine t_whileM (σ := Nat × GS) (fun s => [(1, .slice s.2.A s.1 s.2.c), (32, .int .i64 s.1)]) (fun s => s.2.b) (fun s => 12 - s.1) (fun s => s.1 ≤ 12 ∧ SlO 50 2 (.slice s.2.A s.1 s.2.c) s.1 (rowsV ctv (fk s.1)) s.2.b) (0, ⟨none, 0, []⟩) (env0 := [(0, _)]) ⟨Nat.zero_le _, SlO.nil 50 2⟩ ⟨rfl, rfl, trivial⟩ ⟨rfl, trivial⟩ (.refl _) ?_
  rintro s ⟨hsl, hS⟩
  refine t_seq ?_
  refine b0 ?_
  refine o1 rfl (det_lss rfl rfl) rfl rfl trivial ?_
  refine be rfl ?_
  refine k_then ?_
  refine t_seq ?_
  refine t_condP decide_eq_true_iff rfl (fun hb => ?_) (fun hb => ?_)
  ·
    skip
    refine t_skip ?_
    refine k_then ?_
    refine t_seq ?_
    refine t_block ?_
    refine t_seq ?_
    refine b0 ?_
    refine o1 rfl (det_move rfl) rfl rfl trivial ?_
    refine o1 rfl (det_assign rfl) rfl rfl trivial ?_
    refine be rfl ?_
    refine k_then ?_
    refine b0 ?_
    refine o1 rfl (det_move rfl) rfl rfl trivial ?_
    refine o1 rfl (det_move rfl) rfl rfl trivial ?_
    first | (refine o1 rfl (det_addI rfl rfl ?_) rfl rfl trivial ?_; (· omega)) | refine o1 rfl (det_add rfl rfl) rfl rfl trivial ?_
    refine o1 rfl (det_move rfl) rfl rfl trivial ?_
    refine o1 rfl (det_build rfl (fun w => bld50_0_1 _ _ w)) rfl rfl trivial ?_
    refine om1 rfl (new_buildSlice rfl (fun w => bsl46_1_0 _ _ w)) rfl rfl trivial (fun p40 => ?_)
    refine oAppS (pre := [_]) (b := _) (m := 1) (news := ctv ⟨4084 + (s.1 : Int), s.1⟩) nofun rfl ap46 rfl rfl rfl trivial hS rfl (fun w hs j u hj => hs.cellO (.head _) hj) (ctv_one _) (by omega) (by simp only [maxLen]; omega) (fun A9 c9 b9 hS9 => ?_)
    rw [← rowsV_one (enc := ctv), ← rowsV_app, ← fk_succ] at hS9
    refine o1 rfl (det_assign rfl) rfl rfl trivial ?_
    refine be rfl ?_
    refine k_blk ?_
    refine k_then ?_
    refine b0 ?_
    first | (refine o1 rfl (det_addI rfl rfl ?_) rfl rfl trivial ?_; (· omega)) | refine o1 rfl (det_add rfl rfl) rfl rfl trivial ?_
    refine o1 rfl (det_move rfl) rfl rfl trivial ?_
    refine be rfl ?_
    refine k_then ?_
    refine loop_back (s.1 + 1, ⟨A9, c9, b9⟩) ⟨by show s.1 + 1 ≤ 12; omega, hS9⟩ (by simp only; omega) ⟨rfl, rfl, rfl, trivial⟩ (.cons _ (.refl _))
  ·
    have hse : s.1 = 12 := by omega
    rw [hse] at hS
    rw [hse]
    refine t_exit ?_
    refine k_thenE ?_
    refine k_thenE ?_
    refine k_blkE ?_
    refine k_then ?_
    refine t_seq ?_
    refine b0 ?_
    refine o1 rfl (det_move rfl) rfl rfl trivial ?_
    refine oF nofun rfl hb18 rfl rfl rfl trivial (fun w1 hs => (next_ok (F := fun a => w1.cell? a) (fun _ _ h => h) (ck_lies hS.lies hs (fun x hx => hx) (n := 12) rfl) (by decide) hS.cap.1 hS.cap.2 (t := 1) (show nextL (fk 12) 1 = (([], 0), 7) by rfl)).any) (fun va Fa hFa hNa ⟨Aa, na, ca, hv, hna, hma, hPa⟩ => ?_)
    subst hv
    
    refine o1 rfl (det_move rfl) rfl rfl trivial ?_
    refine o1 rfl (det_extract rfl rfl) rfl rfl trivial ?_
    refine o1 rfl (det_extract rfl rfl) rfl rfl trivial ?_
    refine o1 rfl (det_extract rfl rfl) rfl rfl trivial ?_
    refine o1 rfl (det_assign rfl) rfl rfl trivial ?_
    refine o1 rfl (det_assign rfl) rfl rfl trivial ?_
    refine o1 rfl (det_assign rfl) rfl rfl trivial ?_
    refine be rfl ?_
    refine k_then ?_
    refine t_seq ?_
    refine b0 ?_
    refine o1 rfl (det_move rfl) rfl rfl trivial ?_
    refine oF nofun rfl hb18 rfl rfl rfl trivial (fun w1 hs => (next_ok (F := fun a => w1.cell? a) (fun _ _ h => h) (ck_lies hS.lies hs (fun x hx => hx) (n := 12) rfl) (by decide) hS.cap.1 hS.cap.2 (t := 4095) (show nextL (fk 12) 4095 = (((fk 11 ++ [⟨4095, 12⟩]), 11), 0) by rfl)).any) (fun vb Fb hFb hNb ⟨Ab, nb, cb, hv, hnb, hmb, hPb⟩ => ?_)
    subst hv
    replace hPa := hPa.mono hFb
    obtain ⟨Ab, rfl⟩ := hPb.some (i := 11) (by decide)
    have hnb : nb = 12 := hPb.len
    subst hnb
    refine o1 rfl (det_move rfl) rfl rfl trivial ?_
    refine o1 rfl (det_extract rfl rfl) rfl rfl trivial ?_
    refine o1 rfl (det_extract rfl rfl) rfl rfl trivial ?_
    refine o1 rfl (det_extract rfl rfl) rfl rfl trivial ?_
    refine o1 rfl (det_assign rfl) rfl rfl trivial ?_
    refine o1 rfl (det_assign rfl) rfl rfl trivial ?_
    refine o1 rfl (det_assign rfl) rfl rfl trivial ?_
    refine be rfl ?_
    refine k_then ?_
    refine t_seq ?_
    refine b0 ?_
    refine o1 rfl (det_move rfl) rfl rfl trivial ?_
    refine o1 rfl (det_build rfl (fun w => bld50_0 _ w)) rfl rfl trivial ?_
    refine om1 rfl (new_buildSlice rfl (fun w => bsl46_1_0 _ _ w)) rfl rfl trivial (fun p58 => ?_)
    refine oAppB (pre := [_]) (news := ctv ⟨4096, 0⟩) rfl ap46 rfl rfl rfl trivial (by decide) hS rfl (fun w hs j u hj => hs.cellO (.head _) hj) (ctv_one _) (by decide) (by decide) (fun A2 cc b2 hcc hcm hL1 hL2 => ?_)
    refine oF nofun rfl hb18 rfl rfl rfl trivial (fun w1 hs => (next_ok (F := fun a => w1.cell? a) (fun _ _ h => h) (ck_lies (by rw [fk_ends] at hL2; exact hL2) hs (fun x hx => List.mem_cons_of_mem _ hx) (n := 13) rfl) (by decide) hcc hcm (t := 0) (show nextL (fk 12 ++ [⟨4096, 0⟩]) 0 = (([], 0), 490) by rfl)).any) (fun vd Fd hFd hNd ⟨Ad, nd, cd, hv, hnd, hmd, hPd⟩ => ?_)
    subst hv
    replace hPa := hPa.mono hFd
    replace hPb := hPb.mono hFd
    refine o1 rfl (det_move rfl) rfl rfl trivial ?_
    refine o1 rfl (det_extract rfl rfl) rfl rfl trivial ?_
    refine o1 rfl (det_extract rfl rfl) rfl rfl trivial ?_
    refine o1 rfl (det_extract rfl rfl) rfl rfl trivial ?_
    refine o1 rfl (det_assign rfl) rfl rfl trivial ?_
    refine o1 rfl (det_assign rfl) rfl rfl trivial ?_
    refine o1 rfl (det_assign rfl) rfl rfl trivial ?_
    refine be rfl ?_
    refine k_then ?_
    refine t_seq ?_
    refine b0 ?_
    refine o1 rfl (det_move rfl) rfl rfl trivial ?_
    refine oF nofun rfl hb18 rfl rfl rfl trivial (fun w1 hs => (next_ok (F := fun a => w1.cell? a) (fun _ _ h => h) (ck_lies hL1 hs (fun x hx => List.mem_cons_of_mem _ hx) (n := 12) rfl) (by decide) hS.cap.1 hS.cap.2 (t := 4096) (show nextL (fk 12) 4096 = (([], 0), 2) by rfl)).any) (fun ve Fe hFe hNe ⟨Ae, ne, ce, hv, hne, hme, hPe⟩ => ?_)
    subst hv
    replace hPa := hPa.mono hFe
    replace hPb := hPb.mono hFe
    replace hPd := hPd.mono hFe
    refine o1 rfl (det_move rfl) rfl rfl trivial ?_
    refine o1 rfl (det_extract rfl rfl) rfl rfl trivial ?_
    refine o1 rfl (det_extract rfl rfl) rfl rfl trivial ?_
    refine o1 rfl (det_extract rfl rfl) rfl rfl trivial ?_
    refine o1 rfl (det_assign rfl) rfl rfl trivial ?_
    refine o1 rfl (det_assign rfl) rfl rfl trivial ?_
    refine o1 rfl (det_assign rfl) rfl rfl trivial ?_
    refine be rfl ?_
    refine k_then ?_
    refine t_seq ?_
    refine b0 ?_
    refine o1 rfl (det_call hb11 rfl rfl (fun w1 hs => after_at hs.know (a := 65535) (b := (-9223372036854775808)) (show _ = ((65535 : Int), (0 : Int)) by rfl))) rfl rfl trivial ?_
    refine o1 rfl (det_move rfl) rfl rfl trivial ?_
    refine o1 rfl (det_extract rfl rfl) rfl rfl trivial ?_
    refine o1 rfl (det_extract rfl rfl) rfl rfl trivial ?_
    refine o1 rfl (det_assign rfl) rfl rfl trivial ?_
    refine o1 rfl (det_assign rfl) rfl rfl trivial ?_
    refine be rfl ?_
    refine k_then ?_
    refine t_seq ?_
    refine b0 ?_
    refine o1 rfl (det_call hb11 rfl rfl (fun w1 hs => after_at hs.know (a := 65535) (b := 9223372036854775807) (show _ = ((65534 : Int), (0 : Int)) by rfl))) rfl rfl trivial ?_
    refine o1 rfl (det_move rfl) rfl rfl trivial ?_
    refine o1 rfl (det_extract rfl rfl) rfl rfl trivial ?_
    refine o1 rfl (det_extract rfl rfl) rfl rfl trivial ?_
    refine o1 rfl (det_assign rfl) rfl rfl trivial ?_
    refine o1 rfl (det_assign rfl) rfl rfl trivial ?_
    refine be rfl ?_
    refine k_then ?_
    refine t_seq ?_
    refine b0 ?_
    refine o1 rfl (det_call hb10 rfl rfl (fun w1 hs => delta_at hs.know (a := 32768) (b := 0) (show _ = (((-32768) : Int), (0 : Int)) by rfl))) rfl rfl trivial ?_
    refine o1 rfl (det_move rfl) rfl rfl trivial ?_
    refine o1 rfl (det_extract rfl rfl) rfl rfl trivial ?_
    refine o1 rfl (det_extract rfl rfl) rfl rfl trivial ?_
    refine o1 rfl (det_assign rfl) rfl rfl trivial ?_
    refine o1 rfl (det_assign rfl) rfl rfl trivial ?_
    refine be rfl ?_
    refine k_then ?_
    refine t_seq ?_
    refine b0 ?_
    refine o1 rfl (det_call hb10 rfl rfl (fun w1 hs => delta_at hs.know (a := 7) (b := 7) (show _ = ((0 : Int), (0 : Int)) by rfl))) rfl rfl trivial ?_
    refine o1 rfl (det_move rfl) rfl rfl trivial ?_
    refine o1 rfl (det_extract rfl rfl) rfl rfl trivial ?_
    refine o1 rfl (det_extract rfl rfl) rfl rfl trivial ?_
    refine o1 rfl (det_assign rfl) rfl rfl trivial ?_
    refine o1 rfl (det_assign rfl) rfl rfl trivial ?_
    refine be rfl ?_
    refine k_then ?_
    refine t_seq ?_
    refine b0 ?_
    refine o1 rfl (det_build rfl (fun w => bld31_0_1 _ _ w)) rfl rfl trivial ?_
    refine om1 rfl (new_buildSlice rfl (fun w => bsl38_1_0 _ w)) rfl rfl trivial (fun p88 => ?_)
    refine om1 rfl (new_buildSlice rfl (fun w => bsl38_1_0 _ w)) rfl rfl trivial (fun p89 => ?_)
    refine om1 rfl (new_buildSlice rfl (fun w => bsl32_2_0_1 _ _ _ _ _ _ w)) rfl rfl trivial (fun p90 => ?_)
    refine tk_freeze (pre := [_, _]) rfl (fun F1 hF1 hN1 hK1 => ?_)
    replace hPb := hPb.mono hF1
    refine tk_freeze (pre := [_]) rfl (fun F2 hF2 hN2 hK2 => ?_)
    replace hPb := hPb.mono hF2
    refine tk_freeze (pre := []) rfl (fun F3 hF3 hN3 hK3 => ?_)
    replace hPb := hPb.mono hF3
    refine oF nofun rfl hb15 rfl rfl rfl trivial (fun w1 hs => (copies_ok hs.know (rs := [⟨some ⟨p88, 0, none⟩, 1, 1⟩, ⟨some ⟨p89, 0, none⟩, 1, 1⟩]) (rowsK_of rtv_len (by decide) (fun j u hj => ⟨_, rfl, by rw [add_mk, Nat.zero_add]; exact hK3 j u hj⟩) rfl) (by simp) (x := ⟨4095, 65535, 0, 0, 0⟩)).any) (fun vx Fx hFx hNx ⟨Ax, nx, cx, hv, hnx, hmx, hRx⟩ => ?_)
    rw [show okCp ⟨4095, 65535, 0, 0, 0⟩ [⟨some ⟨p88, 0, none⟩, 1, 1⟩, ⟨some ⟨p89, 0, none⟩, 1, 1⟩] = true by rfl] at hv
    subst hv
    rw [show outCp ⟨4095, 65535, 0, 0, 0⟩ [⟨some ⟨p88, 0, none⟩, 1, 1⟩, ⟨some ⟨p89, 0, none⟩, 1, 1⟩] = [⟨some ⟨p88, 0, none⟩, 1, 1⟩, ⟨some ⟨p89, 0, none⟩, 1, 1⟩] by rfl] at hRx
    have hqx : nx = 2 := hRx.len
    subst hqx
    replace hPb := hPb.mono hFx
    obtain ⟨Ax, rfl⟩ := hRx.some (i := 1) (by simp)
    have h2 : Fx ⟨p89, 0, none⟩ = some (.int .i64 2) := hFx _ _ (hF3 _ _ (hK2 0 _ rfl))
    refine o1 rfl (det_move rfl) rfl rfl trivial ?_
    refine o1 rfl (det_extract rfl rfl) rfl rfl trivial ?_
    refine o1 rfl (det_extract rfl rfl) rfl rfl trivial ?_
    refine o1 rfl (det_assign rfl) rfl rfl trivial ?_
    refine o1 rfl (det_assign rfl) rfl rfl trivial ?_
    refine be rfl ?_
    refine k_then ?_
    refine t_seq ?_
    refine b0 ?_
    refine o1 rfl (det_build rfl (fun w => bld31_0 _ w)) rfl rfl trivial ?_
    refine om1 rfl (new_buildSlice rfl (fun w => bsl38_1_0 _ w)) rfl rfl trivial (fun p96 => ?_)
    refine om1 rfl (new_buildSlice rfl (fun w => bsl32_1_0 _ _ _ w)) rfl rfl trivial (fun p97 => ?_)
    refine tk_freeze (pre := [_]) rfl (fun F4 hF4 hN4 hK4 => ?_)
    replace hPb := hPb.mono hF4
    replace hRx := hRx.mono hF4
    refine tk_freeze (pre := []) rfl (fun F5 hF5 hN5 hK5 => ?_)
    replace hPb := hPb.mono hF5
    replace hRx := hRx.mono hF5
    refine oF nofun rfl hb15 rfl rfl rfl trivial (fun w1 hs => (copies_ok hs.know (rs := [⟨some ⟨p96, 0, none⟩, 1, 1⟩]) (rowsK_of rtv_len (by decide) (fun j u hj => ⟨_, rfl, by rw [add_mk, Nat.zero_add]; exact hK5 j u hj⟩) rfl) (by simp) (x := ⟨4096, 0, 0, 0, 0⟩)).any) (fun vy Fy hFy hNy ⟨Ay, ny, cy, hv, hny, hmy, hRy⟩ => ?_)
    rw [show okCp ⟨4096, 0, 0, 0, 0⟩ [⟨some ⟨p96, 0, none⟩, 1, 1⟩] = false by rfl] at hv
    subst hv
    rw [show outCp ⟨4096, 0, 0, 0, 0⟩ [⟨some ⟨p96, 0, none⟩, 1, 1⟩] = [] by rfl] at hRy
    have hqy : ny = 0 := hRy.len
    subst hqy
    replace hPb := hPb.mono hFy
    replace hRx := hRx.mono hFy
    refine o1 rfl (det_move rfl) rfl rfl trivial ?_
    refine o1 rfl (det_extract rfl rfl) rfl rfl trivial ?_
    refine o1 rfl (det_extract rfl rfl) rfl rfl trivial ?_
    refine o1 rfl (det_assign rfl) rfl rfl trivial ?_
    refine o1 rfl (det_assign rfl) rfl rfl trivial ?_
    refine be rfl ?_
    refine k_then ?_
    refine t_seq ?_
    refine b0 ?_
    refine o1 rfl (det_build rfl (fun w => bld31_0_1 _ _ w)) rfl rfl trivial ?_
    refine om1 rfl (new_buildSlice rfl (fun w => bsl38_1_0 _ w)) rfl rfl trivial (fun p103 => ?_)
    refine om1 rfl (new_buildSlice rfl (fun w => bsl32_1_0 _ _ _ w)) rfl rfl trivial (fun p104 => ?_)
    refine tk_freeze (pre := [_]) rfl (fun F6 hF6 hN6 hK6 => ?_)
    replace hPb := hPb.mono hF6
    replace hRx := hRx.mono hF6
    refine tk_freeze (pre := []) rfl (fun F7 hF7 hN7 hK7 => ?_)
    replace hPb := hPb.mono hF7
    replace hRx := hRx.mono hF7
    refine oF nofun rfl hb15 rfl rfl rfl trivial (fun w1 hs => (copies_ok hs.know (rs := [⟨some ⟨p103, 0, none⟩, 1, 1⟩]) (rowsK_of rtv_len (by decide) (fun j u hj => ⟨_, rfl, by rw [add_mk, Nat.zero_add]; exact hK7 j u hj⟩) rfl) (by simp) (x := ⟨1, 65536, 0, 0, 0⟩)).any) (fun vz Fz hFz hNz ⟨Az, nz, cz, hv, hnz, hmz, hRz⟩ => ?_)
    rw [show okCp ⟨1, 65536, 0, 0, 0⟩ [⟨some ⟨p103, 0, none⟩, 1, 1⟩] = false by rfl] at hv
    subst hv
    rw [show outCp ⟨1, 65536, 0, 0, 0⟩ [⟨some ⟨p103, 0, none⟩, 1, 1⟩] = [] by rfl] at hRz
    have hqz : nz = 0 := hRz.len
    subst hqz
    replace hPb := hPb.mono hFz
    replace hRx := hRx.mono hFz
    refine o1 rfl (det_move rfl) rfl rfl trivial ?_
    refine o1 rfl (det_extract rfl rfl) rfl rfl trivial ?_
    refine o1 rfl (det_extract rfl rfl) rfl rfl trivial ?_
    refine o1 rfl (det_assign rfl) rfl rfl trivial ?_
    refine o1 rfl (det_assign rfl) rfl rfl trivial ?_
    refine be rfl ?_
    refine k_then ?_
    refine t_seq ?_
    refine t_seq ?_
    refine b0 ?_
    refine o1 rfl (det_move rfl) rfl rfl trivial ?_
    refine o1 rfl (det_lenS sl46 rfl) rfl rfl trivial ?_
    refine o1 rfl (det_neq rfl rfl) rfl rfl trivial ?_
    refine o2P bne_iff_ne rfl (det_move rfl) rfl rfl trivial (fun hb => ?_) (fun hb => ?_)
    · exfalso; exact hb rfl
    refine o1 rfl (det_move rfl) rfl rfl ⟨_, rfl, rfl⟩ ?_
    refine o1 rfl (det_lenS sl34 rfl) rfl rfl ⟨_, rfl, rfl⟩ ?_
    refine o1 rfl (det_neq rfl rfl) rfl rfl ⟨_, rfl, rfl⟩ ?_
    refine o1 rfl (det_pickF rfl rfl) rfl rfl trivial ?_
    refine be rfl ?_
    refine k_then ?_
    refine t_condP bne_iff_ne rfl (fun hb => ?_) (fun hb => ?_)
    · exfalso; exact hb rfl
    refine t_skip ?_
    refine k_then ?_
    refine t_seq ?_
    refine b0 ?_
    refine o1 rfl (det_move rfl) rfl rfl trivial ?_
    refine o1 rfl (det_eql rfl rfl) rfl rfl trivial ?_
    refine o2P beq_iff_eq rfl (det_move rfl) rfl rfl trivial (fun hb => ?_) (fun hb => ?_)
    rotate_left
    · exfalso; first | exact hb rfl | simp at hb | (revert hb; decide)
    refine o1 rfl (det_move rfl) rfl rfl ⟨_, rfl, rfl⟩ ?_
    refine o1 rfl (det_eql rfl rfl) rfl rfl ⟨_, rfl, rfl⟩ ?_
    refine o1 rfl (det_pickT rfl rfl) rfl rfl trivial ?_
    refine o2P beq_iff_eq rfl (det_move rfl) rfl rfl trivial (fun hb => ?_) (fun hb => ?_)
    rotate_left
    · exfalso; first | exact hb rfl | simp at hb | (revert hb; decide)
    refine o1 rfl (det_move rfl) rfl rfl ⟨_, rfl, rfl⟩ ?_
    refine o1 rfl (det_eql rfl rfl) rfl rfl ⟨_, rfl, rfl⟩ ?_
    refine o1 rfl (det_pickT rfl rfl) rfl rfl trivial ?_
    refine o2P beq_iff_eq rfl (det_move rfl) rfl rfl trivial (fun hb => ?_) (fun hb => ?_)
    rotate_left
    · exfalso; first | exact hb rfl | simp at hb | (revert hb; decide)
    refine o1 rfl (det_move rfl) rfl rfl ⟨_, rfl, rfl⟩ ?_
    first | (refine o1 rfl (det_indexAddr sl46 rfl rfl ?_) rfl rfl ⟨_, rfl, rfl⟩ ?_; (· (first | decide | omega)))
    refine o1 rfl (det_fieldAddr fld50_1 rfl) rfl rfl ⟨_, rfl, rfl⟩ ?_
    refine o1 rfl (det_loadK t1_3 rfl (hPb.cell (i := 11) (k := 11) (j := 1) (u := .int .i64 12) rfl (by decide) rfl)) rfl rfl ⟨_, rfl, rfl⟩ ?_
    refine o1 rfl (det_eql rfl rfl) rfl rfl ⟨_, rfl, rfl⟩ ?_
    refine o1 rfl (det_pickT rfl rfl) rfl rfl trivial ?_
    refine o2P beq_iff_eq rfl (det_move rfl) rfl rfl trivial (fun hb => ?_) (fun hb => ?_)
    rotate_left
    · exfalso; first | exact hb rfl | simp at hb | (revert hb; decide)
    refine o1 rfl (det_move rfl) rfl rfl ⟨_, rfl, rfl⟩ ?_
    refine o1 rfl (det_eql rfl rfl) rfl rfl ⟨_, rfl, rfl⟩ ?_
    refine o1 rfl (det_pickT rfl rfl) rfl rfl trivial ?_
    refine o2P beq_iff_eq rfl (det_move rfl) rfl rfl trivial (fun hb => ?_) (fun hb => ?_)
    rotate_left
    · exfalso; first | exact hb rfl | simp at hb | (revert hb; decide)
    refine o1 rfl (det_move rfl) rfl rfl ⟨_, rfl, rfl⟩ ?_
    refine o1 rfl (det_eql rfl rfl) rfl rfl ⟨_, rfl, rfl⟩ ?_
    refine o1 rfl (det_pickT rfl rfl) rfl rfl trivial ?_
    refine o2P beq_iff_eq rfl (det_move rfl) rfl rfl trivial (fun hb => ?_) (fun hb => ?_)
    rotate_left
    · exfalso; first | exact hb rfl | simp at hb | (revert hb; decide)
    refine o1 rfl (det_move rfl) rfl rfl ⟨_, rfl, rfl⟩ ?_
    refine o1 rfl (det_eql rfl rfl) rfl rfl ⟨_, rfl, rfl⟩ ?_
    refine o1 rfl (det_pickT rfl rfl) rfl rfl trivial ?_
    refine o2P beq_iff_eq rfl (det_move rfl) rfl rfl trivial (fun hb => ?_) (fun hb => ?_)
    rotate_left
    · exfalso; first | exact hb rfl | simp at hb | (revert hb; decide)
    refine o1 rfl (det_move rfl) rfl rfl ⟨_, rfl, rfl⟩ ?_
    refine o1 rfl (det_eql rfl rfl) rfl rfl ⟨_, rfl, rfl⟩ ?_
    refine o1 rfl (det_pickT rfl rfl) rfl rfl trivial ?_
    refine o2P beq_iff_eq rfl (det_move rfl) rfl rfl trivial (fun hb => ?_) (fun hb => ?_)
    rotate_left
    · exfalso; first | exact hb rfl | simp at hb | (revert hb; decide)
    refine o1 rfl (det_move rfl) rfl rfl ⟨_, rfl, rfl⟩ ?_
    refine o1 rfl (det_eql rfl rfl) rfl rfl ⟨_, rfl, rfl⟩ ?_
    refine o1 rfl (det_pickT rfl rfl) rfl rfl trivial ?_
    refine o2P beq_iff_eq rfl (det_move rfl) rfl rfl trivial (fun hb => ?_) (fun hb => ?_)
    rotate_left
    · exfalso; first | exact hb rfl | simp at hb | (revert hb; decide)
    refine o1 rfl (det_move rfl) rfl rfl ⟨_, rfl, rfl⟩ ?_
    refine o1 rfl (det_eql rfl rfl) rfl rfl ⟨_, rfl, rfl⟩ ?_
    refine o1 rfl (det_pickT rfl rfl) rfl rfl trivial ?_
    refine o1 rfl (det_assign rfl) rfl rfl trivial ?_
    refine be rfl ?_
    refine k_then ?_
    refine t_seq ?_
    refine b0 ?_
    refine o1 rfl (det_move rfl) rfl rfl trivial ?_
    refine o1 rfl (det_move rfl) rfl rfl ⟨_, rfl, rfl⟩ ?_
    refine o1 rfl (det_pickT rfl rfl) rfl rfl trivial ?_
    refine o2P beq_iff_eq rfl (det_move rfl) rfl rfl trivial (fun hb => ?_) (fun hb => ?_)
    rotate_left
    · exfalso; first | exact hb rfl | simp at hb | (revert hb; decide)
    refine o1 rfl (det_move rfl) rfl rfl ⟨_, rfl, rfl⟩ ?_
    refine o1 rfl (det_eql rfl rfl) rfl rfl ⟨_, rfl, rfl⟩ ?_
    refine o1 rfl (det_pickT rfl rfl) rfl rfl trivial ?_
    refine o2P beq_iff_eq rfl (det_move rfl) rfl rfl trivial (fun hb => ?_) (fun hb => ?_)
    rotate_left
    · exfalso; first | exact hb rfl | simp at hb | (revert hb; decide)
    refine o1 rfl (det_move rfl) rfl rfl ⟨_, rfl, rfl⟩ ?_
    refine o1 rfl (det_eql rfl rfl) rfl rfl ⟨_, rfl, rfl⟩ ?_
    refine o1 rfl (det_pickT rfl rfl) rfl rfl trivial ?_
    refine o2P beq_iff_eq rfl (det_move rfl) rfl rfl trivial (fun hb => ?_) (fun hb => ?_)
    rotate_left
    · exfalso; first | exact hb rfl | simp at hb | (revert hb; decide)
    refine o1 rfl (det_move rfl) rfl rfl ⟨_, rfl, rfl⟩ ?_
    refine o1 rfl (det_eql rfl rfl) rfl rfl ⟨_, rfl, rfl⟩ ?_
    refine o1 rfl (det_pickT rfl rfl) rfl rfl trivial ?_
    refine o2P beq_iff_eq rfl (det_move rfl) rfl rfl trivial (fun hb => ?_) (fun hb => ?_)
    rotate_left
    · exfalso; first | exact hb rfl | simp at hb | (revert hb; decide)
    refine o1 rfl (det_move rfl) rfl rfl ⟨_, rfl, rfl⟩ ?_
    refine o1 rfl (det_eql rfl rfl) rfl rfl ⟨_, rfl, rfl⟩ ?_
    refine o1 rfl (det_pickT rfl rfl) rfl rfl trivial ?_
    refine o2P beq_iff_eq rfl (det_move rfl) rfl rfl trivial (fun hb => ?_) (fun hb => ?_)
    rotate_left
    · exfalso; first | exact hb rfl | simp at hb | (revert hb; decide)
    refine o1 rfl (det_move rfl) rfl rfl ⟨_, rfl, rfl⟩ ?_
    refine o1 rfl (det_eql rfl rfl) rfl rfl ⟨_, rfl, rfl⟩ ?_
    refine o1 rfl (det_pickT rfl rfl) rfl rfl trivial ?_
    refine o2P beq_iff_eq rfl (det_move rfl) rfl rfl trivial (fun hb => ?_) (fun hb => ?_)
    rotate_left
    · exfalso; first | exact hb rfl | simp at hb | (revert hb; decide)
    refine o1 rfl (det_move rfl) rfl rfl ⟨_, rfl, rfl⟩ ?_
    first | (refine o1 rfl (det_indexAddr sl34 rfl rfl ?_) rfl rfl ⟨_, rfl, rfl⟩ ?_; (· (first | decide | omega)))
    refine o1 rfl (det_fieldAddr fld40_1 rfl) rfl rfl ⟨_, rfl, rfl⟩ ?_
    refine o1 rfl (det_loadK t1_38 rfl (hRx.cell (i := 1) (k := 1) (j := 5) (u := .slice (some ⟨p89, 0, none⟩) 1 1) rfl (by simp) rfl)) rfl rfl ⟨_, rfl, rfl⟩ ?_
    refine o1 rfl (det_lenS sl38 rfl) rfl rfl ⟨_, rfl, rfl⟩ ?_
    refine o1 rfl (det_eql rfl rfl) rfl rfl ⟨_, rfl, rfl⟩ ?_
    refine o1 rfl (det_pickT rfl rfl) rfl rfl trivial ?_
    refine o2P beq_iff_eq rfl (det_move rfl) rfl rfl trivial (fun hb => ?_) (fun hb => ?_)
    rotate_left
    · exfalso; first | exact hb rfl | simp at hb | (revert hb; decide)
    refine o1 rfl (det_move rfl) rfl rfl ⟨_, rfl, rfl⟩ ?_
    first | (refine o1 rfl (det_indexAddr sl34 rfl rfl ?_) rfl rfl ⟨_, rfl, rfl⟩ ?_; (· (first | decide | omega)))
    refine o1 rfl (det_fieldAddr fld40_1 rfl) rfl rfl ⟨_, rfl, rfl⟩ ?_
    refine o1 rfl (det_loadK t1_38 rfl (hRx.cell (i := 1) (k := 1) (j := 5) (u := .slice (some ⟨p89, 0, none⟩) 1 1) rfl (by simp) rfl)) rfl rfl ⟨_, rfl, rfl⟩ ?_
    first | (refine o1 rfl (det_indexAddr sl38 rfl rfl ?_) rfl rfl ⟨_, rfl, rfl⟩ ?_; (· (first | decide | omega)))
    refine o1 rfl (det_loadK t1_3 rfl (hFz _ _ (hF7 _ _ (hF6 _ _ (hFy _ _ (hF5 _ _ (hF4 _ _ h2))))))) rfl rfl ⟨_, rfl, rfl⟩ ?_
    refine o1 rfl (det_eql rfl rfl) rfl rfl ⟨_, rfl, rfl⟩ ?_
    refine o1 rfl (det_pickT rfl rfl) rfl rfl trivial ?_
    refine o2P beq_iff_eq rfl (det_move rfl) rfl rfl trivial (fun hb => ?_) (fun hb => ?_)
    rotate_left
    · exfalso; first | exact hb rfl | simp at hb | (revert hb; decide)
    refine o1 rfl (det_move rfl) rfl rfl ⟨_, rfl, rfl⟩ ?_
    refine o1 rfl (det_eql rfl rfl) rfl rfl ⟨_, rfl, rfl⟩ ?_
    refine o1 rfl (det_pickT rfl rfl) rfl rfl trivial ?_
    refine o2P beq_iff_eq rfl (det_move rfl) rfl rfl trivial (fun hb => ?_) (fun hb => ?_)
    rotate_left
    · exfalso; first | exact hb rfl | simp at hb | (revert hb; decide)
    refine o1 rfl (det_move rfl) rfl rfl ⟨_, rfl, rfl⟩ ?_
    refine o1 rfl (det_eql rfl rfl) rfl rfl ⟨_, rfl, rfl⟩ ?_
    refine o1 rfl (det_pickT rfl rfl) rfl rfl trivial ?_
    refine o1 rfl (det_assign rfl) rfl rfl trivial ?_
    refine be rfl ?_
    refine k_then ?_
    refine t_ret ?_
    refine ret_tmp rfl rfl rfl (fun w1 hs => ?_)
    exact ⟨rfl, hs.keep⟩

end Go.Proofs.Sq
