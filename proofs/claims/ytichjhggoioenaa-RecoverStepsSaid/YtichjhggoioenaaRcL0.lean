/-
  Walks through layer 40 and its reference.
-/
import Derived.Test.YtichjhggoioenaaRcK
namespace Go.Proofs.Rc
open Go Go.Eng Go.Rc
set_option maxRecDepth 4000

/-- works. -/
theorem works_ok {w : World} {F : Know} (hF : ∀ a v, F a = some v → w.cell? a = some v)  : Pure Try.prog 9 [] w (.bool true) := by
  refine fn_pure (F := F) Try.func9 rfl Try.ntmps9 rfl hF ?_
  refine t_seq ?_
  refine b0 ?_
  refine o1 rfl (det_assign rfl) rfl rfl trivial ?_
  refine be rfl ?_
  refine k_then ?_
  refine t_seq ?_
  refine b0 ?_
  refine o1 rfl (det_call hb16 rfl rfl (fun w1 hs => new_at hs.know (show okR (anyR 4 100) = true by kernel_rfl))) rfl rfl trivial ?_
  refine o1 rfl (det_move rfl) rfl rfl trivial ?_
  refine o1 rfl (det_extract rfl rfl) rfl rfl trivial ?_
  refine o1 rfl (det_extract rfl rfl) rfl rfl trivial ?_
  refine om1 rfl (new_alloc z24) rfl rfl trivial (fun p1 => ?_)
  refine stN nofun rfl tN24 rfl rfl rfl .head rfl trivial rfl rfl ?_
  refine o1 rfl (det_assign rfl) rfl rfl trivial ?_
  refine be rfl ?_
  refine k_then ?_
  refine t_seq ?_
  refine b0 ?_
  refine o1 rfl (det_loadN tN24 rfl rfl (.head _) rfl) rfl rfl trivial ?_
  refine om1 rfl (new_buildSlice rfl (fun w => bsl32_6_0_1_2_3_4_5 _ _ _ _ _ _ w)) rfl rfl trivial (fun p43 => ?_)
  refine tk_freeze (pre := []) rfl (fun Fqa hFqa hNqa hKqa => ?_)
  skip
  have hqa := ik_lit [7, 7, 9, 8, 8, 6] hKqa rfl
  refine oF nofun rfl hb21 rfl rfl rfl trivial (fun w1 hs => (lafter_at hs.know hqa (by decide) (r := (anyR 4 100)) (by kernel_rfl) rfl (by intro x hx; simp at hx; omega) (show stK (anyR 4 100) [7, 7, 9, 8, 8, 6] 6 = (⟨4, 100, false, 9, 0, 15⟩, [true, false, true, true, false, true]) by kernel_rfl)).any) (fun vra Fra hFra hNra ⟨Ara, nra, cra, hv, hra⟩ => ?_)
  subst hv
  replace hqa := hqa.mono hFra
  refine o1 rfl (det_move rfl) rfl rfl trivial ?_
  refine o1 rfl (det_extract rfl rfl) rfl rfl trivial ?_
  refine o1 rfl (det_extract rfl rfl) rfl rfl trivial ?_
  refine om1 rfl (new_alloc z24) rfl rfl trivial (fun p3 => ?_)
  refine stN nofun rfl tN24 rfl rfl rfl .head rfl trivial rfl rfl ?_
  refine o1 rfl (det_assign rfl) rfl rfl trivial ?_
  refine be rfl ?_
  refine k_then ?_
  refine t_seq ?_
  refine b0 ?_
  refine o1 rfl (det_loadN tN24 rfl rfl (.tail _ (.head _)) rfl) rfl rfl trivial ?_
  refine om1 rfl (new_buildSlice rfl (fun w => bsl32_5_0_1_2_3_4 _ _ _ _ _ w)) rfl rfl trivial (fun p49 => ?_)
  refine tk_freeze (pre := []) rfl (fun Fqb hFqb hNqb hKqb => ?_)
  replace hqa := hqa.mono hFqb
  replace hra := hra.mono hFqb
  have hqb := ik_lit [7, 11, 10, 3, 9] hKqb rfl
  refine oF nofun rfl hb21 rfl rfl rfl trivial (fun w1 hs => (lafter_at hs.know hqb (by decide) (r := (anyR 4 100)) (by kernel_rfl) rfl (by intro x hx; simp at hx; omega) (show stK (anyR 4 100) [7, 11, 10, 3, 9] 5 = (⟨4, 100, false, 10, 0, 11⟩, [true, false, true, false, true]) by kernel_rfl)).any) (fun vrb Frb hFrb hNrb ⟨Arb, nrb, crb, hv, hrb⟩ => ?_)
  subst hv
  replace hqa := hqa.mono hFrb
  replace hra := hra.mono hFrb
  replace hqb := hqb.mono hFrb
  refine o1 rfl (det_move rfl) rfl rfl trivial ?_
  refine o1 rfl (det_extract rfl rfl) rfl rfl trivial ?_
  refine o1 rfl (det_extract rfl rfl) rfl rfl trivial ?_
  refine om1 rfl (new_alloc z24) rfl rfl trivial (fun p5 => ?_)
  refine stN nofun rfl tN24 rfl rfl rfl .head rfl trivial rfl rfl ?_
  refine o1 rfl (det_assign rfl) rfl rfl trivial ?_
  refine be rfl ?_
  refine k_then ?_
  refine t_seq ?_
  refine b0 ?_
  refine o1 rfl (det_loadN tN24 rfl rfl (.tail _ (.tail _ (.head _))) rfl) rfl rfl trivial ?_
  refine om1 rfl (new_buildSlice rfl (fun w => bsl32_4_0_1_2_3 _ _ _ _ w)) rfl rfl trivial (fun p55 => ?_)
  refine tk_freeze (pre := []) rfl (fun Fqc hFqc hNqc hKqc => ?_)
  replace hqa := hqa.mono hFqc
  replace hra := hra.mono hFqc
  replace hqb := hqb.mono hFqc
  replace hrb := hrb.mono hFqc
  have hqc := ik_lit [65535, 1, 0, 65534] hKqc rfl
  refine oF nofun rfl hb21 rfl rfl rfl trivial (fun w1 hs => (lafter_at hs.know hqc (by decide) (r := (anyR 4 100)) (by kernel_rfl) rfl (by intro x hx; simp at hx; omega) (show stK (anyR 4 100) [65535, 1, 0, 65534] 4 = (⟨4, 100, false, 1, 0, 15⟩, [true, true, true, true]) by kernel_rfl)).any) (fun vrc Frc hFrc hNrc ⟨Arc, nrc, crc, hv, hrc⟩ => ?_)
  subst hv
  replace hqa := hqa.mono hFrc
  replace hra := hra.mono hFrc
  replace hqb := hqb.mono hFrc
  replace hrb := hrb.mono hFrc
  replace hqc := hqc.mono hFrc
  refine o1 rfl (det_move rfl) rfl rfl trivial ?_
  refine o1 rfl (det_extract rfl rfl) rfl rfl trivial ?_
  refine o1 rfl (det_extract rfl rfl) rfl rfl trivial ?_
  refine om1 rfl (new_alloc z24) rfl rfl trivial (fun p7 => ?_)
  refine stN nofun rfl tN24 rfl rfl rfl .head rfl trivial rfl rfl ?_
  refine o1 rfl (det_assign rfl) rfl rfl trivial ?_
  refine be rfl ?_
  refine k_then ?_
  refine t_seq ?_
  refine t_seq ?_
  refine b0 ?_
  refine o1 rfl (det_move rfl) rfl rfl trivial ?_
  refine o1 rfl (det_neq rfl rfl) rfl rfl trivial ?_
  refine o2P bne_iff_ne rfl (det_move rfl) rfl rfl trivial (fun hb => ?_) (fun hb => ?_)
  · exfalso; exact hb rfl
  refine o1 rfl (det_move rfl) rfl rfl ⟨_, rfl, rfl⟩ ?_
  refine om1 rfl (new_buildSlice rfl (fun w => bsl65_6_0_1_2_3_4_5 _ _ _ _ _ _ w)) rfl rfl ⟨_, rfl, rfl⟩ (fun p63 => ?_)
  refine tk_freeze (pre := []) rfl (fun Fqx hFqx hNqx hKqx => ?_)
  replace hqa := hqa.mono hFqx
  replace hra := hra.mono hFqx
  replace hqb := hqb.mono hFqx
  replace hrb := hrb.mono hFqx
  replace hqc := hqc.mono hFqx
  replace hrc := hrc.mono hFqx
  have hqx := bk_lit [true, false, true, true, false, true] hKqx rfl
  refine o1 rfl (det_call hb22 rfl rfl (fun w1 hs => equalB_ok hs.know hra hqx (by rw [hra.len]; decide))) rfl rfl ⟨_, rfl, rfl⟩ ?_
  refine o1 rfl (det_not rfl) rfl rfl ⟨_, rfl, rfl⟩ ?_
  refine o1 rfl (det_pickF rfl rfl) rfl rfl trivial ?_
  refine o2P not_iff_false rfl (det_move rfl) rfl rfl trivial (fun hb => ?_) (fun hb => ?_)
  · exfalso; simp at hb
  refine o1 rfl (det_move rfl) rfl rfl ⟨_, rfl, rfl⟩ ?_
  refine om1 rfl (new_buildSlice rfl (fun w => bsl65_5_0_1_2_3_4 _ _ _ _ _ w)) rfl rfl ⟨_, rfl, rfl⟩ (fun p69 => ?_)
  refine tk_freeze (pre := []) rfl (fun Fqy hFqy hNqy hKqy => ?_)
  replace hqa := hqa.mono hFqy
  replace hra := hra.mono hFqy
  replace hqb := hqb.mono hFqy
  replace hrb := hrb.mono hFqy
  replace hqc := hqc.mono hFqy
  replace hrc := hrc.mono hFqy
  replace hqx := hqx.mono hFqy
  have hqy := bk_lit [true, false, true, false, true] hKqy rfl
  refine o1 rfl (det_call hb22 rfl rfl (fun w1 hs => equalB_ok hs.know hrb hqy (by rw [hrb.len]; decide))) rfl rfl ⟨_, rfl, rfl⟩ ?_
  refine o1 rfl (det_not rfl) rfl rfl ⟨_, rfl, rfl⟩ ?_
  refine o1 rfl (det_pickF rfl rfl) rfl rfl trivial ?_
  refine o2P not_iff_false rfl (det_move rfl) rfl rfl trivial (fun hb => ?_) (fun hb => ?_)
  · exfalso; simp at hb
  refine o1 rfl (det_move rfl) rfl rfl ⟨_, rfl, rfl⟩ ?_
  refine om1 rfl (new_buildSlice rfl (fun w => bsl65_4_0_1_2_3 _ _ _ _ w)) rfl rfl ⟨_, rfl, rfl⟩ (fun p75 => ?_)
  refine tk_freeze (pre := []) rfl (fun Fqz hFqz hNqz hKqz => ?_)
  replace hqa := hqa.mono hFqz
  replace hra := hra.mono hFqz
  replace hqb := hqb.mono hFqz
  replace hrb := hrb.mono hFqz
  replace hqc := hqc.mono hFqz
  replace hrc := hrc.mono hFqz
  replace hqx := hqx.mono hFqz
  replace hqy := hqy.mono hFqz
  have hqz := bk_lit [true, true, true, true] hKqz rfl
  refine o1 rfl (det_call hb22 rfl rfl (fun w1 hs => equalB_ok hs.know hrc hqz (by rw [hrc.len]; decide))) rfl rfl ⟨_, rfl, rfl⟩ ?_
  refine o1 rfl (det_not rfl) rfl rfl ⟨_, rfl, rfl⟩ ?_
  refine o1 rfl (det_pickF rfl rfl) rfl rfl trivial ?_
  refine be rfl ?_
  refine k_then ?_
  refine t_condP not_iff_false rfl (fun hb => ?_) (fun hb => ?_)
  · exfalso; simp at hb
  refine t_skip ?_
  refine k_then ?_
  refine t_seq ?_
  refine b0 ?_
  refine o1 rfl (det_loadN tN24 rfl rfl (.tail _ (.tail _ (.tail _ (.head _)))) rfl) rfl rfl trivial ?_
  refine om1 rfl (new_buildSlice rfl (fun w => bsl32_1_0 _ w)) rfl rfl trivial (fun p81 => ?_)
  refine tk_freeze (pre := []) rfl (fun Fqd hFqd hNqd hKqd => ?_)
  replace hqa := hqa.mono hFqd
  replace hra := hra.mono hFqd
  replace hqb := hqb.mono hFqd
  replace hrb := hrb.mono hFqd
  replace hqc := hqc.mono hFqd
  replace hrc := hrc.mono hFqd
  replace hqx := hqx.mono hFqd
  replace hqy := hqy.mono hFqd
  replace hqz := hqz.mono hFqd
  have hqd := ik_lit [7] hKqd rfl
  refine oF nofun rfl hb21 rfl rfl rfl trivial (fun w1 hs => (lafter_at hs.know hqd (by decide) (r := (anyR 4 100)) (by kernel_rfl) rfl (by intro x hx; simp at hx; omega) (show stK (anyR 4 100) [7] 1 = (⟨4, 100, false, 7, 0, 1⟩, [true]) by kernel_rfl)).any) (fun vrd Frd hFrd hNrd ⟨Ard, nrd, crd, hv, hrd⟩ => ?_)
  subst hv
  replace hqa := hqa.mono hFrd
  replace hra := hra.mono hFrd
  replace hqb := hqb.mono hFrd
  replace hrb := hrb.mono hFrd
  replace hqc := hqc.mono hFrd
  replace hrc := hrc.mono hFrd
  replace hqx := hqx.mono hFrd
  replace hqy := hqy.mono hFrd
  replace hqz := hqz.mono hFrd
  replace hqd := hqd.mono hFrd
  refine o1 rfl (det_move rfl) rfl rfl trivial ?_
  refine o1 rfl (det_extract rfl rfl) rfl rfl trivial ?_
  refine o1 rfl (det_extract rfl rfl) rfl rfl trivial ?_
  refine om1 rfl (new_alloc z24) rfl rfl trivial (fun p9 => ?_)
  refine stN nofun rfl tN24 rfl rfl rfl .head rfl trivial rfl rfl ?_
  refine o1 rfl (det_assign rfl) rfl rfl trivial ?_
  refine be rfl ?_
  refine k_then ?_
  refine t_seq ?_
  refine b0 ?_
  refine o1 rfl (det_loadN tN24 rfl rfl (.head _) rfl) rfl rfl trivial ?_
  refine o1 rfl (det_call hb18 rfl rfl (fun w1 hs => accept_ok hs.know (show Rc.se ⟨4, 100, false, 7, 0, 1⟩ < _ by decide) (show accA ⟨4, 100, false, 7, 0, 1⟩ 500 100 = ((⟨4, 100, false, 7, 0, 1⟩, false), 0) by kernel_rfl))) rfl rfl trivial ?_
  refine o1 rfl (det_move rfl) rfl rfl trivial ?_
  refine o1 rfl (det_extract rfl rfl) rfl rfl trivial ?_
  refine o1 rfl (det_extract rfl rfl) rfl rfl trivial ?_
  refine o1 rfl (det_extract rfl rfl) rfl rfl trivial ?_
  refine om1 rfl (new_alloc z24) rfl rfl trivial (fun p11 => ?_)
  refine stN nofun rfl tN24 rfl rfl rfl .head rfl trivial rfl rfl ?_
  refine o1 rfl (det_assign rfl) rfl rfl trivial ?_
  refine o1 rfl (det_assign rfl) rfl rfl trivial ?_
  refine be rfl ?_
  refine k_then ?_
  refine t_seq ?_
  refine b0 ?_
  refine o1 rfl (det_loadN tN24 rfl rfl (.tail _ (.head _)) rfl) rfl rfl trivial ?_
  refine o1 rfl (det_call hb18 rfl rfl (fun w1 hs => accept_ok hs.know (show Rc.se ⟨4, 100, false, 7, 0, 1⟩ < _ by decide) (show accA ⟨4, 100, false, 7, 0, 1⟩ 500 101 = ((⟨4, 100, false, 500, 101, 1⟩, true), 0) by kernel_rfl))) rfl rfl trivial ?_
  refine o1 rfl (det_move rfl) rfl rfl trivial ?_
  refine o1 rfl (det_extract rfl rfl) rfl rfl trivial ?_
  refine o1 rfl (det_extract rfl rfl) rfl rfl trivial ?_
  refine o1 rfl (det_extract rfl rfl) rfl rfl trivial ?_
  refine om1 rfl (new_alloc z24) rfl rfl trivial (fun p14 => ?_)
  refine stN nofun rfl tN24 rfl rfl rfl .head rfl trivial rfl rfl ?_
  refine o1 rfl (det_assign rfl) rfl rfl trivial ?_
  refine o1 rfl (det_assign rfl) rfl rfl trivial ?_
  refine be rfl ?_
  refine k_then ?_
  refine t_seq ?_
  refine b0 ?_
  refine o1 rfl (det_loadN tN24 rfl rfl (.tail _ (.tail _ (.tail _ (.tail _ (.tail _ (.tail _ (.head _))))))) rfl) rfl rfl trivial ?_
  refine om1 rfl (new_buildSlice rfl (fun w => bsl32_2_0_1 _ _ w)) rfl rfl trivial (fun p99 => ?_)
  refine tk_freeze (pre := []) rfl (fun Fqe hFqe hNqe hKqe => ?_)
  replace hqa := hqa.mono hFqe
  replace hra := hra.mono hFqe
  replace hqb := hqb.mono hFqe
  replace hrb := hrb.mono hFqe
  replace hqc := hqc.mono hFqe
  replace hrc := hrc.mono hFqe
  replace hqx := hqx.mono hFqe
  replace hqy := hqy.mono hFqe
  replace hqz := hqz.mono hFqe
  replace hqd := hqd.mono hFqe
  replace hrd := hrd.mono hFqe
  have hqe := ik_lit [7, 9] hKqe rfl
  refine oF nofun rfl hb21 rfl rfl rfl trivial (fun w1 hs => (lafter_at hs.know hqe (by decide) (r := (anyR 4 100)) (by kernel_rfl) rfl (by intro x hx; simp at hx; omega) (show stK (anyR 4 100) [7, 9] 2 = (⟨4, 100, false, 9, 0, 5⟩, [true, true]) by kernel_rfl)).any) (fun vre Fre hFre hNre ⟨Are, nre, cre, hv, hre⟩ => ?_)
  subst hv
  replace hqa := hqa.mono hFre
  replace hra := hra.mono hFre
  replace hqb := hqb.mono hFre
  replace hrb := hrb.mono hFre
  replace hqc := hqc.mono hFre
  replace hrc := hrc.mono hFre
  replace hqx := hqx.mono hFre
  replace hqy := hqy.mono hFre
  replace hqz := hqz.mono hFre
  replace hqd := hqd.mono hFre
  replace hrd := hrd.mono hFre
  replace hqe := hqe.mono hFre
  refine o1 rfl (det_move rfl) rfl rfl trivial ?_
  refine o1 rfl (det_extract rfl rfl) rfl rfl trivial ?_
  refine o1 rfl (det_extract rfl rfl) rfl rfl trivial ?_
  refine om1 rfl (new_alloc z24) rfl rfl trivial (fun p17 => ?_)
  refine stN nofun rfl tN24 rfl rfl rfl .head rfl trivial rfl rfl ?_
  refine o1 rfl (det_assign rfl) rfl rfl trivial ?_
  refine be rfl ?_
  refine k_then ?_
  refine t_seq ?_
  refine b0 ?_
  refine o1 rfl (det_loadN tN24 rfl rfl (.head _) rfl) rfl rfl trivial ?_
  refine oF nofun rfl hb11 rfl rfl rfl trivial (fun w1 hs => (missing_at hs.know (r := ⟨4, 100, false, 9, 0, 5⟩) (by kernel_rfl) (show missL ⟨4, 100, false, 9, 0, 5⟩ = [6, 8] by kernel_rfl)).any) (fun vm Fm hFm hNm ⟨Am, nm, cm, hv, hm⟩ => ?_)
  subst hv
  replace hqa := hqa.mono hFm
  replace hra := hra.mono hFm
  replace hqb := hqb.mono hFm
  replace hrb := hrb.mono hFm
  replace hqc := hqc.mono hFm
  replace hrc := hrc.mono hFm
  replace hqx := hqx.mono hFm
  replace hqy := hqy.mono hFm
  replace hqz := hqz.mono hFm
  replace hqd := hqd.mono hFm
  replace hrd := hrd.mono hFm
  replace hqe := hqe.mono hFm
  replace hre := hre.mono hFm
  refine o1 rfl (det_move rfl) rfl rfl trivial ?_
  refine o1 rfl (det_extract rfl rfl) rfl rfl trivial ?_
  refine o1 rfl (det_extract rfl rfl) rfl rfl trivial ?_
  refine o1 rfl (det_assign rfl) rfl rfl trivial ?_
  refine o1 rfl (det_assign rfl) rfl rfl trivial ?_
  refine be rfl ?_
  refine k_then ?_
  refine t_seq ?_
  refine b0 ?_
  refine o1 rfl (det_loadN tN24 rfl rfl (.tail _ (.tail _ (.tail _ (.tail _ (.tail _ (.tail _ (.tail _ (.head _)))))))) rfl) rfl rfl trivial ?_
  refine oF nofun rfl hb11 rfl rfl rfl trivial (fun w1 hs => (missing_at hs.know (r := (anyR 4 100)) (by kernel_rfl) (show missL (anyR 4 100) = [] by kernel_rfl)).any) (fun vn Fn hFn hNn ⟨An, nn, cn, hv, hn⟩ => ?_)
  subst hv
  replace hqa := hqa.mono hFn
  replace hra := hra.mono hFn
  replace hqb := hqb.mono hFn
  replace hrb := hrb.mono hFn
  replace hqc := hqc.mono hFn
  replace hrc := hrc.mono hFn
  replace hqx := hqx.mono hFn
  replace hqy := hqy.mono hFn
  replace hqz := hqz.mono hFn
  replace hqd := hqd.mono hFn
  replace hrd := hrd.mono hFn
  replace hqe := hqe.mono hFn
  replace hre := hre.mono hFn
  replace hm := hm.mono hFn
  refine o1 rfl (det_move rfl) rfl rfl trivial ?_
  refine o1 rfl (det_extract rfl rfl) rfl rfl trivial ?_
  refine o1 rfl (det_extract rfl rfl) rfl rfl trivial ?_
  refine o1 rfl (det_assign rfl) rfl rfl trivial ?_
  refine o1 rfl (det_assign rfl) rfl rfl trivial ?_
  refine be rfl ?_
  refine k_then ?_
  refine t_seq ?_
  refine b0 ?_
  refine o1 rfl (det_call hb16 rfl rfl (fun w1 hs => new_at hs.know (show okR (anyR 0 1) = false by kernel_rfl))) rfl rfl trivial ?_
  refine o1 rfl (det_move rfl) rfl rfl trivial ?_
  refine o1 rfl (det_extract rfl rfl) rfl rfl trivial ?_
  refine o1 rfl (det_extract rfl rfl) rfl rfl trivial ?_
  refine om1 rfl (new_alloc z24) rfl rfl trivial (fun p23 => ?_)
  refine stN nofun rfl tN24 rfl rfl rfl .head rfl trivial rfl rfl ?_
  refine o1 rfl (det_assign rfl) rfl rfl trivial ?_
  refine be rfl ?_
  refine k_then ?_
  refine t_seq ?_
  refine b0 ?_
  refine o1 rfl (det_call hb16 rfl rfl (fun w1 hs => new_at hs.know (show okR (anyR 65 1) = false by kernel_rfl))) rfl rfl trivial ?_
  refine o1 rfl (det_move rfl) rfl rfl trivial ?_
  refine o1 rfl (det_extract rfl rfl) rfl rfl trivial ?_
  refine o1 rfl (det_extract rfl rfl) rfl rfl trivial ?_
  refine om1 rfl (new_alloc z24) rfl rfl trivial (fun p25 => ?_)
  refine stN nofun rfl tN24 rfl rfl rfl .head rfl trivial rfl rfl ?_
  refine o1 rfl (det_assign rfl) rfl rfl trivial ?_
  refine be rfl ?_
  refine k_then ?_
  refine t_seq ?_
  refine b0 ?_
  refine o1 rfl (det_loadN tN24 rfl rfl (.tail _ (.tail _ (.tail _ (.tail _ (.tail _ (.tail _ (.tail _ (.tail _ (.tail _ (.head _)))))))))) rfl) rfl rfl trivial ?_
  refine o1 rfl (det_call hb18 rfl rfl (fun w1 hs => accept_ok hs.know (show Rc.se (anyR 4 100) < _ by decide) (show accA (anyR 4 100) 65536 0 = ((zR, false), 2) by kernel_rfl))) rfl rfl trivial ?_
  refine o1 rfl (det_move rfl) rfl rfl trivial ?_
  refine o1 rfl (det_extract rfl rfl) rfl rfl trivial ?_
  refine o1 rfl (det_extract rfl rfl) rfl rfl trivial ?_
  refine o1 rfl (det_extract rfl rfl) rfl rfl trivial ?_
  refine om1 rfl (new_alloc z24) rfl rfl trivial (fun p27 => ?_)
  refine stN nofun rfl tN24 rfl rfl rfl .head rfl trivial rfl rfl ?_
  refine o1 rfl (det_assign rfl) rfl rfl trivial ?_
  refine o1 rfl (det_assign rfl) rfl rfl trivial ?_
  refine be rfl ?_
  refine k_then ?_
  refine t_seq ?_
  refine b0 ?_
  refine o1 rfl (det_loadN tN24 rfl rfl (.tail _ (.tail _ (.tail _ (.tail _ (.tail _ (.tail _ (.tail _ (.tail _ (.tail _ (.tail _ (.head _))))))))))) rfl) rfl rfl trivial ?_
  refine o1 rfl (det_call hb18 rfl rfl (fun w1 hs => accept_ok hs.know (show Rc.se (anyR 4 100) < _ by decide) (show accA (anyR 4 100) 7 5 = ((⟨4, 100, false, 7, 5, 1⟩, true), 0) by kernel_rfl))) rfl rfl trivial ?_
  refine o1 rfl (det_move rfl) rfl rfl trivial ?_
  refine o1 rfl (det_extract rfl rfl) rfl rfl trivial ?_
  refine o1 rfl (det_extract rfl rfl) rfl rfl trivial ?_
  refine o1 rfl (det_extract rfl rfl) rfl rfl trivial ?_
  refine om1 rfl (new_alloc z24) rfl rfl trivial (fun p30 => ?_)
  refine stN nofun rfl tN24 rfl rfl rfl .head rfl trivial rfl rfl ?_
  refine o1 rfl (det_assign rfl) rfl rfl trivial ?_
  refine o1 rfl (det_assign rfl) rfl rfl trivial ?_
  refine be rfl ?_
  refine k_then ?_
  refine t_seq ?_
  refine b0 ?_
  refine o1 rfl (det_loadN tN24 rfl rfl (.head _) rfl) rfl rfl trivial ?_
  refine o1 rfl (det_call hb18 rfl rfl (fun w1 hs => accept_ok hs.know (show Rc.se ⟨4, 100, false, 7, 5, 1⟩ < _ by decide) (show accA ⟨4, 100, false, 7, 5, 1⟩ 8 4 = ((zR, false), 2) by kernel_rfl))) rfl rfl trivial ?_
  refine o1 rfl (det_move rfl) rfl rfl trivial ?_
  refine o1 rfl (det_extract rfl rfl) rfl rfl trivial ?_
  refine o1 rfl (det_extract rfl rfl) rfl rfl trivial ?_
  refine o1 rfl (det_extract rfl rfl) rfl rfl trivial ?_
  refine om1 rfl (new_alloc z24) rfl rfl trivial (fun p33 => ?_)
  refine stN nofun rfl tN24 rfl rfl rfl .head rfl trivial rfl rfl ?_
  refine o1 rfl (det_assign rfl) rfl rfl trivial ?_
  refine o1 rfl (det_assign rfl) rfl rfl trivial ?_
  refine be rfl ?_
  refine k_then ?_
  refine t_seq ?_
  refine b0 ?_
  refine o1 rfl (det_move rfl) rfl rfl trivial ?_
  refine o1 rfl (det_eql rfl rfl) rfl rfl trivial ?_
  refine o2P beq_iff_eq rfl (det_move rfl) rfl rfl trivial (fun hb => ?_) (fun hb => ?_)
  rotate_left
  · exfalso; first | exact hb rfl | (simp at hb; done) | (revert hb; decide)
  refine o1 rfl (det_move rfl) rfl rfl ⟨_, rfl, rfl⟩ ?_
  refine o1 rfl (det_eql rfl rfl) rfl rfl ⟨_, rfl, rfl⟩ ?_
  refine o1 rfl (det_pickT rfl rfl) rfl rfl trivial ?_
  refine o2P beq_iff_eq rfl (det_move rfl) rfl rfl trivial (fun hb => ?_) (fun hb => ?_)
  rotate_left
  · exfalso; first | exact hb rfl | (simp at hb; done) | (revert hb; decide)
  refine o1 rfl (det_move rfl) rfl rfl ⟨_, rfl, rfl⟩ ?_
  refine o1 rfl (det_eql rfl rfl) rfl rfl ⟨_, rfl, rfl⟩ ?_
  refine o1 rfl (det_pickT rfl rfl) rfl rfl trivial ?_
  refine o2P beq_iff_eq rfl (det_move rfl) rfl rfl trivial (fun hb => ?_) (fun hb => ?_)
  rotate_left
  · exfalso; first | exact hb rfl | (simp at hb; done) | (revert hb; decide)
  refine o1 rfl (det_move rfl) rfl rfl ⟨_, rfl, rfl⟩ ?_
  refine o1 rfl (det_eql rfl rfl) rfl rfl ⟨_, rfl, rfl⟩ ?_
  refine o1 rfl (det_pickT rfl rfl) rfl rfl trivial ?_
  refine o2P beq_iff_eq rfl (det_move rfl) rfl rfl trivial (fun hb => ?_) (fun hb => ?_)
  rotate_left
  · exfalso; first | exact hb rfl | (simp at hb; done) | (revert hb; decide)
  refine o1 rfl (det_move rfl) rfl rfl ⟨_, rfl, rfl⟩ ?_
  refine o1 rfl (det_eql rfl rfl) rfl rfl ⟨_, rfl, rfl⟩ ?_
  refine o1 rfl (det_pickT rfl rfl) rfl rfl trivial ?_
  refine o2P beq_iff_eq rfl (det_move rfl) rfl rfl trivial (fun hb => ?_) (fun hb => ?_)
  rotate_left
  · exfalso; first | exact hb rfl | (simp at hb; done) | (revert hb; decide)
  refine o1 rfl (det_move rfl) rfl rfl ⟨_, rfl, rfl⟩ ?_
  refine o1 rfl (det_eql rfl rfl) rfl rfl ⟨_, rfl, rfl⟩ ?_
  refine o1 rfl (det_pickT rfl rfl) rfl rfl trivial ?_
  refine o2P beq_iff_eq rfl (det_move rfl) rfl rfl trivial (fun hb => ?_) (fun hb => ?_)
  rotate_left
  · exfalso; first | exact hb rfl | (simp at hb; done) | (revert hb; decide)
  refine o1 rfl (det_move rfl) rfl rfl ⟨_, rfl, rfl⟩ ?_
  refine o1 rfl (det_eql rfl rfl) rfl rfl ⟨_, rfl, rfl⟩ ?_
  refine o1 rfl (det_pickT rfl rfl) rfl rfl trivial ?_
  refine o2P beq_iff_eq rfl (det_move rfl) rfl rfl trivial (fun hb => ?_) (fun hb => ?_)
  rotate_left
  · exfalso; first | exact hb rfl | (simp at hb; done) | (revert hb; decide)
  refine o1 rfl (det_move rfl) rfl rfl ⟨_, rfl, rfl⟩ ?_
  refine o1 rfl (det_eql rfl rfl) rfl rfl ⟨_, rfl, rfl⟩ ?_
  refine o1 rfl (det_pickT rfl rfl) rfl rfl trivial ?_
  refine o2P beq_iff_eq rfl (det_move rfl) rfl rfl trivial (fun hb => ?_) (fun hb => ?_)
  rotate_left
  · exfalso; first | exact hb rfl | (simp at hb; done) | (revert hb; decide)
  refine o1 rfl (det_move rfl) rfl rfl ⟨_, rfl, rfl⟩ ?_
  refine o1 rfl (det_eql rfl rfl) rfl rfl ⟨_, rfl, rfl⟩ ?_
  refine o1 rfl (det_pickT rfl rfl) rfl rfl trivial ?_
  refine o1 rfl (det_assign rfl) rfl rfl trivial ?_
  refine be rfl ?_
  refine k_then ?_
  refine t_seq ?_
  refine b0 ?_
  refine o1 rfl (det_move rfl) rfl rfl trivial ?_
  refine o2P beq_iff_eq rfl (det_move rfl) rfl rfl trivial (fun hb => ?_) (fun hb => ?_)
  rotate_left
  · exfalso; first | exact hb rfl | (simp at hb; done) | (revert hb; decide)
  refine o1 rfl (det_move rfl) rfl rfl ⟨_, rfl, rfl⟩ ?_
  refine o1 rfl (det_not rfl) rfl rfl ⟨_, rfl, rfl⟩ ?_
  refine o1 rfl (det_pickT rfl rfl) rfl rfl trivial ?_
  refine o2P not_iff_false rfl (det_move rfl) rfl rfl trivial (fun hb => ?_) (fun hb => ?_)
  rotate_left
  · exfalso; first | exact hb rfl | (simp at hb; done) | (revert hb; decide)
  refine o1 rfl (det_move rfl) rfl rfl ⟨_, rfl, rfl⟩ ?_
  refine o1 rfl (det_pickT rfl rfl) rfl rfl trivial ?_
  refine o2P Iff.rfl rfl (det_move rfl) rfl rfl trivial (fun hb => ?_) (fun hb => ?_)
  rotate_left
  · exfalso; first | exact hb rfl | (simp at hb; done) | (revert hb; decide)
  refine o1 rfl (det_move rfl) rfl rfl ⟨_, rfl, rfl⟩ ?_
  refine om1 rfl (new_buildSlice rfl (fun w => bsl32_2_0_1 _ _ w)) rfl rfl ⟨_, rfl, rfl⟩ (fun p183 => ?_)
  refine tk_freeze (pre := []) rfl (fun Fqu hFqu hNqu hKqu => ?_)
  replace hqa := hqa.mono hFqu
  replace hra := hra.mono hFqu
  replace hqb := hqb.mono hFqu
  replace hrb := hrb.mono hFqu
  replace hqc := hqc.mono hFqu
  replace hrc := hrc.mono hFqu
  replace hqx := hqx.mono hFqu
  replace hqy := hqy.mono hFqu
  replace hqz := hqz.mono hFqu
  replace hqd := hqd.mono hFqu
  replace hrd := hrd.mono hFqu
  replace hqe := hqe.mono hFqu
  replace hre := hre.mono hFqu
  replace hm := hm.mono hFqu
  replace hn := hn.mono hFqu
  have hqu := ik_lit [6, 8] hKqu rfl
  refine o1 rfl (det_call hb14 rfl rfl (fun w1 hs => equalI_ok hs.know hm hqu (by rw [hm.len]; decide))) rfl rfl ⟨_, rfl, rfl⟩ ?_
  refine o1 rfl (det_pickT rfl rfl) rfl rfl trivial ?_
  refine o2P Iff.rfl rfl (det_move rfl) rfl rfl trivial (fun hb => ?_) (fun hb => ?_)
  rotate_left
  · exfalso; first | exact hb rfl | (simp at hb; done) | (revert hb; decide)
  refine o1 rfl (det_move rfl) rfl rfl ⟨_, rfl, rfl⟩ ?_
  refine o1 rfl (det_lenS sl32 rfl) rfl rfl ⟨_, rfl, rfl⟩ ?_
  refine o1 rfl (det_eql rfl rfl) rfl rfl ⟨_, rfl, rfl⟩ ?_
  refine o1 rfl (det_pickT rfl rfl) rfl rfl trivial ?_
  refine o1 rfl (det_assign rfl) rfl rfl trivial ?_
  refine be rfl ?_
  refine k_then ?_
  refine t_ret ?_
  refine ret_tmp rfl rfl rfl (fun w1 hs => ?_)
  exact ⟨by rw [hn.len]; rfl, hs.keep⟩

end Go.Proofs.Rc
