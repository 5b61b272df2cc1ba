/-
  Walks through layers 27, 29 and 30 and their references.
-/
import Derived.Test.YtgaliocgkjghnaaSwK2
namespace Go.Proofs.Sw
open Go Go.Eng Go.Gt Go.Proofs.Gt Go.Sw
set_option maxRecDepth 4000

/-- works. -/
theorem works29_ok {w : World} {F : Know} (hF : ∀ a v, F a = some v → w.cell? a = some v)  : Pure Try.prog 24 [] w (.bool true) := by
  refine fn_pure (F := F) Try.func24 rfl Try.ntmps24 rfl hF ?_
  refine t_seq ?_
  refine b0 ?_
  refine o1 rfl (det_assign rfl) rfl rfl trivial ?_
  refine be rfl ?_
  refine k_then ?_
  refine t_seq ?_
  refine b0 ?_
  refine om1 rfl (new_buildSlice rfl (fun w => bsl105_4_0_1_2_3 _ _ _ _ w)) rfl rfl trivial (fun p15 => ?_)
  refine tk_freeze (pre := []) rfl (fun Fa hFa hNa hKa => ?_)
  skip
  refine oF nofun rfl hb32 rfl rfl rfl trivial (fun w1 hs => (list_gl hs.know ([(128, 10), (127, 30)] : Ents) hKa rfl (by decide) (by decide) (by decide)).any) (fun va Ga hGa hMa ⟨Ba, capa, hva, hEa⟩ => ?_)
  subst hva
  skip
  refine om1 rfl (new_buildSlice rfl (fun w => bsl105_4_0_1_2_3 _ _ _ _ w)) rfl rfl trivial (fun p17 => ?_)
  refine tk_freeze (pre := []) rfl (fun Fb hFb hNb hKb => ?_)
  replace hEa := hEa.mono hFb
  refine oF nofun rfl hb32 rfl rfl rfl trivial (fun w1 hs => (list_gl hs.know ([(255, 5), (127, 5)] : Ents) hKb rfl (by decide) (by decide) (by decide)).any) (fun vb Gb hGb hMb ⟨Bb, capb, hvb, hEb⟩ => ?_)
  subst hvb
  replace hEa := hEa.mono hGb
  refine om1 rfl (new_alloc z30) rfl rfl trivial (fun p1 => ?_)
  refine om1 rfl (new_alloc z30) rfl rfl trivial (fun p2 => ?_)
  refine stN nofun rfl tN30 rfl rfl rfl (.tail .head) rfl trivial rfl rfl ?_
  refine stN nofun rfl tN30 rfl rfl rfl .head rfl trivial rfl rfl ?_
  refine be rfl ?_
  refine k_then ?_
  refine t_seq ?_
  refine b0 ?_
  refine o1 rfl (det_loadN tN30 rfl rfl (.tail _ (.head _)) rfl) rfl rfl trivial ?_
  refine o1 rfl (det_call hb21 rfl rfl (fun w1 hs => new29_at hs.know hEa (show newC (⟨Ba, ([(128, 10), (127, 30)] : Ents).length, capa, ([(128, 10), (127, 30)] : Ents), sumL ([(128, 10), (127, 30)] : Ents)⟩ : Gl) 100 = ((⟨(⟨Ba, ([(128, 10), (127, 30)] : Ents).length, capa, ([(128, 10), (127, 30)] : Ents), sumL ([(128, 10), (127, 30)] : Ents)⟩ : Gl), 100, false, g0, 0⟩ : Ch), 0) by kernel_rfl))) rfl rfl trivial ?_
  refine o1 rfl (det_move rfl) rfl rfl trivial ?_
  refine o1 rfl (det_extract rfl rfl) rfl rfl trivial ?_
  refine o1 rfl (det_extract rfl rfl) rfl rfl trivial ?_
  refine om1 rfl (new_alloc z34) rfl rfl trivial (fun p3 => ?_)
  refine stN nofun rfl tN34 rfl rfl rfl .head rfl trivial rfl rfl ?_
  refine o1 rfl (det_assign rfl) rfl rfl trivial ?_
  refine be rfl ?_
  refine k_then ?_
  refine t_seq ?_
  refine b0 ?_
  refine o1 rfl (det_loadN tN34 rfl rfl (.head _) rfl) rfl rfl trivial ?_
  refine o1 rfl (det_loadN tN30 rfl rfl (.tail _ (.head _)) rfl) rfl rfl trivial ?_
  refine o1 rfl (det_call hb29 rfl rfl (fun w1 hs => set_at hs.know (c := (⟨(⟨Ba, ([(128, 10), (127, 30)] : Ents).length, capa, ([(128, 10), (127, 30)] : Ents), sumL ([(128, 10), (127, 30)] : Ents)⟩ : Gl), 100, false, g0, 0⟩ : Ch)) ⟨hEa, g0_k _⟩ hEb (show setC (⟨(⟨Ba, ([(128, 10), (127, 30)] : Ents).length, capa, ([(128, 10), (127, 30)] : Ents), sumL ([(128, 10), (127, 30)] : Ents)⟩ : Gl), 100, false, g0, 0⟩ : Ch) 150 (⟨Bb, ([(255, 5), (127, 5)] : Ents).length, capb, ([(255, 5), (127, 5)] : Ents), sumL ([(255, 5), (127, 5)] : Ents)⟩ : Gl) 0 = ((⟨(⟨Ba, ([(128, 10), (127, 30)] : Ents).length, capa, ([(128, 10), (127, 30)] : Ents), sumL ([(128, 10), (127, 30)] : Ents)⟩ : Gl), 100, true, (⟨Bb, ([(255, 5), (127, 5)] : Ents).length, capb, ([(255, 5), (127, 5)] : Ents), sumL ([(255, 5), (127, 5)] : Ents)⟩ : Gl), 180⟩ : Ch), 0) by kernel_rfl))) rfl rfl trivial ?_
  refine o1 rfl (det_move rfl) rfl rfl trivial ?_
  refine o1 rfl (det_extract rfl rfl) rfl rfl trivial ?_
  refine o1 rfl (det_extract rfl rfl) rfl rfl trivial ?_
  refine om1 rfl (new_alloc z34) rfl rfl trivial (fun p5 => ?_)
  refine stN nofun rfl tN34 rfl rfl rfl .head rfl trivial rfl rfl ?_
  refine o1 rfl (det_assign rfl) rfl rfl trivial ?_
  refine be rfl ?_
  refine k_then ?_
  refine t_seq ?_
  refine b0 ?_
  refine o1 rfl (det_loadN tN34 rfl rfl (.tail _ (.head _)) rfl) rfl rfl trivial ?_
  refine o1 rfl (det_loadN tN30 rfl rfl (.tail _ (.tail _ (.head _))) rfl) rfl rfl trivial ?_
  refine o1 rfl (det_call hb29 rfl rfl (fun w1 hs => set_at hs.know (c := (⟨(⟨Ba, ([(128, 10), (127, 30)] : Ents).length, capa, ([(128, 10), (127, 30)] : Ents), sumL ([(128, 10), (127, 30)] : Ents)⟩ : Gl), 100, false, g0, 0⟩ : Ch)) ⟨hEa, g0_k _⟩ hEb (show setC (⟨(⟨Ba, ([(128, 10), (127, 30)] : Ents).length, capa, ([(128, 10), (127, 30)] : Ents), sumL ([(128, 10), (127, 30)] : Ents)⟩ : Gl), 100, false, g0, 0⟩ : Ch) 150 (⟨Bb, ([(255, 5), (127, 5)] : Ents).length, capb, ([(255, 5), (127, 5)] : Ents), sumL ([(255, 5), (127, 5)] : Ents)⟩ : Gl) 181 = ((⟨(⟨Ba, ([(128, 10), (127, 30)] : Ents).length, capa, ([(128, 10), (127, 30)] : Ents), sumL ([(128, 10), (127, 30)] : Ents)⟩ : Gl), 100, true, (⟨Bb, ([(255, 5), (127, 5)] : Ents).length, capb, ([(255, 5), (127, 5)] : Ents), sumL ([(255, 5), (127, 5)] : Ents)⟩ : Gl), 220⟩ : Ch), 0) by kernel_rfl))) rfl rfl trivial ?_
  refine o1 rfl (det_move rfl) rfl rfl trivial ?_
  refine o1 rfl (det_extract rfl rfl) rfl rfl trivial ?_
  refine o1 rfl (det_extract rfl rfl) rfl rfl trivial ?_
  refine om1 rfl (new_alloc z34) rfl rfl trivial (fun p7 => ?_)
  refine stN nofun rfl tN34 rfl rfl rfl .head rfl trivial rfl rfl ?_
  refine o1 rfl (det_assign rfl) rfl rfl trivial ?_
  refine be rfl ?_
  refine k_then ?_
  refine t_seq ?_
  refine b0 ?_
  refine o1 rfl (det_loadN tN34 rfl rfl (.tail _ (.head _)) rfl) rfl rfl trivial ?_
  refine o1 rfl (det_call hb28 rfl rfl (fun w1 hs => adv_at hs.know (c := (⟨(⟨Ba, ([(128, 10), (127, 30)] : Ents).length, capa, ([(128, 10), (127, 30)] : Ents), sumL ([(128, 10), (127, 30)] : Ents)⟩ : Gl), 100, true, (⟨Bb, ([(255, 5), (127, 5)] : Ents).length, capb, ([(255, 5), (127, 5)] : Ents), sumL ([(255, 5), (127, 5)] : Ents)⟩ : Gl), 180⟩ : Ch)) ⟨hEa, hEb⟩ (show advC (⟨(⟨Ba, ([(128, 10), (127, 30)] : Ents).length, capa, ([(128, 10), (127, 30)] : Ents), sumL ([(128, 10), (127, 30)] : Ents)⟩ : Gl), 100, true, (⟨Bb, ([(255, 5), (127, 5)] : Ents).length, capb, ([(255, 5), (127, 5)] : Ents), sumL ([(255, 5), (127, 5)] : Ents)⟩ : Gl), 180⟩ : Ch) 179 = ((⟨(⟨Ba, ([(128, 10), (127, 30)] : Ents).length, capa, ([(128, 10), (127, 30)] : Ents), sumL ([(128, 10), (127, 30)] : Ents)⟩ : Gl), 100, true, (⟨Bb, ([(255, 5), (127, 5)] : Ents).length, capb, ([(255, 5), (127, 5)] : Ents), sumL ([(255, 5), (127, 5)] : Ents)⟩ : Gl), 180⟩ : Ch), 0) by kernel_rfl))) rfl rfl trivial ?_
  refine o1 rfl (det_move rfl) rfl rfl trivial ?_
  refine o1 rfl (det_extract rfl rfl) rfl rfl trivial ?_
  refine o1 rfl (det_extract rfl rfl) rfl rfl trivial ?_
  refine om1 rfl (new_alloc z34) rfl rfl trivial (fun p9 => ?_)
  refine stN nofun rfl tN34 rfl rfl rfl .head rfl trivial rfl rfl ?_
  refine o1 rfl (det_assign rfl) rfl rfl trivial ?_
  refine be rfl ?_
  refine k_then ?_
  refine t_seq ?_
  refine b0 ?_
  refine o1 rfl (det_loadN tN34 rfl rfl (.tail _ (.tail _ (.head _))) rfl) rfl rfl trivial ?_
  refine o1 rfl (det_call hb28 rfl rfl (fun w1 hs => adv_at hs.know (c := (⟨(⟨Ba, ([(128, 10), (127, 30)] : Ents).length, capa, ([(128, 10), (127, 30)] : Ents), sumL ([(128, 10), (127, 30)] : Ents)⟩ : Gl), 100, true, (⟨Bb, ([(255, 5), (127, 5)] : Ents).length, capb, ([(255, 5), (127, 5)] : Ents), sumL ([(255, 5), (127, 5)] : Ents)⟩ : Gl), 180⟩ : Ch)) ⟨hEa, hEb⟩ (show advC (⟨(⟨Ba, ([(128, 10), (127, 30)] : Ents).length, capa, ([(128, 10), (127, 30)] : Ents), sumL ([(128, 10), (127, 30)] : Ents)⟩ : Gl), 100, true, (⟨Bb, ([(255, 5), (127, 5)] : Ents).length, capb, ([(255, 5), (127, 5)] : Ents), sumL ([(255, 5), (127, 5)] : Ents)⟩ : Gl), 180⟩ : Ch) 180 = ((⟨(⟨Bb, ([(255, 5), (127, 5)] : Ents).length, capb, ([(255, 5), (127, 5)] : Ents), sumL ([(255, 5), (127, 5)] : Ents)⟩ : Gl), 180, false, g0, 0⟩ : Ch), 0) by kernel_rfl))) rfl rfl trivial ?_
  refine o1 rfl (det_move rfl) rfl rfl trivial ?_
  refine o1 rfl (det_extract rfl rfl) rfl rfl trivial ?_
  refine o1 rfl (det_extract rfl rfl) rfl rfl trivial ?_
  refine om1 rfl (new_alloc z34) rfl rfl trivial (fun p11 => ?_)
  refine stN nofun rfl tN34 rfl rfl rfl .head rfl trivial rfl rfl ?_
  refine o1 rfl (det_assign rfl) rfl rfl trivial ?_
  refine be rfl ?_
  refine k_then ?_
  refine t_seq ?_
  refine t_seq ?_
  refine b0 ?_
  refine o1 rfl (det_move rfl) rfl rfl trivial ?_
  refine o1 rfl (det_neq rfl rfl) rfl rfl trivial ?_
  refine o2P bne_iff_ne rfl (det_move rfl) rfl rfl trivial (fun hb => ?_) (fun hb => ?_)
  · exfalso; first | exact hb rfl | (simp at hb; done) | (revert hb; decide)
  refine o1 rfl (det_move rfl) rfl rfl ⟨_, rfl, rfl⟩ ?_
  refine o1 rfl (det_neq rfl rfl) rfl rfl ⟨_, rfl, rfl⟩ ?_
  refine o1 rfl (det_pickF rfl rfl) rfl rfl trivial ?_
  refine o2P bne_iff_ne rfl (det_move rfl) rfl rfl trivial (fun hb => ?_) (fun hb => ?_)
  · exfalso; first | exact hb rfl | (simp at hb; done) | (revert hb; decide)
  refine o1 rfl (det_move rfl) rfl rfl ⟨_, rfl, rfl⟩ ?_
  refine o1 rfl (det_neq rfl rfl) rfl rfl ⟨_, rfl, rfl⟩ ?_
  refine o1 rfl (det_pickF rfl rfl) rfl rfl trivial ?_
  refine o2P bne_iff_ne rfl (det_move rfl) rfl rfl trivial (fun hb => ?_) (fun hb => ?_)
  · exfalso; first | exact hb rfl | (simp at hb; done) | (revert hb; decide)
  refine o1 rfl (det_move rfl) rfl rfl ⟨_, rfl, rfl⟩ ?_
  refine o1 rfl (det_neq rfl rfl) rfl rfl ⟨_, rfl, rfl⟩ ?_
  refine o1 rfl (det_pickF rfl rfl) rfl rfl trivial ?_
  refine o2P bne_iff_ne rfl (det_move rfl) rfl rfl trivial (fun hb => ?_) (fun hb => ?_)
  · exfalso; first | exact hb rfl | (simp at hb; done) | (revert hb; decide)
  refine o1 rfl (det_move rfl) rfl rfl ⟨_, rfl, rfl⟩ ?_
  refine o1 rfl (det_neq rfl rfl) rfl rfl ⟨_, rfl, rfl⟩ ?_
  refine o1 rfl (det_pickF rfl rfl) rfl rfl trivial ?_
  refine be rfl ?_
  refine k_then ?_
  refine t_condP bne_iff_ne rfl (fun hb => ?_) (fun hb => ?_)
  · exfalso; first | exact hb rfl | (simp at hb; done) | (revert hb; decide)
  refine t_skip ?_
  refine k_then ?_
  refine t_seq ?_
  refine b0 ?_
  refine o1 rfl (det_loadN tN34 rfl rfl (.tail _ (.tail _ (.tail _ (.tail _ (.head _))))) rfl) rfl rfl trivial ?_
  refine o1 rfl (det_call hb30 rfl rfl (fun w1 hs => hmask_at hs.know (c := (⟨(⟨Ba, ([(128, 10), (127, 30)] : Ents).length, capa, ([(128, 10), (127, 30)] : Ents), sumL ([(128, 10), (127, 30)] : Ents)⟩ : Gl), 100, false, g0, 0⟩ : Ch)) ⟨hEa, g0_k _⟩ (t := 105) (m := 128) (by kernel_rfl))) rfl rfl trivial ?_
  refine o1 rfl (det_eql rfl rfl) rfl rfl trivial ?_
  refine o2P beq_iff_eq rfl (det_move rfl) rfl rfl trivial (fun hb => ?_) (fun hb => ?_)
  rotate_left
  · exfalso; first | exact hb rfl | (simp at hb; done) | (revert hb; decide)
  refine o1 rfl (det_loadN tN34 rfl rfl (.tail _ (.tail _ (.tail _ (.tail _ (.head _))))) rfl) rfl rfl ⟨_, rfl, rfl⟩ ?_
  refine o1 rfl (det_call hb30 rfl rfl (fun w1 hs => hmask_at hs.know (c := (⟨(⟨Ba, ([(128, 10), (127, 30)] : Ents).length, capa, ([(128, 10), (127, 30)] : Ents), sumL ([(128, 10), (127, 30)] : Ents)⟩ : Gl), 100, false, g0, 0⟩ : Ch)) ⟨hEa, g0_k _⟩ (t := 99) (m := 127) (by kernel_rfl))) rfl rfl ⟨_, rfl, rfl⟩ ?_
  refine o1 rfl (det_eql rfl rfl) rfl rfl ⟨_, rfl, rfl⟩ ?_
  refine o1 rfl (det_pickT rfl rfl) rfl rfl trivial ?_
  refine o2P beq_iff_eq rfl (det_move rfl) rfl rfl trivial (fun hb => ?_) (fun hb => ?_)
  rotate_left
  · exfalso; first | exact hb rfl | (simp at hb; done) | (revert hb; decide)
  refine o1 rfl (det_loadN tN34 rfl rfl (.tail _ (.tail _ (.tail _ (.tail _ (.head _))))) rfl) rfl rfl ⟨_, rfl, rfl⟩ ?_
  refine o1 rfl (det_call hb30 rfl rfl (fun w1 hs => hmask_at hs.know (c := (⟨(⟨Ba, ([(128, 10), (127, 30)] : Ents).length, capa, ([(128, 10), (127, 30)] : Ents), sumL ([(128, 10), (127, 30)] : Ents)⟩ : Gl), 100, false, g0, 0⟩ : Ch)) ⟨hEa, g0_k _⟩ (t := 140) (m := 128) (by kernel_rfl))) rfl rfl ⟨_, rfl, rfl⟩ ?_
  refine o1 rfl (det_eql rfl rfl) rfl rfl ⟨_, rfl, rfl⟩ ?_
  refine o1 rfl (det_pickT rfl rfl) rfl rfl trivial ?_
  refine o2P beq_iff_eq rfl (det_move rfl) rfl rfl trivial (fun hb => ?_) (fun hb => ?_)
  rotate_left
  · exfalso; first | exact hb rfl | (simp at hb; done) | (revert hb; decide)
  refine o1 rfl (det_fieldAddr fld34_4 rfl) rfl rfl ⟨_, rfl, rfl⟩ ?_
  refine o1 rfl (det_load1 t1_3 rfl rfl (.tail _ (.tail _ (.tail _ (.head _)))) rfl) rfl rfl ⟨_, rfl, rfl⟩ ?_
  refine o1 rfl (det_eql rfl rfl) rfl rfl ⟨_, rfl, rfl⟩ ?_
  refine o1 rfl (det_pickT rfl rfl) rfl rfl trivial ?_
  refine o2P beq_iff_eq rfl (det_move rfl) rfl rfl trivial (fun hb => ?_) (fun hb => ?_)
  rotate_left
  · exfalso; first | exact hb rfl | (simp at hb; done) | (revert hb; decide)
  refine o1 rfl (det_fieldAddr fld34_4 rfl) rfl rfl ⟨_, rfl, rfl⟩ ?_
  refine o1 rfl (det_load1 t1_3 rfl rfl (.tail _ (.tail _ (.head _))) rfl) rfl rfl ⟨_, rfl, rfl⟩ ?_
  refine o1 rfl (det_eql rfl rfl) rfl rfl ⟨_, rfl, rfl⟩ ?_
  refine o1 rfl (det_pickT rfl rfl) rfl rfl trivial ?_
  refine o1 rfl (det_assign rfl) rfl rfl trivial ?_
  refine be rfl ?_
  refine k_then ?_
  refine t_seq ?_
  refine b0 ?_
  refine o1 rfl (det_loadN tN34 rfl rfl (.tail _ (.tail _ (.tail _ (.head _)))) rfl) rfl rfl trivial ?_
  refine o1 rfl (det_call hb30 rfl rfl (fun w1 hs => hmask_at hs.know (c := (⟨(⟨Ba, ([(128, 10), (127, 30)] : Ents).length, capa, ([(128, 10), (127, 30)] : Ents), sumL ([(128, 10), (127, 30)] : Ents)⟩ : Gl), 100, true, (⟨Bb, ([(255, 5), (127, 5)] : Ents).length, capb, ([(255, 5), (127, 5)] : Ents), sumL ([(255, 5), (127, 5)] : Ents)⟩ : Gl), 180⟩ : Ch)) ⟨hEa, hEb⟩ (t := 179) (m := 127) (by kernel_rfl))) rfl rfl trivial ?_
  refine o1 rfl (det_eql rfl rfl) rfl rfl trivial ?_
  refine o2P beq_iff_eq rfl (det_move rfl) rfl rfl trivial (fun hb => ?_) (fun hb => ?_)
  rotate_left
  · exfalso; first | exact hb rfl | (simp at hb; done) | (revert hb; decide)
  refine o1 rfl (det_loadN tN34 rfl rfl (.tail _ (.tail _ (.tail _ (.head _)))) rfl) rfl rfl ⟨_, rfl, rfl⟩ ?_
  refine o1 rfl (det_call hb30 rfl rfl (fun w1 hs => hmask_at hs.know (c := (⟨(⟨Ba, ([(128, 10), (127, 30)] : Ents).length, capa, ([(128, 10), (127, 30)] : Ents), sumL ([(128, 10), (127, 30)] : Ents)⟩ : Gl), 100, true, (⟨Bb, ([(255, 5), (127, 5)] : Ents).length, capb, ([(255, 5), (127, 5)] : Ents), sumL ([(255, 5), (127, 5)] : Ents)⟩ : Gl), 180⟩ : Ch)) ⟨hEa, hEb⟩ (t := 180) (m := 255) (by kernel_rfl))) rfl rfl ⟨_, rfl, rfl⟩ ?_
  refine o1 rfl (det_eql rfl rfl) rfl rfl ⟨_, rfl, rfl⟩ ?_
  refine o1 rfl (det_pickT rfl rfl) rfl rfl trivial ?_
  refine o2P beq_iff_eq rfl (det_move rfl) rfl rfl trivial (fun hb => ?_) (fun hb => ?_)
  rotate_left
  · exfalso; first | exact hb rfl | (simp at hb; done) | (revert hb; decide)
  refine o1 rfl (det_loadN tN34 rfl rfl (.tail _ (.tail _ (.tail _ (.head _)))) rfl) rfl rfl ⟨_, rfl, rfl⟩ ?_
  refine o1 rfl (det_call hb30 rfl rfl (fun w1 hs => hmask_at hs.know (c := (⟨(⟨Ba, ([(128, 10), (127, 30)] : Ents).length, capa, ([(128, 10), (127, 30)] : Ents), sumL ([(128, 10), (127, 30)] : Ents)⟩ : Gl), 100, true, (⟨Bb, ([(255, 5), (127, 5)] : Ents).length, capb, ([(255, 5), (127, 5)] : Ents), sumL ([(255, 5), (127, 5)] : Ents)⟩ : Gl), 180⟩ : Ch)) ⟨hEa, hEb⟩ (t := 185) (m := 127) (by kernel_rfl))) rfl rfl ⟨_, rfl, rfl⟩ ?_
  refine o1 rfl (det_eql rfl rfl) rfl rfl ⟨_, rfl, rfl⟩ ?_
  refine o1 rfl (det_pickT rfl rfl) rfl rfl trivial ?_
  refine o2P beq_iff_eq rfl (det_move rfl) rfl rfl trivial (fun hb => ?_) (fun hb => ?_)
  rotate_left
  · exfalso; first | exact hb rfl | (simp at hb; done) | (revert hb; decide)
  refine o1 rfl (det_loadN tN34 rfl rfl (.tail _ (.tail _ (.tail _ (.head _)))) rfl) rfl rfl ⟨_, rfl, rfl⟩ ?_
  refine o1 rfl (det_call hb30 rfl rfl (fun w1 hs => hmask_at hs.know (c := (⟨(⟨Ba, ([(128, 10), (127, 30)] : Ents).length, capa, ([(128, 10), (127, 30)] : Ents), sumL ([(128, 10), (127, 30)] : Ents)⟩ : Gl), 100, true, (⟨Bb, ([(255, 5), (127, 5)] : Ents).length, capb, ([(255, 5), (127, 5)] : Ents), sumL ([(255, 5), (127, 5)] : Ents)⟩ : Gl), 180⟩ : Ch)) ⟨hEa, hEb⟩ (t := 190) (m := 255) (by kernel_rfl))) rfl rfl ⟨_, rfl, rfl⟩ ?_
  refine o1 rfl (det_eql rfl rfl) rfl rfl ⟨_, rfl, rfl⟩ ?_
  refine o1 rfl (det_pickT rfl rfl) rfl rfl trivial ?_
  refine o1 rfl (det_assign rfl) rfl rfl trivial ?_
  refine be rfl ?_
  refine k_then ?_
  refine t_seq ?_
  refine b0 ?_
  refine o1 rfl (det_move rfl) rfl rfl trivial ?_
  refine o2P beq_iff_eq rfl (det_move rfl) rfl rfl trivial (fun hb => ?_) (fun hb => ?_)
  rotate_left
  · exfalso; first | exact hb rfl | (simp at hb; done) | (revert hb; decide)
  refine o1 rfl (det_move rfl) rfl rfl ⟨_, rfl, rfl⟩ ?_
  refine o1 rfl (det_pickT rfl rfl) rfl rfl trivial ?_
  refine o2P beq_iff_eq rfl (det_move rfl) rfl rfl trivial (fun hb => ?_) (fun hb => ?_)
  rotate_left
  · exfalso; first | exact hb rfl | (simp at hb; done) | (revert hb; decide)
  refine o1 rfl (det_loadN tN34 rfl rfl (.tail _ (.tail _ (.tail _ (.head _)))) rfl) rfl rfl ⟨_, rfl, rfl⟩ ?_
  refine o1 rfl (det_call hb31 rfl rfl (fun w1 hs => hfits_at hs.know (c := (⟨(⟨Ba, ([(128, 10), (127, 30)] : Ents).length, capa, ([(128, 10), (127, 30)] : Ents), sumL ([(128, 10), (127, 30)] : Ents)⟩ : Gl), 100, true, (⟨Bb, ([(255, 5), (127, 5)] : Ents).length, capb, ([(255, 5), (127, 5)] : Ents), sumL ([(255, 5), (127, 5)] : Ents)⟩ : Gl), 180⟩ : Ch)) ⟨hEa, hEb⟩ (cl := 0) (t := 175) (lg := 20) (by decide) (b := true) (by kernel_rfl))) rfl rfl ⟨_, rfl, rfl⟩ ?_
  refine o1 rfl (det_pickT rfl rfl) rfl rfl trivial ?_
  refine o2P Iff.rfl rfl (det_move rfl) rfl rfl trivial (fun hb => ?_) (fun hb => ?_)
  rotate_left
  · exfalso; first | exact hb rfl | (simp at hb; done) | (revert hb; decide)
  refine o1 rfl (det_loadN tN34 rfl rfl (.tail _ (.tail _ (.tail _ (.head _)))) rfl) rfl rfl ⟨_, rfl, rfl⟩ ?_
  refine o1 rfl (det_call hb31 rfl rfl (fun w1 hs => hfits_at hs.know (c := (⟨(⟨Ba, ([(128, 10), (127, 30)] : Ents).length, capa, ([(128, 10), (127, 30)] : Ents), sumL ([(128, 10), (127, 30)] : Ents)⟩ : Gl), 100, true, (⟨Bb, ([(255, 5), (127, 5)] : Ents).length, capb, ([(255, 5), (127, 5)] : Ents), sumL ([(255, 5), (127, 5)] : Ents)⟩ : Gl), 180⟩ : Ch)) ⟨hEa, hEb⟩ (cl := 7) (t := 175) (lg := 1) (by decide) (b := false) (by kernel_rfl))) rfl rfl ⟨_, rfl, rfl⟩ ?_
  refine o1 rfl (det_not rfl) rfl rfl ⟨_, rfl, rfl⟩ ?_
  refine o1 rfl (det_pickT rfl rfl) rfl rfl trivial ?_
  refine o2P not_iff_false rfl (det_move rfl) rfl rfl trivial (fun hb => ?_) (fun hb => ?_)
  rotate_left
  · exfalso; first | exact hb rfl | (simp at hb; done) | (revert hb; decide)
  refine o1 rfl (det_loadN tN34 rfl rfl (.tail _ (.tail _ (.tail _ (.head _)))) rfl) rfl rfl ⟨_, rfl, rfl⟩ ?_
  refine o1 rfl (det_call hb31 rfl rfl (fun w1 hs => hfits_at hs.know (c := (⟨(⟨Ba, ([(128, 10), (127, 30)] : Ents).length, capa, ([(128, 10), (127, 30)] : Ents), sumL ([(128, 10), (127, 30)] : Ents)⟩ : Gl), 100, true, (⟨Bb, ([(255, 5), (127, 5)] : Ents).length, capb, ([(255, 5), (127, 5)] : Ents), sumL ([(255, 5), (127, 5)] : Ents)⟩ : Gl), 180⟩ : Ch)) ⟨hEa, hEb⟩ (cl := 7) (t := 180) (lg := 6) (by decide) (b := false) (by kernel_rfl))) rfl rfl ⟨_, rfl, rfl⟩ ?_
  refine o1 rfl (det_not rfl) rfl rfl ⟨_, rfl, rfl⟩ ?_
  refine o1 rfl (det_pickT rfl rfl) rfl rfl trivial ?_
  refine o2P not_iff_false rfl (det_move rfl) rfl rfl trivial (fun hb => ?_) (fun hb => ?_)
  rotate_left
  · exfalso; first | exact hb rfl | (simp at hb; done) | (revert hb; decide)
  refine o1 rfl (det_loadN tN34 rfl rfl (.tail _ (.head _)) rfl) rfl rfl ⟨_, rfl, rfl⟩ ?_
  refine o1 rfl (det_loadN tN34 rfl rfl (.tail _ (.tail _ (.tail _ (.head _)))) rfl) rfl rfl ⟨_, rfl, rfl⟩ ?_
  refine o1 rfl (det_call hb23 rfl rfl (fun w1 hs => Same_at hs.know (a := (⟨(⟨Ba, ([(128, 10), (127, 30)] : Ents).length, capa, ([(128, 10), (127, 30)] : Ents), sumL ([(128, 10), (127, 30)] : Ents)⟩ : Gl), 100, true, (⟨Bb, ([(255, 5), (127, 5)] : Ents).length, capb, ([(255, 5), (127, 5)] : Ents), sumL ([(255, 5), (127, 5)] : Ents)⟩ : Gl), 180⟩ : Ch)) ⟨hEa, hEb⟩ (b := (⟨(⟨Ba, ([(128, 10), (127, 30)] : Ents).length, capa, ([(128, 10), (127, 30)] : Ents), sumL ([(128, 10), (127, 30)] : Ents)⟩ : Gl), 100, true, (⟨Bb, ([(255, 5), (127, 5)] : Ents).length, capb, ([(255, 5), (127, 5)] : Ents), sumL ([(255, 5), (127, 5)] : Ents)⟩ : Gl), 180⟩ : Ch)) ⟨hEa, hEb⟩ (show (2 : Nat) ≤ 100000 by decide) (show (2 : Nat) ≤ 100000 by decide) (x := true) (sameC_refl _))) rfl rfl ⟨_, rfl, rfl⟩ ?_
  refine o1 rfl (det_pickT rfl rfl) rfl rfl trivial ?_
  refine o2P Iff.rfl rfl (det_move rfl) rfl rfl trivial (fun hb => ?_) (fun hb => ?_)
  rotate_left
  · exfalso; first | exact hb rfl | (simp at hb; done) | (revert hb; decide)
  refine o1 rfl (det_fieldAddr fld34_1 rfl) rfl rfl ⟨_, rfl, rfl⟩ ?_
  refine o1 rfl (det_load1 t1_3 rfl rfl (.head _) rfl) rfl rfl ⟨_, rfl, rfl⟩ ?_
  refine o1 rfl (det_eql rfl rfl) rfl rfl ⟨_, rfl, rfl⟩ ?_
  refine o1 rfl (det_pickT rfl rfl) rfl rfl trivial ?_
  refine o2P beq_iff_eq rfl (det_move rfl) rfl rfl trivial (fun hb => ?_) (fun hb => ?_)
  rotate_left
  · exfalso; first | exact hb rfl | (simp at hb; done) | (revert hb; decide)
  refine o1 rfl (det_fieldAddr fld34_2 rfl) rfl rfl ⟨_, rfl, rfl⟩ ?_
  refine o1 rfl (det_load1 t1_4 rfl rfl (.head _) rfl) rfl rfl ⟨_, rfl, rfl⟩ ?_
  refine o1 rfl (det_not rfl) rfl rfl ⟨_, rfl, rfl⟩ ?_
  refine o1 rfl (det_pickT rfl rfl) rfl rfl trivial ?_
  refine o1 rfl (det_assign rfl) rfl rfl trivial ?_
  refine be rfl ?_
  refine k_then ?_
  refine t_ret ?_
  refine ret_tmp rfl rfl rfl (fun w1 hs => ?_)
  exact ⟨rfl, hs.keep⟩

end Go.Proofs.Sw
