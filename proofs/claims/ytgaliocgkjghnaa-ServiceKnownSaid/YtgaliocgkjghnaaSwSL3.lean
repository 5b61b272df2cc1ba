/-
  Walks through layer 30 and its reference.
-/
import Derived.Test.YtgaliocgkjghnaaSwSW
namespace Go.Proofs.Sw
open Go Go.Eng Go.Gt Go.Proofs.Gt Go.Sw Go.Sv
set_option maxRecDepth 4000

/-- ServiceKnown. -/
theorem sknown30_ok {w : World} {F : Know} (hF : ∀ a v, F a = some v → w.cell? a = some v)  : Pure Try.prog 11 [] w (.bool true) := by
  refine fn_pure (F := F) Try.func11 rfl Try.ntmps11 rfl hF ?_
  refine t_seq ?_
  refine b0 ?_
  refine o1 rfl (det_assign rfl) rfl rfl trivial ?_
  refine be rfl ?_
  refine k_then ?_
  refine t_seq ?_
  refine b0 ?_
  refine om1 rfl (new_buildSlice rfl (fun w => bsl105_10_0_1_2_3_4_5_6_7_8_9 _ _ _ _ _ _ _ _ _ _ w)) rfl rfl trivial (fun p27 => ?_)
  refine tk_freeze (pre := []) rfl (fun Fa hFa hNa hKa => ?_)
  skip
  refine oF nofun rfl hb42 rfl rfl rfl trivial (fun w1 hs => (list_gl hs.know ([(127, 200), (128, 100), (64, 100), (64, 150), (63, 50)] : Ents) hKa rfl (by decide) (by decide) (by decide)).any) (fun va Ga hGa hMa ⟨Ba, capa, hva, hEa⟩ => ?_)
  subst hva
  skip
  refine om1 rfl (new_alloc z30) rfl rfl trivial (fun p1 => ?_)
  refine stN nofun rfl tN30 rfl rfl rfl .head rfl trivial rfl rfl ?_
  refine be rfl ?_
  refine k_then ?_
  refine t_seq ?_
  refine b0 ?_
  refine o1 rfl (det_loadN tN30 rfl rfl (.head _) rfl) rfl rfl trivial ?_
  refine o1 rfl (det_call hb35 rfl rfl (fun w1 hs => Yield_at hs.know (g := (⟨Ba, ([(127, 200), (128, 100), (64, 100), (64, 150), (63, 50)] : Ents).length, capa, ([(127, 200), (128, 100), (64, 100), (64, 150), (63, 50)] : Ents), sumL ([(127, 200), (128, 100), (64, 100), (64, 150), (63, 50)] : Ents)⟩ : Gl)) hEa (y := 250) (er := 0) (yieldAX_eq (by kernel_rfl)) (by kernel_rfl))) rfl rfl trivial ?_
  refine o1 rfl (det_move rfl) rfl rfl trivial ?_
  refine o1 rfl (det_extract rfl rfl) rfl rfl trivial ?_
  refine o1 rfl (det_extract rfl rfl) rfl rfl trivial ?_
  refine o1 rfl (det_assign rfl) rfl rfl trivial ?_
  refine o1 rfl (det_assign rfl) rfl rfl trivial ?_
  refine be rfl ?_
  refine k_then ?_
  refine t_seq ?_
  refine b0 ?_
  refine om1 rfl (new_buildSlice rfl (fun w => bsl105_6_0_1_2_3_4_5 _ _ _ _ _ _ w)) rfl rfl trivial (fun p34 => ?_)
  refine tk_freeze (pre := []) rfl (fun Fb hFb hNb hKb => ?_)
  replace hEa := hEa.mono hFb
  refine oF nofun rfl hb42 rfl rfl rfl trivial (fun w1 hs => (list_gl hs.know ([(64, 100), (0, 300), (65, 100)] : Ents) hKb rfl (by decide) (by decide) (by decide)).any) (fun vb Gb hGb hMb ⟨Bb, capb, hvb, hEb⟩ => ?_)
  subst hvb
  replace hEa := hEa.mono hGb
  refine om1 rfl (new_alloc z30) rfl rfl trivial (fun p4 => ?_)
  refine stN nofun rfl tN30 rfl rfl rfl .head rfl trivial rfl rfl ?_
  refine be rfl ?_
  refine k_then ?_
  refine t_seq ?_
  refine b0 ?_
  refine o1 rfl (det_loadN tN30 rfl rfl (.head _) rfl) rfl rfl trivial ?_
  refine o1 rfl (det_call hb35 rfl rfl (fun w1 hs => Yield_at hs.know (g := (⟨Bb, ([(64, 100), (0, 300), (65, 100)] : Ents).length, capb, ([(64, 100), (0, 300), (65, 100)] : Ents), sumL ([(64, 100), (0, 300), (65, 100)] : Ents)⟩ : Gl)) hEb (y := 100) (er := 0) (yieldAX_eq (by kernel_rfl)) (by kernel_rfl))) rfl rfl trivial ?_
  refine o1 rfl (det_move rfl) rfl rfl trivial ?_
  refine o1 rfl (det_extract rfl rfl) rfl rfl trivial ?_
  refine o1 rfl (det_extract rfl rfl) rfl rfl trivial ?_
  refine o1 rfl (det_assign rfl) rfl rfl trivial ?_
  refine o1 rfl (det_assign rfl) rfl rfl trivial ?_
  refine be rfl ?_
  refine k_then ?_
  refine t_seq ?_
  refine b0 ?_
  refine o1 rfl (det_build rfl (fun w => bld30_ w)) rfl rfl trivial ?_
  refine o1 rfl (det_call hb35 rfl rfl (fun w1 hs => Yield_at hs.know (g := g0) (g0_k _) (y := 0) (er := 370) (yieldAX_eq (by kernel_rfl)) (by kernel_rfl))) rfl rfl trivial ?_
  refine o1 rfl (det_move rfl) rfl rfl trivial ?_
  refine o1 rfl (det_extract rfl rfl) rfl rfl trivial ?_
  refine o1 rfl (det_extract rfl rfl) rfl rfl trivial ?_
  refine o1 rfl (det_assign rfl) rfl rfl trivial ?_
  refine o1 rfl (det_assign rfl) rfl rfl trivial ?_
  refine be rfl ?_
  refine k_then ?_
  refine t_seq ?_
  refine b0 ?_
  refine o1 rfl (det_loadN tN30 rfl rfl (.tail _ (.head _)) rfl) rfl rfl trivial ?_
  refine o1 rfl (det_call hb35 rfl rfl (fun w1 hs => Yield_at hs.know (g := (⟨Ba, ([(127, 200), (128, 100), (64, 100), (64, 150), (63, 50)] : Ents).length, capa, ([(127, 200), (128, 100), (64, 100), (64, 150), (63, 50)] : Ents), sumL ([(127, 200), (128, 100), (64, 100), (64, 150), (63, 50)] : Ents)⟩ : Gl)) hEa (y := 0) (er := 2) (yieldAX_eq (by kernel_rfl)) (by kernel_rfl))) rfl rfl trivial ?_
  refine o1 rfl (det_move rfl) rfl rfl trivial ?_
  refine o1 rfl (det_extract rfl rfl) rfl rfl trivial ?_
  refine o1 rfl (det_extract rfl rfl) rfl rfl trivial ?_
  refine o1 rfl (det_assign rfl) rfl rfl trivial ?_
  refine o1 rfl (det_assign rfl) rfl rfl trivial ?_
  refine be rfl ?_
  refine k_then ?_
  refine t_seq ?_
  refine b0 ?_
  refine o1 rfl (det_loadN tN30 rfl rfl (.tail _ (.head _)) rfl) rfl rfl trivial ?_
  refine o1 rfl (det_call hb35 rfl rfl (fun w1 hs => Yield_at hs.know (g := (⟨Ba, ([(127, 200), (128, 100), (64, 100), (64, 150), (63, 50)] : Ents).length, capa, ([(127, 200), (128, 100), (64, 100), (64, 150), (63, 50)] : Ents), sumL ([(127, 200), (128, 100), (64, 100), (64, 150), (63, 50)] : Ents)⟩ : Gl)) hEa (y := 0) (er := 2) (yieldAX_eq (by kernel_rfl)) (by kernel_rfl))) rfl rfl trivial ?_
  refine o1 rfl (det_move rfl) rfl rfl trivial ?_
  refine o1 rfl (det_extract rfl rfl) rfl rfl trivial ?_
  refine o1 rfl (det_extract rfl rfl) rfl rfl trivial ?_
  refine o1 rfl (det_assign rfl) rfl rfl trivial ?_
  refine o1 rfl (det_assign rfl) rfl rfl trivial ?_
  refine be rfl ?_
  refine k_then ?_
  refine t_seq ?_
  refine b0 ?_
  refine o1 rfl (det_loadN tN30 rfl rfl (.tail _ (.head _)) rfl) rfl rfl trivial ?_
  refine o1 rfl (det_call hb40 rfl rfl (fun w1 hs => Of_at hs.know (g := (⟨Ba, ([(127, 200), (128, 100), (64, 100), (64, 150), (63, 50)] : Ents).length, capa, ([(127, 200), (128, 100), (64, 100), (64, 150), (63, 50)] : Ents), sumL ([(127, 200), (128, 100), (64, 100), (64, 150), (63, 50)] : Ents)⟩ : Gl)) hEa (v := ((0, 0), 2)) (ofX_eq (by kernel_rfl)))) rfl rfl trivial ?_
  refine o1 rfl (det_move rfl) rfl rfl trivial ?_
  refine o1 rfl (det_extract rfl rfl) rfl rfl trivial ?_
  refine o1 rfl (det_extract rfl rfl) rfl rfl trivial ?_
  refine om1 rfl (new_alloc z75) rfl rfl trivial (fun p13 => ?_)
  refine stN nofun rfl tN75 rfl rfl rfl .head rfl trivial rfl rfl ?_
  refine o1 rfl (det_assign rfl) rfl rfl trivial ?_
  refine be rfl ?_
  refine k_then ?_
  refine t_seq ?_
  refine b0 ?_
  refine o1 rfl (det_loadN tN30 rfl rfl (.tail _ (.tail _ (.head _))) rfl) rfl rfl trivial ?_
  refine o1 rfl (det_call hb40 rfl rfl (fun w1 hs => Of_at hs.know (g := (⟨Ba, ([(127, 200), (128, 100), (64, 100), (64, 150), (63, 50)] : Ents).length, capa, ([(127, 200), (128, 100), (64, 100), (64, 150), (63, 50)] : Ents), sumL ([(127, 200), (128, 100), (64, 100), (64, 150), (63, 50)] : Ents)⟩ : Gl)) hEa (v := ((0, 0), 2)) (ofX_eq (by kernel_rfl)))) rfl rfl trivial ?_
  refine o1 rfl (det_move rfl) rfl rfl trivial ?_
  refine o1 rfl (det_extract rfl rfl) rfl rfl trivial ?_
  refine o1 rfl (det_extract rfl rfl) rfl rfl trivial ?_
  refine om1 rfl (new_alloc z75) rfl rfl trivial (fun p15 => ?_)
  refine stN nofun rfl tN75 rfl rfl rfl .head rfl trivial rfl rfl ?_
  refine o1 rfl (det_assign rfl) rfl rfl trivial ?_
  refine be rfl ?_
  refine k_then ?_
  refine t_seq ?_
  refine b0 ?_
  refine o1 rfl (det_loadN tN30 rfl rfl (.tail _ (.tail _ (.tail _ (.head _)))) rfl) rfl rfl trivial ?_
  refine o1 rfl (det_call hb38 rfl rfl (fun w1 hs => Sends_at hs.know (g := (⟨Ba, ([(127, 200), (128, 100), (64, 100), (64, 150), (63, 50)] : Ents).length, capa, ([(127, 200), (128, 100), (64, 100), (64, 150), (63, 50)] : Ents), sumL ([(127, 200), (128, 100), (64, 100), (64, 150), (63, 50)] : Ents)⟩ : Gl)) hEa (v := (0, 2)) (sendsX_eq (by kernel_rfl)))) rfl rfl trivial ?_
  refine o1 rfl (det_move rfl) rfl rfl trivial ?_
  refine o1 rfl (det_extract rfl rfl) rfl rfl trivial ?_
  refine o1 rfl (det_extract rfl rfl) rfl rfl trivial ?_
  refine o1 rfl (det_assign rfl) rfl rfl trivial ?_
  refine o1 rfl (det_assign rfl) rfl rfl trivial ?_
  refine be rfl ?_
  refine k_then ?_
  refine t_seq ?_
  refine b0 ?_
  refine o1 rfl (det_loadN tN30 rfl rfl (.tail _ (.tail _ (.tail _ (.head _)))) rfl) rfl rfl trivial ?_
  refine o1 rfl (det_call hb38 rfl rfl (fun w1 hs => Sends_at hs.know (g := (⟨Ba, ([(127, 200), (128, 100), (64, 100), (64, 150), (63, 50)] : Ents).length, capa, ([(127, 200), (128, 100), (64, 100), (64, 150), (63, 50)] : Ents), sumL ([(127, 200), (128, 100), (64, 100), (64, 150), (63, 50)] : Ents)⟩ : Gl)) hEa (v := (0, 2)) (sendsX_eq (by kernel_rfl)))) rfl rfl trivial ?_
  refine o1 rfl (det_move rfl) rfl rfl trivial ?_
  refine o1 rfl (det_extract rfl rfl) rfl rfl trivial ?_
  refine o1 rfl (det_extract rfl rfl) rfl rfl trivial ?_
  refine o1 rfl (det_assign rfl) rfl rfl trivial ?_
  refine o1 rfl (det_assign rfl) rfl rfl trivial ?_
  refine be rfl ?_
  refine k_then ?_
  refine t_seq ?_
  refine b0 ?_
  refine o1 rfl (det_loadN tN30 rfl rfl (.tail _ (.tail _ (.tail _ (.head _)))) rfl) rfl rfl trivial ?_
  refine o1 rfl (det_call hb38 rfl rfl (fun w1 hs => Sends_at hs.know (g := (⟨Ba, ([(127, 200), (128, 100), (64, 100), (64, 150), (63, 50)] : Ents).length, capa, ([(127, 200), (128, 100), (64, 100), (64, 150), (63, 50)] : Ents), sumL ([(127, 200), (128, 100), (64, 100), (64, 150), (63, 50)] : Ents)⟩ : Gl)) hEa (v := (0, 2)) (sendsX_eq (by kernel_rfl)))) rfl rfl trivial ?_
  refine o1 rfl (det_move rfl) rfl rfl trivial ?_
  refine o1 rfl (det_extract rfl rfl) rfl rfl trivial ?_
  refine o1 rfl (det_extract rfl rfl) rfl rfl trivial ?_
  refine o1 rfl (det_assign rfl) rfl rfl trivial ?_
  refine o1 rfl (det_assign rfl) rfl rfl trivial ?_
  refine be rfl ?_
  refine k_then ?_
  refine t_seq ?_
  refine b0 ?_
  refine o1 rfl (det_build rfl (fun w => bld30_ w)) rfl rfl trivial ?_
  refine o1 rfl (det_call hb38 rfl rfl (fun w1 hs => Sends_at hs.know (g := g0) (g0_k _) (v := (0, 370)) (sendsX_eq (by kernel_rfl)))) rfl rfl trivial ?_
  refine o1 rfl (det_move rfl) rfl rfl trivial ?_
  refine o1 rfl (det_extract rfl rfl) rfl rfl trivial ?_
  refine o1 rfl (det_extract rfl rfl) rfl rfl trivial ?_
  refine o1 rfl (det_assign rfl) rfl rfl trivial ?_
  refine o1 rfl (det_assign rfl) rfl rfl trivial ?_
  refine be rfl ?_
  refine k_then ?_
  refine t_seq ?_
  refine b0 ?_
  refine o1 rfl (det_move rfl) rfl rfl trivial ?_
  refine o1 rfl (det_eql rfl rfl) rfl rfl trivial ?_
  refine o2P beq_iff_eq rfl (det_move rfl) rfl rfl trivial (fun hb => ?_) (fun hb => ?_)
  rotate_left
  · exfalso; first | exact hb rfl | (simp at hb; done) | (revert hb; decide)
  refine o1 rfl (det_move rfl) rfl rfl ⟨_, rfl, rfl⟩ ?_
  refine o1 rfl (det_eql rfl rfl) rfl rfl ⟨_, rfl, rfl⟩ ?_
  refine o1 rfl (det_pickT rfl rfl) rfl rfl trivial ?_
  refine o2P beq_iff_eq rfl (det_move rfl) rfl rfl trivial (fun hb => ?_) (fun hb => ?_)
  rotate_left
  · exfalso; first | exact hb rfl | (simp at hb; done) | (revert hb; decide)
  refine o1 rfl (det_move rfl) rfl rfl ⟨_, rfl, rfl⟩ ?_
  refine o1 rfl (det_eql rfl rfl) rfl rfl ⟨_, rfl, rfl⟩ ?_
  refine o1 rfl (det_pickT rfl rfl) rfl rfl trivial ?_
  refine o2P beq_iff_eq rfl (det_move rfl) rfl rfl trivial (fun hb => ?_) (fun hb => ?_)
  rotate_left
  · exfalso; first | exact hb rfl | (simp at hb; done) | (revert hb; decide)
  refine o1 rfl (det_move rfl) rfl rfl ⟨_, rfl, rfl⟩ ?_
  refine o1 rfl (det_eql rfl rfl) rfl rfl ⟨_, rfl, rfl⟩ ?_
  refine o1 rfl (det_pickT rfl rfl) rfl rfl trivial ?_
  refine o2P beq_iff_eq rfl (det_move rfl) rfl rfl trivial (fun hb => ?_) (fun hb => ?_)
  rotate_left
  · exfalso; first | exact hb rfl | (simp at hb; done) | (revert hb; decide)
  refine o1 rfl (det_move rfl) rfl rfl ⟨_, rfl, rfl⟩ ?_
  refine o1 rfl (det_eql rfl rfl) rfl rfl ⟨_, rfl, rfl⟩ ?_
  refine o1 rfl (det_pickT rfl rfl) rfl rfl trivial ?_
  refine o2P beq_iff_eq rfl (det_move rfl) rfl rfl trivial (fun hb => ?_) (fun hb => ?_)
  rotate_left
  · exfalso; first | exact hb rfl | (simp at hb; done) | (revert hb; decide)
  refine o1 rfl (det_move rfl) rfl rfl ⟨_, rfl, rfl⟩ ?_
  refine o1 rfl (det_eql rfl rfl) rfl rfl ⟨_, rfl, rfl⟩ ?_
  refine o1 rfl (det_pickT rfl rfl) rfl rfl trivial ?_
  refine o2P beq_iff_eq rfl (det_move rfl) rfl rfl trivial (fun hb => ?_) (fun hb => ?_)
  rotate_left
  · exfalso; first | exact hb rfl | (simp at hb; done) | (revert hb; decide)
  refine o1 rfl (det_move rfl) rfl rfl ⟨_, rfl, rfl⟩ ?_
  refine o1 rfl (det_eql rfl rfl) rfl rfl ⟨_, rfl, rfl⟩ ?_
  refine o1 rfl (det_pickT rfl rfl) rfl rfl trivial ?_
  refine o2P beq_iff_eq rfl (det_move rfl) rfl rfl trivial (fun hb => ?_) (fun hb => ?_)
  rotate_left
  · exfalso; first | exact hb rfl | (simp at hb; done) | (revert hb; decide)
  refine o1 rfl (det_move rfl) rfl rfl ⟨_, rfl, rfl⟩ ?_
  refine o1 rfl (det_eql rfl rfl) rfl rfl ⟨_, rfl, rfl⟩ ?_
  refine o1 rfl (det_pickT rfl rfl) rfl rfl trivial ?_
  refine o2P beq_iff_eq rfl (det_move rfl) rfl rfl trivial (fun hb => ?_) (fun hb => ?_)
  rotate_left
  · exfalso; first | exact hb rfl | (simp at hb; done) | (revert hb; decide)
  refine o1 rfl (det_move rfl) rfl rfl ⟨_, rfl, rfl⟩ ?_
  refine o1 rfl (det_eql rfl rfl) rfl rfl ⟨_, rfl, rfl⟩ ?_
  refine o1 rfl (det_pickT rfl rfl) rfl rfl trivial ?_
  refine o1 rfl (det_assign rfl) rfl rfl trivial ?_
  refine be rfl ?_
  refine k_then ?_
  refine t_seq ?_
  refine b0 ?_
  refine o1 rfl (det_loadN tN30 rfl rfl (.tail _ (.tail _ (.tail _ (.head _)))) rfl) rfl rfl trivial ?_
  refine o1 rfl (det_call hb43 rfl rfl (fun w1 hs => hsends_at hs.know (g := (⟨Ba, ([(127, 200), (128, 100), (64, 100), (64, 150), (63, 50)] : Ents).length, capa, ([(127, 200), (128, 100), (64, 100), (64, 150), (63, 50)] : Ents), sumL ([(127, 200), (128, 100), (64, 100), (64, 150), (63, 50)] : Ents)⟩ : Gl)) hEa (n := 123) (hsendX (v := (123, 0)) (by kernel_rfl) (by kernel_rfl)))) rfl rfl trivial ?_
  refine o1 rfl (det_eql rfl rfl) rfl rfl trivial ?_
  refine o2P beq_iff_eq rfl (det_move rfl) rfl rfl trivial (fun hb => ?_) (fun hb => ?_)
  rotate_left
  · exfalso; first | exact hb rfl | (simp at hb; done) | (revert hb; decide)
  refine o1 rfl (det_loadN tN30 rfl rfl (.tail _ (.tail _ (.tail _ (.head _)))) rfl) rfl rfl ⟨_, rfl, rfl⟩ ?_
  refine o1 rfl (det_call hb43 rfl rfl (fun w1 hs => hsends_at hs.know (g := (⟨Ba, ([(127, 200), (128, 100), (64, 100), (64, 150), (63, 50)] : Ents).length, capa, ([(127, 200), (128, 100), (64, 100), (64, 150), (63, 50)] : Ents), sumL ([(127, 200), (128, 100), (64, 100), (64, 150), (63, 50)] : Ents)⟩ : Gl)) hEa (n := 123) (hsendX (v := (123, 0)) (by kernel_rfl) (by kernel_rfl)))) rfl rfl ⟨_, rfl, rfl⟩ ?_
  refine o1 rfl (det_eql rfl rfl) rfl rfl ⟨_, rfl, rfl⟩ ?_
  refine o1 rfl (det_pickT rfl rfl) rfl rfl trivial ?_
  refine o2P beq_iff_eq rfl (det_move rfl) rfl rfl trivial (fun hb => ?_) (fun hb => ?_)
  rotate_left
  · exfalso; first | exact hb rfl | (simp at hb; done) | (revert hb; decide)
  refine o1 rfl (det_loadN tN30 rfl rfl (.tail _ (.tail _ (.tail _ (.head _)))) rfl) rfl rfl ⟨_, rfl, rfl⟩ ?_
  refine o1 rfl (det_call hb43 rfl rfl (fun w1 hs => hsends_at hs.know (g := (⟨Ba, ([(127, 200), (128, 100), (64, 100), (64, 150), (63, 50)] : Ents).length, capa, ([(127, 200), (128, 100), (64, 100), (64, 150), (63, 50)] : Ents), sumL ([(127, 200), (128, 100), (64, 100), (64, 150), (63, 50)] : Ents)⟩ : Gl)) hEa (n := 873) (hsendX (v := (873, 0)) (by kernel_rfl) (by kernel_rfl)))) rfl rfl ⟨_, rfl, rfl⟩ ?_
  refine o1 rfl (det_eql rfl rfl) rfl rfl ⟨_, rfl, rfl⟩ ?_
  refine o1 rfl (det_pickT rfl rfl) rfl rfl trivial ?_
  refine o2P beq_iff_eq rfl (det_move rfl) rfl rfl trivial (fun hb => ?_) (fun hb => ?_)
  rotate_left
  · exfalso; first | exact hb rfl | (simp at hb; done) | (revert hb; decide)
  refine o1 rfl (det_loadN tN30 rfl rfl (.tail _ (.tail _ (.head _))) rfl) rfl rfl ⟨_, rfl, rfl⟩ ?_
  refine o1 rfl (det_call hb43 rfl rfl (fun w1 hs => hsends_at hs.know (g := (⟨Bb, ([(64, 100), (0, 300), (65, 100)] : Ents).length, capb, ([(64, 100), (0, 300), (65, 100)] : Ents), sumL ([(64, 100), (0, 300), (65, 100)] : Ents)⟩ : Gl)) hEb (n := 0) (hsendX (v := (0, 0)) (by kernel_rfl) (by kernel_rfl)))) rfl rfl ⟨_, rfl, rfl⟩ ?_
  refine o1 rfl (det_eql rfl rfl) rfl rfl ⟨_, rfl, rfl⟩ ?_
  refine o1 rfl (det_pickT rfl rfl) rfl rfl trivial ?_
  refine o1 rfl (det_assign rfl) rfl rfl trivial ?_
  refine be rfl ?_
  refine k_then ?_
  refine t_seq ?_
  refine b0 ?_
  refine o1 rfl (det_move rfl) rfl rfl trivial ?_
  refine o1 rfl (det_call hb37 rfl rfl (fun w1 hs => works30_ok hs.know)) rfl rfl ⟨_, rfl, rfl⟩ ?_
  refine o1 rfl (det_pickT rfl rfl) rfl rfl trivial ?_
  refine o2P Iff.rfl rfl (det_move rfl) rfl rfl trivial (fun hb => ?_) (fun hb => ?_)
  rotate_left
  · exfalso; first | exact hb rfl | (simp at hb; done) | (revert hb; decide)
  refine o1 rfl (det_move rfl) rfl rfl ⟨_, rfl, rfl⟩ ?_
  refine o1 rfl (det_eql rfl rfl) rfl rfl ⟨_, rfl, rfl⟩ ?_
  refine o1 rfl (det_pickT rfl rfl) rfl rfl trivial ?_
  refine o2P beq_iff_eq rfl (det_move rfl) rfl rfl trivial (fun hb => ?_) (fun hb => ?_)
  rotate_left
  · exfalso; first | exact hb rfl | (simp at hb; done) | (revert hb; decide)
  refine o1 rfl (det_move rfl) rfl rfl ⟨_, rfl, rfl⟩ ?_
  refine o1 rfl (det_eql rfl rfl) rfl rfl ⟨_, rfl, rfl⟩ ?_
  refine o1 rfl (det_pickT rfl rfl) rfl rfl trivial ?_
  refine o2P beq_iff_eq rfl (det_move rfl) rfl rfl trivial (fun hb => ?_) (fun hb => ?_)
  rotate_left
  · exfalso; first | exact hb rfl | (simp at hb; done) | (revert hb; decide)
  refine o1 rfl (det_move rfl) rfl rfl ⟨_, rfl, rfl⟩ ?_
  refine o1 rfl (det_eql rfl rfl) rfl rfl ⟨_, rfl, rfl⟩ ?_
  refine o1 rfl (det_pickT rfl rfl) rfl rfl trivial ?_
  refine o2P beq_iff_eq rfl (det_move rfl) rfl rfl trivial (fun hb => ?_) (fun hb => ?_)
  rotate_left
  · exfalso; first | exact hb rfl | (simp at hb; done) | (revert hb; decide)
  refine o1 rfl (det_move rfl) rfl rfl ⟨_, rfl, rfl⟩ ?_
  refine o1 rfl (det_eql rfl rfl) rfl rfl ⟨_, rfl, rfl⟩ ?_
  refine o1 rfl (det_pickT rfl rfl) rfl rfl trivial ?_
  refine o2P beq_iff_eq rfl (det_move rfl) rfl rfl trivial (fun hb => ?_) (fun hb => ?_)
  rotate_left
  · exfalso; first | exact hb rfl | (simp at hb; done) | (revert hb; decide)
  refine o1 rfl (det_move rfl) rfl rfl ⟨_, rfl, rfl⟩ ?_
  refine o1 rfl (det_pickT rfl rfl) rfl rfl trivial ?_
  refine o2P beq_iff_eq rfl (det_move rfl) rfl rfl trivial (fun hb => ?_) (fun hb => ?_)
  rotate_left
  · exfalso; first | exact hb rfl | (simp at hb; done) | (revert hb; decide)
  refine o1 rfl (det_move rfl) rfl rfl ⟨_, rfl, rfl⟩ ?_
  refine o1 rfl (det_pickT rfl rfl) rfl rfl trivial ?_
  refine o2P beq_iff_eq rfl (det_move rfl) rfl rfl trivial (fun hb => ?_) (fun hb => ?_)
  rotate_left
  · exfalso; first | exact hb rfl | (simp at hb; done) | (revert hb; decide)
  refine om1 rfl (new_buildSlice rfl (fun w => bsl105_2_0_1 _ _ w)) rfl rfl ⟨_, rfl, rfl⟩ (fun p164 => ?_)
  refine tk_freeze (pre := []) rfl (fun Fc hFc hNc hKc => ?_)
  replace hEa := hEa.mono hFc
  replace hEb := hEb.mono hFc
  refine oF nofun rfl hb42 rfl rfl rfl ⟨_, rfl, rfl⟩ (fun w1 hs => (list_gl hs.know ([(64, 7)] : Ents) hKc rfl (by decide) (by decide) (by decide)).any) (fun vc Gc hGc hMc ⟨Bc, capc, hvc, hEc⟩ => ?_)
  subst hvc
  replace hEa := hEa.mono hGc
  replace hEb := hEb.mono hGc
  refine o1 rfl (det_call hb43 rfl rfl (fun w1 hs => hsends_at hs.know (g := (⟨Bc, ([(64, 7)] : Ents).length, capc, ([(64, 7)] : Ents), sumL ([(64, 7)] : Ents)⟩ : Gl)) hEc (n := 0) (hsendX (v := (0, 0)) (by kernel_rfl) (by kernel_rfl)))) rfl rfl ⟨_, rfl, rfl⟩ ?_
  refine o1 rfl (det_eql rfl rfl) rfl rfl ⟨_, rfl, rfl⟩ ?_
  refine o1 rfl (det_pickT rfl rfl) rfl rfl trivial ?_
  refine o1 rfl (det_assign rfl) rfl rfl trivial ?_
  refine be rfl ?_
  refine k_then ?_
  refine t_ret ?_
  refine ret_tmp rfl rfl rfl (fun w1 hs => ?_)
  exact ⟨rfl, hs.keep⟩

end Go.Proofs.Sw
