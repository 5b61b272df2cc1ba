/-
  Walks through layer 30 and its reference.
-/
import Derived.Test.YtgaliocgkjghnaaSwSK
namespace Go.Proofs.Sw
open Go Go.Eng Go.Gt Go.Proofs.Gt Go.Sw Go.Sv
set_option maxRecDepth 4000

/-- works. -/
theorem works30_ok {w : World} {F : Know} (hF : ∀ a v, F a = some v → w.cell? a = some v)  : Pure Try.prog 37 [] w (.bool true) := by
  refine fn_pure (F := F) Try.func37 rfl Try.ntmps37 rfl hF ?_
  refine t_seq ?_
  refine b0 ?_
  refine o1 rfl (det_assign rfl) rfl rfl trivial ?_
  refine be rfl ?_
  refine k_then ?_
  refine t_seq ?_
  refine b0 ?_
  refine om1 rfl (new_buildSlice rfl (fun w => bsl105_4_0_1_2_3 _ _ _ _ w)) rfl rfl trivial (fun p12 => ?_)
  refine tk_freeze (pre := []) rfl (fun Fa hFa hNa hKa => ?_)
  skip
  refine oF nofun rfl hb42 rfl rfl rfl trivial (fun w1 hs => (list_gl hs.know ([(128, 100), (127, 300)] : Ents) hKa rfl (by decide) (by decide) (by decide)).any) (fun va Ga hGa hMa ⟨Ba, capa, hva, hEa⟩ => ?_)
  subst hva
  skip
  refine om1 rfl (new_buildSlice rfl (fun w => bsl105_2_0_1 _ _ w)) rfl rfl trivial (fun p14 => ?_)
  refine tk_freeze (pre := []) rfl (fun Fb hFb hNb hKb => ?_)
  replace hEa := hEa.mono hFb
  refine oF nofun rfl hb42 rfl rfl rfl trivial (fun w1 hs => (list_gl hs.know ([(127, 400)] : Ents) hKb rfl (by decide) (by decide) (by decide)).any) (fun vb Gb hGb hMb ⟨Bb, capb, hvb, hEb⟩ => ?_)
  subst hvb
  replace hEa := hEa.mono hGb
  refine om1 rfl (new_alloc z30) rfl rfl trivial (fun p1 => ?_)
  refine om1 rfl (new_alloc z30) rfl rfl trivial (fun p2 => ?_)
  refine stN nofun rfl tN30 rfl rfl rfl (.tail .head) rfl trivial rfl rfl ?_
  refine stN nofun rfl tN30 rfl rfl rfl .head rfl trivial rfl rfl ?_
  refine be rfl ?_
  refine k_then ?_
  refine t_seq ?_
  refine b0 ?_
  refine o1 rfl (det_loadN tN30 rfl rfl (.tail _ (.head _)) rfl) rfl rfl trivial ?_
  refine o1 rfl (det_call hb35 rfl rfl (fun w1 hs => Yield_at hs.know (g := (⟨Ba, ([(128, 100), (127, 300)] : Ents).length, capa, ([(128, 100), (127, 300)] : Ents), sumL ([(128, 100), (127, 300)] : Ents)⟩ : Gl)) hEa (y := 200) (er := 0) (yieldAX_eq (by kernel_rfl)) (by kernel_rfl))) rfl rfl trivial ?_
  refine o1 rfl (det_move rfl) rfl rfl trivial ?_
  refine o1 rfl (det_extract rfl rfl) rfl rfl trivial ?_
  refine o1 rfl (det_extract rfl rfl) rfl rfl trivial ?_
  refine o1 rfl (det_assign rfl) rfl rfl trivial ?_
  refine o1 rfl (det_assign rfl) rfl rfl trivial ?_
  refine be rfl ?_
  refine k_then ?_
  refine t_seq ?_
  refine b0 ?_
  refine o1 rfl (det_loadN tN30 rfl rfl (.head _) rfl) rfl rfl trivial ?_
  refine o1 rfl (det_call hb35 rfl rfl (fun w1 hs => Yield_at hs.know (g := (⟨Bb, ([(127, 400)] : Ents).length, capb, ([(127, 400)] : Ents), sumL ([(127, 400)] : Ents)⟩ : Gl)) hEb (y := 400) (er := 0) (yieldAX_eq (by kernel_rfl)) (by kernel_rfl))) rfl rfl trivial ?_
  refine o1 rfl (det_move rfl) rfl rfl trivial ?_
  refine o1 rfl (det_extract rfl rfl) rfl rfl trivial ?_
  refine o1 rfl (det_extract rfl rfl) rfl rfl trivial ?_
  refine o1 rfl (det_assign rfl) rfl rfl trivial ?_
  refine o1 rfl (det_assign rfl) rfl rfl trivial ?_
  refine be rfl ?_
  refine k_then ?_
  refine t_seq ?_
  refine b0 ?_
  refine o1 rfl (det_loadN tN30 rfl rfl (.tail _ (.head _)) rfl) rfl rfl trivial ?_
  refine o1 rfl (det_call hb40 rfl rfl (fun w1 hs => Of_at hs.know (g := (⟨Ba, ([(128, 100), (127, 300)] : Ents).length, capa, ([(128, 100), (127, 300)] : Ents), sumL ([(128, 100), (127, 300)] : Ents)⟩ : Gl)) hEa (v := ((0, 0), 4)) (ofX_eq (by kernel_rfl)))) rfl rfl trivial ?_
  refine o1 rfl (det_move rfl) rfl rfl trivial ?_
  refine o1 rfl (det_extract rfl rfl) rfl rfl trivial ?_
  refine o1 rfl (det_extract rfl rfl) rfl rfl trivial ?_
  refine om1 rfl (new_alloc z75) rfl rfl trivial (fun p7 => ?_)
  refine stN nofun rfl tN75 rfl rfl rfl .head rfl trivial rfl rfl ?_
  refine o1 rfl (det_assign rfl) rfl rfl trivial ?_
  refine be rfl ?_
  refine k_then ?_
  refine t_seq ?_
  refine b0 ?_
  refine o1 rfl (det_loadN tN30 rfl rfl (.tail _ (.tail _ (.head _))) rfl) rfl rfl trivial ?_
  refine o1 rfl (det_call hb40 rfl rfl (fun w1 hs => Of_at hs.know (g := (⟨Ba, ([(128, 100), (127, 300)] : Ents).length, capa, ([(128, 100), (127, 300)] : Ents), sumL ([(128, 100), (127, 300)] : Ents)⟩ : Gl)) hEa (v := ((0, 0), 4)) (ofX_eq (by kernel_rfl)))) rfl rfl trivial ?_
  refine o1 rfl (det_move rfl) rfl rfl trivial ?_
  refine o1 rfl (det_extract rfl rfl) rfl rfl trivial ?_
  refine o1 rfl (det_extract rfl rfl) rfl rfl trivial ?_
  refine om1 rfl (new_alloc z75) rfl rfl trivial (fun p9 => ?_)
  refine stN nofun rfl tN75 rfl rfl rfl .head rfl trivial rfl rfl ?_
  refine o1 rfl (det_assign rfl) rfl rfl trivial ?_
  refine be rfl ?_
  refine k_then ?_
  refine t_seq ?_
  refine b0 ?_
  refine o1 rfl (det_loadN tN30 rfl rfl (.tail _ (.tail _ (.tail _ (.head _)))) rfl) rfl rfl trivial ?_
  refine o1 rfl (det_call hb43 rfl rfl (fun w1 hs => hsends_at hs.know (g := (⟨Ba, ([(128, 100), (127, 300)] : Ents).length, capa, ([(128, 100), (127, 300)] : Ents), sumL ([(128, 100), (127, 300)] : Ents)⟩ : Gl)) hEa (n := 73) (hsendX (v := (73, 0)) (by kernel_rfl) (by kernel_rfl)))) rfl rfl trivial ?_
  refine o1 rfl (det_eql rfl rfl) rfl rfl trivial ?_
  refine o2P beq_iff_eq rfl (det_move rfl) rfl rfl trivial (fun hb => ?_) (fun hb => ?_)
  rotate_left
  · exfalso; first | exact hb rfl | (simp at hb; done) | (revert hb; decide)
  refine o1 rfl (det_loadN tN30 rfl rfl (.tail _ (.tail _ (.tail _ (.head _)))) rfl) rfl rfl ⟨_, rfl, rfl⟩ ?_
  refine o1 rfl (det_call hb43 rfl rfl (fun w1 hs => hsends_at hs.know (g := (⟨Ba, ([(128, 100), (127, 300)] : Ents).length, capa, ([(128, 100), (127, 300)] : Ents), sumL ([(128, 100), (127, 300)] : Ents)⟩ : Gl)) hEa (n := 73) (hsendX (v := (73, 0)) (by kernel_rfl) (by kernel_rfl)))) rfl rfl ⟨_, rfl, rfl⟩ ?_
  refine o1 rfl (det_eql rfl rfl) rfl rfl ⟨_, rfl, rfl⟩ ?_
  refine o1 rfl (det_pickT rfl rfl) rfl rfl trivial ?_
  refine o2P beq_iff_eq rfl (det_move rfl) rfl rfl trivial (fun hb => ?_) (fun hb => ?_)
  rotate_left
  · exfalso; first | exact hb rfl | (simp at hb; done) | (revert hb; decide)
  refine o1 rfl (det_loadN tN30 rfl rfl (.tail _ (.tail _ (.tail _ (.head _)))) rfl) rfl rfl ⟨_, rfl, rfl⟩ ?_
  refine o1 rfl (det_call hb43 rfl rfl (fun w1 hs => hsends_at hs.know (g := (⟨Ba, ([(128, 100), (127, 300)] : Ents).length, capa, ([(128, 100), (127, 300)] : Ents), sumL ([(128, 100), (127, 300)] : Ents)⟩ : Gl)) hEa (n := 23) (hsendX (v := (23, 0)) (by kernel_rfl) (by kernel_rfl)))) rfl rfl ⟨_, rfl, rfl⟩ ?_
  refine o1 rfl (det_eql rfl rfl) rfl rfl ⟨_, rfl, rfl⟩ ?_
  refine o1 rfl (det_pickT rfl rfl) rfl rfl trivial ?_
  refine o2P beq_iff_eq rfl (det_move rfl) rfl rfl trivial (fun hb => ?_) (fun hb => ?_)
  rotate_left
  · exfalso; first | exact hb rfl | (simp at hb; done) | (revert hb; decide)
  refine o1 rfl (det_loadN tN30 rfl rfl (.tail _ (.tail _ (.tail _ (.head _)))) rfl) rfl rfl ⟨_, rfl, rfl⟩ ?_
  refine o1 rfl (det_call hb43 rfl rfl (fun w1 hs => hsends_at hs.know (g := (⟨Ba, ([(128, 100), (127, 300)] : Ents).length, capa, ([(128, 100), (127, 300)] : Ents), sumL ([(128, 100), (127, 300)] : Ents)⟩ : Gl)) hEa (n := 0) (hsendX (v := (0, 0)) (by kernel_rfl) (by kernel_rfl)))) rfl rfl ⟨_, rfl, rfl⟩ ?_
  refine o1 rfl (det_eql rfl rfl) rfl rfl ⟨_, rfl, rfl⟩ ?_
  refine o1 rfl (det_pickT rfl rfl) rfl rfl trivial ?_
  refine o1 rfl (det_assign rfl) rfl rfl trivial ?_
  refine be rfl ?_
  refine k_then ?_
  refine t_seq ?_
  refine b0 ?_
  refine o1 rfl (det_move rfl) rfl rfl trivial ?_
  refine o1 rfl (det_eql rfl rfl) rfl rfl trivial ?_
  refine o2P beq_iff_eq rfl (det_move rfl) rfl rfl trivial (fun hb => ?_) (fun hb => ?_)
  rotate_left
  · exfalso; first | exact hb rfl | (simp at hb; done) | (revert hb; decide)
  refine o1 rfl (det_move rfl) rfl rfl ⟨_, rfl, rfl⟩ ?_
  refine o1 rfl (det_eql rfl rfl) rfl rfl ⟨_, rfl, rfl⟩ ?_
  refine o1 rfl (det_pickT rfl rfl) rfl rfl trivial ?_
  refine o2P beq_iff_eq rfl (det_move rfl) rfl rfl trivial (fun hb => ?_) (fun hb => ?_)
  rotate_left
  · exfalso; first | exact hb rfl | (simp at hb; done) | (revert hb; decide)
  refine o1 rfl (det_move rfl) rfl rfl ⟨_, rfl, rfl⟩ ?_
  refine o1 rfl (det_eql rfl rfl) rfl rfl ⟨_, rfl, rfl⟩ ?_
  refine o1 rfl (det_pickT rfl rfl) rfl rfl trivial ?_
  refine o2P beq_iff_eq rfl (det_move rfl) rfl rfl trivial (fun hb => ?_) (fun hb => ?_)
  rotate_left
  · exfalso; first | exact hb rfl | (simp at hb; done) | (revert hb; decide)
  refine o1 rfl (det_move rfl) rfl rfl ⟨_, rfl, rfl⟩ ?_
  refine o1 rfl (det_eql rfl rfl) rfl rfl ⟨_, rfl, rfl⟩ ?_
  refine o1 rfl (det_pickT rfl rfl) rfl rfl trivial ?_
  refine o2P beq_iff_eq rfl (det_move rfl) rfl rfl trivial (fun hb => ?_) (fun hb => ?_)
  rotate_left
  · exfalso; first | exact hb rfl | (simp at hb; done) | (revert hb; decide)
  refine o1 rfl (det_move rfl) rfl rfl ⟨_, rfl, rfl⟩ ?_
  refine o1 rfl (det_pickT rfl rfl) rfl rfl trivial ?_
  refine o2P beq_iff_eq rfl (det_move rfl) rfl rfl trivial (fun hb => ?_) (fun hb => ?_)
  rotate_left
  · exfalso; first | exact hb rfl | (simp at hb; done) | (revert hb; decide)
  refine o1 rfl (det_loadN tN30 rfl rfl (.tail _ (.tail _ (.tail _ (.head _)))) rfl) rfl rfl ⟨_, rfl, rfl⟩ ?_
  refine o1 rfl (det_call hb64 rfl rfl (fun w1 hs => his_at hs.know (g := (⟨Ba, ([(128, 100), (127, 300)] : Ents).length, capa, ([(128, 100), (127, 300)] : Ents), sumL ([(128, 100), (127, 300)] : Ents)⟩ : Gl)) hEa (b := true) (isX (by kernel_rfl)))) rfl rfl ⟨_, rfl, rfl⟩ ?_
  refine o1 rfl (det_pickT rfl rfl) rfl rfl trivial ?_
  refine o2P Iff.rfl rfl (det_move rfl) rfl rfl trivial (fun hb => ?_) (fun hb => ?_)
  rotate_left
  · exfalso; first | exact hb rfl | (simp at hb; done) | (revert hb; decide)
  refine o1 rfl (det_loadN tN30 rfl rfl (.tail _ (.tail _ (.head _))) rfl) rfl rfl ⟨_, rfl, rfl⟩ ?_
  refine o1 rfl (det_call hb64 rfl rfl (fun w1 hs => his_at hs.know (g := (⟨Bb, ([(127, 400)] : Ents).length, capb, ([(127, 400)] : Ents), sumL ([(127, 400)] : Ents)⟩ : Gl)) hEb (b := true) (isX (by kernel_rfl)))) rfl rfl ⟨_, rfl, rfl⟩ ?_
  refine o1 rfl (det_pickT rfl rfl) rfl rfl trivial ?_
  refine o2P Iff.rfl rfl (det_move rfl) rfl rfl trivial (fun hb => ?_) (fun hb => ?_)
  rotate_left
  · exfalso; first | exact hb rfl | (simp at hb; done) | (revert hb; decide)
  refine o1 rfl (det_loadN tN30 rfl rfl (.tail _ (.tail _ (.head _))) rfl) rfl rfl ⟨_, rfl, rfl⟩ ?_
  refine o1 rfl (det_call hb64 rfl rfl (fun w1 hs => his_at hs.know (g := (⟨Bb, ([(127, 400)] : Ents).length, capb, ([(127, 400)] : Ents), sumL ([(127, 400)] : Ents)⟩ : Gl)) hEb (b := true) (isX (by kernel_rfl)))) rfl rfl ⟨_, rfl, rfl⟩ ?_
  refine o1 rfl (det_pickT rfl rfl) rfl rfl trivial ?_
  refine o2P Iff.rfl rfl (det_move rfl) rfl rfl trivial (fun hb => ?_) (fun hb => ?_)
  rotate_left
  · exfalso; first | exact hb rfl | (simp at hb; done) | (revert hb; decide)
  refine o1 rfl (det_move rfl) rfl rfl ⟨_, rfl, rfl⟩ ?_
  refine o1 rfl (det_eql rfl rfl) rfl rfl ⟨_, rfl, rfl⟩ ?_
  refine o1 rfl (det_pickT rfl rfl) rfl rfl trivial ?_
  refine o2P beq_iff_eq rfl (det_move rfl) rfl rfl trivial (fun hb => ?_) (fun hb => ?_)
  rotate_left
  · exfalso; first | exact hb rfl | (simp at hb; done) | (revert hb; decide)
  refine o1 rfl (det_move rfl) rfl rfl ⟨_, rfl, rfl⟩ ?_
  refine o1 rfl (det_eql rfl rfl) rfl rfl ⟨_, rfl, rfl⟩ ?_
  refine o1 rfl (det_pickT rfl rfl) rfl rfl trivial ?_
  refine o1 rfl (det_assign rfl) rfl rfl trivial ?_
  refine be rfl ?_
  refine k_then ?_
  refine t_ret ?_
  refine ret_tmp rfl rfl rfl (fun w1 hs => ?_)
  exact ⟨rfl, hs.keep⟩

end Go.Proofs.Sw
