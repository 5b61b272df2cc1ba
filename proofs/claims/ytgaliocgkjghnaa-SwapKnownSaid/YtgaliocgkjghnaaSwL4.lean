/-
  Walks through layers 27, 29 and 30 and their references.
-/
import Derived.Test.YtgaliocgkjghnaaSwL0
namespace Go.Proofs.Sw
open Go Go.Eng Go.Gt Go.Proofs.Gt Go.Sw
set_option maxRecDepth 4000

/-- SwapKnown. -/
theorem sknown_ok {w : World} {F : Know} (hF : ∀ a v, F a = some v → w.cell? a = some v)  : Pure Try.prog 7 [] w (.bool true) := by
  refine fn_pure (F := F) Try.func7 rfl Try.ntmps7 rfl hF ?_
  refine t_seq ?_
  refine b0 ?_
  refine o1 rfl (det_assign rfl) rfl rfl trivial ?_
  refine be rfl ?_
  refine k_then ?_
  refine t_seq ?_
  refine b0 ?_
  refine om1 rfl (new_buildSlice rfl (fun w => bsl105_4_0_1_2_3 _ _ _ _ w)) rfl rfl trivial (fun p36 => ?_)
  refine tk_freeze (pre := []) rfl (fun Fa hFa hNa hKa => ?_)
  skip
  refine oF nofun rfl hb32 rfl rfl rfl trivial (fun w1 hs => (list_gl hs.know ([(128, 10), (127, 30)] : Ents) hKa rfl (by decide) (by decide) (by decide)).any) (fun va Ga hGa hMa ⟨Ba, capa, hva, hEa⟩ => ?_)
  subst hva
  skip
  refine om1 rfl (new_alloc z30) rfl rfl trivial (fun p1 => ?_)
  refine stN nofun rfl tN30 rfl rfl rfl .head rfl trivial rfl rfl ?_
  refine be rfl ?_
  refine k_then ?_
  refine t_seq ?_
  refine b0 ?_
  refine o1 rfl (det_loadN tN30 rfl rfl (.head _) rfl) rfl rfl trivial ?_
  refine o1 rfl (det_loadN tN30 rfl rfl (.head _) rfl) rfl rfl trivial ?_
  refine o1 rfl (det_build rfl (fun w => bld34_0_1_2_3_4 _ _ _ _ _ _ _ _ _ _ _ w)) rfl rfl trivial ?_
  refine om1 rfl (new_alloc z34) rfl rfl trivial (fun p2 => ?_)
  refine stN nofun rfl tN34 rfl rfl rfl .head rfl trivial rfl rfl ?_
  refine be rfl ?_
  refine k_then ?_
  refine t_seq ?_
  refine b0 ?_
  refine o1 rfl (det_build rfl (fun w => bld34_ w)) rfl rfl trivial ?_
  refine o1 rfl (det_loadN tN34 rfl rfl (.head _) rfl) rfl rfl trivial ?_
  refine o1 rfl (det_loadN tN34 rfl rfl (.head _) rfl) rfl rfl trivial ?_
  refine o1 rfl (det_loadN tN34 rfl rfl (.head _) rfl) rfl rfl trivial ?_
  refine o1 rfl (det_loadN tN34 rfl rfl (.head _) rfl) rfl rfl trivial ?_
  refine o1 rfl (det_loadN tN34 rfl rfl (.head _) rfl) rfl rfl trivial ?_
  refine o1 rfl (det_loadN tN34 rfl rfl (.head _) rfl) rfl rfl trivial ?_
  refine o1 rfl (det_loadN tN34 rfl rfl (.head _) rfl) rfl rfl trivial ?_
  refine o1 rfl (det_build rfl (fun w => bld63_0_1_2_3_4_5_6_7 _ _ _ _ _ _ _ _ _ _ _ _ _ _ _ _ _ _ _ _ _ _ _ _ _ _ _ _ _ _ _ _ _ _ _ _ _ _ _ _ _ _ _ _ _ _ _ _ _ _ _ _ _ _ _ _ _ _ _ _ _ _ _ _ _ _ _ _ _ _ _ _ _ _ _ _ _ _ _ _ _ _ _ _ _ _ _ _ w)) rfl rfl trivial ?_
  refine om1 rfl (new_alloc z63) rfl rfl trivial (fun p3 => ?_)
  refine stN nofun rfl tN63 rfl rfl rfl .head rfl trivial rfl rfl ?_
  refine be rfl ?_
  refine k_then ?_
  refine t_seq ?_
  refine b0 ?_
  refine o1 rfl (det_build rfl (fun w => bld30_ w)) rfl rfl trivial ?_
  first | (refine o1 rfl (det_indexAddrA ar63 rfl rfl ?_) rfl rfl trivial ?_; (· (first | decide | omega)))
  refine o1 rfl (det_fieldAddr fld34_1 rfl) rfl rfl trivial ?_
  refine st1 nofun rfl t1_3 rfl rfl rfl .head rfl trivial rfl ?_
  first | (refine o1 rfl (det_indexAddrA ar63 rfl rfl ?_) rfl rfl trivial ?_; (· (first | decide | omega)))
  refine o1 rfl (det_fieldAddr fld34_4 rfl) rfl rfl trivial ?_
  refine st1 nofun rfl t1_3 rfl rfl rfl .head rfl trivial rfl ?_
  first | (refine o1 rfl (det_indexAddrA ar63 rfl rfl ?_) rfl rfl trivial ?_; (· (first | decide | omega)))
  refine o1 rfl (det_fieldAddr fld34_3 rfl) rfl rfl trivial ?_
  refine stN nofun rfl tN30 rfl rfl rfl .head rfl trivial rfl rfl ?_
  first | (refine o1 rfl (det_indexAddrA ar63 rfl rfl ?_) rfl rfl trivial ?_; (· (first | decide | omega)))
  refine o1 rfl (det_fieldAddr fld34_2 rfl) rfl rfl trivial ?_
  refine st1 nofun rfl t1_4 rfl rfl rfl .head rfl trivial rfl ?_
  first | (refine o1 rfl (det_indexAddrA ar63 rfl rfl ?_) rfl rfl trivial ?_; (· (first | decide | omega)))
  refine o1 rfl (det_fieldAddr fld34_4 rfl) rfl rfl trivial ?_
  refine st1 nofun rfl t1_3 rfl rfl rfl .head rfl trivial rfl ?_
  first | (refine o1 rfl (det_indexAddrA ar63 rfl rfl ?_) rfl rfl trivial ?_; (· (first | decide | omega)))
  refine o1 rfl (det_fieldAddr fld34_0 rfl) rfl rfl trivial ?_
  refine o1 rfl (det_fieldAddr fld30_1 rfl) rfl rfl trivial ?_
  refine st1 nofun rfl t1_3 rfl rfl rfl .head rfl trivial rfl ?_
  refine be rfl ?_
  refine k_then ?_
  refine t_seq ?_
  refine b0 ?_
  refine o1 rfl (det_loadN tN30 rfl rfl (.tail _ (.tail _ (.head _))) rfl) rfl rfl trivial ?_
  refine o1 rfl (det_build rfl (fun w => bld34_0_4 _ _ _ _ _ w)) rfl rfl trivial ?_
  first | (refine o1 rfl (det_indexAddrA ar63 rfl rfl ?_) rfl rfl trivial ?_; (· (first | decide | omega)))
  refine stN nofun rfl tN34 rfl rfl rfl .head rfl trivial rfl rfl ?_
  refine be rfl ?_
  refine k_then ?_
  refine t_seq ?_
  refine t_seq ?_
  refine b0 ?_
  refine o1 rfl (det_assign rfl) rfl rfl trivial ?_
  refine be rfl ?_
  refine k_then ?_
  refine t_block ?_
  refine t_whileM (σ := Nat) (fun s => [(4, .int .i64 s)]) (fun _ => _) (fun s => 8 - s) (fun s => s ≤ 8) 0 (env0 := [(1, _), (2, _), (3, _)]) (Nat.zero_le _) ⟨rfl, trivial⟩ ⟨rfl, rfl, rfl, trivial⟩ (.refl _) ?_
  intro s hsl
  refine t_seq ?_
  refine t_seq ?_
  refine b0 ?_
  refine o1 rfl (det_move rfl) rfl rfl trivial ?_
  refine o1 rfl (det_lss rfl rfl) rfl rfl trivial ?_
  refine be rfl ?_
  refine k_then ?_
  refine t_condP decide_eq_true_iff rfl (fun hb => ?_) (fun hb => ?_)
  ·
    have hlt8 : s < 8 := by omega
    obtain ⟨y, hcut, hy, hno⟩ : ∃ y : Ch, cutV ((s : Int).toNat * 7) 7 (chv c0 ++ chv (⟨(⟨Ba, ([(128, 10), (127, 30)] : Ents).length, capa, ([(128, 10), (127, 30)] : Ents), sumL ([(128, 10), (127, 30)] : Ents)⟩ : Gl), 1099511627777, true, (⟨Ba, ([(128, 10), (127, 30)] : Ents).length, capa, ([(128, 10), (127, 30)] : Ents), sumL ([(128, 10), (127, 30)] : Ents)⟩ : Gl), 47⟩ : Ch) ++ chv (⟨(⟨Ba, ([(128, 10), (127, 30)] : Ents).length, capa, ([(128, 10), (127, 30)] : Ents), sumL ([(128, 10), (127, 30)] : Ents)⟩ : Gl), 7, true, (⟨Ba, ([(128, 10), (127, 30)] : Ents).length, capa, ([(128, 10), (127, 30)] : Ents), sumL ([(128, 10), (127, 30)] : Ents)⟩ : Gl), 48⟩ : Ch) ++ chv (⟨(⟨Ba, ([(128, 10), (127, 30)] : Ents).length, capa, ([(128, 10), (127, 30)] : Ents), sumL ([(128, 10), (127, 30)] : Ents)⟩ : Gl), 7, true, g0, 47⟩ : Ch) ++ chv (⟨(⟨Ba, ([(128, 10), (127, 30)] : Ents).length, capa, ([(128, 10), (127, 30)] : Ents), sumL ([(128, 10), (127, 30)] : Ents)⟩ : Gl), 7, false, (⟨Ba, ([(128, 10), (127, 30)] : Ents).length, capa, ([(128, 10), (127, 30)] : Ents), sumL ([(128, 10), (127, 30)] : Ents)⟩ : Gl), 47⟩ : Ch) ++ chv (⟨(⟨Ba, ([(128, 10), (127, 30)] : Ents).length, capa, ([(128, 10), (127, 30)] : Ents), sumL ([(128, 10), (127, 30)] : Ents)⟩ : Gl), 7, true, (⟨Ba, ([(128, 10), (127, 30)] : Ents).length, capa, ([(128, 10), (127, 30)] : Ents), sumL ([(128, 10), (127, 30)] : Ents)⟩ : Gl), 2199023255559⟩ : Ch) ++ chv (⟨(⟨Ba, ([(128, 10), (127, 30)] : Ents).length, capa, ([(128, 10), (127, 30)] : Ents), 41⟩ : Gl), 7, true, (⟨Ba, ([(128, 10), (127, 30)] : Ents).length, capa, ([(128, 10), (127, 30)] : Ents), sumL ([(128, 10), (127, 30)] : Ents)⟩ : Gl), 47⟩ : Ch) ++ chv (⟨(⟨Ba, ([(128, 10), (127, 30)] : Ents).length, capa, ([(128, 10), (127, 30)] : Ents), sumL ([(128, 10), (127, 30)] : Ents)⟩ : Gl), 0, false, g0, 1⟩ : Ch)) = some (chv y) ∧ ChK Ga y ∧ okC y = false := by
      have h6 : s = 0 ∨ s = 1 ∨ s = 2 ∨ s = 3 ∨ s = 4 ∨ s = 5 ∨ s = 6 ∨ s = 7 := by omega
      rcases h6 with rfl | rfl | rfl | rfl | rfl | rfl | rfl | rfl
      · exact ⟨c0, rfl, c0_k _, by kernel_rfl⟩
      · exact ⟨(⟨(⟨Ba, ([(128, 10), (127, 30)] : Ents).length, capa, ([(128, 10), (127, 30)] : Ents), sumL ([(128, 10), (127, 30)] : Ents)⟩ : Gl), 1099511627777, true, (⟨Ba, ([(128, 10), (127, 30)] : Ents).length, capa, ([(128, 10), (127, 30)] : Ents), sumL ([(128, 10), (127, 30)] : Ents)⟩ : Gl), 47⟩ : Ch), rfl, ⟨hEa, hEa⟩, by kernel_rfl⟩
      · exact ⟨(⟨(⟨Ba, ([(128, 10), (127, 30)] : Ents).length, capa, ([(128, 10), (127, 30)] : Ents), sumL ([(128, 10), (127, 30)] : Ents)⟩ : Gl), 7, true, (⟨Ba, ([(128, 10), (127, 30)] : Ents).length, capa, ([(128, 10), (127, 30)] : Ents), sumL ([(128, 10), (127, 30)] : Ents)⟩ : Gl), 48⟩ : Ch), rfl, ⟨hEa, hEa⟩, by kernel_rfl⟩
      · exact ⟨(⟨(⟨Ba, ([(128, 10), (127, 30)] : Ents).length, capa, ([(128, 10), (127, 30)] : Ents), sumL ([(128, 10), (127, 30)] : Ents)⟩ : Gl), 7, true, g0, 47⟩ : Ch), rfl, ⟨hEa, g0_k _⟩, by kernel_rfl⟩
      · exact ⟨(⟨(⟨Ba, ([(128, 10), (127, 30)] : Ents).length, capa, ([(128, 10), (127, 30)] : Ents), sumL ([(128, 10), (127, 30)] : Ents)⟩ : Gl), 7, false, (⟨Ba, ([(128, 10), (127, 30)] : Ents).length, capa, ([(128, 10), (127, 30)] : Ents), sumL ([(128, 10), (127, 30)] : Ents)⟩ : Gl), 47⟩ : Ch), rfl, ⟨hEa, hEa⟩, by kernel_rfl⟩
      · exact ⟨(⟨(⟨Ba, ([(128, 10), (127, 30)] : Ents).length, capa, ([(128, 10), (127, 30)] : Ents), sumL ([(128, 10), (127, 30)] : Ents)⟩ : Gl), 7, true, (⟨Ba, ([(128, 10), (127, 30)] : Ents).length, capa, ([(128, 10), (127, 30)] : Ents), sumL ([(128, 10), (127, 30)] : Ents)⟩ : Gl), 2199023255559⟩ : Ch), rfl, ⟨hEa, hEa⟩, by kernel_rfl⟩
      · exact ⟨(⟨(⟨Ba, ([(128, 10), (127, 30)] : Ents).length, capa, ([(128, 10), (127, 30)] : Ents), 41⟩ : Gl), 7, true, (⟨Ba, ([(128, 10), (127, 30)] : Ents).length, capa, ([(128, 10), (127, 30)] : Ents), sumL ([(128, 10), (127, 30)] : Ents)⟩ : Gl), 47⟩ : Ch), rfl, ⟨hEa, hEa⟩, by kernel_rfl⟩
      · exact ⟨(⟨(⟨Ba, ([(128, 10), (127, 30)] : Ents).length, capa, ([(128, 10), (127, 30)] : Ents), sumL ([(128, 10), (127, 30)] : Ents)⟩ : Gl), 0, false, g0, 1⟩ : Ch), rfl, ⟨hEa, g0_k _⟩, by kernel_rfl⟩
    refine t_skip ?_
    refine k_then ?_
    refine t_seq ?_
    refine t_block ?_
    refine t_seq ?_
    refine b0 ?_
    refine o1 rfl (det_move rfl) rfl rfl trivial ?_
    first | (refine o1 rfl (det_indexAddrA ar63 rfl rfl ?_) rfl rfl trivial ?_; (· (first | decide | omega)))
    refine o1 rfl (det_loadN tN34 rfl (by rw [add_mk, Nat.zero_add]) (.head _) hcut) rfl rfl trivial ?_
    refine o1 rfl (det_build rfl (fun w => bld30_ w)) rfl rfl trivial ?_
    refine o1 rfl (det_call hb29 rfl rfl (fun w1 hs => set_at hs.know hy (g := g0) (g0_k _) (show setC y 1099511627777 g0 0 = (c0, 390) by unfold setC; rw [hno]; rfl))) rfl rfl trivial ?_
    refine o1 rfl (det_move rfl) rfl rfl trivial ?_
    refine o1 rfl (det_extract rfl rfl) rfl rfl trivial ?_
    refine o1 rfl (det_extract rfl rfl) rfl rfl trivial ?_
    refine om1 rfl (new_alloc z34) rfl rfl trivial (fun p5 => ?_)
    refine stN nofun rfl tN34 rfl rfl rfl .head rfl trivial rfl rfl ?_
    refine o1 rfl (det_assign rfl) rfl rfl trivial ?_
    refine be rfl ?_
    refine k_then ?_
    refine t_seq ?_
    refine b0 ?_
    refine o1 rfl (det_move rfl) rfl rfl trivial ?_
    first | (refine o1 rfl (det_indexAddrA ar63 rfl rfl ?_) rfl rfl trivial ?_; (· (first | decide | omega)))
    refine o1 rfl (det_loadN tN34 rfl (by rw [add_mk, Nat.zero_add]) (.tail _ (.head _)) hcut) rfl rfl trivial ?_
    refine o1 rfl (det_call hb28 rfl rfl (fun w1 hs => adv_at hs.know hy (show advC y 1099511627777 = (c0, 390) by unfold advC; rw [hno]; rfl))) rfl rfl trivial ?_
    refine o1 rfl (det_move rfl) rfl rfl trivial ?_
    refine o1 rfl (det_extract rfl rfl) rfl rfl trivial ?_
    refine o1 rfl (det_extract rfl rfl) rfl rfl trivial ?_
    refine om1 rfl (new_alloc z34) rfl rfl trivial (fun p7 => ?_)
    refine stN nofun rfl tN34 rfl rfl rfl .head rfl trivial rfl rfl ?_
    refine o1 rfl (det_assign rfl) rfl rfl trivial ?_
    refine be rfl ?_
    refine k_then ?_
    refine t_seq ?_
    refine b0 ?_
    refine o1 rfl (det_move rfl) rfl rfl trivial ?_
    first | (refine o1 rfl (det_indexAddrA ar63 rfl rfl ?_) rfl rfl trivial ?_; (· (first | decide | omega)))
    refine o1 rfl (det_loadN tN34 rfl (by rw [add_mk, Nat.zero_add]) (.tail _ (.tail _ (.head _))) hcut) rfl rfl trivial ?_
    refine o1 rfl (det_call hb19 rfl rfl (fun w1 hs => mask_at3 hs.know hy (show maskC y 1099511627777 = (0, 390) by unfold maskC; rw [hno]; rfl))) rfl rfl trivial ?_
    refine o1 rfl (det_move rfl) rfl rfl trivial ?_
    refine o1 rfl (det_extract rfl rfl) rfl rfl trivial ?_
    refine o1 rfl (det_extract rfl rfl) rfl rfl trivial ?_
    refine o1 rfl (det_assign rfl) rfl rfl trivial ?_
    refine o1 rfl (det_assign rfl) rfl rfl trivial ?_
    refine be rfl ?_
    refine k_then ?_
    refine t_seq ?_
    refine b0 ?_
    refine o1 rfl (det_move rfl) rfl rfl trivial ?_
    first | (refine o1 rfl (det_indexAddrA ar63 rfl rfl ?_) rfl rfl trivial ?_; (· (first | decide | omega)))
    refine o1 rfl (det_loadN tN34 rfl (by rw [add_mk, Nat.zero_add]) (.tail _ (.tail _ (.head _))) hcut) rfl rfl trivial ?_
    refine o1 rfl (det_call hb25 rfl rfl (fun w1 hs => fits_at hs.know hy (by decide) (show fitsC y 8 0 0 = (false, 390) by unfold fitsC; rw [hno]; rfl))) rfl rfl trivial ?_
    refine o1 rfl (det_move rfl) rfl rfl trivial ?_
    refine o1 rfl (det_extract rfl rfl) rfl rfl trivial ?_
    refine o1 rfl (det_extract rfl rfl) rfl rfl trivial ?_
    refine o1 rfl (det_assign rfl) rfl rfl trivial ?_
    refine o1 rfl (det_assign rfl) rfl rfl trivial ?_
    refine be rfl ?_
    refine k_then ?_
    refine t_seq ?_
    refine b0 ?_
    refine o1 rfl (det_move rfl) rfl rfl trivial ?_
    first | (refine o1 rfl (det_indexAddrA ar63 rfl rfl ?_) rfl rfl trivial ?_; (· (first | decide | omega)))
    refine o1 rfl (det_loadN tN34 rfl (by rw [add_mk, Nat.zero_add]) (.tail _ (.tail _ (.head _))) hcut) rfl rfl trivial ?_
    refine o1 rfl (det_call hb17 rfl rfl (fun w1 hs => check_at29 hs.know hy (show checkC y = 390 by unfold checkC; rw [hno]; rfl))) rfl rfl trivial ?_
    refine o1 rfl (det_neq rfl rfl) rfl rfl trivial ?_
    refine o2P bne_iff_ne rfl (det_move rfl) rfl rfl trivial (fun hb => ?_) (fun hb => ?_)
    · exfalso; first | exact hb rfl | (simp at hb; done)
    refine o1 rfl (det_move rfl) rfl rfl ⟨_, rfl, rfl⟩ ?_
    refine o1 rfl (det_neq rfl rfl) rfl rfl ⟨_, rfl, rfl⟩ ?_
    refine o1 rfl (det_pickF rfl rfl) rfl rfl trivial ?_
    refine o2P bne_iff_ne rfl (det_move rfl) rfl rfl trivial (fun hb => ?_) (fun hb => ?_)
    · exfalso; first | exact hb rfl | (simp at hb; done)
    refine o1 rfl (det_move rfl) rfl rfl ⟨_, rfl, rfl⟩ ?_
    refine o1 rfl (det_neq rfl rfl) rfl rfl ⟨_, rfl, rfl⟩ ?_
    refine o1 rfl (det_pickF rfl rfl) rfl rfl trivial ?_
    refine o2P bne_iff_ne rfl (det_move rfl) rfl rfl trivial (fun hb => ?_) (fun hb => ?_)
    · exfalso; first | exact hb rfl | (simp at hb; done)
    refine o1 rfl (det_move rfl) rfl rfl ⟨_, rfl, rfl⟩ ?_
    refine o1 rfl (det_neq rfl rfl) rfl rfl ⟨_, rfl, rfl⟩ ?_
    refine o1 rfl (det_pickF rfl rfl) rfl rfl trivial ?_
    refine o2P bne_iff_ne rfl (det_move rfl) rfl rfl trivial (fun hb => ?_) (fun hb => ?_)
    · exfalso; first | exact hb rfl | (simp at hb; done)
    refine o1 rfl (det_move rfl) rfl rfl ⟨_, rfl, rfl⟩ ?_
    refine o1 rfl (det_neq rfl rfl) rfl rfl ⟨_, rfl, rfl⟩ ?_
    refine o1 rfl (det_pickF rfl rfl) rfl rfl trivial ?_
    refine be rfl ?_
    refine k_then ?_
    refine t_condP bne_iff_ne rfl (fun hb => ?_) (fun hb => ?_)
    · exfalso; first | exact hb rfl | (simp at hb; done)
    refine t_skip ?_
    refine k_blk ?_
    refine k_then ?_
    refine b0 ?_
    refine o1 rfl (det_move rfl) rfl rfl trivial ?_
    first | (refine o1 rfl (det_addI rfl rfl ?_) rfl rfl trivial ?_; (· omega)) | refine o1 rfl (det_add rfl rfl) rfl rfl trivial ?_
    refine o1 rfl (det_assign rfl) rfl rfl trivial ?_
    refine be rfl ?_
    refine k_then ?_
    refine loop_back (s + 1) (by omega) (by omega) ⟨rfl, rfl, rfl, rfl, trivial⟩ (.cons _ (.cons _ (.refl _)))
  ·
    skip
    refine t_exit ?_
    refine k_thenE ?_
    refine k_thenE ?_
    refine k_blkE ?_
    refine k_then ?_
    refine t_seq ?_
    refine b0 ?_
    refine o1 rfl (det_build rfl (fun w => bld30_ w)) rfl rfl trivial ?_
    refine o1 rfl (det_call hb21 rfl rfl (fun w1 hs => new29_at hs.know (g := g0) (g0_k _) (show newC g0 1099511627777 = (c0, 370) by kernel_rfl))) rfl rfl trivial ?_
    refine o1 rfl (det_move rfl) rfl rfl trivial ?_
    refine o1 rfl (det_extract rfl rfl) rfl rfl trivial ?_
    refine o1 rfl (det_extract rfl rfl) rfl rfl trivial ?_
    refine om1 rfl (new_alloc z34) rfl rfl trivial (fun p13 => ?_)
    refine stN nofun rfl tN34 rfl rfl rfl .head rfl trivial rfl rfl ?_
    refine o1 rfl (det_assign rfl) rfl rfl trivial ?_
    refine be rfl ?_
    refine k_then ?_
    refine t_seq ?_
    refine b0 ?_
    refine o1 rfl (det_loadN tN30 rfl rfl (.tail _ (.tail _ (.tail _ (.head _)))) rfl) rfl rfl trivial ?_
    refine o1 rfl (det_call hb21 rfl rfl (fun w1 hs => new29_at hs.know (g := (⟨Ba, ([(128, 10), (127, 30)] : Ents).length, capa, ([(128, 10), (127, 30)] : Ents), sumL ([(128, 10), (127, 30)] : Ents)⟩ : Gl)) hEa (show newC (⟨Ba, ([(128, 10), (127, 30)] : Ents).length, capa, ([(128, 10), (127, 30)] : Ents), sumL ([(128, 10), (127, 30)] : Ents)⟩ : Gl) 1099511627777 = (c0, 2) by kernel_rfl))) rfl rfl trivial ?_
    refine o1 rfl (det_move rfl) rfl rfl trivial ?_
    refine o1 rfl (det_extract rfl rfl) rfl rfl trivial ?_
    refine o1 rfl (det_extract rfl rfl) rfl rfl trivial ?_
    refine om1 rfl (new_alloc z34) rfl rfl trivial (fun p15 => ?_)
    refine stN nofun rfl tN34 rfl rfl rfl .head rfl trivial rfl rfl ?_
    refine o1 rfl (det_assign rfl) rfl rfl trivial ?_
    refine be rfl ?_
    refine k_then ?_
    refine t_seq ?_
    refine b0 ?_
    refine o1 rfl (det_loadN tN34 rfl rfl (.tail _ (.tail _ (.tail _ (.head _)))) rfl) rfl rfl trivial ?_
    refine o1 rfl (det_build rfl (fun w => bld30_ w)) rfl rfl trivial ?_
    refine o1 rfl (det_call hb29 rfl rfl (fun w1 hs => set_at hs.know (c := (⟨(⟨Ba, ([(128, 10), (127, 30)] : Ents).length, capa, ([(128, 10), (127, 30)] : Ents), sumL ([(128, 10), (127, 30)] : Ents)⟩ : Gl), 7, true, (⟨Ba, ([(128, 10), (127, 30)] : Ents).length, capa, ([(128, 10), (127, 30)] : Ents), sumL ([(128, 10), (127, 30)] : Ents)⟩ : Gl), 47⟩ : Ch)) ⟨hEa, hEa⟩ (g := g0) (g0_k _) (show setC (⟨(⟨Ba, ([(128, 10), (127, 30)] : Ents).length, capa, ([(128, 10), (127, 30)] : Ents), sumL ([(128, 10), (127, 30)] : Ents)⟩ : Gl), 7, true, (⟨Ba, ([(128, 10), (127, 30)] : Ents).length, capa, ([(128, 10), (127, 30)] : Ents), sumL ([(128, 10), (127, 30)] : Ents)⟩ : Gl), 47⟩ : Ch) 1099511627777 g0 0 = (c0, 2) by kernel_rfl))) rfl rfl trivial ?_
    refine o1 rfl (det_move rfl) rfl rfl trivial ?_
    refine o1 rfl (det_extract rfl rfl) rfl rfl trivial ?_
    refine o1 rfl (det_extract rfl rfl) rfl rfl trivial ?_
    refine om1 rfl (new_alloc z34) rfl rfl trivial (fun p17 => ?_)
    refine stN nofun rfl tN34 rfl rfl rfl .head rfl trivial rfl rfl ?_
    refine o1 rfl (det_assign rfl) rfl rfl trivial ?_
    refine be rfl ?_
    refine k_then ?_
    refine t_seq ?_
    refine b0 ?_
    refine o1 rfl (det_loadN tN34 rfl rfl (.tail _ (.tail _ (.tail _ (.tail _ (.head _))))) rfl) rfl rfl trivial ?_
    refine o1 rfl (det_build rfl (fun w => bld30_ w)) rfl rfl trivial ?_
    refine o1 rfl (det_call hb29 rfl rfl (fun w1 hs => set_at hs.know (c := (⟨(⟨Ba, ([(128, 10), (127, 30)] : Ents).length, capa, ([(128, 10), (127, 30)] : Ents), sumL ([(128, 10), (127, 30)] : Ents)⟩ : Gl), 7, true, (⟨Ba, ([(128, 10), (127, 30)] : Ents).length, capa, ([(128, 10), (127, 30)] : Ents), sumL ([(128, 10), (127, 30)] : Ents)⟩ : Gl), 47⟩ : Ch)) ⟨hEa, hEa⟩ (g := g0) (g0_k _) (show setC (⟨(⟨Ba, ([(128, 10), (127, 30)] : Ents).length, capa, ([(128, 10), (127, 30)] : Ents), sumL ([(128, 10), (127, 30)] : Ents)⟩ : Gl), 7, true, (⟨Ba, ([(128, 10), (127, 30)] : Ents).length, capa, ([(128, 10), (127, 30)] : Ents), sumL ([(128, 10), (127, 30)] : Ents)⟩ : Gl), 47⟩ : Ch) 0 g0 1099511627777 = (c0, 370) by kernel_rfl))) rfl rfl trivial ?_
    refine o1 rfl (det_move rfl) rfl rfl trivial ?_
    refine o1 rfl (det_extract rfl rfl) rfl rfl trivial ?_
    refine o1 rfl (det_extract rfl rfl) rfl rfl trivial ?_
    refine om1 rfl (new_alloc z34) rfl rfl trivial (fun p19 => ?_)
    refine stN nofun rfl tN34 rfl rfl rfl .head rfl trivial rfl rfl ?_
    refine o1 rfl (det_assign rfl) rfl rfl trivial ?_
    refine be rfl ?_
    refine k_then ?_
    refine t_seq ?_
    refine b0 ?_
    refine o1 rfl (det_loadN tN34 rfl rfl (.tail _ (.tail _ (.tail _ (.tail _ (.tail _ (.head _)))))) rfl) rfl rfl trivial ?_
    refine o1 rfl (det_loadN tN30 rfl rfl (.tail _ (.tail _ (.tail _ (.tail _ (.tail _ (.tail _ (.head _))))))) rfl) rfl rfl trivial ?_
    refine o1 rfl (det_call hb29 rfl rfl (fun w1 hs => set_at hs.know (c := (⟨(⟨Ba, ([(128, 10), (127, 30)] : Ents).length, capa, ([(128, 10), (127, 30)] : Ents), sumL ([(128, 10), (127, 30)] : Ents)⟩ : Gl), 7, true, (⟨Ba, ([(128, 10), (127, 30)] : Ents).length, capa, ([(128, 10), (127, 30)] : Ents), sumL ([(128, 10), (127, 30)] : Ents)⟩ : Gl), 47⟩ : Ch)) ⟨hEa, hEa⟩ (g := (⟨Ba, ([(128, 10), (127, 30)] : Ents).length, capa, ([(128, 10), (127, 30)] : Ents), sumL ([(128, 10), (127, 30)] : Ents)⟩ : Gl)) hEa (show setC (⟨(⟨Ba, ([(128, 10), (127, 30)] : Ents).length, capa, ([(128, 10), (127, 30)] : Ents), sumL ([(128, 10), (127, 30)] : Ents)⟩ : Gl), 7, true, (⟨Ba, ([(128, 10), (127, 30)] : Ents).length, capa, ([(128, 10), (127, 30)] : Ents), sumL ([(128, 10), (127, 30)] : Ents)⟩ : Gl), 47⟩ : Ch) 0 (⟨Ba, ([(128, 10), (127, 30)] : Ents).length, capa, ([(128, 10), (127, 30)] : Ents), sumL ([(128, 10), (127, 30)] : Ents)⟩ : Gl) (-1099511627777) = (c0, 2) by kernel_rfl))) rfl rfl trivial ?_
    refine o1 rfl (det_move rfl) rfl rfl trivial ?_
    refine o1 rfl (det_extract rfl rfl) rfl rfl trivial ?_
    refine o1 rfl (det_extract rfl rfl) rfl rfl trivial ?_
    refine om1 rfl (new_alloc z34) rfl rfl trivial (fun p21 => ?_)
    refine stN nofun rfl tN34 rfl rfl rfl .head rfl trivial rfl rfl ?_
    refine o1 rfl (det_assign rfl) rfl rfl trivial ?_
    refine be rfl ?_
    refine k_then ?_
    refine t_seq ?_
    refine b0 ?_
    refine o1 rfl (det_loadN tN34 rfl rfl (.tail _ (.tail _ (.tail _ (.tail _ (.tail _ (.tail _ (.head _))))))) rfl) rfl rfl trivial ?_
    refine o1 rfl (det_call hb25 rfl rfl (fun w1 hs => fits_at hs.know (c := (⟨(⟨Ba, ([(128, 10), (127, 30)] : Ents).length, capa, ([(128, 10), (127, 30)] : Ents), sumL ([(128, 10), (127, 30)] : Ents)⟩ : Gl), 7, true, (⟨Ba, ([(128, 10), (127, 30)] : Ents).length, capa, ([(128, 10), (127, 30)] : Ents), sumL ([(128, 10), (127, 30)] : Ents)⟩ : Gl), 47⟩ : Ch)) ⟨hEa, hEa⟩ (cl := 0) (t := 0) (lg := 161) (by decide) (b := false) (er := 2) (by kernel_rfl))) rfl rfl trivial ?_
    refine o1 rfl (det_move rfl) rfl rfl trivial ?_
    refine o1 rfl (det_extract rfl rfl) rfl rfl trivial ?_
    refine o1 rfl (det_extract rfl rfl) rfl rfl trivial ?_
    refine o1 rfl (det_assign rfl) rfl rfl trivial ?_
    refine o1 rfl (det_assign rfl) rfl rfl trivial ?_
    refine be rfl ?_
    refine k_then ?_
    refine t_seq ?_
    refine b0 ?_
    refine o1 rfl (det_loadN tN34 rfl rfl (.tail _ (.tail _ (.tail _ (.tail _ (.tail _ (.tail _ (.head _))))))) rfl) rfl rfl trivial ?_
    refine o1 rfl (det_call hb25 rfl rfl (fun w1 hs => fits_at hs.know (c := (⟨(⟨Ba, ([(128, 10), (127, 30)] : Ents).length, capa, ([(128, 10), (127, 30)] : Ents), sumL ([(128, 10), (127, 30)] : Ents)⟩ : Gl), 7, true, (⟨Ba, ([(128, 10), (127, 30)] : Ents).length, capa, ([(128, 10), (127, 30)] : Ents), sumL ([(128, 10), (127, 30)] : Ents)⟩ : Gl), 47⟩ : Ch)) ⟨hEa, hEa⟩ (cl := 8) (t := 0) (lg := 0) (by decide) (b := false) (er := 2) (by kernel_rfl))) rfl rfl trivial ?_
    refine o1 rfl (det_move rfl) rfl rfl trivial ?_
    refine o1 rfl (det_extract rfl rfl) rfl rfl trivial ?_
    refine o1 rfl (det_extract rfl rfl) rfl rfl trivial ?_
    refine o1 rfl (det_assign rfl) rfl rfl trivial ?_
    refine o1 rfl (det_assign rfl) rfl rfl trivial ?_
    refine be rfl ?_
    refine k_then ?_
    refine t_seq ?_
    refine b0 ?_
    refine o1 rfl (det_loadN tN34 rfl rfl (.tail _ (.tail _ (.tail _ (.tail _ (.tail _ (.tail _ (.head _))))))) rfl) rfl rfl trivial ?_
    refine o1 rfl (det_call hb28 rfl rfl (fun w1 hs => adv_at hs.know (c := (⟨(⟨Ba, ([(128, 10), (127, 30)] : Ents).length, capa, ([(128, 10), (127, 30)] : Ents), sumL ([(128, 10), (127, 30)] : Ents)⟩ : Gl), 7, true, (⟨Ba, ([(128, 10), (127, 30)] : Ents).length, capa, ([(128, 10), (127, 30)] : Ents), sumL ([(128, 10), (127, 30)] : Ents)⟩ : Gl), 47⟩ : Ch)) ⟨hEa, hEa⟩ (show advC (⟨(⟨Ba, ([(128, 10), (127, 30)] : Ents).length, capa, ([(128, 10), (127, 30)] : Ents), sumL ([(128, 10), (127, 30)] : Ents)⟩ : Gl), 7, true, (⟨Ba, ([(128, 10), (127, 30)] : Ents).length, capa, ([(128, 10), (127, 30)] : Ents), sumL ([(128, 10), (127, 30)] : Ents)⟩ : Gl), 47⟩ : Ch) 1099511627777 = (c0, 2) by kernel_rfl))) rfl rfl trivial ?_
    refine o1 rfl (det_move rfl) rfl rfl trivial ?_
    refine o1 rfl (det_extract rfl rfl) rfl rfl trivial ?_
    refine o1 rfl (det_extract rfl rfl) rfl rfl trivial ?_
    refine om1 rfl (new_alloc z34) rfl rfl trivial (fun p27 => ?_)
    refine stN nofun rfl tN34 rfl rfl rfl .head rfl trivial rfl rfl ?_
    refine o1 rfl (det_assign rfl) rfl rfl trivial ?_
    refine be rfl ?_
    refine k_then ?_
    refine t_seq ?_
    refine b0 ?_
    refine o1 rfl (det_loadN tN30 rfl rfl (.tail _ (.tail _ (.tail _ (.tail _ (.tail _ (.tail _ (.tail _ (.tail _ (.head _))))))))) rfl) rfl rfl trivial ?_
    refine o1 rfl (det_build rfl (fun w => bld34_0_1 _ _ _ _ _ w)) rfl rfl trivial ?_
    refine o1 rfl (det_loadN tN30 rfl rfl (.tail _ (.tail _ (.tail _ (.tail _ (.tail _ (.tail _ (.tail _ (.tail _ (.head _))))))))) rfl) rfl rfl trivial ?_
    refine o1 rfl (det_call hb29 rfl rfl (fun w1 hs => set_at hs.know (c := (⟨(⟨Ba, ([(128, 10), (127, 30)] : Ents).length, capa, ([(128, 10), (127, 30)] : Ents), sumL ([(128, 10), (127, 30)] : Ents)⟩ : Gl), 1, false, g0, 0⟩ : Ch)) ⟨hEa, g0_k _⟩ (g := (⟨Ba, ([(128, 10), (127, 30)] : Ents).length, capa, ([(128, 10), (127, 30)] : Ents), sumL ([(128, 10), (127, 30)] : Ents)⟩ : Gl)) hEa (show setC (⟨(⟨Ba, ([(128, 10), (127, 30)] : Ents).length, capa, ([(128, 10), (127, 30)] : Ents), sumL ([(128, 10), (127, 30)] : Ents)⟩ : Gl), 1, false, g0, 0⟩ : Ch) 1099511627776 (⟨Ba, ([(128, 10), (127, 30)] : Ents).length, capa, ([(128, 10), (127, 30)] : Ents), sumL ([(128, 10), (127, 30)] : Ents)⟩ : Gl) 0 = ((⟨(⟨Ba, ([(128, 10), (127, 30)] : Ents).length, capa, ([(128, 10), (127, 30)] : Ents), sumL ([(128, 10), (127, 30)] : Ents)⟩ : Gl), 1, true, (⟨Ba, ([(128, 10), (127, 30)] : Ents).length, capa, ([(128, 10), (127, 30)] : Ents), sumL ([(128, 10), (127, 30)] : Ents)⟩ : Gl), 1099511627801⟩ : Ch), 0) by kernel_rfl))) rfl rfl trivial ?_
    refine o1 rfl (det_move rfl) rfl rfl trivial ?_
    refine o1 rfl (det_extract rfl rfl) rfl rfl trivial ?_
    refine o1 rfl (det_extract rfl rfl) rfl rfl trivial ?_
    refine om1 rfl (new_alloc z34) rfl rfl trivial (fun p29 => ?_)
    refine stN nofun rfl tN34 rfl rfl rfl .head rfl trivial rfl rfl ?_
    refine o1 rfl (det_assign rfl) rfl rfl trivial ?_
    refine be rfl ?_
    refine k_then ?_
    refine t_seq ?_
    refine b0 ?_
    refine o1 rfl (det_loadN tN34 rfl rfl (.head _) rfl) rfl rfl trivial ?_
    refine o1 rfl (det_call hb28 rfl rfl (fun w1 hs => adv_at hs.know (c := (⟨(⟨Ba, ([(128, 10), (127, 30)] : Ents).length, capa, ([(128, 10), (127, 30)] : Ents), sumL ([(128, 10), (127, 30)] : Ents)⟩ : Gl), 1, true, (⟨Ba, ([(128, 10), (127, 30)] : Ents).length, capa, ([(128, 10), (127, 30)] : Ents), sumL ([(128, 10), (127, 30)] : Ents)⟩ : Gl), 1099511627801⟩ : Ch)) ⟨hEa, hEa⟩ (show advC (⟨(⟨Ba, ([(128, 10), (127, 30)] : Ents).length, capa, ([(128, 10), (127, 30)] : Ents), sumL ([(128, 10), (127, 30)] : Ents)⟩ : Gl), 1, true, (⟨Ba, ([(128, 10), (127, 30)] : Ents).length, capa, ([(128, 10), (127, 30)] : Ents), sumL ([(128, 10), (127, 30)] : Ents)⟩ : Gl), 1099511627801⟩ : Ch) 1099511627776 = ((⟨(⟨Ba, ([(128, 10), (127, 30)] : Ents).length, capa, ([(128, 10), (127, 30)] : Ents), sumL ([(128, 10), (127, 30)] : Ents)⟩ : Gl), 1, true, (⟨Ba, ([(128, 10), (127, 30)] : Ents).length, capa, ([(128, 10), (127, 30)] : Ents), sumL ([(128, 10), (127, 30)] : Ents)⟩ : Gl), 1099511627801⟩ : Ch), 0) by kernel_rfl))) rfl rfl trivial ?_
    refine o1 rfl (det_move rfl) rfl rfl trivial ?_
    refine o1 rfl (det_extract rfl rfl) rfl rfl trivial ?_
    refine o1 rfl (det_extract rfl rfl) rfl rfl trivial ?_
    refine om1 rfl (new_alloc z34) rfl rfl trivial (fun p31 => ?_)
    refine stN nofun rfl tN34 rfl rfl rfl .head rfl trivial rfl rfl ?_
    refine o1 rfl (det_assign rfl) rfl rfl trivial ?_
    refine be rfl ?_
    refine k_then ?_
    refine t_seq ?_
    refine bD mixed ?_
    refine r_force 6 8 (by kernel_rfl) ?_
    refine r_segF 10 8 [1, 7] [(2, Go.Eng.Told Ga (fun v F1 => ∃ A1 cap1, v = .agg [.slice A1 ([(127, 9)] : Ents).length cap1, .int .i64 (sumL ([(127, 9)] : Ents))].toArray ∧ EntK F1 A1 ([(127, 9)] : Ents).length ([(127, 9)] : Ents)))] [0, 1, 2, 3, 4, 5, 6, 7] (by kernel_rfl) ?_
    refine s1 rfl (det_loadN tN34 rfl rfl (.tail _ (.tail _ (.tail _ (.tail _ (.tail _ (.tail _ (.tail _ (.tail _ (.tail _ (.head _)))))))))) rfl) rfl rfl trivial rfl ?_
    refine sm1 rfl (new_buildSlice rfl (fun w => bsl105_2_0_1 _ _ w)) rfl rfl trivial rfl (fun p178 => ?_)
    refine sM [_] (needC (.head _) rfl need0) rfl (fun F2 hF2 hN => mem_call hF2 hb32 rfl rfl (fun w1 hs => (list_gl hs.know ([(127, 9)] : Ents) (holdsK (hN _ (.head _))) rfl (by decide) (by decide) (by decide)).any)) rfl rfl trivial rfl (fun v179 hv179 => ?_)
    obtain ⟨_, Bc, capc, rfl, -⟩ := hv179
    refine s1N [_] (needC (.head _) rfl need0) rfl (fun F2 hF2 hN => det_call hb29 rfl rfl (fun w1 hs => set_at hs.know (c := (⟨(⟨Ba, ([(128, 10), (127, 30)] : Ents).length, capa, ([(128, 10), (127, 30)] : Ents), sumL ([(128, 10), (127, 30)] : Ents)⟩ : Gl), 7, true, (⟨Ba, ([(128, 10), (127, 30)] : Ents).length, capa, ([(128, 10), (127, 30)] : Ents), sumL ([(128, 10), (127, 30)] : Ents)⟩ : Gl), 47⟩ : Ch)) ⟨EntK.mono hEa hF2, EntK.mono hEa hF2⟩ (g := (⟨Bc, ([(127, 9)] : Ents).length, capc, ([(127, 9)] : Ents), sumL ([(127, 9)] : Ents)⟩ : Gl)) (by obtain ⟨_, _, hq, hEq⟩ := hN _ (.head _); cases hq; exact hEq) (show setC (⟨(⟨Ba, ([(128, 10), (127, 30)] : Ents).length, capa, ([(128, 10), (127, 30)] : Ents), sumL ([(128, 10), (127, 30)] : Ents)⟩ : Gl), 7, true, (⟨Ba, ([(128, 10), (127, 30)] : Ents).length, capa, ([(128, 10), (127, 30)] : Ents), sumL ([(128, 10), (127, 30)] : Ents)⟩ : Gl), 47⟩ : Ch) 47 (⟨Bc, ([(127, 9)] : Ents).length, capc, ([(127, 9)] : Ents), sumL ([(127, 9)] : Ents)⟩ : Gl) 0 = ((⟨(⟨Ba, ([(128, 10), (127, 30)] : Ents).length, capa, ([(128, 10), (127, 30)] : Ents), sumL ([(128, 10), (127, 30)] : Ents)⟩ : Gl), 47, true, (⟨Bc, ([(127, 9)] : Ents).length, capc, ([(127, 9)] : Ents), sumL ([(127, 9)] : Ents)⟩ : Gl), 47⟩ : Ch), 0) by kernel_rfl))) rfl rfl trivial rfl ?_
    refine s1 rfl (det_move rfl) rfl rfl trivial rfl ?_
    refine s1 rfl (det_extract rfl rfl) rfl rfl trivial rfl ?_
    refine s1 rfl (det_extract rfl rfl) rfl rfl trivial rfl ?_
    refine sm1 rfl (new_alloc z34) rfl rfl trivial rfl (fun p33 => ?_)
    refine sg_nil ?_
    rintro F_25_8 hF_25_8 hN_25_8 ⟨hR179, -⟩
    obtain ⟨Bq, capq, hq, hEc⟩ := hR179
    cases hq
    refine stN (fun _ => by kernel_rfl) rfl tN34 rfl rfl rfl .head rfl trivial rfl rfl ?_
    refine r_seg 10 10 [] [9] (by kernel_rfl) ?_
    refine s1 rfl (det_assign rfl) rfl rfl trivial rfl ?_
    refine sg_nil ?_
    refine be rfl ?_
    refine np ?_
    refine k_then ?_
    refine t_seq ?_
    refine b0 ?_
    refine o1 rfl (det_move rfl) rfl rfl trivial ?_
    refine o1 rfl (det_eql rfl rfl) rfl rfl trivial ?_
    refine o2P beq_iff_eq rfl (det_move rfl) rfl rfl trivial (fun hb => ?_) (fun hb => ?_)
    rotate_left
    · exfalso; first | exact hb rfl | (simp at hb; done) | (revert hb; decide)
    refine o1 rfl (det_move rfl) rfl rfl ⟨_, rfl, rfl⟩ ?_
    refine o1 rfl (det_eql rfl rfl) rfl rfl ⟨_, rfl, rfl⟩ ?_
    refine o1 rfl (det_pickT rfl rfl) rfl rfl trivial ?_
    refine o2P beq_iff_eq rfl (det_move rfl) rfl rfl trivial (fun hb => ?_) (fun hb => ?_)
    rotate_left
    · exfalso; first | exact hb rfl | (simp at hb; done) | (revert hb; decide)
    refine o1 rfl (det_move rfl) rfl rfl ⟨_, rfl, rfl⟩ ?_
    refine o1 rfl (det_eql rfl rfl) rfl rfl ⟨_, rfl, rfl⟩ ?_
    refine o1 rfl (det_pickT rfl rfl) rfl rfl trivial ?_
    refine o2P beq_iff_eq rfl (det_move rfl) rfl rfl trivial (fun hb => ?_) (fun hb => ?_)
    rotate_left
    · exfalso; first | exact hb rfl | (simp at hb; done) | (revert hb; decide)
    refine o1 rfl (det_move rfl) rfl rfl ⟨_, rfl, rfl⟩ ?_
    refine o1 rfl (det_eql rfl rfl) rfl rfl ⟨_, rfl, rfl⟩ ?_
    refine o1 rfl (det_pickT rfl rfl) rfl rfl trivial ?_
    refine o2P beq_iff_eq rfl (det_move rfl) rfl rfl trivial (fun hb => ?_) (fun hb => ?_)
    rotate_left
    · exfalso; first | exact hb rfl | (simp at hb; done) | (revert hb; decide)
    refine o1 rfl (det_move rfl) rfl rfl ⟨_, rfl, rfl⟩ ?_
    refine o1 rfl (det_eql rfl rfl) rfl rfl ⟨_, rfl, rfl⟩ ?_
    refine o1 rfl (det_pickT rfl rfl) rfl rfl trivial ?_
    refine o2P beq_iff_eq rfl (det_move rfl) rfl rfl trivial (fun hb => ?_) (fun hb => ?_)
    rotate_left
    · exfalso; first | exact hb rfl | (simp at hb; done) | (revert hb; decide)
    refine o1 rfl (det_move rfl) rfl rfl ⟨_, rfl, rfl⟩ ?_
    refine o1 rfl (det_eql rfl rfl) rfl rfl ⟨_, rfl, rfl⟩ ?_
    refine o1 rfl (det_pickT rfl rfl) rfl rfl trivial ?_
    refine o2P beq_iff_eq rfl (det_move rfl) rfl rfl trivial (fun hb => ?_) (fun hb => ?_)
    rotate_left
    · exfalso; first | exact hb rfl | (simp at hb; done) | (revert hb; decide)
    refine o1 rfl (det_move rfl) rfl rfl ⟨_, rfl, rfl⟩ ?_
    refine o1 rfl (det_eql rfl rfl) rfl rfl ⟨_, rfl, rfl⟩ ?_
    refine o1 rfl (det_pickT rfl rfl) rfl rfl trivial ?_
    refine o2P beq_iff_eq rfl (det_move rfl) rfl rfl trivial (fun hb => ?_) (fun hb => ?_)
    rotate_left
    · exfalso; first | exact hb rfl | (simp at hb; done) | (revert hb; decide)
    refine o1 rfl (det_move rfl) rfl rfl ⟨_, rfl, rfl⟩ ?_
    refine o1 rfl (det_eql rfl rfl) rfl rfl ⟨_, rfl, rfl⟩ ?_
    refine o1 rfl (det_pickT rfl rfl) rfl rfl trivial ?_
    refine o1 rfl (det_assign rfl) rfl rfl trivial ?_
    refine be rfl ?_
    refine k_then ?_
    refine t_seq ?_
    refine b0 ?_
    refine o1 rfl (det_move rfl) rfl rfl trivial ?_
    refine o1 rfl (det_call hb24 rfl rfl (fun w1 hs => works29_ok hs.know)) rfl rfl ⟨_, rfl, rfl⟩ ?_
    refine o1 rfl (det_pickT rfl rfl) rfl rfl trivial ?_
    refine o2P Iff.rfl rfl (det_move rfl) rfl rfl trivial (fun hb => ?_) (fun hb => ?_)
    rotate_left
    · exfalso; first | exact hb rfl | (simp at hb; done) | (revert hb; decide)
    refine o1 rfl (det_move rfl) rfl rfl ⟨_, rfl, rfl⟩ ?_
    refine o1 rfl (det_pickT rfl rfl) rfl rfl trivial ?_
    refine o2P beq_iff_eq rfl (det_move rfl) rfl rfl trivial (fun hb => ?_) (fun hb => ?_)
    rotate_left
    · exfalso; first | exact hb rfl | (simp at hb; done) | (revert hb; decide)
    refine o1 rfl (det_loadN tN34 rfl rfl (.tail _ (.tail _ (.tail _ (.tail _ (.tail _ (.tail _ (.tail _ (.tail _ (.tail _ (.tail _ (.tail _ (.head _)))))))))))) rfl) rfl rfl ⟨_, rfl, rfl⟩ ?_
    refine o1 rfl (det_call hb17 rfl rfl (fun w1 hs => check_at29 hs.know (c := (⟨(⟨Ba, ([(128, 10), (127, 30)] : Ents).length, capa, ([(128, 10), (127, 30)] : Ents), sumL ([(128, 10), (127, 30)] : Ents)⟩ : Gl), 7, true, (⟨Ba, ([(128, 10), (127, 30)] : Ents).length, capa, ([(128, 10), (127, 30)] : Ents), sumL ([(128, 10), (127, 30)] : Ents)⟩ : Gl), 47⟩ : Ch)) ⟨(EntK.mono hEa hF_25_8), (EntK.mono hEa hF_25_8)⟩ (show checkC (⟨(⟨Ba, ([(128, 10), (127, 30)] : Ents).length, capa, ([(128, 10), (127, 30)] : Ents), sumL ([(128, 10), (127, 30)] : Ents)⟩ : Gl), 7, true, (⟨Ba, ([(128, 10), (127, 30)] : Ents).length, capa, ([(128, 10), (127, 30)] : Ents), sumL ([(128, 10), (127, 30)] : Ents)⟩ : Gl), 47⟩ : Ch) = 0 by kernel_rfl))) rfl rfl ⟨_, rfl, rfl⟩ ?_
    refine o1 rfl (det_eql rfl rfl) rfl rfl ⟨_, rfl, rfl⟩ ?_
    refine o1 rfl (det_pickT rfl rfl) rfl rfl trivial ?_
    refine o2P beq_iff_eq rfl (det_move rfl) rfl rfl trivial (fun hb => ?_) (fun hb => ?_)
    rotate_left
    · exfalso; first | exact hb rfl | (simp at hb; done) | (revert hb; decide)
    refine o1 rfl (det_move rfl) rfl rfl ⟨_, rfl, rfl⟩ ?_
    refine o1 rfl (det_eql rfl rfl) rfl rfl ⟨_, rfl, rfl⟩ ?_
    refine o1 rfl (det_pickT rfl rfl) rfl rfl trivial ?_
    refine o2P beq_iff_eq rfl (det_move rfl) rfl rfl trivial (fun hb => ?_) (fun hb => ?_)
    rotate_left
    · exfalso; first | exact hb rfl | (simp at hb; done) | (revert hb; decide)
    refine o1 rfl (det_fieldAddr fld34_4 rfl) rfl rfl ⟨_, rfl, rfl⟩ ?_
    refine o1 rfl (det_load1 t1_3 rfl rfl (.tail _ (.tail _ (.tail _ (.head _)))) rfl) rfl rfl ⟨_, rfl, rfl⟩ ?_
    refine o1 rfl (det_gtr rfl rfl) rfl rfl ⟨_, rfl, rfl⟩ ?_
    refine o1 rfl (det_pickT rfl rfl) rfl rfl trivial ?_
    refine o2P decide_eq_true_iff rfl (det_move rfl) rfl rfl trivial (fun hb => ?_) (fun hb => ?_)
    rotate_left
    · exfalso; first | exact hb rfl | (simp at hb; done) | (revert hb; decide)
    refine o1 rfl (det_loadN tN34 rfl rfl (.tail _ (.tail _ (.tail _ (.head _)))) rfl) rfl rfl ⟨_, rfl, rfl⟩ ?_
    refine o1 rfl (det_call hb17 rfl rfl (fun w1 hs => check_at29 hs.know (c := (⟨(⟨Ba, ([(128, 10), (127, 30)] : Ents).length, capa, ([(128, 10), (127, 30)] : Ents), sumL ([(128, 10), (127, 30)] : Ents)⟩ : Gl), 1, true, (⟨Ba, ([(128, 10), (127, 30)] : Ents).length, capa, ([(128, 10), (127, 30)] : Ents), sumL ([(128, 10), (127, 30)] : Ents)⟩ : Gl), 1099511627801⟩ : Ch)) ⟨(EntK.mono hEa hF_25_8), (EntK.mono hEa hF_25_8)⟩ (show checkC (⟨(⟨Ba, ([(128, 10), (127, 30)] : Ents).length, capa, ([(128, 10), (127, 30)] : Ents), sumL ([(128, 10), (127, 30)] : Ents)⟩ : Gl), 1, true, (⟨Ba, ([(128, 10), (127, 30)] : Ents).length, capa, ([(128, 10), (127, 30)] : Ents), sumL ([(128, 10), (127, 30)] : Ents)⟩ : Gl), 1099511627801⟩ : Ch) = 0 by kernel_rfl))) rfl rfl ⟨_, rfl, rfl⟩ ?_
    refine o1 rfl (det_eql rfl rfl) rfl rfl ⟨_, rfl, rfl⟩ ?_
    refine o1 rfl (det_pickT rfl rfl) rfl rfl trivial ?_
    refine o2P beq_iff_eq rfl (det_move rfl) rfl rfl trivial (fun hb => ?_) (fun hb => ?_)
    rotate_left
    · exfalso; first | exact hb rfl | (simp at hb; done) | (revert hb; decide)
    refine o1 rfl (det_move rfl) rfl rfl ⟨_, rfl, rfl⟩ ?_
    refine o1 rfl (det_eql rfl rfl) rfl rfl ⟨_, rfl, rfl⟩ ?_
    refine o1 rfl (det_pickT rfl rfl) rfl rfl trivial ?_
    refine o2P beq_iff_eq rfl (det_move rfl) rfl rfl trivial (fun hb => ?_) (fun hb => ?_)
    rotate_left
    · exfalso; first | exact hb rfl | (simp at hb; done) | (revert hb; decide)
    refine o1 rfl (det_loadN tN34 rfl rfl (.tail _ (.tail _ (.head _))) rfl) rfl rfl ⟨_, rfl, rfl⟩ ?_
    refine o1 rfl (det_loadN tN34 rfl rfl (.tail _ (.tail _ (.tail _ (.head _)))) rfl) rfl rfl ⟨_, rfl, rfl⟩ ?_
    refine o1 rfl (det_call hb23 rfl rfl (fun w1 hs => Same_at hs.know (a := (⟨(⟨Ba, ([(128, 10), (127, 30)] : Ents).length, capa, ([(128, 10), (127, 30)] : Ents), sumL ([(128, 10), (127, 30)] : Ents)⟩ : Gl), 1, true, (⟨Ba, ([(128, 10), (127, 30)] : Ents).length, capa, ([(128, 10), (127, 30)] : Ents), sumL ([(128, 10), (127, 30)] : Ents)⟩ : Gl), 1099511627801⟩ : Ch)) ⟨(EntK.mono hEa hF_25_8), (EntK.mono hEa hF_25_8)⟩ (b := (⟨(⟨Ba, ([(128, 10), (127, 30)] : Ents).length, capa, ([(128, 10), (127, 30)] : Ents), sumL ([(128, 10), (127, 30)] : Ents)⟩ : Gl), 1, true, (⟨Ba, ([(128, 10), (127, 30)] : Ents).length, capa, ([(128, 10), (127, 30)] : Ents), sumL ([(128, 10), (127, 30)] : Ents)⟩ : Gl), 1099511627801⟩ : Ch)) ⟨(EntK.mono hEa hF_25_8), (EntK.mono hEa hF_25_8)⟩ (show (2 : Nat) ≤ 100000 by decide) (show (2 : Nat) ≤ 100000 by decide) (x := true) (sameC_refl _))) rfl rfl ⟨_, rfl, rfl⟩ ?_
    refine o1 rfl (det_pickT rfl rfl) rfl rfl trivial ?_
    refine o2P Iff.rfl rfl (det_move rfl) rfl rfl trivial (fun hb => ?_) (fun hb => ?_)
    rotate_left
    · exfalso; first | exact hb rfl | (simp at hb; done) | (revert hb; decide)
    refine o1 rfl (det_move rfl) rfl rfl ⟨_, rfl, rfl⟩ ?_
    refine o1 rfl (det_eql rfl rfl) rfl rfl ⟨_, rfl, rfl⟩ ?_
    refine o1 rfl (det_pickT rfl rfl) rfl rfl trivial ?_
    refine o2P beq_iff_eq rfl (det_move rfl) rfl rfl trivial (fun hb => ?_) (fun hb => ?_)
    rotate_left
    · exfalso; first | exact hb rfl | (simp at hb; done) | (revert hb; decide)
    refine o1 rfl (det_fieldAddr fld34_1 rfl) rfl rfl ⟨_, rfl, rfl⟩ ?_
    refine o1 rfl (det_load1 t1_3 rfl rfl (.head _) rfl) rfl rfl ⟨_, rfl, rfl⟩ ?_
    refine o1 rfl (det_eql rfl rfl) rfl rfl ⟨_, rfl, rfl⟩ ?_
    refine o1 rfl (det_pickT rfl rfl) rfl rfl trivial ?_
    refine o2P beq_iff_eq rfl (det_move rfl) rfl rfl trivial (fun hb => ?_) (fun hb => ?_)
    rotate_left
    · exfalso; first | exact hb rfl | (simp at hb; done) | (revert hb; decide)
    refine o1 rfl (det_fieldAddr fld34_4 rfl) rfl rfl ⟨_, rfl, rfl⟩ ?_
    refine o1 rfl (det_load1 t1_3 rfl rfl (.head _) rfl) rfl rfl ⟨_, rfl, rfl⟩ ?_
    refine o1 rfl (det_eql rfl rfl) rfl rfl ⟨_, rfl, rfl⟩ ?_
    refine o1 rfl (det_pickT rfl rfl) rfl rfl trivial ?_
    refine o2P beq_iff_eq rfl (det_move rfl) rfl rfl trivial (fun hb => ?_) (fun hb => ?_)
    rotate_left
    · exfalso; first | exact hb rfl | (simp at hb; done) | (revert hb; decide)
    refine o1 rfl (det_loadN tN34 rfl rfl (.tail _ (.tail _ (.tail _ (.tail _ (.tail _ (.tail _ (.tail _ (.tail _ (.tail _ (.tail _ (.tail _ (.head _)))))))))))) rfl) rfl rfl ⟨_, rfl, rfl⟩ ?_
    refine o1 rfl (det_call hb31 rfl rfl (fun w1 hs => hfits_at hs.know (c := (⟨(⟨Ba, ([(128, 10), (127, 30)] : Ents).length, capa, ([(128, 10), (127, 30)] : Ents), sumL ([(128, 10), (127, 30)] : Ents)⟩ : Gl), 7, true, (⟨Ba, ([(128, 10), (127, 30)] : Ents).length, capa, ([(128, 10), (127, 30)] : Ents), sumL ([(128, 10), (127, 30)] : Ents)⟩ : Gl), 47⟩ : Ch)) ⟨(EntK.mono hEa hF_25_8), (EntK.mono hEa hF_25_8)⟩ (cl := 0) (t := 20) (lg := 27) (by decide) (b := true) (by kernel_rfl))) rfl rfl ⟨_, rfl, rfl⟩ ?_
    refine o1 rfl (det_pickT rfl rfl) rfl rfl trivial ?_
    refine o2P Iff.rfl rfl (det_move rfl) rfl rfl trivial (fun hb => ?_) (fun hb => ?_)
    rotate_left
    · exfalso; first | exact hb rfl | (simp at hb; done) | (revert hb; decide)
    refine o1 rfl (det_loadN tN34 rfl rfl (.tail _ (.tail _ (.tail _ (.tail _ (.tail _ (.tail _ (.tail _ (.tail _ (.tail _ (.tail _ (.tail _ (.head _)))))))))))) rfl) rfl rfl ⟨_, rfl, rfl⟩ ?_
    refine o1 rfl (det_call hb31 rfl rfl (fun w1 hs => hfits_at hs.know (c := (⟨(⟨Ba, ([(128, 10), (127, 30)] : Ents).length, capa, ([(128, 10), (127, 30)] : Ents), sumL ([(128, 10), (127, 30)] : Ents)⟩ : Gl), 7, true, (⟨Ba, ([(128, 10), (127, 30)] : Ents).length, capa, ([(128, 10), (127, 30)] : Ents), sumL ([(128, 10), (127, 30)] : Ents)⟩ : Gl), 47⟩ : Ch)) ⟨(EntK.mono hEa hF_25_8), (EntK.mono hEa hF_25_8)⟩ (cl := 0) (t := 20) (lg := 28) (by decide) (b := false) (by kernel_rfl))) rfl rfl ⟨_, rfl, rfl⟩ ?_
    refine o1 rfl (det_not rfl) rfl rfl ⟨_, rfl, rfl⟩ ?_
    refine o1 rfl (det_pickT rfl rfl) rfl rfl trivial ?_
    refine o1 rfl (det_assign rfl) rfl rfl trivial ?_
    refine be rfl ?_
    refine k_then ?_
    refine t_ret ?_
    refine ret_tmp rfl rfl rfl (fun w1 hs => ?_)
    exact ⟨rfl, hs.keep⟩

end Go.Proofs.Sw
