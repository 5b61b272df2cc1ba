/-
  Walks through layers 27, 29 and 30 and their references.
-/
import Derived.Test.YtgaliocgkjghnaaSwW10
namespace Go.Proofs.Sw
open Go Go.Eng Go.Gt Go.Proofs.Gt Go.Sw
set_option maxRecDepth 4000

theorem set_bounds {c : Ch} {now base : Int} (hc : okC c = true) (hn : okTm now = true) (hb : okTm base = true) : (1 ≤ (laterC c now).op.cyc ∧ (laterC c now).op.cyc ≤ 9600000) ∧ (-1099511627776 ≤ (laterC c now).base ∧ (laterC c now).base ≤ 1099511627776) ∧ (-1099511627776 ≤ max now base ∧ max now base ≤ 1099511627776) := by
  have h := okC_iff.1 hc
  have h1 := of_decide_eq_true (show decide _ = true from hn)
  have h2 := of_decide_eq_true (show decide _ = true from hb)
  have h3 := h.base
  have h4 := h.wh
  refine ⟨?_, ?_, by omega⟩
  · unfold laterC
    split
    · rename_i hl
      simp only [Bool.and_eq_true, decide_eq_true_eq] at hl
      exact okG_cyc (h.ad hl.1)
    · exact okG_cyc h.op
  · unfold laterC
    split
    · rename_i hl
      simp only [Bool.and_eq_true, decide_eq_true_eq] at hl
      exact ⟨by simp only; omega, by simp only; omega⟩
    · exact h3
/-- Set. -/
theorem set_ok {w : World} {F : Know} (hF : ∀ a v, F a = some v → w.cell? a = some v) {c : Ch} (hC : ChK F c) {g : Gl} (hE : GlK F g) {now base : Int} : Pure Try.prog 29 [.agg (chv c).toArray, .int .i64 now, .agg (glv g).toArray, .int .i64 base] w (.tuple [.agg (chv (setC c now g base).1).toArray, .int .i64 (setC c now g base).2].toArray) := by
  refine fn_pure (F := F) Try.func29 rfl Try.ntmps29 rfl hF ?_
  refine t_seq ?_
  refine b0 ?_
  refine om1 rfl (new_boxN rfl) rfl rfl trivial (fun p4 => ?_)
  refine om1 rfl (new_boxN rfl) rfl rfl trivial (fun p6 => ?_)
  refine om1 rfl (new_alloc z34) rfl rfl trivial (fun p8 => ?_)
  refine o1 rfl (det_assign rfl) rfl rfl trivial ?_
  refine be rfl ?_
  refine k_then ?_
  refine t_seq ?_
  refine t_seq ?_
  refine b0 ?_
  refine o1 rfl (det_loadN tN34 rfl rfl (.tail _ (.tail _ (.head _))) rfl) rfl rfl trivial ?_
  refine o1 rfl (det_call hb17 rfl rfl (fun w1 hs => check29_ok hs.know hC)) rfl rfl trivial ?_
  refine o1 rfl (det_assign rfl) rfl rfl trivial ?_
  refine be rfl ?_
  refine k_then ?_
  refine t_seq ?_
  refine b0 ?_
  refine o1 rfl (det_move rfl) rfl rfl trivial ?_
  refine o1 rfl (det_neq rfl rfl) rfl rfl trivial ?_
  refine be rfl ?_
  refine k_then ?_
  refine t_condP bne_iff_ne rfl (fun hb => ?_) (fun hb => ?_)
  ·
    have hc : okC c = false := by unfold checkC at hb; grind
    refine t_seq ?_
    refine b0 ?_
    refine o1 rfl (det_build rfl (fun w => bld34_ w)) rfl rfl trivial ?_
    refine o1 rfl (det_move rfl) rfl rfl trivial ?_
    refine stN nofun rfl tN34 rfl rfl rfl .head rfl trivial rfl rfl ?_
    refine o1 rfl (det_assign rfl) rfl rfl trivial ?_
    refine be rfl ?_
    refine k_then ?_
    refine t_ret (k_thenR (?_))
    refine ret_any (vs := [_, _]) rfl rfl ⟨(.cellN tN34 rfl rfl (.head _) rfl), (.tmp rfl), trivial⟩ rfl (fun w1 hs => ?_)
    exact ⟨by unfold setC checkC; rw [hc]; rfl, hs.keep⟩
  ·
    have hc : okC c = true := by unfold checkC at hb; grind
    refine t_skip ?_
    refine k_then ?_
    refine t_seq ?_
    refine t_seq ?_
    refine b0 ?_
    refine o1 rfl (det_move rfl) rfl rfl trivial ?_
    refine om1 rfl (new_buildSlice rfl (fun w => bsl105_1_0 _ w)) rfl rfl trivial (fun p23 => ?_)
    refine tk_freeze (pre := []) rfl (fun F2 hF2 hNF2 hKF2 => ?_)
    have hX : IntsA F2 (some ⟨p23, 0, none⟩) 1 [now] := intsA_lit (xs := [now]) hKF2
    refine o1 rfl (det_call hb49 rfl rfl (fun w1 hs => times_ok hs.know hX (by decide))) rfl rfl trivial ?_
    refine o1 rfl (det_assign rfl) rfl rfl trivial ?_
    refine be rfl ?_
    refine k_then ?_
    refine t_seq ?_
    refine b0 ?_
    refine o1 rfl (det_move rfl) rfl rfl trivial ?_
    refine o1 rfl (det_neq rfl rfl) rfl rfl trivial ?_
    refine be rfl ?_
    refine k_then ?_
    refine t_condP bne_iff_ne rfl (fun hb => ?_) (fun hb => ?_)
    ·
      have ht : okTm now = false := by simp only [List.all_cons, List.all_nil, Bool.and_true] at hb; grind
      refine t_seq ?_
      refine b0 ?_
      refine o1 rfl (det_build rfl (fun w => bld34_ w)) rfl rfl trivial ?_
      refine o1 rfl (det_move rfl) rfl rfl trivial ?_
      refine stN nofun rfl tN34 rfl rfl rfl .head rfl trivial rfl rfl ?_
      refine o1 rfl (det_assign rfl) rfl rfl trivial ?_
      refine be rfl ?_
      refine k_then ?_
      refine t_ret (k_thenR (?_))
      refine ret_any (vs := [_, _]) rfl rfl ⟨(.cellN tN34 rfl rfl (.head _) rfl), (.tmp rfl), trivial⟩ rfl (fun w1 hs => ?_)
      exact ⟨by unfold setC; rw [hc, ht]; simp only [List.all_cons, List.all_nil, Bool.and_true, ht]; rfl, hs.keep⟩
    ·
      have ht : okTm now = true := by simp only [List.all_cons, List.all_nil, Bool.and_true] at hb; grind
      refine t_skip ?_
      refine k_then ?_
      refine t_seq ?_
      refine t_seq ?_
      refine b0 ?_
      refine o1 rfl (det_loadN tN30 rfl rfl (.tail _ (.head _)) rfl) rfl rfl trivial ?_
      refine o1 rfl (det_move rfl) rfl rfl trivial ?_
      refine o1 rfl (det_call hb21 rfl rfl (fun w1 hs => new29_ok hs.know (hE.mono hF2))) rfl rfl trivial ?_
      refine o1 rfl (det_move rfl) rfl rfl trivial ?_
      refine o1 rfl (det_extract rfl rfl) rfl rfl trivial ?_
      refine o1 rfl (det_extract rfl rfl) rfl rfl trivial ?_
      refine om1 rfl (new_alloc z34) rfl rfl trivial (fun p12 => ?_)
      refine stN nofun rfl tN34 rfl rfl rfl .head rfl trivial rfl rfl ?_
      refine o1 rfl (det_assign rfl) rfl rfl trivial ?_
      refine be rfl ?_
      refine k_then ?_
      refine t_seq ?_
      refine b0 ?_
      refine o1 rfl (det_move rfl) rfl rfl trivial ?_
      refine o1 rfl (det_neq rfl rfl) rfl rfl trivial ?_
      refine be rfl ?_
      refine k_then ?_
      refine t_condP bne_iff_ne rfl (fun hb => ?_) (fun hb => ?_)
      ·
        have he : (newC g base).2 ≠ 0 := hb
        have hv : setC c now g base = (c0, (newC g base).2) := by unfold setC newC at *; rw [hc, ht] at *; grind
        refine t_seq ?_
        refine b0 ?_
        refine o1 rfl (det_build rfl (fun w => bld34_ w)) rfl rfl trivial ?_
        refine o1 rfl (det_move rfl) rfl rfl trivial ?_
        refine stN nofun rfl tN34 rfl rfl rfl (.tail .head) rfl trivial rfl rfl ?_
        refine o1 rfl (det_assign rfl) rfl rfl trivial ?_
        refine be rfl ?_
        refine k_then ?_
        refine t_ret (k_thenR (?_))
        refine ret_any (vs := [_, _]) rfl rfl ⟨(.cellN tN34 rfl rfl (.tail _ (.head _)) rfl), (.tmp rfl), trivial⟩ rfl (fun w1 hs => ?_)
        exact ⟨by rw [hv]; rfl, hs.keep⟩
      ·
        have hg : okG g.es g.cyc = true ∧ okTm base = true := by unfold newC at hb; grind
        obtain ⟨hs1, hs2, hs3⟩ := set_bounds hc ht hg.2
        have hm1 : 0 ≤ ((laterC c now).base - max now base) % (laterC c now).op.cyc := Int.emod_nonneg _ (by omega)
        have hm2 : ((laterC c now).base - max now base) % (laterC c now).op.cyc < (laterC c now).op.cyc := Int.emod_lt_of_pos _ (by omega)
        refine t_skip ?_
        refine k_then ?_
        refine t_seq ?_
        refine b0 ?_
        refine o1 rfl (det_loadN tN34 rfl rfl (.tail _ (.tail _ (.tail _ (.head _)))) rfl) rfl rfl trivial ?_
        refine o1 rfl (det_build rfl (fun w => bld103_0 _ _ _ _ _ _ _ _ _ _ _ w)) rfl rfl trivial ?_
        refine om1 rfl (new_boxN rfl) rfl rfl trivial (fun p41 => ?_)
        refine o1 rfl (det_assign rfl) rfl rfl trivial ?_
        refine be rfl ?_
        refine k_then ?_
        refine t_seq ?_
        refine b0 ?_
        refine o1 rfl (det_move rfl) rfl rfl trivial ?_
        refine o1 rfl (det_move rfl) rfl rfl trivial ?_
        refine oOn (cp := [_]) (rest := [_, _, _, _]) nofun rfl hb59 rfl rfl rfl trivial (fun w1 hs => (advance_on hs.know (sat_away hs) (sat_nodup hs) (sat_own hs))) (fun v cp1 hv hi1 => ?_)
        obtain ⟨rfl, rfl⟩ := hv
        refine be rfl ?_
        refine k_then ?_
        refine t_seq ?_
        refine b0 ?_
        refine o1 rfl (det_move rfl) rfl rfl trivial ?_
        refine o1 rfl (det_move rfl) rfl rfl trivial ?_
        refine o1 rfl (det_max2 rfl rfl) rfl rfl trivial ?_
        refine o1 rfl (det_assign rfl) rfl rfl trivial ?_
        refine be rfl ?_
        refine k_then ?_
        refine t_seq ?_
        refine bD mixed ?_
        refine r_allS false (F2 := wBlk _ p41 _ 3 4) (by kernel_rfl) (fun w hs => hs.wblk2 (List.perm_middle (l₁ := []))) (fun hW13 s_ => ?_)
        refine al_det rfl (det_move rfl) rfl rfl rfl ?_
        refine al_det rfl (det_move rfl) rfl rfl rfl ?_
        refine al_det rfl (det_move rfl) rfl rfl rfl ?_
        refine al_det rfl (det_loadN tN30 rfl rfl (.tail _ (.tail _ (.head _))) rfl) rfl rfl rfl ?_
        refine al_det rfl (det_move rfl) rfl rfl rfl ?_
        refine al_det rfl (det_move rfl) rfl rfl rfl ?_
        refine al_det rfl (det_nilCheck rfl) rfl rfl rfl ?_
        refine al_det rfl (det_fieldAddr fld103_0 rfl) rfl rfl rfl ?_
        refine al_det rfl (det_fieldAddr fld34_1 rfl) rfl rfl rfl ?_
        refine al_det rfl (det_loadK t1_3 rfl (wBlk_get (k := 2) rfl (by decide) rfl)) rfl rfl rfl ?_
        refine al_det rfl (det_move rfl) rfl rfl rfl ?_
        first | (refine al_det rfl (det_subI rfl rfl ?_) rfl rfl rfl ?_; (· omega)) | refine al_det rfl (det_sub rfl rfl) rfl rfl rfl ?_
        refine al_det rfl (det_move rfl) rfl rfl rfl ?_
        refine al_det rfl (det_nilCheck rfl) rfl rfl rfl ?_
        refine al_det rfl (det_fieldAddr fld103_0 rfl) rfl rfl rfl ?_
        refine al_det rfl (det_fieldAddr fld34_0 rfl) rfl rfl rfl ?_
        refine al_det rfl (det_fieldAddr fld30_1 rfl) rfl rfl rfl ?_
        refine al_det rfl (det_loadK t1_3 rfl (wBlk_get (k := 1) rfl (by decide) rfl)) rfl rfl rfl ?_
        refine al_det rfl (det_call hb50 rfl rfl (fun w1 hs => mod_ok hs.know hs1 (by omega))) rfl rfl rfl ?_
        first | (refine al_det rfl (det_addI rfl rfl ?_) rfl rfl rfl ?_; (· omega)) | refine al_det rfl (det_add rfl rfl) rfl rfl rfl ?_
        refine al_det rfl (det_nilCheck rfl) rfl rfl rfl ?_
        refine al_det rfl (det_fieldAddr fld103_0 rfl) rfl rfl rfl ?_
        refine al_det rfl (det_fieldAddr fld34_2 rfl) rfl rfl rfl ?_
        refine al_st1 rfl t1_4 rfl rfl rfl .head rfl rfl (fun w hs => hs.wblk (List.perm_middle (l₁ := [])) (outB 3 4 rfl rfl)) ?_
        refine al_det rfl (det_nilCheck rfl) rfl rfl rfl ?_
        refine al_det rfl (det_fieldAddr fld103_0 rfl) rfl rfl rfl ?_
        refine al_det rfl (det_fieldAddr fld34_3 rfl) rfl rfl rfl ?_
        refine al_stN rfl tN30.size rfl rfl rfl rfl .head rfl rfl rfl (fun w hs => hs.wblk (List.perm_middle (l₁ := [])) (outB 3 4 rfl rfl)) ?_
        refine al_det rfl (det_nilCheck rfl) rfl rfl rfl ?_
        refine al_det rfl (det_fieldAddr fld103_0 rfl) rfl rfl rfl ?_
        refine al_det rfl (det_fieldAddr fld34_4 rfl) rfl rfl rfl ?_
        refine al_st1 rfl t1_3 rfl rfl rfl .head rfl rfl (fun w hs => hs.wblk (List.perm_middle (l₁ := [])) (outB 3 4 rfl rfl)) ?_
        refine al_end rfl (fun w hs => hs.wblk (List.perm_middle (l₁ := [])) (outB 3 4 rfl rfl)) ?_
        refine k_then ?_
        refine t_seq ?_
        refine b0 ?_
        refine o1 rfl (det_move rfl) rfl rfl trivial ?_
        refine o1 rfl (det_nilCheck rfl) rfl rfl trivial ?_
        refine o1 rfl (det_fieldAddr fld103_0 rfl) rfl rfl trivial ?_
        refine o1 rfl (det_loadN tN34 rfl rfl (.head _) rfl) rfl rfl trivial ?_
        refine stN nofun rfl tN34 rfl rfl rfl (.tail (.tail .head)) rfl trivial rfl rfl ?_
        refine o1 rfl (det_assign rfl) rfl rfl trivial ?_
        refine be rfl ?_
        refine k_then ?_
        refine t_ret ?_
        refine ret_any (vs := [_, _]) rfl rfl ⟨(.cellN tN34 rfl rfl (.tail _ (.tail _ (.head _))) rfl), (.tmp rfl), trivial⟩ rfl (fun w1 hs => ?_)
        exact ⟨by unfold setC; rw [hc, ht, hg.1, hg.2]; rfl, hs.keep⟩

/-- At. -/
theorem at29_ok {w : World} {F : Know} (hF : ∀ a v, F a = some v → w.cell? a = some v) {c : Ch} (hC : ChK F c) (hok : okC c = true) {t : Int} (ht : -1099511627776 * 2 ≤ t ∧ t ≤ 1099511627776 * 2) : Pure Try.prog 54 [.agg (chv c).toArray, .int .i64 t] w (.int .i64 (atC c t)) := by
  have hO := okC_iff.1 hok
  have hbs := hO.base
  have hwh := hO.wh
  refine fn_pure (F := F) Try.func54 rfl Try.ntmps54 rfl hF ?_
  refine t_seq ?_
  refine b0 ?_
  refine om1 rfl (new_boxN rfl) rfl rfl trivial (fun p2 => ?_)
  refine o1 rfl (det_assign rfl) rfl rfl trivial ?_
  refine be rfl ?_
  refine k_then ?_
  refine t_seq ?_
  refine t_seq ?_
  refine t_merge (env0 := [(1, _), (2, _), (4, _)]) ⟨rfl, rfl, rfl, trivial⟩ 12 (.bool (onAd c t)) ?_ (fun hK => ?_)
  ·
    refine k_then ?_
    refine t_condP Iff.rfl rfl (fun hb => ?_) (fun hb => ?_)
    ·
      have hon : onAd c t = true := hb
      refine t_seq ?_
      refine b0 ?_
      have had := hO.ad (by unfold onAd at hon; simp at hon; exact hon.1)
      refine o1 rfl (det_fieldAddr fld34_3 rfl) rfl rfl trivial ?_
      refine o1 rfl (det_loadN tN30 rfl rfl (.head _) rfl) rfl rfl trivial ?_
      refine o1 rfl (det_move rfl) rfl rfl trivial ?_
      refine o1 rfl (det_fieldAddr fld34_4 rfl) rfl rfl trivial ?_
      refine o1 rfl (det_load1 t1_3 rfl rfl (.head _) rfl) rfl rfl trivial ?_
      first | (refine o1 rfl (det_subI rfl rfl ?_) rfl rfl trivial ?_; (· omega)) | refine o1 rfl (det_sub rfl rfl) rfl rfl trivial ?_
      refine o1 rfl (det_call hb81 rfl rfl (fun w1 hs => state_ok hs.know hC.ad had _ (by omega))) rfl rfl trivial ?_
      refine o1 rfl (det_assign rfl) rfl rfl trivial ?_
      refine be rfl ?_
      refine k_then ?_
      refine t_ret (k_thenR (?_))
      refine ret_tmp rfl rfl rfl (fun w1 hs => ?_)
      exact ⟨by unfold atC; rw [hon]; rfl, hs.keep⟩
    ·
      have hon : onAd c t = false := by simpa using hb
      refine t_skip ?_
      refine k_then ?_
      refine t_seq ?_
      refine b0 ?_
      refine o1 rfl (det_fieldAddr fld34_0 rfl) rfl rfl trivial ?_
      refine o1 rfl (det_loadN tN30 rfl rfl (.head _) rfl) rfl rfl trivial ?_
      refine o1 rfl (det_move rfl) rfl rfl trivial ?_
      refine o1 rfl (det_fieldAddr fld34_1 rfl) rfl rfl trivial ?_
      refine o1 rfl (det_load1 t1_3 rfl rfl (.head _) rfl) rfl rfl trivial ?_
      first | (refine o1 rfl (det_subI rfl rfl ?_) rfl rfl trivial ?_; (· omega)) | refine o1 rfl (det_sub rfl rfl) rfl rfl trivial ?_
      refine o1 rfl (det_call hb81 rfl rfl (fun w1 hs => state_ok hs.know hC.op hO.op _ (by omega))) rfl rfl trivial ?_
      refine o1 rfl (det_assign rfl) rfl rfl trivial ?_
      refine be rfl ?_
      refine k_then ?_
      refine t_ret ?_
      refine ret_tmp rfl rfl rfl (fun w1 hs => ?_)
      exact ⟨by unfold atC; rw [hon]; rfl, hs.keep⟩
  ·
    refine b0 ?_
    refine o1 rfl (det_fieldAddr fld34_2 rfl) rfl rfl trivial ?_
    refine o1 rfl (det_load1 t1_4 rfl rfl (.head _) rfl) rfl rfl trivial ?_
    refine o2P Iff.rfl rfl (det_move rfl) rfl rfl trivial (fun hb => ?_) (fun hb => ?_)
    ·
      refine o1 rfl (det_move rfl) rfl rfl ⟨_, rfl, rfl⟩ ?_
      refine o1 rfl (det_fieldAddr fld34_4 rfl) rfl rfl ⟨_, rfl, rfl⟩ ?_
      refine o1 rfl (det_load1 t1_3 rfl rfl (.head _) rfl) rfl rfl ⟨_, rfl, rfl⟩ ?_
      refine o1 rfl (det_geq rfl rfl) rfl rfl ⟨_, rfl, rfl⟩ ?_
      refine o1 rfl (det_pickT rfl rfl) rfl rfl trivial ?_
      refine be rfl ?_
      refine tk_drop ?_ (.refl _) hK
      exact ⟨(mb rfl (by grind [onAd])), rfl, rfl, rfl, trivial⟩
    ·
      refine on rfl rfl rfl ⟨_, rfl, .inl rfl⟩ ?_
      refine on rfl rfl rfl ⟨_, rfl, .inl rfl⟩ ?_
      refine on rfl rfl rfl ⟨_, rfl, .inl rfl⟩ ?_
      refine on rfl rfl rfl ⟨_, rfl, .inl rfl⟩ ?_
      refine o1 rfl (det_pickF rfl rfl) rfl rfl trivial ?_
      refine be rfl ?_
      refine tk_drop ?_ (.refl _) hK
      exact ⟨(mb rfl (by grind [onAd])), rfl, rfl, rfl, trivial⟩

/-- The reference's Mask. -/
theorem rmask29_ok {w : World} {F : Know} (hF : ∀ a v, F a = some v → w.cell? a = some v) {c : Ch} (hC : ChK F c) {t : Int} : Pure Try.prog 20 [.agg (chv c).toArray, .int .i64 t] w (.tuple [.int .i64 (maskC c t).1, .int .i64 (maskC c t).2].toArray) := by
  refine fn_pure (F := F) Try.func20 rfl Try.ntmps20 rfl hF ?_
  refine t_seq ?_
  refine b0 ?_
  refine om1 rfl (new_boxN rfl) rfl rfl trivial (fun p2 => ?_)
  refine o1 rfl (det_assign rfl) rfl rfl trivial ?_
  refine o1 rfl (det_assign rfl) rfl rfl trivial ?_
  refine be rfl ?_
  refine k_then ?_
  refine t_seq ?_
  refine t_seq ?_
  refine b0 ?_
  refine o1 rfl (det_loadN tN34 rfl rfl (.head _) rfl) rfl rfl trivial ?_
  refine o1 rfl (det_call hb51 rfl rfl (fun w1 hs => right29_ok hs.know hC)) rfl rfl trivial ?_
  refine o1 rfl (det_not rfl) rfl rfl trivial ?_
  refine be rfl ?_
  refine k_then ?_
  refine t_condP not_iff_false rfl (fun hb => ?_) (fun hb => ?_)
  ·
    have hc : okC c = false := by grind
    refine t_seq ?_
    refine b0 ?_
    refine o1 rfl (det_assign rfl) rfl rfl trivial ?_
    refine o1 rfl (det_assign rfl) rfl rfl trivial ?_
    refine be rfl ?_
    refine k_then ?_
    refine t_ret (k_thenR (?_))
    refine ret_tmp2 rfl rfl rfl rfl (fun w1 hs => ?_)
    exact ⟨by unfold maskC; rw [hc]; rfl, hs.keep⟩
  ·
    have hc : okC c = true := by grind
    refine t_skip ?_
    refine k_then ?_
    refine t_seq ?_
    refine t_seq ?_
    refine b0 ?_
    refine o1 rfl (det_move rfl) rfl rfl trivial ?_
    refine o1 rfl (det_call hb53 rfl rfl (fun w1 hs => time_ok hs.know)) rfl rfl trivial ?_
    refine o1 rfl (det_not rfl) rfl rfl trivial ?_
    refine be rfl ?_
    refine k_then ?_
    refine t_condP not_iff_false rfl (fun hb => ?_) (fun hb => ?_)
    ·
      have ht : okTm t = false := by grind
      refine t_seq ?_
      refine b0 ?_
      refine o1 rfl (det_assign rfl) rfl rfl trivial ?_
      refine o1 rfl (det_assign rfl) rfl rfl trivial ?_
      refine be rfl ?_
      refine k_then ?_
      refine t_ret (k_thenR (?_))
      refine ret_tmp2 rfl rfl rfl rfl (fun w1 hs => ?_)
      exact ⟨by unfold maskC; rw [hc, ht]; rfl, hs.keep⟩
    ·
      have ht : okTm t = true := by grind
      have htb := of_decide_eq_true (show decide _ = true from ht)
      refine t_skip ?_
      refine k_then ?_
      refine t_seq ?_
      refine b0 ?_
      refine o1 rfl (det_loadN tN34 rfl rfl (.head _) rfl) rfl rfl trivial ?_
      refine o1 rfl (det_move rfl) rfl rfl trivial ?_
      refine o1 rfl (det_call hb54 rfl rfl (fun w1 hs => at29_ok hs.know hC hc (by omega))) rfl rfl trivial ?_
      refine o1 rfl (det_assign rfl) rfl rfl trivial ?_
      refine o1 rfl (det_assign rfl) rfl rfl trivial ?_
      refine be rfl ?_
      refine k_then ?_
      refine t_ret ?_
      refine ret_tmp2 rfl rfl rfl rfl (fun w1 hs => ?_)
      exact ⟨by unfold maskC; rw [hc, ht]; rfl, hs.keep⟩

/-- same. -/
theorem same_ok {w : World} {F : Know} (hF : ∀ a v, F a = some v → w.cell? a = some v) {a b : Gl} (ha : GlK F a) (hb0 : GlK F b) (hn : a.n ≤ 100000) : Pure Try.prog 56 [.agg (glv a).toArray, .agg (glv b).toArray] w (.bool (sameG a b)) := by
  obtain ⟨A1, n1, c1, es1, cy1⟩ := a
  obtain ⟨A2, n2, c2, es2, cy2⟩ := b
  replace ha : EntK F A1 n1 es1 := ha
  replace hb0 : EntK F A2 n2 es2 := hb0
  have hl1 := ha.len
  have hl2 := hb0.len
  replace hn : n1 ≤ 100000 := hn
  refine fn_pure (F := F) Try.func56 rfl Try.ntmps56 rfl hF ?_
  refine t_seq ?_
  refine b0 ?_
  refine om1 rfl (new_boxN rfl) rfl rfl trivial (fun p2 => ?_)
  refine om1 rfl (new_boxN rfl) rfl rfl trivial (fun p3 => ?_)
  refine o1 rfl (det_assign rfl) rfl rfl trivial ?_
  refine be rfl ?_
  refine k_then ?_
  refine t_seq ?_
  refine t_seq ?_
  refine t_merge (env0 := [(2, _), (3, _), (4, _)]) ⟨rfl, rfl, rfl, trivial⟩ 19 (.bool (decide (¬ (cy1 = cy2 ∧ n1 = n2)))) ?_ (fun hK => ?_)
  ·
    refine k_then ?_
    refine t_condP decide_eq_true_iff rfl (fun hb => ?_) (fun hb => ?_)
    ·
      have hne : sameG (⟨A1, n1, c1, es1, cy1⟩ : Gl) (⟨A2, n2, c2, es2, cy2⟩ : Gl) = false := by unfold sameG; simp only; grind
      refine t_seq ?_
      refine b0 ?_
      refine o1 rfl (det_assign rfl) rfl rfl trivial ?_
      refine be rfl ?_
      refine k_then ?_
      refine t_ret (k_thenR (?_))
      refine ret_tmp rfl rfl rfl (fun w1 hs => ?_)
      exact ⟨by rw [hne], hs.keep⟩
    ·
      have he : cy1 = cy2 ∧ n1 = n2 := by simpa using hb
      clear hb
      refine t_skip ?_
      refine k_then ?_
      refine t_seq ?_
      refine t_seq ?_
      refine b0 ?_
      refine o1 rfl (det_assign rfl) rfl rfl trivial ?_
      refine be rfl ?_
      refine k_then ?_
      refine t_block ?_
      refine t_whileM (σ := Nat) (fun s => [(5, .int .i64 s)]) (fun _ => _) (fun s => n1 - s) (fun s => s ≤ n1 ∧ ∀ i (h : i < es1.length) (h2 : i < es2.length), i < s → es1[i] = es2[i]) 0 (env0 := [(2, _), (3, _)]) ⟨Nat.zero_le _, fun i _ _ hi => absurd hi (Nat.not_lt_zero i)⟩ ⟨rfl, trivial⟩ ⟨rfl, rfl, trivial⟩ (.refl _) ?_
      rintro s ⟨hsl, hI⟩
      refine t_seq ?_
      refine t_seq ?_
      refine b0 ?_
      refine o1 rfl (det_move rfl) rfl rfl trivial ?_
      refine o1 rfl (det_fieldAddr fld30_0 rfl) rfl rfl trivial ?_
      refine o1 rfl (det_load1 t1_28 rfl rfl (.tail _ (.head _)) rfl) rfl rfl trivial ?_
      refine o1 rfl (det_lenS sl28 rfl) rfl rfl trivial ?_
      refine o1 rfl (det_lss rfl rfl) rfl rfl trivial ?_
      refine be rfl ?_
      refine k_then ?_
      refine t_condP decide_eq_true_iff rfl (fun hb => ?_) (fun hb => ?_)
      ·
        dsimp only at hb
        have hlt : s < es1.length := by omega
        have hlt2 : s < es2.length := by omega
        obtain ⟨A1, rfl⟩ := ha.some hlt
        obtain ⟨A2, rfl⟩ := hb0.some hlt2
        refine t_skip ?_
        refine k_then ?_
        refine t_seq ?_
        refine t_block ?_
        refine t_seq ?_
        refine bD mixed ?_
        refine r_seg 11 11 [] [0, 1, 2, 3, 4, 5, 6, 7, 8, 9, 10] (by kernel_rfl) ?_
        refine s1 rfl (det_fieldAddr fld30_0 rfl) rfl rfl trivial rfl ?_
        refine s1 rfl (det_load1 t1_28 rfl rfl (.tail _ (.head _)) rfl) rfl rfl trivial rfl ?_
        refine s1 rfl (det_move rfl) rfl rfl trivial rfl ?_
        first | (refine s1 rfl (det_indexAddr sl28 rfl rfl ?_) rfl rfl trivial rfl ?_; (· (dsimp only; omega)))
        refine s1 rfl (det_loadKN tN100 rfl rfl (by intro j hj; exact ha.cells hlt j hj)) rfl rfl trivial rfl ?_
        refine s1 rfl (det_fieldAddr fld30_0 rfl) rfl rfl trivial rfl ?_
        refine s1 rfl (det_load1 t1_28 rfl rfl (.head _) rfl) rfl rfl trivial rfl ?_
        refine s1 rfl (det_move rfl) rfl rfl trivial rfl ?_
        first | (refine s1 rfl (det_indexAddr sl28 rfl rfl ?_) rfl rfl trivial rfl ?_; (· (dsimp only; omega)))
        refine s1 rfl (det_loadKN tN100 rfl rfl (by intro j hj; exact hb0.cells hlt2 j hj)) rfl rfl trivial rfl ?_
        refine s1 rfl (det_neqS rfl rfl eqg100 (fun w => eq100 _ _ _ _ w)) rfl rfl trivial rfl ?_
        refine sg_nil ?_
        refine be rfl ?_
        refine k_then ?_
        refine t_condP Iff.rfl rfl (fun hb => ?_) (fun hb => ?_)
        ·
          have hne : es1[s] ≠ es2[s] := fun e => by rw [e] at hb; simp at hb
          have hne2 : sameG (⟨some A1, n1, c1, es1, cy1⟩ : Gl) (⟨some A2, n2, c2, es2, cy2⟩ : Gl) = false := by unfold sameG; simp only; rw [decide_eq_false (fun e : es1 = es2 => hne (by simp only [e]))]; simp
          refine t_seq ?_
          refine b0 ?_
          refine o1 rfl (det_assign rfl) rfl rfl trivial ?_
          refine be rfl ?_
          refine k_then ?_
          refine t_ret (k_blkR (k_thenR (k_thenR (k_blkR (k_thenR (?_))))))
          refine ret_tmp rfl rfl rfl (fun w1 hs => ?_)
          exact ⟨by rw [hne2], hs.keep⟩
        ·
          have heq : es1[s] = es2[s] := by apply Prod.ext <;> grind
          refine t_skip ?_
          refine k_blk ?_
          refine k_then ?_
          refine b0 ?_
          refine o1 rfl (det_move rfl) rfl rfl trivial ?_
          first | (refine o1 rfl (det_addI rfl rfl ?_) rfl rfl trivial ?_; (· omega)) | refine o1 rfl (det_add rfl rfl) rfl rfl trivial ?_
          refine o1 rfl (det_assign rfl) rfl rfl trivial ?_
          refine be rfl ?_
          refine k_then ?_
          refine loop_back (s + 1) ⟨by omega, fun i h h2 hi => by
              by_cases e : i = s
              · subst e; exact heq
              · exact hI i h h2 (by omega)⟩ (by omega) ⟨rfl, rfl, rfl, trivial⟩ (.refl _)
      ·
        dsimp only at hb
        have hsm : sameG (⟨A1, n1, c1, es1, cy1⟩ : Gl) (⟨A2, n2, c2, es2, cy2⟩ : Gl) = true := by
          unfold sameG
          simp only
          rw [decide_eq_true he.1, decide_eq_true (List.ext_getElem (by omega) fun i h1 h2 => hI i h1 h2 (by omega))]; rfl
        refine t_exit ?_
        refine k_thenE ?_
        refine k_thenE ?_
        refine k_blkE ?_
        refine k_then ?_
        refine t_seq ?_
        refine b0 ?_
        refine o1 rfl (det_assign rfl) rfl rfl trivial ?_
        refine be rfl ?_
        refine k_then ?_
        refine t_ret ?_
        refine ret_tmp rfl rfl rfl (fun w1 hs => ?_)
        exact ⟨by rw [hsm], hs.keep⟩
  ·
    refine b0 ?_
    refine o1 rfl (det_fieldAddr fld30_1 rfl) rfl rfl trivial ?_
    refine o1 rfl (det_load1 t1_3 rfl rfl (.tail _ (.head _)) rfl) rfl rfl trivial ?_
    refine o1 rfl (det_fieldAddr fld30_1 rfl) rfl rfl trivial ?_
    refine o1 rfl (det_load1 t1_3 rfl rfl (.head _) rfl) rfl rfl trivial ?_
    refine o1 rfl (det_neq rfl rfl) rfl rfl trivial ?_
    refine o2P bne_iff_ne rfl (det_move rfl) rfl rfl trivial (fun hb => ?_) (fun hb => ?_)
    ·
      refine on rfl rfl rfl ⟨_, rfl, .inl rfl⟩ ?_
      refine on rfl rfl rfl ⟨_, rfl, .inl rfl⟩ ?_
      refine on rfl rfl rfl ⟨_, rfl, .inl rfl⟩ ?_
      refine on rfl rfl rfl ⟨_, rfl, .inl rfl⟩ ?_
      refine on rfl rfl rfl ⟨_, rfl, .inl rfl⟩ ?_
      refine on rfl rfl rfl ⟨_, rfl, .inl rfl⟩ ?_
      refine on rfl rfl rfl ⟨_, rfl, .inl rfl⟩ ?_
      refine o1 rfl (det_pickT rfl rfl) rfl rfl trivial ?_
      refine be rfl ?_
      refine tk_drop ?_ (.refl _) hK
      exact ⟨(mb rfl (by grind)), rfl, rfl, rfl, trivial⟩
    ·
      refine o1 rfl (det_fieldAddr fld30_0 rfl) rfl rfl ⟨_, rfl, rfl⟩ ?_
      refine o1 rfl (det_load1 t1_28 rfl rfl (.tail _ (.head _)) rfl) rfl rfl ⟨_, rfl, rfl⟩ ?_
      refine o1 rfl (det_lenS sl28 rfl) rfl rfl ⟨_, rfl, rfl⟩ ?_
      refine o1 rfl (det_fieldAddr fld30_0 rfl) rfl rfl ⟨_, rfl, rfl⟩ ?_
      refine o1 rfl (det_load1 t1_28 rfl rfl (.head _) rfl) rfl rfl ⟨_, rfl, rfl⟩ ?_
      refine o1 rfl (det_lenS sl28 rfl) rfl rfl ⟨_, rfl, rfl⟩ ?_
      refine o1 rfl (det_neq rfl rfl) rfl rfl ⟨_, rfl, rfl⟩ ?_
      refine o1 rfl (det_pickF rfl rfl) rfl rfl trivial ?_
      refine be rfl ?_
      refine tk_drop ?_ (.refl _) hK
      exact ⟨(mb rfl (by grind)), rfl, rfl, rfl, trivial⟩

/-- Same. -/
theorem Same_ok {w : World} {F : Know} (hF : ∀ a v, F a = some v → w.cell? a = some v) {a b : Ch} (ha : ChK F a) (hb0 : ChK F b) (hn : a.op.n ≤ 100000) (hn2 : a.ad.n ≤ 100000) : Pure Try.prog 23 [.agg (chv a).toArray, .agg (chv b).toArray] w (.bool (sameC a b)) := by
  refine fn_pure (F := F) Try.func23 rfl Try.ntmps23 rfl hF ?_
  refine t_seq ?_
  refine b0 ?_
  refine om1 rfl (new_boxN rfl) rfl rfl trivial (fun p2 => ?_)
  refine om1 rfl (new_boxN rfl) rfl rfl trivial (fun p3 => ?_)
  refine o1 rfl (det_assign rfl) rfl rfl trivial ?_
  refine be rfl ?_
  refine k_then ?_
  refine t_seq ?_
  refine t_merge (env0 := []) trivial 4 (.bool (sameC a b)) ?_ (fun hK => ?_)
  ·
    refine k_then ?_
    refine t_ret ?_
    refine ret_tmp rfl rfl rfl (fun w1 hs => ?_)
    exact ⟨rfl, hs.keep⟩
  ·
    refine b0 ?_
    refine o1 rfl (det_fieldAddr fld34_0 rfl) rfl rfl trivial ?_
    refine o1 rfl (det_loadN tN30 rfl rfl (.tail _ (.head _)) rfl) rfl rfl trivial ?_
    refine o1 rfl (det_fieldAddr fld34_0 rfl) rfl rfl trivial ?_
    refine o1 rfl (det_loadN tN30 rfl rfl (.head _) rfl) rfl rfl trivial ?_
    refine o1 rfl (det_call hb56 rfl rfl (fun w1 hs => same_ok hs.know ha.op hb0.op hn)) rfl rfl trivial ?_
    refine o2P Iff.rfl rfl (det_move rfl) rfl rfl trivial (fun hb => ?_) (fun hb => ?_)
    ·
      refine o1 rfl (det_fieldAddr fld34_1 rfl) rfl rfl ⟨_, rfl, rfl⟩ ?_
      refine o1 rfl (det_load1 t1_3 rfl rfl (.tail _ (.head _)) rfl) rfl rfl ⟨_, rfl, rfl⟩ ?_
      refine o1 rfl (det_fieldAddr fld34_1 rfl) rfl rfl ⟨_, rfl, rfl⟩ ?_
      refine o1 rfl (det_load1 t1_3 rfl rfl (.head _) rfl) rfl rfl ⟨_, rfl, rfl⟩ ?_
      refine o1 rfl (det_eql rfl rfl) rfl rfl ⟨_, rfl, rfl⟩ ?_
      refine o1 rfl (det_pickT rfl rfl) rfl rfl trivial ?_
      refine o2P beq_iff_eq rfl (det_move rfl) rfl rfl trivial (fun hb => ?_) (fun hb => ?_)
      ·
        refine o1 rfl (det_fieldAddr fld34_2 rfl) rfl rfl ⟨_, rfl, rfl⟩ ?_
        refine o1 rfl (det_load1 t1_4 rfl rfl (.tail _ (.head _)) rfl) rfl rfl ⟨_, rfl, rfl⟩ ?_
        refine o1 rfl (det_fieldAddr fld34_2 rfl) rfl rfl ⟨_, rfl, rfl⟩ ?_
        refine o1 rfl (det_load1 t1_4 rfl rfl (.head _) rfl) rfl rfl ⟨_, rfl, rfl⟩ ?_
        refine o1 rfl (det_eqlB Try.underlying4 rfl rfl) rfl rfl ⟨_, rfl, rfl⟩ ?_
        refine o1 rfl (det_pickT rfl rfl) rfl rfl trivial ?_
        refine o2P Iff.rfl rfl (det_move rfl) rfl rfl trivial (fun hb => ?_) (fun hb => ?_)
        ·
          refine o1 rfl (det_fieldAddr fld34_3 rfl) rfl rfl ⟨_, rfl, rfl⟩ ?_
          refine o1 rfl (det_loadN tN30 rfl rfl (.tail _ (.head _)) rfl) rfl rfl ⟨_, rfl, rfl⟩ ?_
          refine o1 rfl (det_fieldAddr fld34_3 rfl) rfl rfl ⟨_, rfl, rfl⟩ ?_
          refine o1 rfl (det_loadN tN30 rfl rfl (.head _) rfl) rfl rfl ⟨_, rfl, rfl⟩ ?_
          refine o1 rfl (det_call hb56 rfl rfl (fun w1 hs => same_ok hs.know ha.ad hb0.ad hn2)) rfl rfl ⟨_, rfl, rfl⟩ ?_
          refine o1 rfl (det_pickT rfl rfl) rfl rfl trivial ?_
          refine o2P Iff.rfl rfl (det_move rfl) rfl rfl trivial (fun hb => ?_) (fun hb => ?_)
          ·
            refine o1 rfl (det_fieldAddr fld34_4 rfl) rfl rfl ⟨_, rfl, rfl⟩ ?_
            refine o1 rfl (det_load1 t1_3 rfl rfl (.tail _ (.head _)) rfl) rfl rfl ⟨_, rfl, rfl⟩ ?_
            refine o1 rfl (det_fieldAddr fld34_4 rfl) rfl rfl ⟨_, rfl, rfl⟩ ?_
            refine o1 rfl (det_load1 t1_3 rfl rfl (.head _) rfl) rfl rfl ⟨_, rfl, rfl⟩ ?_
            refine o1 rfl (det_eql rfl rfl) rfl rfl ⟨_, rfl, rfl⟩ ?_
            refine o1 rfl (det_pickT rfl rfl) rfl rfl trivial ?_
            refine o1 rfl (det_assign rfl) rfl rfl trivial ?_
            refine be rfl ?_
            refine tk_drop ?_ (.refl _) hK
            exact ⟨(mb rfl (by unfold sameC; grind)), trivial⟩
          ·
            refine on rfl rfl rfl ⟨_, rfl, .inl rfl⟩ ?_
            refine on rfl rfl rfl ⟨_, rfl, .inl rfl⟩ ?_
            refine on rfl rfl rfl ⟨_, rfl, .inl rfl⟩ ?_
            refine on rfl rfl rfl ⟨_, rfl, .inl rfl⟩ ?_
            refine on rfl rfl rfl ⟨_, rfl, .inl rfl⟩ ?_
            refine o1 rfl (det_pickF rfl rfl) rfl rfl trivial ?_
            refine o1 rfl (det_assign rfl) rfl rfl trivial ?_
            refine be rfl ?_
            refine tk_drop ?_ (.refl _) hK
            exact ⟨(mb rfl (by unfold sameC; grind)), trivial⟩
        ·
          refine on rfl rfl rfl ⟨_, rfl, .inl rfl⟩ ?_
          refine on rfl rfl rfl ⟨_, rfl, .inl rfl⟩ ?_
          refine on rfl rfl rfl ⟨_, rfl, .inl rfl⟩ ?_
          refine on rfl rfl rfl ⟨_, rfl, .inl rfl⟩ ?_
          refine on rfl rfl rfl ⟨_, rfl, .inl rfl⟩ ?_
          refine o1 rfl (det_pickF rfl rfl) rfl rfl trivial ?_
          refine o1 rfl (det_move rfl) rfl rfl trivial ?_
          refine on rfl rfl rfl ⟨_, rfl, .inl rfl⟩ ?_
          refine on rfl rfl rfl ⟨_, rfl, .inl rfl⟩ ?_
          refine on rfl rfl rfl ⟨_, rfl, .inl rfl⟩ ?_
          refine on rfl rfl rfl ⟨_, rfl, .inl rfl⟩ ?_
          refine on rfl rfl rfl ⟨_, rfl, .inl rfl⟩ ?_
          refine o1 rfl (det_pickF rfl rfl) rfl rfl trivial ?_
          refine o1 rfl (det_assign rfl) rfl rfl trivial ?_
          refine be rfl ?_
          refine tk_drop ?_ (.refl _) hK
          exact ⟨(mb rfl (by unfold sameC; grind)), trivial⟩
      ·
        refine on rfl rfl rfl ⟨_, rfl, .inl rfl⟩ ?_
        refine on rfl rfl rfl ⟨_, rfl, .inl rfl⟩ ?_
        refine on rfl rfl rfl ⟨_, rfl, .inl rfl⟩ ?_
        refine on rfl rfl rfl ⟨_, rfl, .inl rfl⟩ ?_
        refine on rfl rfl rfl ⟨_, rfl, .inl rfl⟩ ?_
        refine o1 rfl (det_pickF rfl rfl) rfl rfl trivial ?_
        refine o1 rfl (det_move rfl) rfl rfl trivial ?_
        refine on rfl rfl rfl ⟨_, rfl, .inl rfl⟩ ?_
        refine on rfl rfl rfl ⟨_, rfl, .inl rfl⟩ ?_
        refine on rfl rfl rfl ⟨_, rfl, .inl rfl⟩ ?_
        refine on rfl rfl rfl ⟨_, rfl, .inl rfl⟩ ?_
        refine on rfl rfl rfl ⟨_, rfl, .inl rfl⟩ ?_
        refine o1 rfl (det_pickF rfl rfl) rfl rfl trivial ?_
        refine o1 rfl (det_move rfl) rfl rfl trivial ?_
        refine on rfl rfl rfl ⟨_, rfl, .inl rfl⟩ ?_
        refine on rfl rfl rfl ⟨_, rfl, .inl rfl⟩ ?_
        refine on rfl rfl rfl ⟨_, rfl, .inl rfl⟩ ?_
        refine on rfl rfl rfl ⟨_, rfl, .inl rfl⟩ ?_
        refine on rfl rfl rfl ⟨_, rfl, .inl rfl⟩ ?_
        refine o1 rfl (det_pickF rfl rfl) rfl rfl trivial ?_
        refine o1 rfl (det_assign rfl) rfl rfl trivial ?_
        refine be rfl ?_
        refine tk_drop ?_ (.refl _) hK
        exact ⟨(mb rfl (by unfold sameC; grind)), trivial⟩
    ·
      refine on rfl rfl rfl ⟨_, rfl, .inl rfl⟩ ?_
      refine on rfl rfl rfl ⟨_, rfl, .inl rfl⟩ ?_
      refine on rfl rfl rfl ⟨_, rfl, .inl rfl⟩ ?_
      refine on rfl rfl rfl ⟨_, rfl, .inl rfl⟩ ?_
      refine on rfl rfl rfl ⟨_, rfl, .inl rfl⟩ ?_
      refine o1 rfl (det_pickF rfl rfl) rfl rfl trivial ?_
      refine o1 rfl (det_move rfl) rfl rfl trivial ?_
      refine on rfl rfl rfl ⟨_, rfl, .inl rfl⟩ ?_
      refine on rfl rfl rfl ⟨_, rfl, .inl rfl⟩ ?_
      refine on rfl rfl rfl ⟨_, rfl, .inl rfl⟩ ?_
      refine on rfl rfl rfl ⟨_, rfl, .inl rfl⟩ ?_
      refine on rfl rfl rfl ⟨_, rfl, .inl rfl⟩ ?_
      refine o1 rfl (det_pickF rfl rfl) rfl rfl trivial ?_
      refine o1 rfl (det_move rfl) rfl rfl trivial ?_
      refine on rfl rfl rfl ⟨_, rfl, .inl rfl⟩ ?_
      refine on rfl rfl rfl ⟨_, rfl, .inl rfl⟩ ?_
      refine on rfl rfl rfl ⟨_, rfl, .inl rfl⟩ ?_
      refine on rfl rfl rfl ⟨_, rfl, .inl rfl⟩ ?_
      refine on rfl rfl rfl ⟨_, rfl, .inl rfl⟩ ?_
      refine o1 rfl (det_pickF rfl rfl) rfl rfl trivial ?_
      refine o1 rfl (det_move rfl) rfl rfl trivial ?_
      refine on rfl rfl rfl ⟨_, rfl, .inl rfl⟩ ?_
      refine on rfl rfl rfl ⟨_, rfl, .inl rfl⟩ ?_
      refine on rfl rfl rfl ⟨_, rfl, .inl rfl⟩ ?_
      refine on rfl rfl rfl ⟨_, rfl, .inl rfl⟩ ?_
      refine on rfl rfl rfl ⟨_, rfl, .inl rfl⟩ ?_
      refine o1 rfl (det_pickF rfl rfl) rfl rfl trivial ?_
      refine o1 rfl (det_assign rfl) rfl rfl trivial ?_
      refine be rfl ?_
      refine tk_drop ?_ (.refl _) hK
      exact ⟨(mb rfl (by unfold sameC; grind)), trivial⟩

end Go.Proofs.Sw
