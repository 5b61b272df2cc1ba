/-
  Walks through layer 30 and its reference.
-/
import Derived.Test.YtgaliocgkjghnaaSwSL5
import Derived.Test.YtgaliocgkjghnaaSwSL4
import Derived.Test.YtgaliocgkjghnaaSvPlain15
namespace Go.Proofs.Sw
open Go Go.Eng Go.Gt Go.Proofs.Gt Go.Sw Go.Sv
set_option maxRecDepth 4000

/-- yields. -/
theorem yields_ok {w : World} {F : Know} (hF : ∀ a v, F a = some v → w.cell? a = some v) {g : Gl} (hE : GlK F g) (hG : okG g.es g.cyc = true) (hcyc : g.cyc ≤ 10210) {P M : Int} (hPM : 1 ≤ P ∧ P ≤ 1000 ∧ 84 ≤ M ∧ M ≤ 1542) : Pure Try.prog 47 [.agg (glv g).toArray, .int .i64 P, .int .i64 M] w (.bool true) := by
  have hcy := okG_cyc hG
  obtain ⟨hl1, hl2, hall0, hsum, hc9, hc1⟩ := okG_parts hG
  have hml : 84 * 1 ≤ M * P := Int.mul_le_mul hPM.2.2.1 hPM.1 (by decide) (by omega)
  have he : errS g.es g.cyc P M = 0 := by unfold errS; rw [hG, show argS P M = true from decide_eq_true hPM]; rfl
  have hyr := yield_rng (es := g.es) (cyc := g.cyc) (lost := M * P) (by omega) (by omega)
  refine fn_pure (F := F) Try.func47 rfl Try.ntmps47 rfl hF ?_
  refine t_seq ?_
  refine b0 ?_
  refine om1 rfl (new_boxN rfl) rfl rfl trivial (fun p3 => ?_)
  refine o1 rfl (det_assign rfl) rfl rfl trivial ?_
  refine be rfl ?_
  refine k_then ?_
  refine t_seq ?_
  refine b0 ?_
  refine o1 rfl (det_loadN tN30 rfl rfl (.head _) rfl) rfl rfl trivial ?_
  refine o1 rfl (det_move rfl) rfl rfl trivial ?_
  refine o1 rfl (det_move rfl) rfl rfl trivial ?_
  refine o1 rfl (det_call hb35 rfl rfl (fun w1 hs => Yield_at hs.know hE (y := yieldS g.es g.cyc (M * P)) (er := 0) (by unfold yieldA; rw [if_pos he]) he)) rfl rfl trivial ?_
  refine o1 rfl (det_move rfl) rfl rfl trivial ?_
  refine o1 rfl (det_extract rfl rfl) rfl rfl trivial ?_
  refine o1 rfl (det_extract rfl rfl) rfl rfl trivial ?_
  refine o1 rfl (det_assign rfl) rfl rfl trivial ?_
  refine o1 rfl (det_assign rfl) rfl rfl trivial ?_
  refine be rfl ?_
  refine k_then ?_
  refine t_seq ?_
  refine b0 ?_
  refine o1 rfl (det_assign rfl) rfl rfl trivial ?_
  refine o1 rfl (det_assign rfl) rfl rfl trivial ?_
  refine be rfl ?_
  refine k_then ?_
  refine t_seq ?_
  refine t_seq ?_
  refine b0 ?_
  refine o1 rfl (det_assign rfl) rfl rfl trivial ?_
  refine be rfl ?_
  refine k_then ?_
  refine t_block ?_
  refine t_whileM (σ := Int × Nat) (fun s => [(9, .int .i64 s.1), (10, .int .i64 0), (11, .int .i64 (s.2 : Int))]) (fun _ => _) (fun s => g.n + 1 - s.2) (fun s => s.2 ≤ g.es.length + 1 ∧ (0 ≤ s.1 ∧ s.1 ≤ 10210 * s.2) ∧ sumL (g.es.take s.2) ≤ s.1 ∧ ∀ y, 0 ≤ y → y < s.1 → op6 g.es g.cyc y = true) (0, 0) (env0 := [(1, _), (2, _), (3, _), (7, _), (8, _)]) ⟨Nat.zero_le _, ⟨Int.le_refl _, by simp⟩, by simp [sumL], fun y h1 h2 => by simp only at h2; omega⟩ ⟨rfl, rfl, rfl, trivial⟩ ⟨rfl, rfl, rfl, rfl, rfl, trivial⟩ (.refl _) ?_
  rintro s ⟨hk, hat, hsum2, hopn⟩
  have hgn := hE.len
  refine t_seq ?_
  refine t_seq ?_
  refine b0 ?_
  refine o1 rfl (det_move rfl) rfl rfl trivial ?_
  refine o1 rfl (det_fieldAddr fld30_0 rfl) rfl rfl trivial ?_
  refine o1 rfl (det_load1 t1_28 rfl rfl (.head _) rfl) rfl rfl trivial ?_
  refine o1 rfl (det_lenS sl28 rfl) rfl rfl trivial ?_
  refine o1 rfl (det_leq rfl rfl) rfl rfl trivial ?_
  refine be rfl ?_
  refine k_then ?_
  refine t_condP decide_eq_true_iff rfl (fun hb => ?_) (fun hb => ?_)
  ·
    skip
    refine t_skip ?_
    refine k_then ?_
    refine t_seq ?_
    refine t_block ?_
    refine t_seq ?_
    refine t_seq ?_
    refine b0 ?_
    refine o1 rfl (det_loadN tN30 rfl rfl (.head _) rfl) rfl rfl trivial ?_
    refine o1 rfl (det_move rfl) rfl rfl trivial ?_
    refine o1 rfl (det_call hb45 rfl rfl (fun w1 hs => open6_at hs.know hE hG (by omega))) rfl rfl trivial ?_
    refine o1 rfl (det_move rfl) rfl rfl trivial ?_
    refine o1 rfl (det_extract rfl rfl) rfl rfl trivial ?_
    refine o1 rfl (det_extract rfl rfl) rfl rfl trivial ?_
    refine o1 rfl (det_assign rfl) rfl rfl trivial ?_
    refine o1 rfl (det_assign rfl) rfl rfl trivial ?_
    refine be rfl ?_
    refine k_then ?_
    refine t_seq ?_
    refine t_merge (env0 := [(1, _), (2, _), (3, _), (7, _), (8, _), (9, _), (10, _), (11, _)]) ⟨rfl, rfl, rfl, rfl, rfl, rfl, rfl, rfl, trivial⟩ 39 (.bool (decide (spanE g.es g.cyc 6 s.1 = 0))) ?_ (fun hK => ?_)
    ·
      refine k_then ?_
      refine t_condP decide_eq_true_iff rfl (fun hb => ?_) (fun hb => ?_)
      ·
        have h00 : spanE g.es g.cyc 6 s.1 = 0 := by simpa using hb
        refine t_seq ?_
        refine b0 ?_
        refine o1 rfl (det_move rfl) rfl rfl trivial ?_
        refine o1 rfl (det_eql rfl rfl) rfl rfl trivial ?_
        refine o2P beq_iff_eq rfl (det_move rfl) rfl rfl trivial (fun hb => ?_) (fun hb => ?_)
        rotate_left
        · exfalso; exact hb rfl
        refine o1 rfl (det_loadN tN30 rfl rfl (.head _) rfl) rfl rfl ⟨_, rfl, rfl⟩ ?_
        refine o1 rfl (det_move rfl) rfl rfl ⟨_, rfl, rfl⟩ ?_
        refine o1 rfl (det_move rfl) rfl rfl ⟨_, rfl, rfl⟩ ?_
        refine o1 rfl (det_move rfl) rfl rfl ⟨_, rfl, rfl⟩ ?_
        refine o1 rfl (det_fieldAddr fld30_1 rfl) rfl rfl ⟨_, rfl, rfl⟩ ?_
        refine o1 rfl (det_load1 t1_3 rfl rfl (.head _) rfl) rfl rfl ⟨_, rfl, rfl⟩ ?_
        refine o1 rfl (det_call hb43 rfl rfl (fun w1 hs => hsends_at hs.know hE (n := max 0 (yieldS g.es g.cyc (M * P) - 127 * P)) (cycle_send hG hPM (by omega) h00))) rfl rfl ⟨_, rfl, rfl⟩ ?_
        refine o1 rfl (det_move rfl) rfl rfl ⟨_, rfl, rfl⟩ ?_
        refine o1 rfl (det_move rfl) rfl rfl ⟨_, rfl, rfl⟩ ?_
        first | (refine o1 rfl (det_mulI rfl rfl ?_) rfl rfl ⟨_, rfl, rfl⟩ ?_; (· omega)) | refine o1 rfl (det_mul rfl rfl) rfl rfl ⟨_, rfl, rfl⟩ ?_
        first | (refine o1 rfl (det_subI rfl rfl ?_) rfl rfl ⟨_, rfl, rfl⟩ ?_; (· omega)) | refine o1 rfl (det_sub rfl rfl) rfl rfl ⟨_, rfl, rfl⟩ ?_
        refine o1 rfl (det_max2 rfl rfl) rfl rfl ⟨_, rfl, rfl⟩ ?_
        refine o1 rfl (det_eql rfl rfl) rfl rfl ⟨_, rfl, rfl⟩ ?_
        refine o1 rfl (det_pickT rfl rfl) rfl rfl trivial ?_
        refine o1 rfl (det_assign rfl) rfl rfl trivial ?_
        refine be rfl ?_
        refine k_then ?_
        refine t_ret (k_thenR (k_blkR (k_thenR (k_thenR (k_blkR (k_thenR (?_)))))))
        refine ret_tmp rfl rfl rfl (fun w1 hs => ?_)
        first | exact ⟨by rw [decide_eq_true rfl], hs.keep⟩ | exact ⟨by rw [show yieldS g.es g.cyc (M * P) = g.cyc from by unfold yieldS; rw [hal]; rfl]; simp, hs.keep⟩ | exact ⟨by simp, hs.keep⟩
      ·
        have hsb := spanE_bounds hG 6 s.1
        have hnz : ¬ spanE g.es g.cyc 6 s.1 = 0 := by simpa using hb
        have hop : op6 g.es g.cyc s.1 = true := (span_pos hG).2 (by omega)
        refine t_skip ?_
        refine k_then ?_
        refine t_seq ?_
        refine b0 ?_
        refine o1 rfl (det_loadN tN30 rfl rfl (.head _) rfl) rfl rfl trivial ?_
        refine o1 rfl (det_move rfl) rfl rfl trivial ?_
        refine o1 rfl (det_call hb46 rfl rfl (fun w1 hs => Turn_at hs.know hE hG (by omega) (es := g.es) (cyc := g.cyc) rfl rfl)) rfl rfl trivial ?_
        refine o1 rfl (det_move rfl) rfl rfl trivial ?_
        refine o1 rfl (det_extract rfl rfl) rfl rfl trivial ?_
        refine o1 rfl (det_extract rfl rfl) rfl rfl trivial ?_
        refine o1 rfl (det_assign rfl) rfl rfl trivial ?_
        refine o1 rfl (det_assign rfl) rfl rfl trivial ?_
        refine be rfl ?_
        refine k_then ?_
        refine t_seq ?_
        refine b0 ?_
        refine o1 rfl (det_move rfl) rfl rfl trivial ?_
        refine o1 rfl (det_neq rfl rfl) rfl rfl trivial ?_
        refine be rfl ?_
        refine k_then ?_
        refine t_condP bne_iff_ne rfl (fun hb => ?_) (fun hb => ?_)
        ·
          have hno : turnE g.es g.cyc s.1 = none := by
            cases h : turnE g.es g.cyc s.1 with
            | none => rfl
            | some u => rw [h] at hb; exact absurd rfl hb
          have hal := alw_stay hG hop hno
          refine t_exit ?_
          refine k_blkN (by decide) ?_
          refine k_thenE ?_
          refine k_thenE ?_
          refine k_blkE ?_
          refine k_then ?_
          refine t_seq ?_
          refine b0 ?_
          refine o1 rfl (det_move rfl) rfl rfl trivial ?_
          refine o1 rfl (det_eql rfl rfl) rfl rfl trivial ?_
          refine o2P beq_iff_eq rfl (det_move rfl) rfl rfl trivial (fun hb => ?_) (fun hb => ?_)
          rotate_left
          · exfalso; exact hb rfl
          refine o1 rfl (det_move rfl) rfl rfl ⟨_, rfl, rfl⟩ ?_
          refine o1 rfl (det_fieldAddr fld30_1 rfl) rfl rfl ⟨_, rfl, rfl⟩ ?_
          refine o1 rfl (det_load1 t1_3 rfl rfl (.head _) rfl) rfl rfl ⟨_, rfl, rfl⟩ ?_
          refine o1 rfl (det_eql rfl rfl) rfl rfl ⟨_, rfl, rfl⟩ ?_
          refine o1 rfl (det_pickT rfl rfl) rfl rfl trivial ?_
          refine o1 rfl (det_assign rfl) rfl rfl trivial ?_
          refine be rfl ?_
          refine k_then ?_
          refine t_ret ?_
          refine ret_tmp rfl rfl rfl (fun w1 hs => ?_)
          first | exact ⟨by rw [decide_eq_true rfl], hs.keep⟩ | exact ⟨by rw [show yieldS g.es g.cyc (M * P) = g.cyc from by unfold yieldS; rw [hal]; rfl]; simp, hs.keep⟩ | exact ⟨by simp, hs.keep⟩
        ·
          obtain ⟨u, hu⟩ : ∃ u, turnE g.es g.cyc s.1 = some u := by
            cases h : turnE g.es g.cyc s.1 with
            | none => rw [h] at hb; exact absurd (by decide) hb
            | some u => exact ⟨u, rfl⟩
          have htu := turn_some hG hu
          rw [hu, show (orErr (some u)).1 = u from rfl, show (orErr (some u)).2 = 0 from rfl]
          refine t_skip ?_
          refine k_blk ?_
          refine k_then ?_
          refine b0 ?_
          refine o1 rfl (det_move rfl) rfl rfl trivial ?_
          first | (refine o1 rfl (det_addI rfl rfl ?_) rfl rfl trivial ?_; (· omega)) | refine o1 rfl (det_add rfl rfl) rfl rfl trivial ?_
          refine o1 rfl (det_assign rfl) rfl rfl trivial ?_
          refine be rfl ?_
          refine k_then ?_
          refine loop_back (u, s.2 + 1) ⟨by simp only; omega, by simp only; omega, turn_far hG hsum2 hu, open_far hG hat.1 hopn hop hu⟩ (by show g.n + 1 - (s.2 + 1) < g.n + 1 - s.2; omega) ⟨rfl, rfl, rfl, rfl, rfl, rfl, rfl, rfl, trivial⟩ (.refl _)
    ·
      refine b0 ?_
      refine o1 rfl (det_move rfl) rfl rfl trivial ?_
      refine o1 rfl (det_eql rfl rfl) rfl rfl trivial ?_
      refine o2P beq_iff_eq rfl (det_move rfl) rfl rfl trivial (fun hb => ?_) (fun hb => ?_)
      rotate_left
      · exfalso; exact hb rfl
      refine o1 rfl (det_move rfl) rfl rfl ⟨_, rfl, rfl⟩ ?_
      refine o1 rfl (det_eql rfl rfl) rfl rfl ⟨_, rfl, rfl⟩ ?_
      refine o1 rfl (det_pickT rfl rfl) rfl rfl trivial ?_
      refine be rfl ?_
      refine tk_drop ?_ (.refl _) hK
      exact ⟨(mb rfl (by grind)), rfl, rfl, rfl, rfl, rfl, rfl, rfl, rfl, trivial⟩
  ·
    have hal := alw_far hG hopn (k := s.2) (by omega) hsum2
    refine t_exit ?_
    refine k_thenE ?_
    refine k_thenE ?_
    refine k_blkE ?_
    refine k_then ?_
    refine t_seq ?_
    refine b0 ?_
    refine o1 rfl (det_move rfl) rfl rfl trivial ?_
    refine o1 rfl (det_eql rfl rfl) rfl rfl trivial ?_
    refine o2P beq_iff_eq rfl (det_move rfl) rfl rfl trivial (fun hb => ?_) (fun hb => ?_)
    rotate_left
    · exfalso; exact hb rfl
    refine o1 rfl (det_move rfl) rfl rfl ⟨_, rfl, rfl⟩ ?_
    refine o1 rfl (det_fieldAddr fld30_1 rfl) rfl rfl ⟨_, rfl, rfl⟩ ?_
    refine o1 rfl (det_load1 t1_3 rfl rfl (.head _) rfl) rfl rfl ⟨_, rfl, rfl⟩ ?_
    refine o1 rfl (det_eql rfl rfl) rfl rfl ⟨_, rfl, rfl⟩ ?_
    refine o1 rfl (det_pickT rfl rfl) rfl rfl trivial ?_
    refine o1 rfl (det_assign rfl) rfl rfl trivial ?_
    refine be rfl ?_
    refine k_then ?_
    refine t_ret ?_
    refine ret_tmp rfl rfl rfl (fun w1 hs => ?_)
    first | exact ⟨by rw [decide_eq_true rfl], hs.keep⟩ | exact ⟨by rw [show yieldS g.es g.cyc (M * P) = g.cyc from by unfold yieldS; rw [hal]; rfl]; simp, hs.keep⟩ | exact ⟨by simp, hs.keep⟩

/-- ServiceCycles. -/
theorem scycles_ok {w : World} {F : Know} (hF : ∀ a v, F a = some v → w.cell? a = some v) {A1 A2 : Option Addr} {n1 c1 n2 c2 : Nat} {ss ls : List Int} (h1 : IntsK F .u8 A1 n1 ss) (h2 : IntsK F .u8 A2 n2 ls) {per most : Int} (hper : 0 ≤ per ∧ per ≤ 255) (hmost : 0 ≤ most ∧ most ≤ 255) : Pure Try.prog 14 [.agg [.slice A1 n1 c1, .slice A2 n2 c2].toArray, .int .u8 per, .int .u8 most] w (.bool true) := by
  refine fn_pure (F := F) Try.func14 rfl Try.ntmps14 rfl hF ?_
  refine t_seq ?_
  refine b0 ?_
  refine om1 rfl (new_boxN rfl) rfl rfl trivial (fun p3 => ?_)
  refine o1 rfl (det_assign rfl) rfl rfl trivial ?_
  refine be rfl ?_
  refine k_then ?_
  refine t_seq ?_
  refine t_seq ?_
  refine b0 ?_
  refine o1 rfl (det_call hb37 rfl rfl (fun w1 hs => works30_ok hs.know)) rfl rfl trivial ?_
  refine o1 rfl (det_not rfl) rfl rfl trivial ?_
  refine be rfl ?_
  refine k_then ?_
  refine t_condP not_iff_false rfl (fun hb => ?_) (fun hb => ?_)
  · exfalso; simp at hb
  refine t_skip ?_
  refine k_then ?_
  refine t_seq ?_
  refine b0 ?_
  refine o1 rfl (det_loadN tN64 rfl rfl (.head _) rfl) rfl rfl trivial ?_
  refine oF nofun rfl hb33 rfl rfl rfl trivial (fun w1 hs => (draft30_ok hs.know h1 h2).any) (fun v7 F1 hF1 hN1 ⟨B, capb, hv, hcb, hE⟩ => ?_)
  subst hv
  rw [show glv (⟨B, (Sv.draftE ss ls).length, capb, (Sv.draftE ss ls), sumL (Sv.draftE ss ls)⟩ : Gl) = [.slice B (Sv.draftE ss ls).length capb, .int .i64 (sumL (Sv.draftE ss ls))] from rfl]
  refine om1 rfl (new_alloc z30) rfl rfl trivial (fun p7 => ?_)
  refine stN nofun rfl tN30 rfl rfl rfl .head rfl trivial rfl rfl ?_
  refine be rfl ?_
  refine k_then ?_
  refine t_seq ?_
  refine b0 ?_
  refine o1 rfl (det_move rfl) rfl rfl trivial ?_
  first | (refine o1 rfl (det_remP rfl rfl ?_) rfl rfl trivial ?_; (· omega)) | (refine o1 rfl (det_rem rfl rfl ?_) rfl rfl trivial ?_; (· (first | decide | omega)))
  first | (refine o1 rfl (det_convW Try.underlying5 Try.underlying3 rfl ?_) rfl rfl trivial ?_; (· exact IntWalk.i64_in _ (by omega))) | refine o1 rfl (det_conv Try.underlying5 Try.underlying3 rfl) rfl rfl trivial ?_
  first | (refine o1 rfl (det_addI rfl rfl ?_) rfl rfl trivial ?_; (· omega)) | refine o1 rfl (det_add rfl rfl) rfl rfl trivial ?_
  refine o1 rfl (det_move rfl) rfl rfl trivial ?_
  first | (refine o1 rfl (det_convW Try.underlying5 Try.underlying3 rfl ?_) rfl rfl trivial ?_; (· exact IntWalk.i64_in _ (by omega))) | refine o1 rfl (det_conv Try.underlying5 Try.underlying3 rfl) rfl rfl trivial ?_
  first | (refine o1 rfl (det_addI rfl rfl ?_) rfl rfl trivial ?_; (· omega)) | refine o1 rfl (det_add rfl rfl) rfl rfl trivial ?_
  refine o1 rfl (det_assign rfl) rfl rfl trivial ?_
  refine o1 rfl (det_assign rfl) rfl rfl trivial ?_
  refine be rfl ?_
  refine k_then ?_
  refine t_seq ?_
  refine b0 ?_
  obtain ⟨P, hP⟩ : ∃ P, 1 + per % 5 = P := ⟨_, rfl⟩
  obtain ⟨M, hM⟩ : ∃ M, 84 + most = M := ⟨_, rfl⟩
  rw [hP, hM]
  have hb1 : bytesL ss := fun i h => h1.rng i h
  have hb2 : bytesL ls := fun i h => h2.rng i h
  have hG := Sv.draft_good hb1 hb2
  have hcy := Sv.draft_cyc hb1 hb2
  have hc1 := okG_cyc hG
  have hPM : 1 ≤ P ∧ P ≤ 1000 ∧ 84 ≤ M ∧ M ≤ 1542 := by have := Int.emod_nonneg per (show (5 : Int) ≠ 0 by decide); have := Int.emod_lt_of_pos per (show (0 : Int) < 5 by decide); omega
  have he : errS (Sv.draftE ss ls) (sumL (Sv.draftE ss ls)) P M = 0 := by unfold errS; rw [hG, show argS P M = true from decide_eq_true hPM]; rfl
  have hml : 84 * 1 ≤ M * P := Int.mul_le_mul hPM.2.2.1 hPM.1 (by decide) (by omega)
  have hrf := rate_facts (per := P) (most := M) hG hPM
  have hrr := rate_rng (es := (Sv.draftE ss ls)) (cyc := sumL (Sv.draftE ss ls)) (lost := M * P) (per := P) (by omega) (by omega) (by omega)
  have hyr := yield_rng (es := (Sv.draftE ss ls)) (cyc := sumL (Sv.draftE ss ls)) (lost := M * P) (by omega) (by omega)
  have hcp := k_rng (k := sumL (Sv.draftE ss ls)) (y := P) (K := 10210) (Y := 1000) (by omega) (by omega)
  refine o1 rfl (det_loadN tN30 rfl rfl (.head _) rfl) rfl rfl trivial ?_
  refine o1 rfl (det_move rfl) rfl rfl trivial ?_
  refine o1 rfl (det_move rfl) rfl rfl trivial ?_
  refine o1 rfl (det_call hb35 rfl rfl (fun w1 hs => Yield_at hs.know hE (y := yieldS (Sv.draftE ss ls) (sumL (Sv.draftE ss ls)) (M * P)) (er := 0) (by unfold yieldA; rw [if_pos he]) he)) rfl rfl trivial ?_
  refine o1 rfl (det_move rfl) rfl rfl trivial ?_
  refine o1 rfl (det_extract rfl rfl) rfl rfl trivial ?_
  refine o1 rfl (det_extract rfl rfl) rfl rfl trivial ?_
  refine o1 rfl (det_assign rfl) rfl rfl trivial ?_
  refine o1 rfl (det_assign rfl) rfl rfl trivial ?_
  refine be rfl ?_
  refine k_then ?_
  refine t_seq ?_
  refine b0 ?_
  refine o1 rfl (det_loadN tN30 rfl rfl (.head _) rfl) rfl rfl trivial ?_
  refine o1 rfl (det_move rfl) rfl rfl trivial ?_
  refine o1 rfl (det_move rfl) rfl rfl trivial ?_
  refine o1 rfl (det_call hb40 rfl rfl (fun w1 hs => Of_at hs.know hE (v := ofS (Sv.draftE ss ls) (sumL (Sv.draftE ss ls)) P M) rfl)) rfl rfl trivial ?_
  refine o1 rfl (det_move rfl) rfl rfl trivial ?_
  refine o1 rfl (det_extract rfl rfl) rfl rfl trivial ?_
  refine o1 rfl (det_extract rfl rfl) rfl rfl trivial ?_
  refine om1 rfl (new_alloc z75) rfl rfl trivial (fun p12 => ?_)
  refine stN nofun rfl tN75 rfl rfl rfl .head rfl trivial rfl rfl ?_
  refine o1 rfl (det_assign rfl) rfl rfl trivial ?_
  refine be rfl ?_
  refine k_then ?_
  refine t_seq ?_
  refine t_seq ?_
  refine b0 ?_
  refine o1 rfl (det_move rfl) rfl rfl trivial ?_
  refine o1 rfl (det_neq rfl rfl) rfl rfl trivial ?_
  refine o2P bne_iff_ne rfl (det_move rfl) rfl rfl trivial (fun hb => ?_) (fun hb => ?_)
  · exfalso; exact hb rfl
  refine o1 rfl (det_loadN tN30 rfl rfl (.tail _ (.head _)) rfl) rfl rfl ⟨_, rfl, rfl⟩ ?_
  refine o1 rfl (det_move rfl) rfl rfl ⟨_, rfl, rfl⟩ ?_
  refine o1 rfl (det_move rfl) rfl rfl ⟨_, rfl, rfl⟩ ?_
  refine o1 rfl (det_call hb47 rfl rfl (fun w1 hs => yields_ok hs.know hE hG hcy hPM)) rfl rfl ⟨_, rfl, rfl⟩ ?_
  refine o1 rfl (det_not rfl) rfl rfl ⟨_, rfl, rfl⟩ ?_
  refine o1 rfl (det_pickF rfl rfl) rfl rfl trivial ?_
  refine be rfl ?_
  refine k_then ?_
  refine t_condP not_iff_false rfl (fun hb => ?_) (fun hb => ?_)
  · exfalso; simp at hb
  refine t_skip ?_
  refine k_then ?_
  refine t_seq ?_
  refine t_seq ?_
  refine b0 ?_
  refine o1 rfl (det_move rfl) rfl rfl trivial ?_
  refine o1 rfl (det_eql rfl rfl) rfl rfl trivial ?_
  refine be rfl ?_
  refine k_then ?_
  refine t_condP beq_iff_eq rfl (fun hb => ?_) (fun hb => ?_)
  ·
    have hr1 : rateS (Sv.draftE ss ls) (sumL (Sv.draftE ss ls)) (M * P) P < 1 := by
      by_cases h : 1 ≤ rateS (Sv.draftE ss ls) (sumL (Sv.draftE ss ls)) (M * P) P
      · rw [of_val ⟨hG, hPM, h⟩] at hb; simp at hb
      · omega
    have hlt := hrf.1 hr1
    refine t_seq ?_
    refine b0 ?_
    refine o1 rfl (det_move rfl) rfl rfl trivial ?_
    first | (refine o1 rfl (det_mulI rfl rfl ?_) rfl rfl trivial ?_; (· omega)) | refine o1 rfl (det_mul rfl rfl) rfl rfl trivial ?_
    refine o1 rfl (det_fieldAddr fld30_1 rfl) rfl rfl trivial ?_
    refine o1 rfl (det_load1 t1_3 rfl rfl (.tail _ (.head _)) rfl) rfl rfl trivial ?_
    refine o1 rfl (det_move rfl) rfl rfl trivial ?_
    first | (refine o1 rfl (det_mulI rfl rfl ?_) rfl rfl trivial ?_; (· omega)) | refine o1 rfl (det_mul rfl rfl) rfl rfl trivial ?_
    refine o1 rfl (det_lss rfl rfl) rfl rfl trivial ?_
    refine o1 rfl (det_assign rfl) rfl rfl trivial ?_
    refine be rfl ?_
    refine k_then ?_
    refine t_ret (k_thenR (?_))
    refine ret_tmp rfl rfl rfl (fun w1 hs => ?_)
    exact ⟨by rw [decide_eq_true hlt], hs.keep⟩
  ·
    have hOk : Ok30 (Sv.draftE ss ls) (sumL (Sv.draftE ss ls)) P M := ⟨hG, hPM, by
      by_cases h : 1 ≤ rateS (Sv.draftE ss ls) (sumL (Sv.draftE ss ls)) (M * P) P
      · exact h
      · rw [of_none hG hPM h] at hb; exact absurd rfl hb⟩
    rw [of_val hOk]
    obtain ⟨R, hR⟩ : ∃ R, rateS (Sv.draftE ss ls) (sumL (Sv.draftE ss ls)) (M * P) P = R := ⟨_, rfl⟩
    rw [hR] at hrf hrr ⊢
    dsimp only
    have hRm : R * 1 ≤ R * P := Int.mul_le_mul_of_nonneg_left hPM.1 hrr.1
    have hk1 := k_rng (k := R) (y := sumL (Sv.draftE ss ls)) (K := 1048576) (Y := 10210) (by omega) (by omega)
    have hk2 := k_rng (k := R * (sumL (Sv.draftE ss ls))) (y := P) (K := 1048576 * 10210) (Y := 1000) ⟨Int.mul_nonneg hrr.1 (by omega), by omega⟩ (by omega)
    have hk3 := k_rng (k := R + 1) (y := sumL (Sv.draftE ss ls)) (K := 1048577) (Y := 10210) (by omega) (by omega)
    have hk4 := k_rng (k := (R + 1) * (sumL (Sv.draftE ss ls))) (y := P) (K := 1048577 * 10210) (Y := 1000) ⟨Int.mul_nonneg (by omega) (by omega), by omega⟩ (by omega)
    refine t_skip ?_
    refine k_then ?_
    refine t_seq ?_
    refine b0 ?_
    refine o1 rfl (det_move rfl) rfl rfl trivial ?_
    refine o1 rfl (det_eql rfl rfl) rfl rfl trivial ?_
    refine o2P beq_iff_eq rfl (det_move rfl) rfl rfl trivial (fun hb => ?_) (fun hb => ?_)
    rotate_left
    · exfalso; exact hb rfl
    refine o1 rfl (det_fieldAddr fld75_0 rfl) rfl rfl ⟨_, rfl, rfl⟩ ?_
    refine o1 rfl (det_load1 t1_3 rfl rfl (.head _) rfl) rfl rfl ⟨_, rfl, rfl⟩ ?_
    refine o1 rfl (det_fieldAddr fld30_1 rfl) rfl rfl ⟨_, rfl, rfl⟩ ?_
    refine o1 rfl (det_load1 t1_3 rfl rfl (.tail _ (.head _)) rfl) rfl rfl ⟨_, rfl, rfl⟩ ?_
    first | (refine o1 rfl (det_mulI rfl rfl ?_) rfl rfl ⟨_, rfl, rfl⟩ ?_; (· omega)) | refine o1 rfl (det_mul rfl rfl) rfl rfl ⟨_, rfl, rfl⟩ ?_
    refine o1 rfl (det_move rfl) rfl rfl ⟨_, rfl, rfl⟩ ?_
    first | (refine o1 rfl (det_mulI rfl rfl ?_) rfl rfl ⟨_, rfl, rfl⟩ ?_; (· omega)) | refine o1 rfl (det_mul rfl rfl) rfl rfl ⟨_, rfl, rfl⟩ ?_
    refine o1 rfl (det_move rfl) rfl rfl ⟨_, rfl, rfl⟩ ?_
    first | (refine o1 rfl (det_mulI rfl rfl ?_) rfl rfl ⟨_, rfl, rfl⟩ ?_; (· omega)) | refine o1 rfl (det_mul rfl rfl) rfl rfl ⟨_, rfl, rfl⟩ ?_
    refine o1 rfl (det_leq rfl rfl) rfl rfl ⟨_, rfl, rfl⟩ ?_
    refine o1 rfl (det_pickT rfl rfl) rfl rfl trivial ?_
    refine o2P decide_eq_true_iff rfl (det_move rfl) rfl rfl trivial (fun hb => ?_) (fun hb => ?_)
    rotate_left
    · exfalso; simp at hb; omega
    refine o1 rfl (det_fieldAddr fld75_0 rfl) rfl rfl ⟨_, rfl, rfl⟩ ?_
    refine o1 rfl (det_load1 t1_3 rfl rfl (.head _) rfl) rfl rfl ⟨_, rfl, rfl⟩ ?_
    first | (refine o1 rfl (det_addI rfl rfl ?_) rfl rfl ⟨_, rfl, rfl⟩ ?_; (· omega)) | refine o1 rfl (det_add rfl rfl) rfl rfl ⟨_, rfl, rfl⟩ ?_
    refine o1 rfl (det_fieldAddr fld30_1 rfl) rfl rfl ⟨_, rfl, rfl⟩ ?_
    refine o1 rfl (det_load1 t1_3 rfl rfl (.tail _ (.head _)) rfl) rfl rfl ⟨_, rfl, rfl⟩ ?_
    first | (refine o1 rfl (det_mulI rfl rfl ?_) rfl rfl ⟨_, rfl, rfl⟩ ?_; (· omega)) | refine o1 rfl (det_mul rfl rfl) rfl rfl ⟨_, rfl, rfl⟩ ?_
    refine o1 rfl (det_move rfl) rfl rfl ⟨_, rfl, rfl⟩ ?_
    first | (refine o1 rfl (det_mulI rfl rfl ?_) rfl rfl ⟨_, rfl, rfl⟩ ?_; (· omega)) | refine o1 rfl (det_mul rfl rfl) rfl rfl ⟨_, rfl, rfl⟩ ?_
    refine o1 rfl (det_move rfl) rfl rfl ⟨_, rfl, rfl⟩ ?_
    first | (refine o1 rfl (det_mulI rfl rfl ?_) rfl rfl ⟨_, rfl, rfl⟩ ?_; (· omega)) | refine o1 rfl (det_mul rfl rfl) rfl rfl ⟨_, rfl, rfl⟩ ?_
    refine o1 rfl (det_gtr rfl rfl) rfl rfl ⟨_, rfl, rfl⟩ ?_
    refine o1 rfl (det_pickT rfl rfl) rfl rfl trivial ?_
    refine o1 rfl (det_assign rfl) rfl rfl trivial ?_
    refine be rfl ?_
    refine k_then ?_
    refine t_ret ?_
    refine ret_tmp rfl rfl rfl (fun w1 hs => ?_)
    exact ⟨by simp; omega, hs.keep⟩

end Go.Proofs.Sw
