/-
  Walks through layers 36, 37 and 38 and their references.
-/
import Derived.Test.YtffocfffggfenaaCpL4
import Derived.Test.YtffocfffggfenaaSwPlain3
namespace Go.Proofs.Cp
open Go Go.Eng Go.Gt Go.Proofs.Gt Go.Sw Go.Qu Go.Ch
set_option maxRecDepth 4000

/-- ChooseOpen. -/
theorem open_law {w : World} {F : Know} (hF : ∀ a v, F a = some v → w.cell? a = some v) {A : Option Addr} {n c : Nat} {hs0 : List Pt} (hP : PK F A n hs0) (hnc : n ≤ c) (hcm : c ≤ maxLen) {per t : Int} (hper : -9223372036854775808 ≤ per ∧ per ≤ 9223372036854775807) (ht : -9223372036854775808 ≤ t ∧ t ≤ 9223372036854775807) : Pure Try.prog 9 [.int .i64 per, .slice A n c, .int .i64 t] w (.bool true) := by
  refine fn_pure (F := F) Try.func9 rfl Try.ntmps9 rfl hF ?_
  refine t_seq ?_
  refine b0 ?_
  refine o1 rfl (det_assign rfl) rfl rfl trivial ?_
  refine be rfl ?_
  refine k_then ?_
  refine t_seq ?_
  refine t_seq ?_
  refine b0 ?_
  refine o1 rfl (det_call hb15 rfl rfl (fun w1 hs => wakes_ok hs.know)) rfl rfl trivial ?_
  refine o1 rfl (det_not rfl) rfl rfl trivial ?_
  refine be rfl ?_
  refine k_then ?_
  refine t_condP not_iff_false rfl (fun hb => ?_) (fun hb => ?_)
  · exfalso; simp at hb
  refine t_skip ?_
  refine k_then ?_
  refine t_seq ?_
  refine b0 ?_
  have hu1 := u64w per
  have hu2 := u64w t
  refine o1 rfl (det_build rfl (fun w => bld59_0_1 _ _ w)) rfl rfl trivial ?_
  refine om1 rfl (new_buildSlice rfl (fun w => bsl22_1_0 _ _ w)) rfl rfl trivial (fun p22 => ?_)
  refine o1 rfl (det_build rfl (fun w => bld24_0_1 _ _ _ _ w)) rfl rfl trivial ?_
  refine o1 rfl (det_move rfl) rfl rfl trivial ?_
  first | (refine o1 rfl (det_convW Try.underlying3 Try.underlying60 rfl ?_) rfl rfl trivial ?_; (· exact IntWalk.u64_in _ (by omega))) | refine o1 rfl (det_conv Try.underlying3 Try.underlying60 rfl) rfl rfl trivial ?_
  first | (refine o1 rfl (det_remP rfl rfl ?_) rfl rfl trivial ?_; (· omega)) | (refine o1 rfl (det_rem rfl rfl ?_) rfl rfl trivial ?_; (· (first | decide | omega)))
  first | (refine o1 rfl (det_convW Try.underlying60 Try.underlying3 rfl ?_) rfl rfl trivial ?_; (· exact IntWalk.i64_in _ (by omega))) | refine o1 rfl (det_conv Try.underlying60 Try.underlying3 rfl) rfl rfl trivial ?_
  first | (refine o1 rfl (det_addI rfl rfl ?_) rfl rfl trivial ?_; (· omega)) | refine o1 rfl (det_add rfl rfl) rfl rfl trivial ?_
  obtain ⟨P, hPe⟩ : ∃ P, 1 + IntKind.u64.wrap per % 1000 = P := ⟨_, rfl⟩
  rw [hPe]
  have hPb : 1 ≤ P ∧ P ≤ 1000 := by omega
  refine o1 rfl (det_build rfl (fun w => bld26_0_1 _ _ _ _ _ w)) rfl rfl trivial ?_
  refine om1 rfl (new_alloc z26) rfl rfl trivial (fun p7 => ?_)
  refine stN nofun rfl tN26 rfl rfl rfl .head rfl trivial rfl rfl ?_
  refine be rfl ?_
  refine k_then ?_
  refine t_seq ?_
  refine b0 ?_
  refine tk_freeze (pre := [_]) rfl (fun Fa hFa hNFa hKFa => ?_)
  have hlo : LnK Fa (openLn (some ⟨p22, 0, none⟩) 1 1 P) := entK_lit (es := openE) (by decide) fun k u hk => hKFa k u hk
  replace hP := hP.mono hFa
  refine o1 rfl (det_loadN tN26 rfl rfl (.head _) rfl) rfl rfl trivial ?_
  refine o1 rfl (det_move rfl) rfl rfl trivial ?_
  refine oF nofun rfl hb16 rfl rfl rfl trivial (fun w1 hs => few_ok (l := (openLn (some ⟨p22, 0, none⟩) 1 1 P)) hs.know hlo hP hnc hcm (Nat.le_refl 1)) (fun v1 F1 hF1 hN1 ⟨A2, m2, c2, hv1, hl1, hP1, hn1, hm1⟩ => ?_)
  subst hv1
  have hb1 : m2 ≤ 100000 := by have h := hP1.len; rw [List.length_take] at h; omega
  obtain ⟨h1, hhe⟩ : ∃ h1, hs0.take 12 = h1 := ⟨_, rfl⟩
  rw [hhe] at hP1
  replace hlo := lnK_mono hlo hF1
  replace hl1 := hlo
  refine o1 rfl (det_move rfl) rfl rfl trivial ?_
  refine o1 rfl (det_extract rfl rfl) rfl rfl trivial ?_
  refine o1 rfl (det_extract rfl rfl) rfl rfl trivial ?_
  refine o1 rfl (det_assign rfl) rfl rfl trivial ?_
  refine be rfl ?_
  refine k_then ?_
  refine t_seq ?_
  refine b0 ?_
  refine o1 rfl (det_move rfl) rfl rfl trivial ?_
  first | (refine o1 rfl (det_convW Try.underlying3 Try.underlying60 rfl ?_) rfl rfl trivial ?_; (· exact IntWalk.u64_in _ (by omega))) | refine o1 rfl (det_conv Try.underlying3 Try.underlying60 rfl) rfl rfl trivial ?_
  first | (refine o1 rfl (det_remP rfl rfl ?_) rfl rfl trivial ?_; (· omega)) | (refine o1 rfl (det_rem rfl rfl ?_) rfl rfl trivial ?_; (· (first | decide | omega)))
  first | (refine o1 rfl (det_convW Try.underlying60 Try.underlying3 rfl ?_) rfl rfl trivial ?_; (· exact IntWalk.i64_in _ (by omega))) | refine o1 rfl (det_conv Try.underlying60 Try.underlying3 rfl) rfl rfl trivial ?_
  refine o1 rfl (det_assign rfl) rfl rfl trivial ?_
  refine be rfl ?_
  refine k_then ?_
  refine t_seq ?_
  refine t_seq ?_
  refine b0 ?_
  obtain ⟨t2, hte⟩ : ∃ t2, IntKind.u64.wrap t % 549755813889 = t2 := ⟨_, rfl⟩
  rw [hte]
  have htb : 0 ≤ t2 ∧ t2 ≤ 549755813888 := by omega
  refine o1 rfl (det_move rfl) rfl rfl trivial ?_
  obtain ⟨x2, hx2⟩ : ∃ x : Int, (if okH h1 then (0 : Int) else 470) = x := ⟨_, rfl⟩
  refine o1 rfl (det_call hb19 rfl rfl (fun w1 hs => cheads_at hs.know hP1 hb1 (x := x2) hx2)) rfl rfl trivial ?_
  refine o1 rfl (det_assign rfl) rfl rfl trivial ?_
  refine be rfl ?_
  refine k_then ?_
  refine t_seq ?_
  refine b0 ?_
  refine o1 rfl (det_move rfl) rfl rfl trivial ?_
  refine o1 rfl (det_neq rfl rfl) rfl rfl trivial ?_
  refine be rfl ?_
  refine k_then ?_
  refine t_condP bne_iff_ne rfl (fun hb => ?_) (fun hb => ?_)
  ·
    have hH : okH h1 = false := by cases h : okH h1 <;> simp_all
    have hx3 : x2 = 470 := by rw [← hx2, hH]; rfl
    subst hx3
    have hbad : startA (openLn (some ⟨p22, 0, none⟩) 1 1 P) h1 t2 = (0, 470) := by
      have hz : errC (openLn (some ⟨p22, 0, none⟩) 1 1 P) h1 t2 = 470 := by unfold errC; rw [if_pos (open_okL hPb), if_neg (by simp [hH])]
      rw [startA_err (by rw [hz]; decide), hz]
    refine t_seq ?_
    refine b0 ?_
    refine o1 rfl (det_loadN tN26 rfl rfl (.head _) rfl) rfl rfl trivial ?_
    refine o1 rfl (det_move rfl) rfl rfl trivial ?_
    refine o1 rfl (det_move rfl) rfl rfl trivial ?_
    refine o1 rfl (det_call hb22 rfl rfl (fun w1 hs => start_at hs.know hl1 hP1 hb1 (x := 0) (y := 470) hbad)) rfl rfl trivial ?_
    refine o1 rfl (det_move rfl) rfl rfl trivial ?_
    refine o1 rfl (det_extract rfl rfl) rfl rfl trivial ?_
    refine o1 rfl (det_extract rfl rfl) rfl rfl trivial ?_
    refine o1 rfl (det_assign rfl) rfl rfl trivial ?_
    refine o1 rfl (det_assign rfl) rfl rfl trivial ?_
    refine be rfl ?_
    refine k_then ?_
    refine t_seq ?_
    refine b0 ?_
    refine o1 rfl (det_move rfl) rfl rfl trivial ?_
    refine o1 rfl (det_eql rfl rfl) rfl rfl trivial ?_
    refine o2P beq_iff_eq rfl (det_move rfl) rfl rfl trivial (fun hb => ?_) (fun hb => ?_)
    rotate_left
    · exfalso; first | exact hb rfl | (simp at hb; done) | (revert hb; decide)
    refine o1 rfl (det_move rfl) rfl rfl ⟨_, rfl, rfl⟩ ?_
    refine o1 rfl (det_move rfl) rfl rfl ⟨_, rfl, rfl⟩ ?_
    refine o1 rfl (det_eql rfl rfl) rfl rfl ⟨_, rfl, rfl⟩ ?_
    refine o1 rfl (det_pickT rfl rfl) rfl rfl trivial ?_
    refine o1 rfl (det_assign rfl) rfl rfl trivial ?_
    refine be rfl ?_
    refine k_then ?_
    refine t_ret (k_thenR (?_))
    refine ret_tmp rfl rfl rfl (fun w1 hs => ?_)
    exact ⟨by simp, hs.keep⟩
  ·
    have hx0 : x2 = 0 := by simpa using hb
    have hH : okH h1 = true := by cases h : okH h1 <;> simp_all
    have hz0 := errC_ok (open_okL (A := some ⟨p22, 0, none⟩) (m := 1) (cap := 1) hPb) hH htb
    have h8 := (okH_parts hH).1
    have hnl := hP1.len
    refine t_skip ?_
    refine k_then ?_
    refine t_seq ?_
    refine b0 ?_
    refine o1 rfl (det_loadN tN26 rfl rfl (.head _) rfl) rfl rfl trivial ?_
    refine o1 rfl (det_move rfl) rfl rfl trivial ?_
    refine o1 rfl (det_move rfl) rfl rfl trivial ?_
    obtain ⟨s1, f1, hst⟩ : ∃ s f, startA (openLn (some ⟨p22, 0, none⟩) 1 1 P) h1 t2 = (s, f) := ⟨_, _, rfl⟩
    refine o1 rfl (det_call hb22 rfl rfl (fun w1 hs => start_at hs.know hl1 hP1 hb1 hst)) rfl rfl trivial ?_
    refine o1 rfl (det_move rfl) rfl rfl trivial ?_
    refine o1 rfl (det_extract rfl rfl) rfl rfl trivial ?_
    refine o1 rfl (det_extract rfl rfl) rfl rfl trivial ?_
    refine o1 rfl (det_assign rfl) rfl rfl trivial ?_
    refine o1 rfl (det_assign rfl) rfl rfl trivial ?_
    refine be rfl ?_
    refine k_then ?_
    refine t_seq ?_
    refine b0 ?_
    refine o1 rfl (det_assign rfl) rfl rfl trivial ?_
    refine o1 rfl (det_assign rfl) rfl rfl trivial ?_
    refine be rfl ?_
    refine k_then ?_
    refine t_seq ?_
    refine t_seq ?_
    refine b0 ?_
    refine o1 rfl (det_move rfl) rfl rfl trivial ?_
    refine o1 rfl (det_lenS sl27 rfl) rfl rfl trivial ?_
    refine o1 rfl (det_move rfl) rfl rfl trivial ?_
    refine be rfl ?_
    refine k_then ?_
    refine t_block ?_
    refine t_whileM (σ := Nat) (fun s => [(13, .int .i64 (lastB (fun k => !noneP (atP h1 k)) s)), (14, .int .i64 (lastB (fun k => (atP h1 k).rest) s)), (67, .int .i64 (s : Int))]) (fun _ => _) (fun s => 8 - s) (fun s => s ≤ 8) 0 (env0 := [(1, _), (2, _), (6, _), (7, _), (11, _), (12, _), (65, _), (66, _)]) (Nat.zero_le _) ⟨rfl, rfl, rfl, trivial⟩ ⟨rfl, rfl, rfl, rfl, rfl, rfl, rfl, rfl, trivial⟩ (.refl _) ?_
    rintro s hsn
    refine t_seq ?_
    refine b0 ?_
    refine o1 rfl (det_lss rfl rfl) rfl rfl trivial ?_
    refine be rfl ?_
    refine k_then ?_
    refine t_seq ?_
    refine t_condP decide_eq_true_iff rfl (fun hb => ?_) (fun hb => ?_)
    ·
      have hlt : s < h1.length := by omega
      obtain ⟨A2, rfl⟩ := hP1.some hlt
      have hat := atP_get hlt
      have hBs : lastB (fun k => !noneP (atP h1 k)) (s + 1) = if !noneP (atP h1 s) then (s : Int) else lastB (fun k => !noneP (atP h1 k)) s := rfl
      have hRs : lastB (fun k => (atP h1 k).rest) (s + 1) = if (atP h1 s).rest then (s : Int) else lastB (fun k => (atP h1 k).rest) s := rfl
      rw [hat] at hBs hRs
      refine t_skip ?_
      refine k_then ?_
      refine t_seq ?_
      refine t_block ?_
      refine t_seq ?_
      refine b0 ?_
      refine o1 rfl (det_move rfl) rfl rfl trivial ?_
      first | (refine o1 rfl (det_indexAddr sl27 rfl rfl ?_) rfl rfl trivial ?_; (· (first | decide | omega)))
      refine o1 rfl (det_loadKN tN57 rfl (ptv_len h1[s]) (hP1.cells (i := (s : Int)) (k := s) (Int.toNat_natCast s) hlt (ptv_len _))) rfl rfl trivial ?_
      refine om1 rfl (new_alloc z57) rfl rfl trivial (fun p16 => ?_)
      refine o1 rfl (det_assign rfl) rfl rfl trivial ?_
      refine stN nofun rfl tN57 rfl rfl rfl .head rfl trivial rfl rfl ?_
      refine be rfl ?_
      refine k_then ?_
      refine t_seq ?_
      refine t_seq ?_
      refine b0 ?_
      refine o1 rfl (det_loadN tN57 rfl rfl (.head _) rfl) rfl rfl trivial ?_
      refine o1 rfl (det_build rfl (fun w => bld57_ w)) rfl rfl trivial ?_
      refine o1 rfl (det_neqS rfl rfl eqg57 (fun w => eq57 _ _ _ _ _ _ _ _ _ _ _ _ _ _ w)) rfl rfl trivial ?_
      refine be rfl ?_
      refine k_then ?_
      refine t_condP Iff.rfl rfl (fun hb => ?_) (fun hb => ?_)
      ·
        skip
        refine b0 ?_
        refine o1 rfl (det_move rfl) rfl rfl trivial ?_
        refine o1 rfl (det_assign rfl) rfl rfl trivial ?_
        refine be rfl ?_
        refine k_then ?_
        refine t_seq ?_
        refine b0 ?_
        refine o1 rfl (det_fieldAddr fld57_2 rfl) rfl rfl trivial ?_
        refine o1 rfl (det_load1 t1_4 rfl rfl (.head _) rfl) rfl rfl trivial ?_
        refine be rfl ?_
        refine k_then ?_
        refine t_condP Iff.rfl rfl (fun hb => ?_) (fun hb => ?_)
        ·
          skip
          refine b0 ?_
          refine o1 rfl (det_move rfl) rfl rfl trivial ?_
          refine o1 rfl (det_assign rfl) rfl rfl trivial ?_
          refine be rfl ?_
          refine k_blk ?_
          refine k_then ?_
          refine b0 ?_
          first | (refine o1 rfl (det_addI rfl rfl ?_) rfl rfl trivial ?_; (· omega)) | refine o1 rfl (det_add rfl rfl) rfl rfl trivial ?_
          refine o1 rfl (det_move rfl) rfl rfl trivial ?_
          refine be rfl ?_
          refine k_then ?_
          refine loop_back (s + 1) (by omega) (by omega) ⟨(mi rfl (by rw [hBs]; unfold noneP; grind)), (mi rfl (by rw [hRs]; grind)), rfl, rfl, rfl, rfl, rfl, rfl, rfl, rfl, rfl, trivial⟩ (.cons _ (.refl _))
        ·
          skip
          refine t_skip ?_
          refine k_blk ?_
          refine k_then ?_
          refine b0 ?_
          first | (refine o1 rfl (det_addI rfl rfl ?_) rfl rfl trivial ?_; (· omega)) | refine o1 rfl (det_add rfl rfl) rfl rfl trivial ?_
          refine o1 rfl (det_move rfl) rfl rfl trivial ?_
          refine be rfl ?_
          refine k_then ?_
          refine loop_back (s + 1) (by omega) (by omega) ⟨(mi rfl (by rw [hBs]; unfold noneP; grind)), (mi rfl (by rw [hRs]; grind)), rfl, rfl, rfl, rfl, rfl, rfl, rfl, rfl, rfl, trivial⟩ (.cons _ (.refl _))
      ·
        skip
        refine t_skip ?_
        refine k_then ?_
        refine t_seq ?_
        refine b0 ?_
        refine o1 rfl (det_fieldAddr fld57_2 rfl) rfl rfl trivial ?_
        refine o1 rfl (det_load1 t1_4 rfl rfl (.head _) rfl) rfl rfl trivial ?_
        refine be rfl ?_
        refine k_then ?_
        refine t_condP Iff.rfl rfl (fun hb => ?_) (fun hb => ?_)
        ·
          skip
          refine b0 ?_
          refine o1 rfl (det_move rfl) rfl rfl trivial ?_
          refine o1 rfl (det_assign rfl) rfl rfl trivial ?_
          refine be rfl ?_
          refine k_blk ?_
          refine k_then ?_
          refine b0 ?_
          first | (refine o1 rfl (det_addI rfl rfl ?_) rfl rfl trivial ?_; (· omega)) | refine o1 rfl (det_add rfl rfl) rfl rfl trivial ?_
          refine o1 rfl (det_move rfl) rfl rfl trivial ?_
          refine be rfl ?_
          refine k_then ?_
          refine loop_back (s + 1) (by omega) (by omega) ⟨(mi rfl (by rw [hBs]; unfold noneP; grind)), (mi rfl (by rw [hRs]; grind)), rfl, rfl, rfl, rfl, rfl, rfl, rfl, rfl, rfl, trivial⟩ (.cons _ (.refl _))
        ·
          skip
          refine t_skip ?_
          refine k_blk ?_
          refine k_then ?_
          refine b0 ?_
          first | (refine o1 rfl (det_addI rfl rfl ?_) rfl rfl trivial ?_; (· omega)) | refine o1 rfl (det_add rfl rfl) rfl rfl trivial ?_
          refine o1 rfl (det_move rfl) rfl rfl trivial ?_
          refine be rfl ?_
          refine k_then ?_
          refine loop_back (s + 1) (by omega) (by omega) ⟨(mi rfl (by rw [hBs]; unfold noneP; grind)), (mi rfl (by rw [hRs]; grind)), rfl, rfl, rfl, rfl, rfl, rfl, rfl, rfl, rfl, trivial⟩ (.cons _ (.refl _))
    ·
      have hse : s = 8 := by omega
      rw [hse]
      have hop := open_start (A := some ⟨p22, 0, none⟩) (m := 1) (cap := 1) hPb hH htb
      obtain ⟨B, hB⟩ : ∃ B, lastB (fun k => !noneP (atP h1 k)) 8 = B := ⟨_, rfl⟩
      obtain ⟨R, hR⟩ : ∃ R, lastB (fun k => (atP h1 k).rest) 8 = R := ⟨_, rfl⟩
      have hBb : -1 ≤ B ∧ B < 8 := by rw [← hB]; exact lastB_bd _ 8
      have hRb : -1 ≤ R ∧ R < 8 := by rw [← hR]; exact lastB_bd _ 8
      rw [hB, hR] at hop ⊢
      refine t_exit ?_
      refine k_thenE ?_
      refine k_thenE ?_
      refine k_blkE ?_
      refine k_then ?_
      refine t_seq ?_
      refine t_seq ?_
      refine b0 ?_
      refine o1 rfl (det_move rfl) rfl rfl trivial ?_
      refine o1 rfl (det_lss rfl rfl) rfl rfl trivial ?_
      refine be rfl ?_
      refine k_then ?_
      refine t_condP decide_eq_true_iff rfl (fun hb => ?_) (fun hb => ?_)
      ·
        have hsl := hop.1 hb
        rw [startA_ok hz0, hsl] at hst
        cases hst
        refine t_seq ?_
        refine b0 ?_
        refine o1 rfl (det_move rfl) rfl rfl trivial ?_
        refine o1 rfl (det_eql rfl rfl) rfl rfl trivial ?_
        refine o1 rfl (det_assign rfl) rfl rfl trivial ?_
        refine be rfl ?_
        refine k_then ?_
        refine t_ret (k_thenR (?_))
        refine ret_tmp rfl rfl rfl (fun w1 hs => ?_)
        exact ⟨by simp, hs.keep⟩
      ·
        have hsl := hop.2 hb
        refine t_skip ?_
        refine k_then ?_
        refine t_seq ?_
        refine t_seq ?_
        refine b0 ?_
        refine o1 rfl (det_move rfl) rfl rfl trivial ?_
        refine o1 rfl (det_lss rfl rfl) rfl rfl trivial ?_
        refine o2P decide_eq_true_iff rfl (det_move rfl) rfl rfl trivial (fun hb => ?_) (fun hb => ?_)
        ·
          skip
          refine o1 rfl (det_move rfl) rfl rfl ⟨_, rfl, rfl⟩ ?_
          refine o1 rfl (det_geq rfl rfl) rfl rfl ⟨_, rfl, rfl⟩ ?_
          refine o1 rfl (det_pickT rfl rfl) rfl rfl trivial ?_
          refine be rfl ?_
          refine k_then ?_
          refine t_condP decide_eq_true_iff rfl (fun hb => ?_) (fun hb => ?_)
          ·
            rw [if_pos (by omega)] at hsl
            rw [startA_ok hz0, hsl] at hst
            cases hst
            have hwn : whenA (openLn (some ⟨p22, 0, none⟩) 1 1 P) h1 t2 = (t2, 0) := by rw [whenA_ok hz0, start_when (open_okL hPb) hH htb hsl]; rfl
            refine b0 ?_
            refine o1 rfl (det_move rfl) rfl rfl trivial ?_
            refine o1 rfl (det_assign rfl) rfl rfl trivial ?_
            refine be rfl ?_
            refine k_then ?_
            refine t_seq ?_
            refine b0 ?_
            refine o1 rfl (det_loadN tN26 rfl rfl (.head _) rfl) rfl rfl trivial ?_
            refine o1 rfl (det_move rfl) rfl rfl trivial ?_
            refine o1 rfl (det_move rfl) rfl rfl trivial ?_
            refine o1 rfl (det_call hb26 rfl rfl (fun w1 hs => when_at hs.know hl1 hP1 hb1 hwn)) rfl rfl trivial ?_
            refine o1 rfl (det_move rfl) rfl rfl trivial ?_
            refine o1 rfl (det_extract rfl rfl) rfl rfl trivial ?_
            refine o1 rfl (det_extract rfl rfl) rfl rfl trivial ?_
            refine o1 rfl (det_assign rfl) rfl rfl trivial ?_
            refine o1 rfl (det_assign rfl) rfl rfl trivial ?_
            refine be rfl ?_
            refine k_then ?_
            refine t_seq ?_
            refine b0 ?_
            refine o1 rfl (det_move rfl) rfl rfl trivial ?_
            refine o1 rfl (det_eql rfl rfl) rfl rfl trivial ?_
            refine o2P beq_iff_eq rfl (det_move rfl) rfl rfl trivial (fun hb => ?_) (fun hb => ?_)
            rotate_left
            · exfalso; first | exact hb rfl | (simp at hb; done) | (revert hb; decide)
            refine o1 rfl (det_move rfl) rfl rfl ⟨_, rfl, rfl⟩ ?_
            refine o1 rfl (det_move rfl) rfl rfl ⟨_, rfl, rfl⟩ ?_
            refine o1 rfl (det_eql rfl rfl) rfl rfl ⟨_, rfl, rfl⟩ ?_
            refine o1 rfl (det_pickT rfl rfl) rfl rfl trivial ?_
            refine o2P beq_iff_eq rfl (det_move rfl) rfl rfl trivial (fun hb => ?_) (fun hb => ?_)
            rotate_left
            · exfalso; first | exact hb rfl | (simp at hb; done) | (revert hb; decide)
            refine o1 rfl (det_move rfl) rfl rfl ⟨_, rfl, rfl⟩ ?_
            refine o1 rfl (det_eql rfl rfl) rfl rfl ⟨_, rfl, rfl⟩ ?_
            refine o1 rfl (det_pickT rfl rfl) rfl rfl trivial ?_
            refine o2P beq_iff_eq rfl (det_move rfl) rfl rfl trivial (fun hb => ?_) (fun hb => ?_)
            rotate_left
            · exfalso; first | exact hb rfl | (simp at hb; done) | (revert hb; decide)
            refine o1 rfl (det_move rfl) rfl rfl ⟨_, rfl, rfl⟩ ?_
            refine o1 rfl (det_move rfl) rfl rfl ⟨_, rfl, rfl⟩ ?_
            refine o1 rfl (det_eql rfl rfl) rfl rfl ⟨_, rfl, rfl⟩ ?_
            refine o1 rfl (det_pickT rfl rfl) rfl rfl trivial ?_
            refine o1 rfl (det_assign rfl) rfl rfl trivial ?_
            refine be rfl ?_
            refine k_then ?_
            refine t_ret ?_
            refine ret_tmp rfl rfl rfl (fun w1 hs => ?_)
            exact ⟨by simp, hs.keep⟩
          ·
            rw [if_neg (by omega)] at hsl
            rw [startA_ok hz0, hsl] at hst
            cases hst
            have hwn : whenA (openLn (some ⟨p22, 0, none⟩) 1 1 P) h1 t2 = (t2, 0) := by rw [whenA_ok hz0, start_when (open_okL hPb) hH htb hsl]; rfl
            refine t_skip ?_
            refine k_then ?_
            refine t_seq ?_
            refine b0 ?_
            refine o1 rfl (det_loadN tN26 rfl rfl (.head _) rfl) rfl rfl trivial ?_
            refine o1 rfl (det_move rfl) rfl rfl trivial ?_
            refine o1 rfl (det_move rfl) rfl rfl trivial ?_
            refine o1 rfl (det_call hb26 rfl rfl (fun w1 hs => when_at hs.know hl1 hP1 hb1 hwn)) rfl rfl trivial ?_
            refine o1 rfl (det_move rfl) rfl rfl trivial ?_
            refine o1 rfl (det_extract rfl rfl) rfl rfl trivial ?_
            refine o1 rfl (det_extract rfl rfl) rfl rfl trivial ?_
            refine o1 rfl (det_assign rfl) rfl rfl trivial ?_
            refine o1 rfl (det_assign rfl) rfl rfl trivial ?_
            refine be rfl ?_
            refine k_then ?_
            refine t_seq ?_
            refine b0 ?_
            refine o1 rfl (det_move rfl) rfl rfl trivial ?_
            refine o1 rfl (det_eql rfl rfl) rfl rfl trivial ?_
            refine o2P beq_iff_eq rfl (det_move rfl) rfl rfl trivial (fun hb => ?_) (fun hb => ?_)
            rotate_left
            · exfalso; first | exact hb rfl | (simp at hb; done) | (revert hb; decide)
            refine o1 rfl (det_move rfl) rfl rfl ⟨_, rfl, rfl⟩ ?_
            refine o1 rfl (det_move rfl) rfl rfl ⟨_, rfl, rfl⟩ ?_
            refine o1 rfl (det_eql rfl rfl) rfl rfl ⟨_, rfl, rfl⟩ ?_
            refine o1 rfl (det_pickT rfl rfl) rfl rfl trivial ?_
            refine o2P beq_iff_eq rfl (det_move rfl) rfl rfl trivial (fun hb => ?_) (fun hb => ?_)
            rotate_left
            · exfalso; first | exact hb rfl | (simp at hb; done) | (revert hb; decide)
            refine o1 rfl (det_move rfl) rfl rfl ⟨_, rfl, rfl⟩ ?_
            refine o1 rfl (det_eql rfl rfl) rfl rfl ⟨_, rfl, rfl⟩ ?_
            refine o1 rfl (det_pickT rfl rfl) rfl rfl trivial ?_
            refine o2P beq_iff_eq rfl (det_move rfl) rfl rfl trivial (fun hb => ?_) (fun hb => ?_)
            rotate_left
            · exfalso; first | exact hb rfl | (simp at hb; done) | (revert hb; decide)
            refine o1 rfl (det_move rfl) rfl rfl ⟨_, rfl, rfl⟩ ?_
            refine o1 rfl (det_move rfl) rfl rfl ⟨_, rfl, rfl⟩ ?_
            refine o1 rfl (det_eql rfl rfl) rfl rfl ⟨_, rfl, rfl⟩ ?_
            refine o1 rfl (det_pickT rfl rfl) rfl rfl trivial ?_
            refine o1 rfl (det_assign rfl) rfl rfl trivial ?_
            refine be rfl ?_
            refine k_then ?_
            refine t_ret ?_
            refine ret_tmp rfl rfl rfl (fun w1 hs => ?_)
            exact ⟨by simp, hs.keep⟩
        ·
          rw [if_neg (by omega)] at hsl
          rw [startA_ok hz0, hsl] at hst
          cases hst
          have hwn : whenA (openLn (some ⟨p22, 0, none⟩) 1 1 P) h1 t2 = (t2, 0) := by rw [whenA_ok hz0, start_when (open_okL hPb) hH htb hsl]; rfl
          refine on rfl rfl rfl ⟨_, rfl, .inl rfl⟩ ?_
          refine on rfl rfl rfl ⟨_, rfl, .inl rfl⟩ ?_
          refine o1 rfl (det_pickF rfl rfl) rfl rfl trivial ?_
          refine be rfl ?_
          refine k_then ?_
          refine t_condF rfl ?_
          refine t_skip ?_
          refine k_then ?_
          refine t_seq ?_
          refine b0 ?_
          refine o1 rfl (det_loadN tN26 rfl rfl (.head _) rfl) rfl rfl trivial ?_
          refine o1 rfl (det_move rfl) rfl rfl trivial ?_
          refine o1 rfl (det_move rfl) rfl rfl trivial ?_
          refine o1 rfl (det_call hb26 rfl rfl (fun w1 hs => when_at hs.know hl1 hP1 hb1 hwn)) rfl rfl trivial ?_
          refine o1 rfl (det_move rfl) rfl rfl trivial ?_
          refine o1 rfl (det_extract rfl rfl) rfl rfl trivial ?_
          refine o1 rfl (det_extract rfl rfl) rfl rfl trivial ?_
          refine o1 rfl (det_assign rfl) rfl rfl trivial ?_
          refine o1 rfl (det_assign rfl) rfl rfl trivial ?_
          refine be rfl ?_
          refine k_then ?_
          refine t_seq ?_
          refine b0 ?_
          refine o1 rfl (det_move rfl) rfl rfl trivial ?_
          refine o1 rfl (det_eql rfl rfl) rfl rfl trivial ?_
          refine o2P beq_iff_eq rfl (det_move rfl) rfl rfl trivial (fun hb => ?_) (fun hb => ?_)
          rotate_left
          · exfalso; first | exact hb rfl | (simp at hb; done) | (revert hb; decide)
          refine o1 rfl (det_move rfl) rfl rfl ⟨_, rfl, rfl⟩ ?_
          refine o1 rfl (det_move rfl) rfl rfl ⟨_, rfl, rfl⟩ ?_
          refine o1 rfl (det_eql rfl rfl) rfl rfl ⟨_, rfl, rfl⟩ ?_
          refine o1 rfl (det_pickT rfl rfl) rfl rfl trivial ?_
          refine o2P beq_iff_eq rfl (det_move rfl) rfl rfl trivial (fun hb => ?_) (fun hb => ?_)
          rotate_left
          · exfalso; first | exact hb rfl | (simp at hb; done) | (revert hb; decide)
          refine o1 rfl (det_move rfl) rfl rfl ⟨_, rfl, rfl⟩ ?_
          refine o1 rfl (det_eql rfl rfl) rfl rfl ⟨_, rfl, rfl⟩ ?_
          refine o1 rfl (det_pickT rfl rfl) rfl rfl trivial ?_
          refine o2P beq_iff_eq rfl (det_move rfl) rfl rfl trivial (fun hb => ?_) (fun hb => ?_)
          rotate_left
          · exfalso; first | exact hb rfl | (simp at hb; done) | (revert hb; decide)
          refine o1 rfl (det_move rfl) rfl rfl ⟨_, rfl, rfl⟩ ?_
          refine o1 rfl (det_move rfl) rfl rfl ⟨_, rfl, rfl⟩ ?_
          refine o1 rfl (det_eql rfl rfl) rfl rfl ⟨_, rfl, rfl⟩ ?_
          refine o1 rfl (det_pickT rfl rfl) rfl rfl trivial ?_
          refine o1 rfl (det_assign rfl) rfl rfl trivial ?_
          refine be rfl ?_
          refine k_then ?_
          refine t_ret ?_
          refine ret_tmp rfl rfl rfl (fun w1 hs => ?_)
          exact ⟨by simp, hs.keep⟩

end Go.Proofs.Cp
