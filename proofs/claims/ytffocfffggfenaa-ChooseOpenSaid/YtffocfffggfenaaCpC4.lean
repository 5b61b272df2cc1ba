/-
  Walks through layers 36, 37 and 38 and their references.
-/
import Derived.Test.YtffocfffggfenaaCpC3
namespace Go.Proofs.Cp
open Go Go.Eng Go.Gt Go.Proofs.Gt Go.Sw Go.Qu Go.Ch
set_option maxRecDepth 4000

/-- Heads. -/
theorem rheads_ok {w : World} {F : Know} (hF : ∀ a v, F a = some v → w.cell? a = some v) {A : Option Addr} {n c : Nat} {hs0 : List Pt} (hP : PK F A n hs0) : Pure Try.prog 20 [.slice A n c] w (.bool (okH hs0)) := by
  refine fn_pure (F := F) Try.func20 rfl Try.ntmps20 rfl hF ?_
  refine t_seq ?_
  refine b0 ?_
  refine o1 rfl (det_assign rfl) rfl rfl trivial ?_
  refine be rfl ?_
  refine k_then ?_
  refine t_seq ?_
  refine t_seq ?_
  refine b0 ?_
  refine o1 rfl (det_move rfl) rfl rfl trivial ?_
  refine o1 rfl (det_lenS sl27 rfl) rfl rfl trivial ?_
  refine o1 rfl (det_neq rfl rfl) rfl rfl trivial ?_
  refine be rfl ?_
  refine k_then ?_
  refine t_condP bne_iff_ne rfl (fun hb => ?_) (fun hb => ?_)
  ·
    have h8 : hs0.length ≠ 8 := by have := hP.len; omega
    refine t_seq ?_
    refine b0 ?_
    refine o1 rfl (det_assign rfl) rfl rfl trivial ?_
    refine be rfl ?_
    refine k_then ?_
    refine t_ret (k_thenR (?_))
    refine ret_tmp rfl rfl rfl (fun w1 hs => ?_)
    exact ⟨by rw [okH_len h8], hs.keep⟩
  ·
    have h8 : hs0.length = 8 := by have := hP.len; omega
    refine t_skip ?_
    refine k_then ?_
    refine t_seq ?_
    refine b0 ?_
    refine o1 rfl (det_assign rfl) rfl rfl trivial ?_
    refine be rfl ?_
    refine k_then ?_
    refine t_seq ?_
    refine t_seq ?_
    refine b0 ?_
    refine o1 rfl (det_assign rfl) rfl rfl trivial ?_
    refine be rfl ?_
    refine k_then ?_
    refine t_block ?_
    refine t_whileM (σ := Nat) (fun s => [(3, .int .i64 (restK hs0 s : Int)), (4, .int .i64 (s : Int))]) (fun _ => _) (fun s => 8 - s) (fun s => s ≤ 8 ∧ (∀ k, k < s → okAtH k (atP hs0 k) = true)) 0 (env0 := [(0, _)]) ⟨by omega, fun k hk => absurd hk (Nat.not_lt_zero k)⟩ ⟨rfl, rfl, trivial⟩ ⟨rfl, trivial⟩ (.refl _) ?_
    rintro s ⟨hs8, hI⟩
    have hrl : restK hs0 s ≤ s := by unfold restK; exact Nat.le_trans (List.length_filter_le _ _) (by simp; omega)
    refine t_seq ?_
    refine t_seq ?_
    refine b0 ?_
    refine o1 rfl (det_move rfl) rfl rfl trivial ?_
    refine o1 rfl (det_lss rfl rfl) rfl rfl trivial ?_
    refine be rfl ?_
    refine k_then ?_
    refine t_condP decide_eq_true_iff rfl (fun hb => ?_) (fun hb => ?_)
    ·
      have hlt : s < hs0.length := by have := hP.len; omega
      obtain ⟨A, rfl⟩ := hP.some hlt
      have hrk := restK_succ hlt
      have hat := atP_get hlt
      refine t_skip ?_
      refine k_then ?_
      refine t_seq ?_
      refine t_block ?_
      refine t_seq ?_
      refine t_seq ?_
      refine b0 ?_
      refine o1 rfl (det_move rfl) rfl rfl trivial ?_
      refine o1 rfl (det_move rfl) rfl rfl trivial ?_
      first | (refine o1 rfl (det_indexAddr sl27 rfl rfl ?_) rfl rfl trivial ?_; (· (first | decide | omega)))
      refine o1 rfl (det_loadKN tN57 rfl (ptv_len hs0[s]) (hP.cells (i := (s : Int)) (k := s) (Int.toNat_natCast s) hlt (ptv_len _))) rfl rfl trivial ?_
      refine o1 rfl (det_call hb54 rfl rfl (fun w1 hs => none_ok hs.know)) rfl rfl trivial ?_
      refine be rfl ?_
      refine k_then ?_
      refine t_condP Iff.rfl rfl (fun hb => ?_) (fun hb => ?_)
      ·
        have hno : noneP (atP hs0 s) = true := by rw [hat]; exact hb
        have hok : okAtH s (atP hs0 s) = true := by unfold okAtH; rw [hno]; rfl
        have hrb : restB (atP hs0 s) = false := by unfold restB; rw [hno]; simp
        rw [hrb] at hrk
        simp only [Bool.false_eq_true, if_false, Nat.add_zero] at hrk
        refine t_exit ?_
        refine k_thenE ?_
        refine k_blkE ?_
        refine k_then ?_
        refine b0 ?_
        refine o1 rfl (det_move rfl) rfl rfl trivial ?_
        first | (refine o1 rfl (det_addI rfl rfl ?_) rfl rfl trivial ?_; (· omega)) | refine o1 rfl (det_add rfl rfl) rfl rfl trivial ?_
        refine o1 rfl (det_assign rfl) rfl rfl trivial ?_
        refine be rfl ?_
        refine k_then ?_
        refine loop_back (s + 1) ⟨by omega, fun k hk => by
            by_cases e : k = s
            · subst e; exact hok
            · exact hI k (by omega)⟩ (by omega) ⟨(by rw [hrk]; rfl), rfl, rfl, trivial⟩ (.refl _)
      ·
        have hno : noneP (atP hs0 s) = false := by rw [hat]; simpa using hb
        refine t_skip ?_
        refine k_then ?_
        refine t_seq ?_
        refine t_seq ?_
        refine b0 ?_
        refine o1 rfl (det_move rfl) rfl rfl trivial ?_
        refine o1 rfl (det_move rfl) rfl rfl trivial ?_
        first | (refine o1 rfl (det_indexAddr sl27 rfl rfl ?_) rfl rfl trivial ?_; (· (first | decide | omega)))
        refine o1 rfl (det_loadKN tN57 rfl (ptv_len hs0[s]) (hP.cells (i := (s : Int)) (k := s) (Int.toNat_natCast s) hlt (ptv_len _))) rfl rfl trivial ?_
        refine o1 rfl (det_call hb55 rfl rfl (fun w1 hs => rpart_at hs.know)) rfl rfl trivial ?_
        refine o1 rfl (det_not rfl) rfl rfl trivial ?_
        refine o2P not_iff_false rfl (det_move rfl) rfl rfl trivial (fun hb => ?_) (fun hb => ?_)
        ·
          refine on rfl rfl rfl ⟨_, rfl, .inl rfl⟩ ?_
          refine on rfl rfl rfl ⟨_, rfl, .inl rfl⟩ ?_
          refine on rfl rfl rfl ⟨_, rfl, .inl rfl⟩ ?_
          refine on rfl rfl rfl ⟨_, rfl, .inl rfl⟩ ?_
          refine on rfl rfl rfl ⟨_, rfl, .inl rfl⟩ ?_
          refine on rfl rfl rfl ⟨_, rfl, .inl rfl⟩ ?_
          refine on rfl rfl rfl ⟨_, rfl, .inl rfl⟩ ?_
          refine on rfl rfl rfl ⟨_, rfl, .inl rfl⟩ ?_
          refine o1 rfl (det_pickT rfl rfl) rfl rfl trivial ?_
          refine be rfl ?_
          refine k_then ?_
          refine t_condT rfl ?_
          refine t_seq ?_
          refine b0 ?_
          refine o1 rfl (det_assign rfl) rfl rfl trivial ?_
          refine be rfl ?_
          refine k_then ?_
          refine t_ret (k_thenR (k_blkR (k_thenR (k_thenR (k_blkR (k_thenR (?_)))))))
          refine ret_tmp rfl rfl rfl (fun w1 hs => ?_)
          have hbad : okH hs0 = false := okH_at (k := s) (by omega) (by unfold okAtH; rw [hno, hat]; grind)
          exact ⟨by rw [hbad], hs.keep⟩
        ·
          refine o1 rfl (det_move rfl) rfl rfl ⟨_, rfl, rfl⟩ ?_
          refine o1 rfl (det_move rfl) rfl rfl ⟨_, rfl, rfl⟩ ?_
          first | (refine o1 rfl (det_indexAddr sl27 rfl rfl ?_) rfl rfl ⟨_, rfl, rfl⟩ ?_; (· (first | decide | omega)))
          refine o1 rfl (det_fieldAddr fld57_0 rfl) rfl rfl ⟨_, rfl, rfl⟩ ?_
          refine o1 rfl (det_fieldAddr fld55_2 rfl) rfl rfl ⟨_, rfl, rfl⟩ ?_
          refine o1 rfl (det_loadK t1_3 rfl (hP.cell (i := (s : Int)) (k := s) (Int.toNat_natCast s) hlt (j := 2) (u := .int .i64 hs0[s].it.cl) rfl)) rfl rfl ⟨_, rfl, rfl⟩ ?_
          refine o1 rfl (det_move rfl) rfl rfl ⟨_, rfl, rfl⟩ ?_
          refine o1 rfl (det_neq rfl rfl) rfl rfl ⟨_, rfl, rfl⟩ ?_
          refine o1 rfl (det_pickF rfl rfl) rfl rfl trivial ?_
          refine be rfl ?_
          refine k_then ?_
          refine t_condP bne_iff_ne rfl (fun hb => ?_) (fun hb => ?_)
          ·
            refine t_seq ?_
            refine b0 ?_
            refine o1 rfl (det_assign rfl) rfl rfl trivial ?_
            refine be rfl ?_
            refine k_then ?_
            refine t_ret (k_thenR (k_blkR (k_thenR (k_thenR (k_blkR (k_thenR (?_)))))))
            refine ret_tmp rfl rfl rfl (fun w1 hs => ?_)
            have hbad : okH hs0 = false := okH_at (k := s) (by omega) (by unfold okAtH; rw [hno, hat]; grind)
            exact ⟨by rw [hbad], hs.keep⟩
          ·
            refine t_skip ?_
            refine k_then ?_
            refine t_seq ?_
            refine b0 ?_
            refine o1 rfl (det_move rfl) rfl rfl trivial ?_
            refine o1 rfl (det_move rfl) rfl rfl trivial ?_
            first | (refine o1 rfl (det_indexAddr sl27 rfl rfl ?_) rfl rfl trivial ?_; (· (first | decide | omega)))
            refine o1 rfl (det_fieldAddr fld57_2 rfl) rfl rfl trivial ?_
            refine o1 rfl (det_loadK t1_4 rfl (hP.cell (i := (s : Int)) (k := s) (Int.toNat_natCast s) hlt (j := 6) (u := .bool hs0[s].rest) rfl)) rfl rfl trivial ?_
            refine be rfl ?_
            refine k_then ?_
            refine t_condP Iff.rfl rfl (fun hb => ?_) (fun hb => ?_)
            ·
              have hok : okAtH s (atP hs0 s) = true := by unfold okAtH; rw [hno, hat]; grind
              have hrb : restB (atP hs0 s) = true := by unfold restB; rw [hno, hat, hb]; rfl
              rw [hrb] at hrk
              simp only [if_true] at hrk
              refine b0 ?_
              refine o1 rfl (det_move rfl) rfl rfl trivial ?_
              first | (refine o1 rfl (det_addI rfl rfl ?_) rfl rfl trivial ?_; (· omega)) | refine o1 rfl (det_add rfl rfl) rfl rfl trivial ?_
              refine o1 rfl (det_assign rfl) rfl rfl trivial ?_
              refine be rfl ?_
              refine k_blk ?_
              refine k_then ?_
              refine b0 ?_
              refine o1 rfl (det_move rfl) rfl rfl trivial ?_
              first | (refine o1 rfl (det_addI rfl rfl ?_) rfl rfl trivial ?_; (· omega)) | refine o1 rfl (det_add rfl rfl) rfl rfl trivial ?_
              refine o1 rfl (det_assign rfl) rfl rfl trivial ?_
              refine be rfl ?_
              refine k_then ?_
              refine loop_back (s + 1) ⟨by omega, fun k hk => by
                  by_cases e : k = s
                  · subst e; exact hok
                  · exact hI k (by omega)⟩ (by omega) ⟨(by rw [hrk]; rfl), rfl, rfl, trivial⟩ (.refl _)
            ·
              have hok : okAtH s (atP hs0 s) = true := by unfold okAtH; rw [hno, hat]; grind
              have hrb : restB (atP hs0 s) = false := by unfold restB; rw [hat, show hs0[s].rest = false by simpa using hb]; rfl
              rw [hrb] at hrk
              simp only [Bool.false_eq_true, if_false, Nat.add_zero] at hrk
              refine t_skip ?_
              refine k_blk ?_
              refine k_then ?_
              refine b0 ?_
              refine o1 rfl (det_move rfl) rfl rfl trivial ?_
              first | (refine o1 rfl (det_addI rfl rfl ?_) rfl rfl trivial ?_; (· omega)) | refine o1 rfl (det_add rfl rfl) rfl rfl trivial ?_
              refine o1 rfl (det_assign rfl) rfl rfl trivial ?_
              refine be rfl ?_
              refine k_then ?_
              refine loop_back (s + 1) ⟨by omega, fun k hk => by
                  by_cases e : k = s
                  · subst e; exact hok
                  · exact hI k (by omega)⟩ (by omega) ⟨(by rw [hrk]; rfl), rfl, rfl, trivial⟩ (.refl _)
    ·
      have hs8 : s = 8 := by have := hP.len; omega
      refine t_exit ?_
      refine k_thenE ?_
      refine k_thenE ?_
      refine k_blkE ?_
      refine k_then ?_
      refine t_seq ?_
      refine b0 ?_
      refine o1 rfl (det_move rfl) rfl rfl trivial ?_
      refine o1 rfl (det_leq rfl rfl) rfl rfl trivial ?_
      refine o1 rfl (det_assign rfl) rfl rfl trivial ?_
      refine be rfl ?_
      refine k_then ?_
      refine t_ret ?_
      refine ret_tmp rfl rfl rfl (fun w1 hs => ?_)
      refine ⟨?_, hs.keep⟩
      rw [hs8]
      by_cases h : restK hs0 8 ≤ 1
      · rw [okH_true h8 (fun k hk => hI k (by omega)) h, decide_eq_true (by omega)]
      · rw [okH_rest (k := 8) (by omega), decide_eq_false (by omega)]

/-- valid. -/
theorem cvalid_ok {w : World} {F : Know} (hF : ∀ a v, F a = some v → w.cell? a = some v) {l : Ln} (hl : LnK F l) {A : Option Addr} {n c : Nat} {hs0 : List Pt} (hP : PK F A n hs0) (hnb : n ≤ 100000) {t : Int} : Pure Try.prog 56 [.agg (lnv l).toArray, .slice A n c, .int .i64 t] w (.int .i64 (errC l hs0 t)) := by
  refine fn_pure (F := F) Try.func56 rfl Try.ntmps56 rfl hF ?_
  refine t_seq ?_
  refine b0 ?_
  refine om1 rfl (new_boxN rfl) rfl rfl trivial (fun p3 => ?_)
  refine o1 rfl (det_assign rfl) rfl rfl trivial ?_
  refine be rfl ?_
  refine k_then ?_
  refine t_seq ?_
  refine t_seq ?_
  refine b0 ?_
  refine o1 rfl (det_loadN tN26 rfl rfl (.head _) rfl) rfl rfl trivial ?_
  refine o1 rfl (det_call hb17 rfl rfl (fun w1 hs => cline_ok hs.know hl)) rfl rfl trivial ?_
  refine o1 rfl (det_assign rfl) rfl rfl trivial ?_
  refine be rfl ?_
  refine k_then ?_
  refine t_seq ?_
  refine b0 ?_
  refine o1 rfl (det_move rfl) rfl rfl trivial ?_
  refine o1 rfl (det_neq rfl rfl) rfl rfl trivial ?_
  refine be rfl ?_
  refine k_then ?_
  refine t_condP bne_iff_ne rfl (fun hb => ?_) (fun hb => ?_)
  ·
    refine t_seq ?_
    refine b0 ?_
    refine o1 rfl (det_move rfl) rfl rfl trivial ?_
    refine o1 rfl (det_assign rfl) rfl rfl trivial ?_
    refine be rfl ?_
    refine k_then ?_
    refine t_ret (k_thenR (?_))
    refine ret_tmp rfl rfl rfl (fun w1 hs => ?_)
    exact ⟨by unfold errC; grind, hs.keep⟩
  ·
    refine t_skip ?_
    refine k_then ?_
    refine t_seq ?_
    refine t_seq ?_
    refine b0 ?_
    refine o1 rfl (det_move rfl) rfl rfl trivial ?_
    refine o1 rfl (det_call hb19 rfl rfl (fun w1 hs => cheads_ok hs.know hP hnb)) rfl rfl trivial ?_
    refine o1 rfl (det_assign rfl) rfl rfl trivial ?_
    refine be rfl ?_
    refine k_then ?_
    refine t_seq ?_
    refine b0 ?_
    refine o1 rfl (det_move rfl) rfl rfl trivial ?_
    refine o1 rfl (det_neq rfl rfl) rfl rfl trivial ?_
    refine be rfl ?_
    refine k_then ?_
    refine t_condP bne_iff_ne rfl (fun hb => ?_) (fun hb => ?_)
    ·
      refine t_seq ?_
      refine b0 ?_
      refine o1 rfl (det_move rfl) rfl rfl trivial ?_
      refine o1 rfl (det_assign rfl) rfl rfl trivial ?_
      refine be rfl ?_
      refine k_then ?_
      refine t_ret (k_thenR (?_))
      refine ret_tmp rfl rfl rfl (fun w1 hs => ?_)
      exact ⟨by unfold errC; grind, hs.keep⟩
    ·
      refine t_skip ?_
      refine k_then ?_
      refine t_seq ?_
      refine t_seq ?_
      refine b0 ?_
      refine o1 rfl (det_move rfl) rfl rfl trivial ?_
      refine o1 rfl (det_lss rfl rfl) rfl rfl trivial ?_
      refine o2P decide_eq_true_iff rfl (det_move rfl) rfl rfl trivial (fun hb => ?_) (fun hb => ?_)
      ·
        refine on rfl rfl rfl ⟨_, rfl, .inl rfl⟩ ?_
        refine on rfl rfl rfl ⟨_, rfl, .inl rfl⟩ ?_
        refine o1 rfl (det_pickT rfl rfl) rfl rfl trivial ?_
        refine be rfl ?_
        refine k_then ?_
        refine t_condT rfl ?_
        refine t_seq ?_
        refine b0 ?_
        refine o1 rfl (det_assign rfl) rfl rfl trivial ?_
        refine be rfl ?_
        refine k_then ?_
        refine t_ret (k_thenR (?_))
        refine ret_tmp rfl rfl rfl (fun w1 hs => ?_)
        exact ⟨by unfold errC; grind, hs.keep⟩
      ·
        refine o1 rfl (det_move rfl) rfl rfl ⟨_, rfl, rfl⟩ ?_
        refine o1 rfl (det_gtr rfl rfl) rfl rfl ⟨_, rfl, rfl⟩ ?_
        refine o1 rfl (det_pickF rfl rfl) rfl rfl trivial ?_
        refine be rfl ?_
        refine k_then ?_
        refine t_condP decide_eq_true_iff rfl (fun hb => ?_) (fun hb => ?_)
        ·
          refine t_seq ?_
          refine b0 ?_
          refine o1 rfl (det_assign rfl) rfl rfl trivial ?_
          refine be rfl ?_
          refine k_then ?_
          refine t_ret (k_thenR (?_))
          refine ret_tmp rfl rfl rfl (fun w1 hs => ?_)
          exact ⟨by unfold errC; grind, hs.keep⟩
        ·
          refine t_skip ?_
          refine k_then ?_
          refine t_seq ?_
          refine b0 ?_
          refine o1 rfl (det_assign rfl) rfl rfl trivial ?_
          refine be rfl ?_
          refine k_then ?_
          refine t_ret ?_
          refine ret_tmp rfl rfl rfl (fun w1 hs => ?_)
          exact ⟨by unfold errC; grind, hs.keep⟩

end Go.Proofs.Cp
