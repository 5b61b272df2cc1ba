/-
  Walks through layers 36, 37 and 38 and their references.
-/
import Derived.Test.YtffocfffggfenaaCpC2
import Derived.Test.YtffocfffggfenaaChPlain2
namespace Go.Proofs.Cp
open Go Go.Eng Go.Gt Go.Proofs.Gt Go.Sw Go.Qu Go.Ch
set_option maxRecDepth 4000

/-- None. -/
theorem none_ok {w : World} {F : Know} (hF : ∀ a v, F a = some v → w.cell? a = some v) {p : Pt} : Pure Try.prog 54 [.agg (ptv p).toArray] w (.bool (noneP p)) := by
  refine fn_pure (F := F) Try.func54 rfl Try.ntmps54 rfl hF ?_
  refine t_seq ?_
  refine b0 ?_
  refine om1 rfl (new_boxN rfl) rfl rfl trivial (fun p1 => ?_)
  refine o1 rfl (det_assign rfl) rfl rfl trivial ?_
  refine be rfl ?_
  refine k_then ?_
  refine t_seq ?_
  refine b0 ?_
  refine o1 rfl (det_loadN tN57 rfl rfl (.head _) rfl) rfl rfl trivial ?_
  refine o1 rfl (det_build rfl (fun w => bld57_ w)) rfl rfl trivial ?_
  refine o1 rfl (det_eqlS rfl rfl eqg57 (fun w => eq57 _ _ _ _ _ _ _ _ _ _ _ _ _ _ w)) rfl rfl trivial ?_
  refine o1 rfl (det_assign rfl) rfl rfl trivial ?_
  refine be rfl ?_
  refine k_then ?_
  refine t_ret ?_
  refine ret_tmp rfl rfl rfl (fun w1 hs => ?_)
  exact ⟨rfl, hs.keep⟩

theorem cpart_at {w : World} {F : Know} (hF : ∀ a v, F a = some v → w.cell? a = some v) {p : Pt} : Pure Try.prog 53 [.agg (ptv p).toArray] w (.int .i64 (if okP p then 0 else 460)) := cpart_ok hF
theorem rpart_at {w : World} {F : Know} (hF : ∀ a v, F a = some v → w.cell? a = some v) {p : Pt} : Pure Try.prog 55 [.agg (ptv p).toArray] w (.bool (okP p)) := rpart_ok hF
/-- CheckHeads. -/
theorem cheads_ok {w : World} {F : Know} (hF : ∀ a v, F a = some v → w.cell? a = some v) {A : Option Addr} {n c : Nat} {hs0 : List Pt} (hP : PK F A n hs0) (hnb : n ≤ 100000) : Pure Try.prog 19 [.slice A n c] w (.int .i64 (if okH hs0 then 0 else 470)) := by
  refine fn_pure (F := F) Try.func19 rfl Try.ntmps19 rfl hF ?_
  refine t_seq ?_
  refine b0 ?_
  refine o1 rfl (det_assign rfl) rfl rfl trivial ?_
  refine be rfl ?_
  refine k_then ?_
  refine t_seq ?_
  refine t_seq ?_
  refine b0 ?_
  refine o1 rfl (det_move rfl) rfl rfl trivial ?_
  refine o1 rfl (det_lenS sl27 rfl) rfl rfl trivial ?_
  refine o1 rfl (det_neq rfl rfl) rfl rfl trivial ?_
  refine be rfl ?_
  refine k_then ?_
  refine t_condP bne_iff_ne rfl (fun hb => ?_) (fun hb => ?_)
  ·
    have h8 : hs0.length ≠ 8 := by have := hP.len; omega
    refine t_seq ?_
    refine b0 ?_
    refine o1 rfl (det_assign rfl) rfl rfl trivial ?_
    refine be rfl ?_
    refine k_then ?_
    refine t_ret (k_thenR (?_))
    refine ret_tmp rfl rfl rfl (fun w1 hs => ?_)
    exact ⟨by rw [okH_len h8]; rfl, hs.keep⟩
  ·
    have h8 : hs0.length = 8 := by have := hP.len; omega
    refine t_skip ?_
    refine k_then ?_
    refine t_seq ?_
    refine b0 ?_
    refine o1 rfl (det_assign rfl) rfl rfl trivial ?_
    refine be rfl ?_
    refine k_then ?_
    refine t_seq ?_
    refine t_seq ?_
    refine b0 ?_
    refine o1 rfl (det_move rfl) rfl rfl trivial ?_
    refine o1 rfl (det_lenS sl27 rfl) rfl rfl trivial ?_
    refine o1 rfl (det_move rfl) rfl rfl trivial ?_
    refine be rfl ?_
    refine k_then ?_
    refine t_block ?_
    refine t_whileM (σ := Nat) (fun s => [(3, .int .i64 (restK hs0 s : Int)), (11, .int .i64 (s : Int))]) (fun _ => _) (fun s => 8 - s) (fun s => s ≤ 8 ∧ (∀ k, k < s → okAtH k (atP hs0 k) = true) ∧ restK hs0 s ≤ 1) 0 (env0 := [(9, _), (10, _)]) ⟨by omega, fun k hk => absurd hk (Nat.not_lt_zero k), by simp [restK]⟩ ⟨rfl, rfl, trivial⟩ ⟨rfl, rfl, trivial⟩ (.refl _) ?_
    rintro s ⟨hs8, hI, hr1⟩
    refine t_seq ?_
    refine b0 ?_
    refine o1 rfl (det_lss rfl rfl) rfl rfl trivial ?_
    refine be rfl ?_
    refine k_then ?_
    refine t_seq ?_
    refine t_condP decide_eq_true_iff rfl (fun hb => ?_) (fun hb => ?_)
    ·
      have hlt : s < hs0.length := by have := hP.len; omega
      obtain ⟨A, rfl⟩ := hP.some hlt
      have hrk := restK_succ hlt
      have hat := atP_get hlt
      refine t_skip ?_
      refine k_then ?_
      refine t_seq ?_
      refine t_block ?_
      refine t_seq ?_
      refine b0 ?_
      refine o1 rfl (det_move rfl) rfl rfl trivial ?_
      first | (refine o1 rfl (det_indexAddr sl27 rfl rfl ?_) rfl rfl trivial ?_; (· (first | decide | omega)))
      refine o1 rfl (det_loadKN tN57 rfl (ptv_len hs0[s]) (hP.cells (i := (s : Int)) (k := s) (Int.toNat_natCast s) hlt (ptv_len _))) rfl rfl trivial ?_
      refine om1 rfl (new_alloc z57) rfl rfl trivial (fun p5 => ?_)
      refine o1 rfl (det_assign rfl) rfl rfl trivial ?_
      refine stN nofun rfl tN57 rfl rfl rfl .head rfl trivial rfl rfl ?_
      refine be rfl ?_
      refine k_then ?_
      refine t_seq ?_
      refine t_seq ?_
      refine b0 ?_
      refine o1 rfl (det_loadN tN57 rfl rfl (.head _) rfl) rfl rfl trivial ?_
      refine o1 rfl (det_build rfl (fun w => bld57_ w)) rfl rfl trivial ?_
      refine o1 rfl (det_eqlS rfl rfl eqg57 (fun w => eq57 _ _ _ _ _ _ _ _ _ _ _ _ _ _ w)) rfl rfl trivial ?_
      refine be rfl ?_
      refine k_then ?_
      refine t_condP Iff.rfl rfl (fun hb => ?_) (fun hb => ?_)
      ·
        have hno : noneP (atP hs0 s) = true := by rw [hat]; exact hb
        have hok : okAtH s (atP hs0 s) = true := by unfold okAtH; rw [hno]; rfl
        have hrb : restB (atP hs0 s) = false := by unfold restB; rw [hno]; simp
        rw [hrb] at hrk
        simp only [Bool.false_eq_true, if_false, Nat.add_zero] at hrk
        refine t_exit ?_
        refine k_thenE ?_
        refine k_blkE ?_
        refine k_then ?_
        refine b0 ?_
        first | (refine o1 rfl (det_addI rfl rfl ?_) rfl rfl trivial ?_; (· omega)) | refine o1 rfl (det_add rfl rfl) rfl rfl trivial ?_
        refine o1 rfl (det_move rfl) rfl rfl trivial ?_
        refine be rfl ?_
        refine k_then ?_
        refine loop_back (s + 1) ⟨by omega, fun k hk => by
            by_cases e : k = s
            · subst e; exact hok
            · exact hI k (by omega), by omega⟩ (by omega) ⟨(by rw [hrk]; rfl), rfl, rfl, rfl, trivial⟩ (.cons _ (.refl _))
      ·
        have hno : noneP (atP hs0 s) = false := by rw [hat]; unfold noneP; simpa using hb
        refine t_skip ?_
        refine k_then ?_
        refine t_seq ?_
        refine t_seq ?_
        refine b0 ?_
        refine o1 rfl (det_fieldAddr fld57_2 rfl) rfl rfl trivial ?_
        refine o1 rfl (det_load1 t1_4 rfl rfl (.head _) rfl) rfl rfl trivial ?_
        refine be rfl ?_
        refine k_then ?_
        refine t_condP Iff.rfl rfl (fun hb => ?_) (fun hb => ?_)
        ·
          have hrb : restB (atP hs0 s) = true := by unfold restB; rw [hno, hat, hb]; rfl
          rw [hrb] at hrk
          simp only [if_true] at hrk
          --note:r
          refine b0 ?_
          refine o1 rfl (det_move rfl) rfl rfl trivial ?_
          first | (refine o1 rfl (det_addI rfl rfl ?_) rfl rfl trivial ?_; (· omega)) | refine o1 rfl (det_add rfl rfl) rfl rfl trivial ?_
          refine o1 rfl (det_assign rfl) rfl rfl trivial ?_
          refine be rfl ?_
          refine k_then ?_
          refine t_seq ?_
          refine b0 ?_
          refine o1 rfl (det_loadN tN57 rfl rfl (.head _) rfl) rfl rfl trivial ?_
          refine o1 rfl (det_call hb53 rfl rfl (fun w1 hs => cpart_at hs.know)) rfl rfl trivial ?_
          refine o1 rfl (det_neq rfl rfl) rfl rfl trivial ?_
          refine o2P bne_iff_ne rfl (det_move rfl) rfl rfl trivial (fun hb => ?_) (fun hb => ?_)
          ·
            refine on rfl rfl rfl ⟨_, rfl, .inl rfl⟩ ?_
            refine on rfl rfl rfl ⟨_, rfl, .inl rfl⟩ ?_
            refine on rfl rfl rfl ⟨_, rfl, .inl rfl⟩ ?_
            refine on rfl rfl rfl ⟨_, rfl, .inl rfl⟩ ?_
            refine on rfl rfl rfl ⟨_, rfl, .inl rfl⟩ ?_
            refine o1 rfl (det_pickT rfl rfl) rfl rfl trivial ?_
            refine o1 rfl (det_move rfl) rfl rfl trivial ?_
            refine on rfl rfl rfl ⟨_, rfl, .inl rfl⟩ ?_
            refine on rfl rfl rfl ⟨_, rfl, .inl rfl⟩ ?_
            refine o1 rfl (det_pickT rfl rfl) rfl rfl trivial ?_
            refine be rfl ?_
            refine k_then ?_
            refine t_condT rfl ?_
            refine t_seq ?_
            refine b0 ?_
            refine o1 rfl (det_assign rfl) rfl rfl trivial ?_
            refine be rfl ?_
            refine k_then ?_
            refine t_ret (k_blkR (k_thenR (k_thenR (k_blkR (k_thenR (?_))))))
            refine ret_tmp rfl rfl rfl (fun w1 hs => ?_)
            have hbad : okH hs0 = false := by
              first
              | exact okH_rest (k := s + 1) (by omega)
              | exact okH_at (k := s) (by omega) (by unfold okAtH; rw [hno, hat]; grind)
            exact ⟨by rw [hbad]; rfl, hs.keep⟩
          ·
            refine o1 rfl (det_fieldAddr fld57_0 rfl) rfl rfl ⟨_, rfl, rfl⟩ ?_
            refine o1 rfl (det_fieldAddr fld55_2 rfl) rfl rfl ⟨_, rfl, rfl⟩ ?_
            refine o1 rfl (det_load1 t1_3 rfl rfl (.head _) rfl) rfl rfl ⟨_, rfl, rfl⟩ ?_
            refine o1 rfl (det_move rfl) rfl rfl ⟨_, rfl, rfl⟩ ?_
            refine o1 rfl (det_neq rfl rfl) rfl rfl ⟨_, rfl, rfl⟩ ?_
            refine o1 rfl (det_pickF rfl rfl) rfl rfl trivial ?_
            refine o2P bne_iff_ne rfl (det_move rfl) rfl rfl trivial (fun hb => ?_) (fun hb => ?_)
            ·
              refine on rfl rfl rfl ⟨_, rfl, .inl rfl⟩ ?_
              refine on rfl rfl rfl ⟨_, rfl, .inl rfl⟩ ?_
              refine o1 rfl (det_pickT rfl rfl) rfl rfl trivial ?_
              refine be rfl ?_
              refine k_then ?_
              refine t_condT rfl ?_
              refine t_seq ?_
              refine b0 ?_
              refine o1 rfl (det_assign rfl) rfl rfl trivial ?_
              refine be rfl ?_
              refine k_then ?_
              refine t_ret (k_blkR (k_thenR (k_thenR (k_blkR (k_thenR (?_))))))
              refine ret_tmp rfl rfl rfl (fun w1 hs => ?_)
              have hbad : okH hs0 = false := by
                first
                | exact okH_rest (k := s + 1) (by omega)
                | exact okH_at (k := s) (by omega) (by unfold okAtH; rw [hno, hat]; grind)
              exact ⟨by rw [hbad]; rfl, hs.keep⟩
            ·
              refine o1 rfl (det_move rfl) rfl rfl ⟨_, rfl, rfl⟩ ?_
              refine o1 rfl (det_gtr rfl rfl) rfl rfl ⟨_, rfl, rfl⟩ ?_
              refine o1 rfl (det_pickF rfl rfl) rfl rfl trivial ?_
              refine be rfl ?_
              refine k_then ?_
              refine t_condP decide_eq_true_iff rfl (fun hb => ?_) (fun hb => ?_)
              ·
                have hbad : okH hs0 = false := by
                  first
                  | exact okH_rest (k := s + 1) (by omega)
                  | exact okH_at (k := s) (by omega) (by unfold okAtH; rw [hno, hat]; grind)
                refine t_seq ?_
                refine b0 ?_
                refine o1 rfl (det_assign rfl) rfl rfl trivial ?_
                refine be rfl ?_
                refine k_then ?_
                refine t_ret (k_blkR (k_thenR (k_thenR (k_blkR (k_thenR (?_))))))
                refine ret_tmp rfl rfl rfl (fun w1 hs => ?_)
                have hbad : okH hs0 = false := by
                  first
                  | exact okH_rest (k := s + 1) (by omega)
                  | exact okH_at (k := s) (by omega) (by unfold okAtH; rw [hno, hat]; grind)
                exact ⟨by rw [hbad]; rfl, hs.keep⟩
              ·
                have hok : okAtH s (atP hs0 s) = true := by unfold okAtH; rw [hno, hat]; grind
                refine t_skip ?_
                refine k_blk ?_
                refine k_then ?_
                refine b0 ?_
                first | (refine o1 rfl (det_addI rfl rfl ?_) rfl rfl trivial ?_; (· omega)) | refine o1 rfl (det_add rfl rfl) rfl rfl trivial ?_
                refine o1 rfl (det_move rfl) rfl rfl trivial ?_
                refine be rfl ?_
                refine k_then ?_
                refine loop_back (s + 1) ⟨by omega, fun k hk => by
                    by_cases e : k = s
                    · subst e; exact hok
                    · exact hI k (by omega), by omega⟩ (by omega) ⟨(by rw [hrk]; rfl), rfl, rfl, rfl, trivial⟩ (.cons _ (.refl _))
        ·
          have hrb : restB (atP hs0 s) = false := by unfold restB; rw [hat, show hs0[s].rest = false by simpa using hb]; rfl
          rw [hrb] at hrk
          simp only [Bool.false_eq_true, if_false, Nat.add_zero] at hrk
          refine t_skip ?_
          refine k_then ?_
          refine t_seq ?_
          refine b0 ?_
          refine o1 rfl (det_loadN tN57 rfl rfl (.head _) rfl) rfl rfl trivial ?_
          refine o1 rfl (det_call hb53 rfl rfl (fun w1 hs => cpart_at hs.know)) rfl rfl trivial ?_
          refine o1 rfl (det_neq rfl rfl) rfl rfl trivial ?_
          refine o2P bne_iff_ne rfl (det_move rfl) rfl rfl trivial (fun hb => ?_) (fun hb => ?_)
          ·
            refine on rfl rfl rfl ⟨_, rfl, .inl rfl⟩ ?_
            refine on rfl rfl rfl ⟨_, rfl, .inl rfl⟩ ?_
            refine on rfl rfl rfl ⟨_, rfl, .inl rfl⟩ ?_
            refine on rfl rfl rfl ⟨_, rfl, .inl rfl⟩ ?_
            refine on rfl rfl rfl ⟨_, rfl, .inl rfl⟩ ?_
            refine o1 rfl (det_pickT rfl rfl) rfl rfl trivial ?_
            refine o1 rfl (det_move rfl) rfl rfl trivial ?_
            refine on rfl rfl rfl ⟨_, rfl, .inl rfl⟩ ?_
            refine on rfl rfl rfl ⟨_, rfl, .inl rfl⟩ ?_
            refine o1 rfl (det_pickT rfl rfl) rfl rfl trivial ?_
            refine be rfl ?_
            refine k_then ?_
            refine t_condT rfl ?_
            refine t_seq ?_
            refine b0 ?_
            refine o1 rfl (det_assign rfl) rfl rfl trivial ?_
            refine be rfl ?_
            refine k_then ?_
            refine t_ret (k_blkR (k_thenR (k_thenR (k_blkR (k_thenR (?_))))))
            refine ret_tmp rfl rfl rfl (fun w1 hs => ?_)
            have hbad : okH hs0 = false := by
              first
              | exact okH_rest (k := s + 1) (by omega)
              | exact okH_at (k := s) (by omega) (by unfold okAtH; rw [hno, hat]; grind)
            exact ⟨by rw [hbad]; rfl, hs.keep⟩
          ·
            refine o1 rfl (det_fieldAddr fld57_0 rfl) rfl rfl ⟨_, rfl, rfl⟩ ?_
            refine o1 rfl (det_fieldAddr fld55_2 rfl) rfl rfl ⟨_, rfl, rfl⟩ ?_
            refine o1 rfl (det_load1 t1_3 rfl rfl (.head _) rfl) rfl rfl ⟨_, rfl, rfl⟩ ?_
            refine o1 rfl (det_move rfl) rfl rfl ⟨_, rfl, rfl⟩ ?_
            refine o1 rfl (det_neq rfl rfl) rfl rfl ⟨_, rfl, rfl⟩ ?_
            refine o1 rfl (det_pickF rfl rfl) rfl rfl trivial ?_
            refine o2P bne_iff_ne rfl (det_move rfl) rfl rfl trivial (fun hb => ?_) (fun hb => ?_)
            ·
              refine on rfl rfl rfl ⟨_, rfl, .inl rfl⟩ ?_
              refine on rfl rfl rfl ⟨_, rfl, .inl rfl⟩ ?_
              refine o1 rfl (det_pickT rfl rfl) rfl rfl trivial ?_
              refine be rfl ?_
              refine k_then ?_
              refine t_condT rfl ?_
              refine t_seq ?_
              refine b0 ?_
              refine o1 rfl (det_assign rfl) rfl rfl trivial ?_
              refine be rfl ?_
              refine k_then ?_
              refine t_ret (k_blkR (k_thenR (k_thenR (k_blkR (k_thenR (?_))))))
              refine ret_tmp rfl rfl rfl (fun w1 hs => ?_)
              have hbad : okH hs0 = false := by
                first
                | exact okH_rest (k := s + 1) (by omega)
                | exact okH_at (k := s) (by omega) (by unfold okAtH; rw [hno, hat]; grind)
              exact ⟨by rw [hbad]; rfl, hs.keep⟩
            ·
              refine o1 rfl (det_move rfl) rfl rfl ⟨_, rfl, rfl⟩ ?_
              refine o1 rfl (det_gtr rfl rfl) rfl rfl ⟨_, rfl, rfl⟩ ?_
              refine o1 rfl (det_pickF rfl rfl) rfl rfl trivial ?_
              refine be rfl ?_
              refine k_then ?_
              refine t_condP decide_eq_true_iff rfl (fun hb => ?_) (fun hb => ?_)
              ·
                have hbad : okH hs0 = false := by
                  first
                  | exact okH_rest (k := s + 1) (by omega)
                  | exact okH_at (k := s) (by omega) (by unfold okAtH; rw [hno, hat]; grind)
                refine t_seq ?_
                refine b0 ?_
                refine o1 rfl (det_assign rfl) rfl rfl trivial ?_
                refine be rfl ?_
                refine k_then ?_
                refine t_ret (k_blkR (k_thenR (k_thenR (k_blkR (k_thenR (?_))))))
                refine ret_tmp rfl rfl rfl (fun w1 hs => ?_)
                have hbad : okH hs0 = false := by
                  first
                  | exact okH_rest (k := s + 1) (by omega)
                  | exact okH_at (k := s) (by omega) (by unfold okAtH; rw [hno, hat]; grind)
                exact ⟨by rw [hbad]; rfl, hs.keep⟩
              ·
                have hok : okAtH s (atP hs0 s) = true := by unfold okAtH; rw [hno, hat]; grind
                refine t_skip ?_
                refine k_blk ?_
                refine k_then ?_
                refine b0 ?_
                first | (refine o1 rfl (det_addI rfl rfl ?_) rfl rfl trivial ?_; (· omega)) | refine o1 rfl (det_add rfl rfl) rfl rfl trivial ?_
                refine o1 rfl (det_move rfl) rfl rfl trivial ?_
                refine be rfl ?_
                refine k_then ?_
                refine loop_back (s + 1) ⟨by omega, fun k hk => by
                    by_cases e : k = s
                    · subst e; exact hok
                    · exact hI k (by omega), by omega⟩ (by omega) ⟨(by rw [hrk]; rfl), rfl, rfl, rfl, trivial⟩ (.cons _ (.refl _))
    ·
      have hs8 : s = 8 := by have := hP.len; omega
      refine t_exit ?_
      refine k_thenE ?_
      refine k_thenE ?_
      refine k_blkE ?_
      refine k_then ?_
      refine t_seq ?_
      refine b0 ?_
      refine o1 rfl (det_assign rfl) rfl rfl trivial ?_
      refine be rfl ?_
      refine k_then ?_
      refine t_ret ?_
      refine ret_tmp rfl rfl rfl (fun w1 hs => ?_)
      exact ⟨by rw [okH_true h8 (fun k hk => hI k (by omega)) (by rw [← hs8]; exact hr1)]; rfl, hs.keep⟩

end Go.Proofs.Cp
