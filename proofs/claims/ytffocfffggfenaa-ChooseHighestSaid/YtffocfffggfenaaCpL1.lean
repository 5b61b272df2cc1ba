/-
  Walks through layers 36, 37 and 38 and their references.
-/
import Derived.Test.YtffocfffggfenaaCpC16
import Derived.Test.YtffocfffggfenaaChPlain10
namespace Go.Proofs.Cp
open Go Go.Eng Go.Gt Go.Proofs.Gt Go.Sw Go.Qu Go.Ch
set_option maxRecDepth 4000

theorem rstart_at {w : World} {F : Know} (hF : ∀ a v, F a = some v → w.cell? a = some v) {l : Ln} (hl : LnK F l) {A : Option Addr} {n c : Nat} {hs0 : List Pt} (hP : PK F A n hs0) (hL : okL l = true) (hH : okH hs0 = true) {t x : Int} (ht : 0 ≤ t ∧ t ≤ 549755813888) (e : (startL l hs0 t).getD (-1) = x) : Pure Try.prog 25 [.agg (lnv l).toArray, .slice A n c, .int .i64 t] w (.int .i64 x) := by rw [← e]; exact rstart_ok hF hl hP hL hH (by omega)
theorem rwhen_at {w : World} {F : Know} (hF : ∀ a v, F a = some v → w.cell? a = some v) {l : Ln} (hl : LnK F l) {A : Option Addr} {n c : Nat} {hs0 : List Pt} (hP : PK F A n hs0) (hL : okL l = true) (hH : okH hs0 = true) {t x y : Int} {b : Bool} (ht : 0 ≤ t ∧ t ≤ 549755813888) (e : orE (whenL l hs0 t) = (x, y)) (e2 : (whenL l hs0 t).isSome = b) : Pure Try.prog 27 [.agg (lnv l).toArray, .slice A n c, .int .i64 t] w (.tuple [.int .i64 x, .bool b].toArray) := by
  have h := rwhen_ok hF hl hP hL hH ht (c := c)
  rw [e, e2] at h
  exact h
theorem want_at {w : World} {F : Know} (hF : ∀ a v, F a = some v → w.cell? a = some v) {l : Ln} (hl : LnK F l) {A : Option Addr} {n c : Nat} {hs0 : List Pt} (hP : PK F A n hs0) {t x : Int} (e : errC l hs0 t = x) : Pure Try.prog 23 [.agg (lnv l).toArray, .slice A n c, .int .i64 t] w (.int .i64 x) := by rw [← e]; exact want_ok hF hl hP
/-- ChooseStarts. -/
theorem starts_ok {w : World} {F : Know} (hF : ∀ a v, F a = some v → w.cell? a = some v) {l : Ln} (hl : LnK F l) {A : Option Addr} {n c : Nat} {hs0 : List Pt} (hP : PK F A n hs0) (hnc : n ≤ c) (hcm : c ≤ maxLen) (hec : l.g.n ≤ l.g.cap) {cl t : Int} : Pure Try.prog 3 [.agg (lnv l).toArray, .slice A n c, .int .i64 cl, .int .i64 t] w (.bool true) := by
  refine fn_pure (F := F) Try.func3 rfl Try.ntmps3 rfl hF ?_
  refine t_seq ?_
  refine b0 ?_
  refine om1 rfl (new_boxN rfl) rfl rfl trivial (fun p4 => ?_)
  refine o1 rfl (det_assign rfl) rfl rfl trivial ?_
  refine be rfl ?_
  refine k_then ?_
  refine t_seq ?_
  refine t_seq ?_
  refine b0 ?_
  refine o1 rfl (det_call hb15 rfl rfl (fun w1 hs => wakes_ok hs.know)) rfl rfl trivial ?_
  refine o1 rfl (det_not rfl) rfl rfl trivial ?_
  refine be rfl ?_
  refine k_then ?_
  refine t_condP not_iff_false rfl (fun hb => ?_) (fun hb => ?_)
  · exfalso; simp at hb
  refine t_skip ?_
  refine k_then ?_
  refine t_seq ?_
  refine b0 ?_
  refine o1 rfl (det_loadN tN26 rfl rfl (.head _) rfl) rfl rfl trivial ?_
  refine o1 rfl (det_move rfl) rfl rfl trivial ?_
  refine oF nofun rfl hb16 rfl rfl rfl trivial (fun w1 hs => few_ok hs.know hl hP hnc hcm hec) (fun v1 F1 hF1 hN1 ⟨A2, m2, c2, hv1, hl1, hP1, hn1, hm1⟩ => ?_)
  subst hv1
  have hb1 : m2 ≤ 100000 := by have h := hP1.len; rw [List.length_take] at h; omega
  obtain ⟨l1, hle⟩ : ∃ l1, fewL l = l1 := ⟨_, rfl⟩
  rw [hle] at hl1 ⊢
  obtain ⟨h1, hhe⟩ : ∃ h1, hs0.take 12 = h1 := ⟨_, rfl⟩
  rw [hhe] at hP1
  refine o1 rfl (det_move rfl) rfl rfl trivial ?_
  refine o1 rfl (det_extract rfl rfl) rfl rfl trivial ?_
  refine o1 rfl (det_extract rfl rfl) rfl rfl trivial ?_
  refine stN nofun rfl tN26 rfl rfl rfl .head rfl trivial rfl rfl ?_
  refine o1 rfl (det_assign rfl) rfl rfl trivial ?_
  refine be rfl ?_
  refine k_then ?_
  refine t_seq ?_
  refine t_seq ?_
  refine b0 ?_
  refine o1 rfl (det_loadN tN26 rfl rfl (.head _) rfl) rfl rfl trivial ?_
  obtain ⟨x1, hx1⟩ : ∃ x : Int, (if okL l1 then (0 : Int) else 471) = x := ⟨_, rfl⟩
  refine o1 rfl (det_call hb17 rfl rfl (fun w1 hs => cline_at hs.know hl1 (x := x1) hx1)) rfl rfl trivial ?_
  refine o1 rfl (det_assign rfl) rfl rfl trivial ?_
  refine be rfl ?_
  refine k_then ?_
  refine t_seq ?_
  refine b0 ?_
  refine o1 rfl (det_loadN tN26 rfl rfl (.head _) rfl) rfl rfl trivial ?_
  refine o1 rfl (det_call hb18 rfl rfl (fun w1 hs => rline_ok hs.know hl1)) rfl rfl trivial ?_
  refine o1 rfl (det_move rfl) rfl rfl trivial ?_
  refine o1 rfl (det_eql rfl rfl) rfl rfl trivial ?_
  refine o1 rfl (det_neqB Try.underlying4 rfl rfl) rfl rfl trivial ?_
  refine o2P Iff.rfl rfl (det_move rfl) rfl rfl trivial (fun hb => ?_) (fun hb => ?_)
  · exfalso; grind
  refine o1 rfl (det_move rfl) rfl rfl ⟨_, rfl, rfl⟩ ?_
  refine o1 rfl (det_neq rfl rfl) rfl rfl ⟨_, rfl, rfl⟩ ?_
  refine o2P bne_iff_ne rfl (det_move rfl) rfl rfl ⟨_, rfl, rfl⟩ (fun hb => ?_) (fun hb => ?_)
  ·
    skip
    refine o1 rfl (det_move rfl) rfl rfl ⟨_, rfl, rfl⟩ ?_
    refine o1 rfl (det_neq rfl rfl) rfl rfl ⟨_, rfl, rfl⟩ ?_
    refine o1 rfl (det_pickT rfl rfl) rfl rfl ⟨_, rfl, rfl⟩ ?_
    refine o1 rfl (det_pickF rfl rfl) rfl rfl trivial ?_
    refine be rfl ?_
    refine k_then ?_
    refine t_condP bne_iff_ne rfl (fun hb => ?_) (fun hb => ?_)
    · exfalso; grind
    refine t_skip ?_
    refine k_then ?_
    refine t_seq ?_
    refine t_seq ?_
    refine b0 ?_
    refine o1 rfl (det_move rfl) rfl rfl trivial ?_
    obtain ⟨x2, hx2⟩ : ∃ x : Int, (if okH h1 then (0 : Int) else 470) = x := ⟨_, rfl⟩
    refine o1 rfl (det_call hb19 rfl rfl (fun w1 hs => cheads_at hs.know hP1 hb1 (x := x2) hx2)) rfl rfl trivial ?_
    refine o1 rfl (det_assign rfl) rfl rfl trivial ?_
    refine be rfl ?_
    refine k_then ?_
    refine t_seq ?_
    refine b0 ?_
    refine o1 rfl (det_move rfl) rfl rfl trivial ?_
    refine o1 rfl (det_call hb20 rfl rfl (fun w1 hs => rheads_ok hs.know hP1)) rfl rfl trivial ?_
    refine o1 rfl (det_move rfl) rfl rfl trivial ?_
    refine o1 rfl (det_eql rfl rfl) rfl rfl trivial ?_
    refine o1 rfl (det_neqB Try.underlying4 rfl rfl) rfl rfl trivial ?_
    refine o2P Iff.rfl rfl (det_move rfl) rfl rfl trivial (fun hb => ?_) (fun hb => ?_)
    · exfalso; grind
    refine o1 rfl (det_move rfl) rfl rfl ⟨_, rfl, rfl⟩ ?_
    refine o1 rfl (det_neq rfl rfl) rfl rfl ⟨_, rfl, rfl⟩ ?_
    refine o2P bne_iff_ne rfl (det_move rfl) rfl rfl ⟨_, rfl, rfl⟩ (fun hb => ?_) (fun hb => ?_)
    ·
      skip
      refine o1 rfl (det_move rfl) rfl rfl ⟨_, rfl, rfl⟩ ?_
      refine o1 rfl (det_neq rfl rfl) rfl rfl ⟨_, rfl, rfl⟩ ?_
      refine o1 rfl (det_pickT rfl rfl) rfl rfl ⟨_, rfl, rfl⟩ ?_
      refine o1 rfl (det_pickF rfl rfl) rfl rfl trivial ?_
      refine be rfl ?_
      refine k_then ?_
      refine t_condP bne_iff_ne rfl (fun hb => ?_) (fun hb => ?_)
      · exfalso; grind
      refine t_skip ?_
      refine k_then ?_
      refine t_seq ?_
      refine b0 ?_
      refine o1 rfl (det_loadN tN26 rfl rfl (.head _) rfl) rfl rfl trivial ?_
      refine o1 rfl (det_move rfl) rfl rfl trivial ?_
      refine o1 rfl (det_move rfl) rfl rfl trivial ?_
      refine o1 rfl (det_move rfl) rfl rfl trivial ?_
      obtain ⟨b1, e1, hma⟩ : ∃ b e, mayA l1 h1 cl t = (b, e) := ⟨_, _, rfl⟩
      refine o1 rfl (det_call hb21 rfl rfl (fun w1 hs => may_at hs.know hl1 hP1 hb1 hma)) rfl rfl trivial ?_
      refine o1 rfl (det_move rfl) rfl rfl trivial ?_
      refine o1 rfl (det_extract rfl rfl) rfl rfl trivial ?_
      refine o1 rfl (det_extract rfl rfl) rfl rfl trivial ?_
      refine o1 rfl (det_assign rfl) rfl rfl trivial ?_
      refine o1 rfl (det_assign rfl) rfl rfl trivial ?_
      refine be rfl ?_
      refine k_then ?_
      refine t_seq ?_
      refine b0 ?_
      refine o1 rfl (det_loadN tN26 rfl rfl (.head _) rfl) rfl rfl trivial ?_
      refine o1 rfl (det_move rfl) rfl rfl trivial ?_
      refine o1 rfl (det_move rfl) rfl rfl trivial ?_
      obtain ⟨s1, f1, hst⟩ : ∃ s f, startA l1 h1 t = (s, f) := ⟨_, _, rfl⟩
      refine o1 rfl (det_call hb22 rfl rfl (fun w1 hs => start_at hs.know hl1 hP1 hb1 hst)) rfl rfl trivial ?_
      refine o1 rfl (det_move rfl) rfl rfl trivial ?_
      refine o1 rfl (det_extract rfl rfl) rfl rfl trivial ?_
      refine o1 rfl (det_extract rfl rfl) rfl rfl trivial ?_
      refine o1 rfl (det_assign rfl) rfl rfl trivial ?_
      refine o1 rfl (det_assign rfl) rfl rfl trivial ?_
      refine be rfl ?_
      refine k_then ?_
      refine t_seq ?_
      refine t_seq ?_
      refine b0 ?_
      refine o1 rfl (det_loadN tN26 rfl rfl (.head _) rfl) rfl rfl trivial ?_
      refine o1 rfl (det_move rfl) rfl rfl trivial ?_
      refine o1 rfl (det_move rfl) rfl rfl trivial ?_
      obtain ⟨z, hz⟩ : ∃ z, errC l1 h1 t = z := ⟨_, rfl⟩
      refine o1 rfl (det_call hb23 rfl rfl (fun w1 hs => want_at hs.know hl1 hP1 hz)) rfl rfl trivial ?_
      refine o1 rfl (det_assign rfl) rfl rfl trivial ?_
      refine be rfl ?_
      refine k_then ?_
      refine t_seq ?_
      refine b0 ?_
      refine o1 rfl (det_move rfl) rfl rfl trivial ?_
      refine o1 rfl (det_neq rfl rfl) rfl rfl trivial ?_
      refine be rfl ?_
      refine k_then ?_
      refine t_condP bne_iff_ne rfl (fun hb => ?_) (fun hb => ?_)
      ·
        have hz0 : errC l1 h1 t ≠ 0 := by rw [hz]; exact hb
        rw [mayA_err hz0, hz] at hma
        cases hma
        rw [startA_err hz0, hz] at hst
        cases hst
        refine t_seq ?_
        refine b0 ?_
        refine o1 rfl (det_move rfl) rfl rfl trivial ?_
        refine o1 rfl (det_not rfl) rfl rfl trivial ?_
        refine o2P not_iff_false rfl (det_move rfl) rfl rfl trivial (fun hb => ?_) (fun hb => ?_)
        rotate_left
        · exfalso; first | exact hb rfl | (simp at hb; done) | (revert hb; decide)
        refine o1 rfl (det_move rfl) rfl rfl ⟨_, rfl, rfl⟩ ?_
        refine o1 rfl (det_move rfl) rfl rfl ⟨_, rfl, rfl⟩ ?_
        refine o1 rfl (det_eql rfl rfl) rfl rfl ⟨_, rfl, rfl⟩ ?_
        refine o1 rfl (det_pickT rfl rfl) rfl rfl trivial ?_
        refine o2P beq_iff_eq rfl (det_move rfl) rfl rfl trivial (fun hb => ?_) (fun hb => ?_)
        rotate_left
        · exfalso; first | exact hb rfl | (simp at hb; done) | (revert hb; decide)
        refine o1 rfl (det_move rfl) rfl rfl ⟨_, rfl, rfl⟩ ?_
        refine o1 rfl (det_eql rfl rfl) rfl rfl ⟨_, rfl, rfl⟩ ?_
        refine o1 rfl (det_pickT rfl rfl) rfl rfl trivial ?_
        refine o2P beq_iff_eq rfl (det_move rfl) rfl rfl trivial (fun hb => ?_) (fun hb => ?_)
        rotate_left
        · exfalso; first | exact hb rfl | (simp at hb; done) | (revert hb; decide)
        refine o1 rfl (det_move rfl) rfl rfl ⟨_, rfl, rfl⟩ ?_
        refine o1 rfl (det_move rfl) rfl rfl ⟨_, rfl, rfl⟩ ?_
        refine o1 rfl (det_eql rfl rfl) rfl rfl ⟨_, rfl, rfl⟩ ?_
        refine o1 rfl (det_pickT rfl rfl) rfl rfl trivial ?_
        refine o1 rfl (det_assign rfl) rfl rfl trivial ?_
        refine be rfl ?_
        refine k_then ?_
        refine t_ret (k_thenR (?_))
        refine ret_tmp rfl rfl rfl (fun w1 hs => ?_)
        exact ⟨by simp, hs.keep⟩
      ·
        have hz0 : errC l1 h1 t = 0 := by rw [hz]; simpa using hb
        obtain ⟨hL, hH, ht⟩ := errC_zero hz0
        refine t_skip ?_
        refine k_then ?_
        refine t_seq ?_
        refine t_seq ?_
        refine b0 ?_
        refine o1 rfl (det_move rfl) rfl rfl trivial ?_
        refine o1 rfl (det_lss rfl rfl) rfl rfl trivial ?_
        refine o2P decide_eq_true_iff rfl (det_move rfl) rfl rfl trivial (fun hb => ?_) (fun hb => ?_)
        ·
          have hcl : ¬ (0 ≤ cl ∧ cl ≤ 7) := by omega
          rw [mayA_out hz0 hcl] at hma
          cases hma
          refine on rfl rfl rfl ⟨_, rfl, .inl rfl⟩ ?_
          refine on rfl rfl rfl ⟨_, rfl, .inl rfl⟩ ?_
          refine o1 rfl (det_pickT rfl rfl) rfl rfl trivial ?_
          refine be rfl ?_
          refine k_then ?_
          refine t_condT rfl ?_
          refine t_seq ?_
          refine b0 ?_
          refine o1 rfl (det_move rfl) rfl rfl trivial ?_
          refine o2P Iff.rfl rfl (det_move rfl) rfl rfl trivial (fun hb => ?_) (fun hb => ?_)
          · exfalso; first | exact hb rfl | (simp at hb; done) | (revert hb; decide)
          refine o1 rfl (det_move rfl) rfl rfl ⟨_, rfl, rfl⟩ ?_
          refine o1 rfl (det_neq rfl rfl) rfl rfl ⟨_, rfl, rfl⟩ ?_
          refine o1 rfl (det_pickF rfl rfl) rfl rfl trivial ?_
          refine be rfl ?_
          refine k_then ?_
          refine t_condP bne_iff_ne rfl (fun hb => ?_) (fun hb => ?_)
          · exfalso; first | exact hb rfl | (simp at hb; done) | (revert hb; decide)
          refine t_skip ?_
          refine k_then ?_
          refine t_seq ?_
          refine t_seq ?_
          refine b0 ?_
          refine o1 rfl (det_loadN tN26 rfl rfl (.head _) rfl) rfl rfl trivial ?_
          refine o1 rfl (det_move rfl) rfl rfl trivial ?_
          refine o1 rfl (det_move rfl) rfl rfl trivial ?_
          obtain ⟨x3, hx3⟩ : ∃ x : Int, (startL l1 h1 t).getD (-1) = x := ⟨_, rfl⟩
          refine o1 rfl (det_call hb25 rfl rfl (fun w1 hs => rstart_at hs.know hl1 hP1 hL hH ht hx3)) rfl rfl trivial ?_
          refine o1 rfl (det_assign rfl) rfl rfl trivial ?_
          refine be rfl ?_
          refine k_then ?_
          refine t_seq ?_
          refine b0 ?_
          refine o1 rfl (det_move rfl) rfl rfl trivial ?_
          refine o1 rfl (det_geq rfl rfl) rfl rfl trivial ?_
          refine be rfl ?_
          refine k_then ?_
          refine t_condP decide_eq_true_iff rfl (fun hb => ?_) (fun hb => ?_)
          ·
            have hsl := start_get hx3 hb
            rw [startA_ok hz0, hsl] at hst
            cases hst
            refine t_seq ?_
            refine b0 ?_
            refine o1 rfl (det_move rfl) rfl rfl trivial ?_
            refine o1 rfl (det_move rfl) rfl rfl trivial ?_
            refine o1 rfl (det_eql rfl rfl) rfl rfl trivial ?_
            refine o2P beq_iff_eq rfl (det_move rfl) rfl rfl trivial (fun hb => ?_) (fun hb => ?_)
            rotate_left
            · exfalso; first | exact hb rfl | (simp at hb; done) | (revert hb; decide)
            refine o1 rfl (det_move rfl) rfl rfl ⟨_, rfl, rfl⟩ ?_
            refine o1 rfl (det_eql rfl rfl) rfl rfl ⟨_, rfl, rfl⟩ ?_
            refine o1 rfl (det_pickT rfl rfl) rfl rfl trivial ?_
            refine o1 rfl (det_assign rfl) rfl rfl trivial ?_
            refine be rfl ?_
            refine k_then ?_
            refine t_ret (k_thenR (?_))
            refine ret_tmp rfl rfl rfl (fun w1 hs => ?_)
            exact ⟨by simp, hs.keep⟩
          ·
            have hsl := start_not hx3 hb
            rw [startA_ok hz0, hsl] at hst
            cases hst
            refine t_skip ?_
            refine k_then ?_
            refine t_seq ?_
            refine b0 ?_
            refine o1 rfl (det_move rfl) rfl rfl trivial ?_
            refine o1 rfl (det_eql rfl rfl) rfl rfl trivial ?_
            refine o2P beq_iff_eq rfl (det_move rfl) rfl rfl trivial (fun hb => ?_) (fun hb => ?_)
            rotate_left
            · exfalso; first | exact hb rfl | (simp at hb; done) | (revert hb; decide)
            refine o1 rfl (det_move rfl) rfl rfl ⟨_, rfl, rfl⟩ ?_
            refine o1 rfl (det_eql rfl rfl) rfl rfl ⟨_, rfl, rfl⟩ ?_
            refine o1 rfl (det_pickT rfl rfl) rfl rfl trivial ?_
            refine o1 rfl (det_assign rfl) rfl rfl trivial ?_
            refine be rfl ?_
            refine k_then ?_
            refine t_ret ?_
            refine ret_tmp rfl rfl rfl (fun w1 hs => ?_)
            exact ⟨by simp, hs.keep⟩
        ·
          skip
          refine o1 rfl (det_move rfl) rfl rfl ⟨_, rfl, rfl⟩ ?_
          refine o1 rfl (det_gtr rfl rfl) rfl rfl ⟨_, rfl, rfl⟩ ?_
          refine o1 rfl (det_pickF rfl rfl) rfl rfl trivial ?_
          refine be rfl ?_
          refine k_then ?_
          refine t_condP decide_eq_true_iff rfl (fun hb => ?_) (fun hb => ?_)
          ·
            have hcl : ¬ (0 ≤ cl ∧ cl ≤ 7) := by omega
            rw [mayA_out hz0 hcl] at hma
            cases hma
            refine t_seq ?_
            refine b0 ?_
            refine o1 rfl (det_move rfl) rfl rfl trivial ?_
            refine o2P Iff.rfl rfl (det_move rfl) rfl rfl trivial (fun hb => ?_) (fun hb => ?_)
            · exfalso; first | exact hb rfl | (simp at hb; done) | (revert hb; decide)
            refine o1 rfl (det_move rfl) rfl rfl ⟨_, rfl, rfl⟩ ?_
            refine o1 rfl (det_neq rfl rfl) rfl rfl ⟨_, rfl, rfl⟩ ?_
            refine o1 rfl (det_pickF rfl rfl) rfl rfl trivial ?_
            refine be rfl ?_
            refine k_then ?_
            refine t_condP bne_iff_ne rfl (fun hb => ?_) (fun hb => ?_)
            · exfalso; first | exact hb rfl | (simp at hb; done) | (revert hb; decide)
            refine t_skip ?_
            refine k_then ?_
            refine t_seq ?_
            refine t_seq ?_
            refine b0 ?_
            refine o1 rfl (det_loadN tN26 rfl rfl (.head _) rfl) rfl rfl trivial ?_
            refine o1 rfl (det_move rfl) rfl rfl trivial ?_
            refine o1 rfl (det_move rfl) rfl rfl trivial ?_
            obtain ⟨x3, hx3⟩ : ∃ x : Int, (startL l1 h1 t).getD (-1) = x := ⟨_, rfl⟩
            refine o1 rfl (det_call hb25 rfl rfl (fun w1 hs => rstart_at hs.know hl1 hP1 hL hH ht hx3)) rfl rfl trivial ?_
            refine o1 rfl (det_assign rfl) rfl rfl trivial ?_
            refine be rfl ?_
            refine k_then ?_
            refine t_seq ?_
            refine b0 ?_
            refine o1 rfl (det_move rfl) rfl rfl trivial ?_
            refine o1 rfl (det_geq rfl rfl) rfl rfl trivial ?_
            refine be rfl ?_
            refine k_then ?_
            refine t_condP decide_eq_true_iff rfl (fun hb => ?_) (fun hb => ?_)
            ·
              have hsl := start_get hx3 hb
              rw [startA_ok hz0, hsl] at hst
              cases hst
              refine t_seq ?_
              refine b0 ?_
              refine o1 rfl (det_move rfl) rfl rfl trivial ?_
              refine o1 rfl (det_move rfl) rfl rfl trivial ?_
              refine o1 rfl (det_eql rfl rfl) rfl rfl trivial ?_
              refine o2P beq_iff_eq rfl (det_move rfl) rfl rfl trivial (fun hb => ?_) (fun hb => ?_)
              rotate_left
              · exfalso; first | exact hb rfl | (simp at hb; done) | (revert hb; decide)
              refine o1 rfl (det_move rfl) rfl rfl ⟨_, rfl, rfl⟩ ?_
              refine o1 rfl (det_eql rfl rfl) rfl rfl ⟨_, rfl, rfl⟩ ?_
              refine o1 rfl (det_pickT rfl rfl) rfl rfl trivial ?_
              refine o1 rfl (det_assign rfl) rfl rfl trivial ?_
              refine be rfl ?_
              refine k_then ?_
              refine t_ret (k_thenR (?_))
              refine ret_tmp rfl rfl rfl (fun w1 hs => ?_)
              exact ⟨by simp, hs.keep⟩
            ·
              have hsl := start_not hx3 hb
              rw [startA_ok hz0, hsl] at hst
              cases hst
              refine t_skip ?_
              refine k_then ?_
              refine t_seq ?_
              refine b0 ?_
              refine o1 rfl (det_move rfl) rfl rfl trivial ?_
              refine o1 rfl (det_eql rfl rfl) rfl rfl trivial ?_
              refine o2P beq_iff_eq rfl (det_move rfl) rfl rfl trivial (fun hb => ?_) (fun hb => ?_)
              rotate_left
              · exfalso; first | exact hb rfl | (simp at hb; done) | (revert hb; decide)
              refine o1 rfl (det_move rfl) rfl rfl ⟨_, rfl, rfl⟩ ?_
              refine o1 rfl (det_eql rfl rfl) rfl rfl ⟨_, rfl, rfl⟩ ?_
              refine o1 rfl (det_pickT rfl rfl) rfl rfl trivial ?_
              refine o1 rfl (det_assign rfl) rfl rfl trivial ?_
              refine be rfl ?_
              refine k_then ?_
              refine t_ret ?_
              refine ret_tmp rfl rfl rfl (fun w1 hs => ?_)
              exact ⟨by simp, hs.keep⟩
          ·
            have hcl : 0 ≤ cl ∧ cl ≤ 7 := by omega
            rw [mayA_in hz0 hcl] at hma
            cases hma
            refine t_seq ?_
            refine b0 ?_
            refine o1 rfl (det_move rfl) rfl rfl trivial ?_
            refine o1 rfl (det_loadN tN26 rfl rfl (.head _) rfl) rfl rfl trivial ?_
            refine o1 rfl (det_move rfl) rfl rfl trivial ?_
            refine o1 rfl (det_move rfl) rfl rfl trivial ?_
            refine o1 rfl (det_move rfl) rfl rfl trivial ?_
            refine o1 rfl (det_call hb24 rfl rfl (fun w1 hs => rmay_ok hs.know hl1 hP1 hL hH hcl (by omega))) rfl rfl trivial ?_
            refine o1 rfl (det_neqB Try.underlying4 rfl rfl) rfl rfl trivial ?_
            refine o2P Iff.rfl rfl (det_move rfl) rfl rfl trivial (fun hb => ?_) (fun hb => ?_)
            · exfalso; first | exact hb rfl | (simp at hb; done) | (revert hb; decide)
            refine o1 rfl (det_move rfl) rfl rfl ⟨_, rfl, rfl⟩ ?_
            refine o1 rfl (det_neq rfl rfl) rfl rfl ⟨_, rfl, rfl⟩ ?_
            refine o1 rfl (det_pickF rfl rfl) rfl rfl trivial ?_
            refine be rfl ?_
            refine k_then ?_
            refine t_condP bne_iff_ne rfl (fun hb => ?_) (fun hb => ?_)
            · exfalso; first | exact hb rfl | (simp at hb; done) | (revert hb; decide)
            refine t_skip ?_
            refine k_then ?_
            refine t_seq ?_
            refine t_seq ?_
            refine b0 ?_
            refine o1 rfl (det_loadN tN26 rfl rfl (.head _) rfl) rfl rfl trivial ?_
            refine o1 rfl (det_move rfl) rfl rfl trivial ?_
            refine o1 rfl (det_move rfl) rfl rfl trivial ?_
            obtain ⟨x3, hx3⟩ : ∃ x : Int, (startL l1 h1 t).getD (-1) = x := ⟨_, rfl⟩
            refine o1 rfl (det_call hb25 rfl rfl (fun w1 hs => rstart_at hs.know hl1 hP1 hL hH ht hx3)) rfl rfl trivial ?_
            refine o1 rfl (det_assign rfl) rfl rfl trivial ?_
            refine be rfl ?_
            refine k_then ?_
            refine t_seq ?_
            refine b0 ?_
            refine o1 rfl (det_move rfl) rfl rfl trivial ?_
            refine o1 rfl (det_geq rfl rfl) rfl rfl trivial ?_
            refine be rfl ?_
            refine k_then ?_
            refine t_condP decide_eq_true_iff rfl (fun hb => ?_) (fun hb => ?_)
            ·
              have hsl := start_get hx3 hb
              rw [startA_ok hz0, hsl] at hst
              cases hst
              refine t_seq ?_
              refine b0 ?_
              refine o1 rfl (det_move rfl) rfl rfl trivial ?_
              refine o1 rfl (det_move rfl) rfl rfl trivial ?_
              refine o1 rfl (det_eql rfl rfl) rfl rfl trivial ?_
              refine o2P beq_iff_eq rfl (det_move rfl) rfl rfl trivial (fun hb => ?_) (fun hb => ?_)
              rotate_left
              · exfalso; first | exact hb rfl | (simp at hb; done) | (revert hb; decide)
              refine o1 rfl (det_move rfl) rfl rfl ⟨_, rfl, rfl⟩ ?_
              refine o1 rfl (det_eql rfl rfl) rfl rfl ⟨_, rfl, rfl⟩ ?_
              refine o1 rfl (det_pickT rfl rfl) rfl rfl trivial ?_
              refine o1 rfl (det_assign rfl) rfl rfl trivial ?_
              refine be rfl ?_
              refine k_then ?_
              refine t_ret (k_thenR (?_))
              refine ret_tmp rfl rfl rfl (fun w1 hs => ?_)
              exact ⟨by simp, hs.keep⟩
            ·
              have hsl := start_not hx3 hb
              rw [startA_ok hz0, hsl] at hst
              cases hst
              refine t_skip ?_
              refine k_then ?_
              refine t_seq ?_
              refine b0 ?_
              refine o1 rfl (det_move rfl) rfl rfl trivial ?_
              refine o1 rfl (det_eql rfl rfl) rfl rfl trivial ?_
              refine o2P beq_iff_eq rfl (det_move rfl) rfl rfl trivial (fun hb => ?_) (fun hb => ?_)
              rotate_left
              · exfalso; first | exact hb rfl | (simp at hb; done) | (revert hb; decide)
              refine o1 rfl (det_move rfl) rfl rfl ⟨_, rfl, rfl⟩ ?_
              refine o1 rfl (det_eql rfl rfl) rfl rfl ⟨_, rfl, rfl⟩ ?_
              refine o1 rfl (det_pickT rfl rfl) rfl rfl trivial ?_
              refine o1 rfl (det_assign rfl) rfl rfl trivial ?_
              refine be rfl ?_
              refine k_then ?_
              refine t_ret ?_
              refine ret_tmp rfl rfl rfl (fun w1 hs => ?_)
              exact ⟨by simp, hs.keep⟩
    ·
      skip
      refine on rfl rfl rfl ⟨_, rfl, .inl rfl⟩ ?_
      refine on rfl rfl rfl ⟨_, rfl, .inl rfl⟩ ?_
      refine o1 rfl (det_pickF rfl rfl) rfl rfl ⟨_, rfl, rfl⟩ ?_
      refine o1 rfl (det_pickF rfl rfl) rfl rfl trivial ?_
      refine be rfl ?_
      refine k_then ?_
      refine t_condF rfl ?_
      refine t_skip ?_
      refine k_then ?_
      refine t_seq ?_
      refine b0 ?_
      refine o1 rfl (det_loadN tN26 rfl rfl (.head _) rfl) rfl rfl trivial ?_
      refine o1 rfl (det_move rfl) rfl rfl trivial ?_
      refine o1 rfl (det_move rfl) rfl rfl trivial ?_
      refine o1 rfl (det_move rfl) rfl rfl trivial ?_
      obtain ⟨b1, e1, hma⟩ : ∃ b e, mayA l1 h1 cl t = (b, e) := ⟨_, _, rfl⟩
      refine o1 rfl (det_call hb21 rfl rfl (fun w1 hs => may_at hs.know hl1 hP1 hb1 hma)) rfl rfl trivial ?_
      refine o1 rfl (det_move rfl) rfl rfl trivial ?_
      refine o1 rfl (det_extract rfl rfl) rfl rfl trivial ?_
      refine o1 rfl (det_extract rfl rfl) rfl rfl trivial ?_
      refine o1 rfl (det_assign rfl) rfl rfl trivial ?_
      refine o1 rfl (det_assign rfl) rfl rfl trivial ?_
      refine be rfl ?_
      refine k_then ?_
      refine t_seq ?_
      refine b0 ?_
      refine o1 rfl (det_loadN tN26 rfl rfl (.head _) rfl) rfl rfl trivial ?_
      refine o1 rfl (det_move rfl) rfl rfl trivial ?_
      refine o1 rfl (det_move rfl) rfl rfl trivial ?_
      obtain ⟨s1, f1, hst⟩ : ∃ s f, startA l1 h1 t = (s, f) := ⟨_, _, rfl⟩
      refine o1 rfl (det_call hb22 rfl rfl (fun w1 hs => start_at hs.know hl1 hP1 hb1 hst)) rfl rfl trivial ?_
      refine o1 rfl (det_move rfl) rfl rfl trivial ?_
      refine o1 rfl (det_extract rfl rfl) rfl rfl trivial ?_
      refine o1 rfl (det_extract rfl rfl) rfl rfl trivial ?_
      refine o1 rfl (det_assign rfl) rfl rfl trivial ?_
      refine o1 rfl (det_assign rfl) rfl rfl trivial ?_
      refine be rfl ?_
      refine k_then ?_
      refine t_seq ?_
      refine t_seq ?_
      refine b0 ?_
      refine o1 rfl (det_loadN tN26 rfl rfl (.head _) rfl) rfl rfl trivial ?_
      refine o1 rfl (det_move rfl) rfl rfl trivial ?_
      refine o1 rfl (det_move rfl) rfl rfl trivial ?_
      obtain ⟨z, hz⟩ : ∃ z, errC l1 h1 t = z := ⟨_, rfl⟩
      refine o1 rfl (det_call hb23 rfl rfl (fun w1 hs => want_at hs.know hl1 hP1 hz)) rfl rfl trivial ?_
      refine o1 rfl (det_assign rfl) rfl rfl trivial ?_
      refine be rfl ?_
      refine k_then ?_
      refine t_seq ?_
      refine b0 ?_
      refine o1 rfl (det_move rfl) rfl rfl trivial ?_
      refine o1 rfl (det_neq rfl rfl) rfl rfl trivial ?_
      refine be rfl ?_
      refine k_then ?_
      refine t_condP bne_iff_ne rfl (fun hb => ?_) (fun hb => ?_)
      ·
        have hz0 : errC l1 h1 t ≠ 0 := by rw [hz]; exact hb
        rw [mayA_err hz0, hz] at hma
        cases hma
        rw [startA_err hz0, hz] at hst
        cases hst
        refine t_seq ?_
        refine b0 ?_
        refine o1 rfl (det_move rfl) rfl rfl trivial ?_
        refine o1 rfl (det_not rfl) rfl rfl trivial ?_
        refine o2P not_iff_false rfl (det_move rfl) rfl rfl trivial (fun hb => ?_) (fun hb => ?_)
        rotate_left
        · exfalso; first | exact hb rfl | (simp at hb; done) | (revert hb; decide)
        refine o1 rfl (det_move rfl) rfl rfl ⟨_, rfl, rfl⟩ ?_
        refine o1 rfl (det_move rfl) rfl rfl ⟨_, rfl, rfl⟩ ?_
        refine o1 rfl (det_eql rfl rfl) rfl rfl ⟨_, rfl, rfl⟩ ?_
        refine o1 rfl (det_pickT rfl rfl) rfl rfl trivial ?_
        refine o2P beq_iff_eq rfl (det_move rfl) rfl rfl trivial (fun hb => ?_) (fun hb => ?_)
        rotate_left
        · exfalso; first | exact hb rfl | (simp at hb; done) | (revert hb; decide)
        refine o1 rfl (det_move rfl) rfl rfl ⟨_, rfl, rfl⟩ ?_
        refine o1 rfl (det_eql rfl rfl) rfl rfl ⟨_, rfl, rfl⟩ ?_
        refine o1 rfl (det_pickT rfl rfl) rfl rfl trivial ?_
        refine o2P beq_iff_eq rfl (det_move rfl) rfl rfl trivial (fun hb => ?_) (fun hb => ?_)
        rotate_left
        · exfalso; first | exact hb rfl | (simp at hb; done) | (revert hb; decide)
        refine o1 rfl (det_move rfl) rfl rfl ⟨_, rfl, rfl⟩ ?_
        refine o1 rfl (det_move rfl) rfl rfl ⟨_, rfl, rfl⟩ ?_
        refine o1 rfl (det_eql rfl rfl) rfl rfl ⟨_, rfl, rfl⟩ ?_
        refine o1 rfl (det_pickT rfl rfl) rfl rfl trivial ?_
        refine o1 rfl (det_assign rfl) rfl rfl trivial ?_
        refine be rfl ?_
        refine k_then ?_
        refine t_ret (k_thenR (?_))
        refine ret_tmp rfl rfl rfl (fun w1 hs => ?_)
        exact ⟨by simp, hs.keep⟩
      ·
        have hz0 : errC l1 h1 t = 0 := by rw [hz]; simpa using hb
        obtain ⟨hL, hH, ht⟩ := errC_zero hz0
        refine t_skip ?_
        refine k_then ?_
        refine t_seq ?_
        refine t_seq ?_
        refine b0 ?_
        refine o1 rfl (det_move rfl) rfl rfl trivial ?_
        refine o1 rfl (det_lss rfl rfl) rfl rfl trivial ?_
        refine o2P decide_eq_true_iff rfl (det_move rfl) rfl rfl trivial (fun hb => ?_) (fun hb => ?_)
        ·
          have hcl : ¬ (0 ≤ cl ∧ cl ≤ 7) := by omega
          rw [mayA_out hz0 hcl] at hma
          cases hma
          refine on rfl rfl rfl ⟨_, rfl, .inl rfl⟩ ?_
          refine on rfl rfl rfl ⟨_, rfl, .inl rfl⟩ ?_
          refine o1 rfl (det_pickT rfl rfl) rfl rfl trivial ?_
          refine be rfl ?_
          refine k_then ?_
          refine t_condT rfl ?_
          refine t_seq ?_
          refine b0 ?_
          refine o1 rfl (det_move rfl) rfl rfl trivial ?_
          refine o2P Iff.rfl rfl (det_move rfl) rfl rfl trivial (fun hb => ?_) (fun hb => ?_)
          · exfalso; first | exact hb rfl | (simp at hb; done) | (revert hb; decide)
          refine o1 rfl (det_move rfl) rfl rfl ⟨_, rfl, rfl⟩ ?_
          refine o1 rfl (det_neq rfl rfl) rfl rfl ⟨_, rfl, rfl⟩ ?_
          refine o1 rfl (det_pickF rfl rfl) rfl rfl trivial ?_
          refine be rfl ?_
          refine k_then ?_
          refine t_condP bne_iff_ne rfl (fun hb => ?_) (fun hb => ?_)
          · exfalso; first | exact hb rfl | (simp at hb; done) | (revert hb; decide)
          refine t_skip ?_
          refine k_then ?_
          refine t_seq ?_
          refine t_seq ?_
          refine b0 ?_
          refine o1 rfl (det_loadN tN26 rfl rfl (.head _) rfl) rfl rfl trivial ?_
          refine o1 rfl (det_move rfl) rfl rfl trivial ?_
          refine o1 rfl (det_move rfl) rfl rfl trivial ?_
          obtain ⟨x3, hx3⟩ : ∃ x : Int, (startL l1 h1 t).getD (-1) = x := ⟨_, rfl⟩
          refine o1 rfl (det_call hb25 rfl rfl (fun w1 hs => rstart_at hs.know hl1 hP1 hL hH ht hx3)) rfl rfl trivial ?_
          refine o1 rfl (det_assign rfl) rfl rfl trivial ?_
          refine be rfl ?_
          refine k_then ?_
          refine t_seq ?_
          refine b0 ?_
          refine o1 rfl (det_move rfl) rfl rfl trivial ?_
          refine o1 rfl (det_geq rfl rfl) rfl rfl trivial ?_
          refine be rfl ?_
          refine k_then ?_
          refine t_condP decide_eq_true_iff rfl (fun hb => ?_) (fun hb => ?_)
          ·
            have hsl := start_get hx3 hb
            rw [startA_ok hz0, hsl] at hst
            cases hst
            refine t_seq ?_
            refine b0 ?_
            refine o1 rfl (det_move rfl) rfl rfl trivial ?_
            refine o1 rfl (det_move rfl) rfl rfl trivial ?_
            refine o1 rfl (det_eql rfl rfl) rfl rfl trivial ?_
            refine o2P beq_iff_eq rfl (det_move rfl) rfl rfl trivial (fun hb => ?_) (fun hb => ?_)
            rotate_left
            · exfalso; first | exact hb rfl | (simp at hb; done) | (revert hb; decide)
            refine o1 rfl (det_move rfl) rfl rfl ⟨_, rfl, rfl⟩ ?_
            refine o1 rfl (det_eql rfl rfl) rfl rfl ⟨_, rfl, rfl⟩ ?_
            refine o1 rfl (det_pickT rfl rfl) rfl rfl trivial ?_
            refine o1 rfl (det_assign rfl) rfl rfl trivial ?_
            refine be rfl ?_
            refine k_then ?_
            refine t_ret (k_thenR (?_))
            refine ret_tmp rfl rfl rfl (fun w1 hs => ?_)
            exact ⟨by simp, hs.keep⟩
          ·
            have hsl := start_not hx3 hb
            rw [startA_ok hz0, hsl] at hst
            cases hst
            refine t_skip ?_
            refine k_then ?_
            refine t_seq ?_
            refine b0 ?_
            refine o1 rfl (det_move rfl) rfl rfl trivial ?_
            refine o1 rfl (det_eql rfl rfl) rfl rfl trivial ?_
            refine o2P beq_iff_eq rfl (det_move rfl) rfl rfl trivial (fun hb => ?_) (fun hb => ?_)
            rotate_left
            · exfalso; first | exact hb rfl | (simp at hb; done) | (revert hb; decide)
            refine o1 rfl (det_move rfl) rfl rfl ⟨_, rfl, rfl⟩ ?_
            refine o1 rfl (det_eql rfl rfl) rfl rfl ⟨_, rfl, rfl⟩ ?_
            refine o1 rfl (det_pickT rfl rfl) rfl rfl trivial ?_
            refine o1 rfl (det_assign rfl) rfl rfl trivial ?_
            refine be rfl ?_
            refine k_then ?_
            refine t_ret ?_
            refine ret_tmp rfl rfl rfl (fun w1 hs => ?_)
            exact ⟨by simp, hs.keep⟩
        ·
          skip
          refine o1 rfl (det_move rfl) rfl rfl ⟨_, rfl, rfl⟩ ?_
          refine o1 rfl (det_gtr rfl rfl) rfl rfl ⟨_, rfl, rfl⟩ ?_
          refine o1 rfl (det_pickF rfl rfl) rfl rfl trivial ?_
          refine be rfl ?_
          refine k_then ?_
          refine t_condP decide_eq_true_iff rfl (fun hb => ?_) (fun hb => ?_)
          ·
            have hcl : ¬ (0 ≤ cl ∧ cl ≤ 7) := by omega
            rw [mayA_out hz0 hcl] at hma
            cases hma
            refine t_seq ?_
            refine b0 ?_
            refine o1 rfl (det_move rfl) rfl rfl trivial ?_
            refine o2P Iff.rfl rfl (det_move rfl) rfl rfl trivial (fun hb => ?_) (fun hb => ?_)
            · exfalso; first | exact hb rfl | (simp at hb; done) | (revert hb; decide)
            refine o1 rfl (det_move rfl) rfl rfl ⟨_, rfl, rfl⟩ ?_
            refine o1 rfl (det_neq rfl rfl) rfl rfl ⟨_, rfl, rfl⟩ ?_
            refine o1 rfl (det_pickF rfl rfl) rfl rfl trivial ?_
            refine be rfl ?_
            refine k_then ?_
            refine t_condP bne_iff_ne rfl (fun hb => ?_) (fun hb => ?_)
            · exfalso; first | exact hb rfl | (simp at hb; done) | (revert hb; decide)
            refine t_skip ?_
            refine k_then ?_
            refine t_seq ?_
            refine t_seq ?_
            refine b0 ?_
            refine o1 rfl (det_loadN tN26 rfl rfl (.head _) rfl) rfl rfl trivial ?_
            refine o1 rfl (det_move rfl) rfl rfl trivial ?_
            refine o1 rfl (det_move rfl) rfl rfl trivial ?_
            obtain ⟨x3, hx3⟩ : ∃ x : Int, (startL l1 h1 t).getD (-1) = x := ⟨_, rfl⟩
            refine o1 rfl (det_call hb25 rfl rfl (fun w1 hs => rstart_at hs.know hl1 hP1 hL hH ht hx3)) rfl rfl trivial ?_
            refine o1 rfl (det_assign rfl) rfl rfl trivial ?_
            refine be rfl ?_
            refine k_then ?_
            refine t_seq ?_
            refine b0 ?_
            refine o1 rfl (det_move rfl) rfl rfl trivial ?_
            refine o1 rfl (det_geq rfl rfl) rfl rfl trivial ?_
            refine be rfl ?_
            refine k_then ?_
            refine t_condP decide_eq_true_iff rfl (fun hb => ?_) (fun hb => ?_)
            ·
              have hsl := start_get hx3 hb
              rw [startA_ok hz0, hsl] at hst
              cases hst
              refine t_seq ?_
              refine b0 ?_
              refine o1 rfl (det_move rfl) rfl rfl trivial ?_
              refine o1 rfl (det_move rfl) rfl rfl trivial ?_
              refine o1 rfl (det_eql rfl rfl) rfl rfl trivial ?_
              refine o2P beq_iff_eq rfl (det_move rfl) rfl rfl trivial (fun hb => ?_) (fun hb => ?_)
              rotate_left
              · exfalso; first | exact hb rfl | (simp at hb; done) | (revert hb; decide)
              refine o1 rfl (det_move rfl) rfl rfl ⟨_, rfl, rfl⟩ ?_
              refine o1 rfl (det_eql rfl rfl) rfl rfl ⟨_, rfl, rfl⟩ ?_
              refine o1 rfl (det_pickT rfl rfl) rfl rfl trivial ?_
              refine o1 rfl (det_assign rfl) rfl rfl trivial ?_
              refine be rfl ?_
              refine k_then ?_
              refine t_ret (k_thenR (?_))
              refine ret_tmp rfl rfl rfl (fun w1 hs => ?_)
              exact ⟨by simp, hs.keep⟩
            ·
              have hsl := start_not hx3 hb
              rw [startA_ok hz0, hsl] at hst
              cases hst
              refine t_skip ?_
              refine k_then ?_
              refine t_seq ?_
              refine b0 ?_
              refine o1 rfl (det_move rfl) rfl rfl trivial ?_
              refine o1 rfl (det_eql rfl rfl) rfl rfl trivial ?_
              refine o2P beq_iff_eq rfl (det_move rfl) rfl rfl trivial (fun hb => ?_) (fun hb => ?_)
              rotate_left
              · exfalso; first | exact hb rfl | (simp at hb; done) | (revert hb; decide)
              refine o1 rfl (det_move rfl) rfl rfl ⟨_, rfl, rfl⟩ ?_
              refine o1 rfl (det_eql rfl rfl) rfl rfl ⟨_, rfl, rfl⟩ ?_
              refine o1 rfl (det_pickT rfl rfl) rfl rfl trivial ?_
              refine o1 rfl (det_assign rfl) rfl rfl trivial ?_
              refine be rfl ?_
              refine k_then ?_
              refine t_ret ?_
              refine ret_tmp rfl rfl rfl (fun w1 hs => ?_)
              exact ⟨by simp, hs.keep⟩
          ·
            have hcl : 0 ≤ cl ∧ cl ≤ 7 := by omega
            rw [mayA_in hz0 hcl] at hma
            cases hma
            refine t_seq ?_
            refine b0 ?_
            refine o1 rfl (det_move rfl) rfl rfl trivial ?_
            refine o1 rfl (det_loadN tN26 rfl rfl (.head _) rfl) rfl rfl trivial ?_
            refine o1 rfl (det_move rfl) rfl rfl trivial ?_
            refine o1 rfl (det_move rfl) rfl rfl trivial ?_
            refine o1 rfl (det_move rfl) rfl rfl trivial ?_
            refine o1 rfl (det_call hb24 rfl rfl (fun w1 hs => rmay_ok hs.know hl1 hP1 hL hH hcl (by omega))) rfl rfl trivial ?_
            refine o1 rfl (det_neqB Try.underlying4 rfl rfl) rfl rfl trivial ?_
            refine o2P Iff.rfl rfl (det_move rfl) rfl rfl trivial (fun hb => ?_) (fun hb => ?_)
            · exfalso; first | exact hb rfl | (simp at hb; done) | (revert hb; decide)
            refine o1 rfl (det_move rfl) rfl rfl ⟨_, rfl, rfl⟩ ?_
            refine o1 rfl (det_neq rfl rfl) rfl rfl ⟨_, rfl, rfl⟩ ?_
            refine o1 rfl (det_pickF rfl rfl) rfl rfl trivial ?_
            refine be rfl ?_
            refine k_then ?_
            refine t_condP bne_iff_ne rfl (fun hb => ?_) (fun hb => ?_)
            · exfalso; first | exact hb rfl | (simp at hb; done) | (revert hb; decide)
            refine t_skip ?_
            refine k_then ?_
            refine t_seq ?_
            refine t_seq ?_
            refine b0 ?_
            refine o1 rfl (det_loadN tN26 rfl rfl (.head _) rfl) rfl rfl trivial ?_
            refine o1 rfl (det_move rfl) rfl rfl trivial ?_
            refine o1 rfl (det_move rfl) rfl rfl trivial ?_
            obtain ⟨x3, hx3⟩ : ∃ x : Int, (startL l1 h1 t).getD (-1) = x := ⟨_, rfl⟩
            refine o1 rfl (det_call hb25 rfl rfl (fun w1 hs => rstart_at hs.know hl1 hP1 hL hH ht hx3)) rfl rfl trivial ?_
            refine o1 rfl (det_assign rfl) rfl rfl trivial ?_
            refine be rfl ?_
            refine k_then ?_
            refine t_seq ?_
            refine b0 ?_
            refine o1 rfl (det_move rfl) rfl rfl trivial ?_
            refine o1 rfl (det_geq rfl rfl) rfl rfl trivial ?_
            refine be rfl ?_
            refine k_then ?_
            refine t_condP decide_eq_true_iff rfl (fun hb => ?_) (fun hb => ?_)
            ·
              have hsl := start_get hx3 hb
              rw [startA_ok hz0, hsl] at hst
              cases hst
              refine t_seq ?_
              refine b0 ?_
              refine o1 rfl (det_move rfl) rfl rfl trivial ?_
              refine o1 rfl (det_move rfl) rfl rfl trivial ?_
              refine o1 rfl (det_eql rfl rfl) rfl rfl trivial ?_
              refine o2P beq_iff_eq rfl (det_move rfl) rfl rfl trivial (fun hb => ?_) (fun hb => ?_)
              rotate_left
              · exfalso; first | exact hb rfl | (simp at hb; done) | (revert hb; decide)
              refine o1 rfl (det_move rfl) rfl rfl ⟨_, rfl, rfl⟩ ?_
              refine o1 rfl (det_eql rfl rfl) rfl rfl ⟨_, rfl, rfl⟩ ?_
              refine o1 rfl (det_pickT rfl rfl) rfl rfl trivial ?_
              refine o1 rfl (det_assign rfl) rfl rfl trivial ?_
              refine be rfl ?_
              refine k_then ?_
              refine t_ret (k_thenR (?_))
              refine ret_tmp rfl rfl rfl (fun w1 hs => ?_)
              exact ⟨by simp, hs.keep⟩
            ·
              have hsl := start_not hx3 hb
              rw [startA_ok hz0, hsl] at hst
              cases hst
              refine t_skip ?_
              refine k_then ?_
              refine t_seq ?_
              refine b0 ?_
              refine o1 rfl (det_move rfl) rfl rfl trivial ?_
              refine o1 rfl (det_eql rfl rfl) rfl rfl trivial ?_
              refine o2P beq_iff_eq rfl (det_move rfl) rfl rfl trivial (fun hb => ?_) (fun hb => ?_)
              rotate_left
              · exfalso; first | exact hb rfl | (simp at hb; done) | (revert hb; decide)
              refine o1 rfl (det_move rfl) rfl rfl ⟨_, rfl, rfl⟩ ?_
              refine o1 rfl (det_eql rfl rfl) rfl rfl ⟨_, rfl, rfl⟩ ?_
              refine o1 rfl (det_pickT rfl rfl) rfl rfl trivial ?_
              refine o1 rfl (det_assign rfl) rfl rfl trivial ?_
              refine be rfl ?_
              refine k_then ?_
              refine t_ret ?_
              refine ret_tmp rfl rfl rfl (fun w1 hs => ?_)
              exact ⟨by simp, hs.keep⟩
  ·
    skip
    refine on rfl rfl rfl ⟨_, rfl, .inl rfl⟩ ?_
    refine on rfl rfl rfl ⟨_, rfl, .inl rfl⟩ ?_
    refine o1 rfl (det_pickF rfl rfl) rfl rfl ⟨_, rfl, rfl⟩ ?_
    refine o1 rfl (det_pickF rfl rfl) rfl rfl trivial ?_
    refine be rfl ?_
    refine k_then ?_
    refine t_condF rfl ?_
    refine t_skip ?_
    refine k_then ?_
    refine t_seq ?_
    refine t_seq ?_
    refine b0 ?_
    refine o1 rfl (det_move rfl) rfl rfl trivial ?_
    obtain ⟨x2, hx2⟩ : ∃ x : Int, (if okH h1 then (0 : Int) else 470) = x := ⟨_, rfl⟩
    refine o1 rfl (det_call hb19 rfl rfl (fun w1 hs => cheads_at hs.know hP1 hb1 (x := x2) hx2)) rfl rfl trivial ?_
    refine o1 rfl (det_assign rfl) rfl rfl trivial ?_
    refine be rfl ?_
    refine k_then ?_
    refine t_seq ?_
    refine b0 ?_
    refine o1 rfl (det_move rfl) rfl rfl trivial ?_
    refine o1 rfl (det_call hb20 rfl rfl (fun w1 hs => rheads_ok hs.know hP1)) rfl rfl trivial ?_
    refine o1 rfl (det_move rfl) rfl rfl trivial ?_
    refine o1 rfl (det_eql rfl rfl) rfl rfl trivial ?_
    refine o1 rfl (det_neqB Try.underlying4 rfl rfl) rfl rfl trivial ?_
    refine o2P Iff.rfl rfl (det_move rfl) rfl rfl trivial (fun hb => ?_) (fun hb => ?_)
    · exfalso; grind
    refine o1 rfl (det_move rfl) rfl rfl ⟨_, rfl, rfl⟩ ?_
    refine o1 rfl (det_neq rfl rfl) rfl rfl ⟨_, rfl, rfl⟩ ?_
    refine o2P bne_iff_ne rfl (det_move rfl) rfl rfl ⟨_, rfl, rfl⟩ (fun hb => ?_) (fun hb => ?_)
    ·
      skip
      refine o1 rfl (det_move rfl) rfl rfl ⟨_, rfl, rfl⟩ ?_
      refine o1 rfl (det_neq rfl rfl) rfl rfl ⟨_, rfl, rfl⟩ ?_
      refine o1 rfl (det_pickT rfl rfl) rfl rfl ⟨_, rfl, rfl⟩ ?_
      refine o1 rfl (det_pickF rfl rfl) rfl rfl trivial ?_
      refine be rfl ?_
      refine k_then ?_
      refine t_condP bne_iff_ne rfl (fun hb => ?_) (fun hb => ?_)
      · exfalso; grind
      refine t_skip ?_
      refine k_then ?_
      refine t_seq ?_
      refine b0 ?_
      refine o1 rfl (det_loadN tN26 rfl rfl (.head _) rfl) rfl rfl trivial ?_
      refine o1 rfl (det_move rfl) rfl rfl trivial ?_
      refine o1 rfl (det_move rfl) rfl rfl trivial ?_
      refine o1 rfl (det_move rfl) rfl rfl trivial ?_
      obtain ⟨b1, e1, hma⟩ : ∃ b e, mayA l1 h1 cl t = (b, e) := ⟨_, _, rfl⟩
      refine o1 rfl (det_call hb21 rfl rfl (fun w1 hs => may_at hs.know hl1 hP1 hb1 hma)) rfl rfl trivial ?_
      refine o1 rfl (det_move rfl) rfl rfl trivial ?_
      refine o1 rfl (det_extract rfl rfl) rfl rfl trivial ?_
      refine o1 rfl (det_extract rfl rfl) rfl rfl trivial ?_
      refine o1 rfl (det_assign rfl) rfl rfl trivial ?_
      refine o1 rfl (det_assign rfl) rfl rfl trivial ?_
      refine be rfl ?_
      refine k_then ?_
      refine t_seq ?_
      refine b0 ?_
      refine o1 rfl (det_loadN tN26 rfl rfl (.head _) rfl) rfl rfl trivial ?_
      refine o1 rfl (det_move rfl) rfl rfl trivial ?_
      refine o1 rfl (det_move rfl) rfl rfl trivial ?_
      obtain ⟨s1, f1, hst⟩ : ∃ s f, startA l1 h1 t = (s, f) := ⟨_, _, rfl⟩
      refine o1 rfl (det_call hb22 rfl rfl (fun w1 hs => start_at hs.know hl1 hP1 hb1 hst)) rfl rfl trivial ?_
      refine o1 rfl (det_move rfl) rfl rfl trivial ?_
      refine o1 rfl (det_extract rfl rfl) rfl rfl trivial ?_
      refine o1 rfl (det_extract rfl rfl) rfl rfl trivial ?_
      refine o1 rfl (det_assign rfl) rfl rfl trivial ?_
      refine o1 rfl (det_assign rfl) rfl rfl trivial ?_
      refine be rfl ?_
      refine k_then ?_
      refine t_seq ?_
      refine t_seq ?_
      refine b0 ?_
      refine o1 rfl (det_loadN tN26 rfl rfl (.head _) rfl) rfl rfl trivial ?_
      refine o1 rfl (det_move rfl) rfl rfl trivial ?_
      refine o1 rfl (det_move rfl) rfl rfl trivial ?_
      obtain ⟨z, hz⟩ : ∃ z, errC l1 h1 t = z := ⟨_, rfl⟩
      refine o1 rfl (det_call hb23 rfl rfl (fun w1 hs => want_at hs.know hl1 hP1 hz)) rfl rfl trivial ?_
      refine o1 rfl (det_assign rfl) rfl rfl trivial ?_
      refine be rfl ?_
      refine k_then ?_
      refine t_seq ?_
      refine b0 ?_
      refine o1 rfl (det_move rfl) rfl rfl trivial ?_
      refine o1 rfl (det_neq rfl rfl) rfl rfl trivial ?_
      refine be rfl ?_
      refine k_then ?_
      refine t_condP bne_iff_ne rfl (fun hb => ?_) (fun hb => ?_)
      ·
        have hz0 : errC l1 h1 t ≠ 0 := by rw [hz]; exact hb
        rw [mayA_err hz0, hz] at hma
        cases hma
        rw [startA_err hz0, hz] at hst
        cases hst
        refine t_seq ?_
        refine b0 ?_
        refine o1 rfl (det_move rfl) rfl rfl trivial ?_
        refine o1 rfl (det_not rfl) rfl rfl trivial ?_
        refine o2P not_iff_false rfl (det_move rfl) rfl rfl trivial (fun hb => ?_) (fun hb => ?_)
        rotate_left
        · exfalso; first | exact hb rfl | (simp at hb; done) | (revert hb; decide)
        refine o1 rfl (det_move rfl) rfl rfl ⟨_, rfl, rfl⟩ ?_
        refine o1 rfl (det_move rfl) rfl rfl ⟨_, rfl, rfl⟩ ?_
        refine o1 rfl (det_eql rfl rfl) rfl rfl ⟨_, rfl, rfl⟩ ?_
        refine o1 rfl (det_pickT rfl rfl) rfl rfl trivial ?_
        refine o2P beq_iff_eq rfl (det_move rfl) rfl rfl trivial (fun hb => ?_) (fun hb => ?_)
        rotate_left
        · exfalso; first | exact hb rfl | (simp at hb; done) | (revert hb; decide)
        refine o1 rfl (det_move rfl) rfl rfl ⟨_, rfl, rfl⟩ ?_
        refine o1 rfl (det_eql rfl rfl) rfl rfl ⟨_, rfl, rfl⟩ ?_
        refine o1 rfl (det_pickT rfl rfl) rfl rfl trivial ?_
        refine o2P beq_iff_eq rfl (det_move rfl) rfl rfl trivial (fun hb => ?_) (fun hb => ?_)
        rotate_left
        · exfalso; first | exact hb rfl | (simp at hb; done) | (revert hb; decide)
        refine o1 rfl (det_move rfl) rfl rfl ⟨_, rfl, rfl⟩ ?_
        refine o1 rfl (det_move rfl) rfl rfl ⟨_, rfl, rfl⟩ ?_
        refine o1 rfl (det_eql rfl rfl) rfl rfl ⟨_, rfl, rfl⟩ ?_
        refine o1 rfl (det_pickT rfl rfl) rfl rfl trivial ?_
        refine o1 rfl (det_assign rfl) rfl rfl trivial ?_
        refine be rfl ?_
        refine k_then ?_
        refine t_ret (k_thenR (?_))
        refine ret_tmp rfl rfl rfl (fun w1 hs => ?_)
        exact ⟨by simp, hs.keep⟩
      ·
        have hz0 : errC l1 h1 t = 0 := by rw [hz]; simpa using hb
        obtain ⟨hL, hH, ht⟩ := errC_zero hz0
        refine t_skip ?_
        refine k_then ?_
        refine t_seq ?_
        refine t_seq ?_
        refine b0 ?_
        refine o1 rfl (det_move rfl) rfl rfl trivial ?_
        refine o1 rfl (det_lss rfl rfl) rfl rfl trivial ?_
        refine o2P decide_eq_true_iff rfl (det_move rfl) rfl rfl trivial (fun hb => ?_) (fun hb => ?_)
        ·
          have hcl : ¬ (0 ≤ cl ∧ cl ≤ 7) := by omega
          rw [mayA_out hz0 hcl] at hma
          cases hma
          refine on rfl rfl rfl ⟨_, rfl, .inl rfl⟩ ?_
          refine on rfl rfl rfl ⟨_, rfl, .inl rfl⟩ ?_
          refine o1 rfl (det_pickT rfl rfl) rfl rfl trivial ?_
          refine be rfl ?_
          refine k_then ?_
          refine t_condT rfl ?_
          refine t_seq ?_
          refine b0 ?_
          refine o1 rfl (det_move rfl) rfl rfl trivial ?_
          refine o2P Iff.rfl rfl (det_move rfl) rfl rfl trivial (fun hb => ?_) (fun hb => ?_)
          · exfalso; first | exact hb rfl | (simp at hb; done) | (revert hb; decide)
          refine o1 rfl (det_move rfl) rfl rfl ⟨_, rfl, rfl⟩ ?_
          refine o1 rfl (det_neq rfl rfl) rfl rfl ⟨_, rfl, rfl⟩ ?_
          refine o1 rfl (det_pickF rfl rfl) rfl rfl trivial ?_
          refine be rfl ?_
          refine k_then ?_
          refine t_condP bne_iff_ne rfl (fun hb => ?_) (fun hb => ?_)
          · exfalso; first | exact hb rfl | (simp at hb; done) | (revert hb; decide)
          refine t_skip ?_
          refine k_then ?_
          refine t_seq ?_
          refine t_seq ?_
          refine b0 ?_
          refine o1 rfl (det_loadN tN26 rfl rfl (.head _) rfl) rfl rfl trivial ?_
          refine o1 rfl (det_move rfl) rfl rfl trivial ?_
          refine o1 rfl (det_move rfl) rfl rfl trivial ?_
          obtain ⟨x3, hx3⟩ : ∃ x : Int, (startL l1 h1 t).getD (-1) = x := ⟨_, rfl⟩
          refine o1 rfl (det_call hb25 rfl rfl (fun w1 hs => rstart_at hs.know hl1 hP1 hL hH ht hx3)) rfl rfl trivial ?_
          refine o1 rfl (det_assign rfl) rfl rfl trivial ?_
          refine be rfl ?_
          refine k_then ?_
          refine t_seq ?_
          refine b0 ?_
          refine o1 rfl (det_move rfl) rfl rfl trivial ?_
          refine o1 rfl (det_geq rfl rfl) rfl rfl trivial ?_
          refine be rfl ?_
          refine k_then ?_
          refine t_condP decide_eq_true_iff rfl (fun hb => ?_) (fun hb => ?_)
          ·
            have hsl := start_get hx3 hb
            rw [startA_ok hz0, hsl] at hst
            cases hst
            refine t_seq ?_
            refine b0 ?_
            refine o1 rfl (det_move rfl) rfl rfl trivial ?_
            refine o1 rfl (det_move rfl) rfl rfl trivial ?_
            refine o1 rfl (det_eql rfl rfl) rfl rfl trivial ?_
            refine o2P beq_iff_eq rfl (det_move rfl) rfl rfl trivial (fun hb => ?_) (fun hb => ?_)
            rotate_left
            · exfalso; first | exact hb rfl | (simp at hb; done) | (revert hb; decide)
            refine o1 rfl (det_move rfl) rfl rfl ⟨_, rfl, rfl⟩ ?_
            refine o1 rfl (det_eql rfl rfl) rfl rfl ⟨_, rfl, rfl⟩ ?_
            refine o1 rfl (det_pickT rfl rfl) rfl rfl trivial ?_
            refine o1 rfl (det_assign rfl) rfl rfl trivial ?_
            refine be rfl ?_
            refine k_then ?_
            refine t_ret (k_thenR (?_))
            refine ret_tmp rfl rfl rfl (fun w1 hs => ?_)
            exact ⟨by simp, hs.keep⟩
          ·
            have hsl := start_not hx3 hb
            rw [startA_ok hz0, hsl] at hst
            cases hst
            refine t_skip ?_
            refine k_then ?_
            refine t_seq ?_
            refine b0 ?_
            refine o1 rfl (det_move rfl) rfl rfl trivial ?_
            refine o1 rfl (det_eql rfl rfl) rfl rfl trivial ?_
            refine o2P beq_iff_eq rfl (det_move rfl) rfl rfl trivial (fun hb => ?_) (fun hb => ?_)
            rotate_left
            · exfalso; first | exact hb rfl | (simp at hb; done) | (revert hb; decide)
            refine o1 rfl (det_move rfl) rfl rfl ⟨_, rfl, rfl⟩ ?_
            refine o1 rfl (det_eql rfl rfl) rfl rfl ⟨_, rfl, rfl⟩ ?_
            refine o1 rfl (det_pickT rfl rfl) rfl rfl trivial ?_
            refine o1 rfl (det_assign rfl) rfl rfl trivial ?_
            refine be rfl ?_
            refine k_then ?_
            refine t_ret ?_
            refine ret_tmp rfl rfl rfl (fun w1 hs => ?_)
            exact ⟨by simp, hs.keep⟩
        ·
          skip
          refine o1 rfl (det_move rfl) rfl rfl ⟨_, rfl, rfl⟩ ?_
          refine o1 rfl (det_gtr rfl rfl) rfl rfl ⟨_, rfl, rfl⟩ ?_
          refine o1 rfl (det_pickF rfl rfl) rfl rfl trivial ?_
          refine be rfl ?_
          refine k_then ?_
          refine t_condP decide_eq_true_iff rfl (fun hb => ?_) (fun hb => ?_)
          ·
            have hcl : ¬ (0 ≤ cl ∧ cl ≤ 7) := by omega
            rw [mayA_out hz0 hcl] at hma
            cases hma
            refine t_seq ?_
            refine b0 ?_
            refine o1 rfl (det_move rfl) rfl rfl trivial ?_
            refine o2P Iff.rfl rfl (det_move rfl) rfl rfl trivial (fun hb => ?_) (fun hb => ?_)
            · exfalso; first | exact hb rfl | (simp at hb; done) | (revert hb; decide)
            refine o1 rfl (det_move rfl) rfl rfl ⟨_, rfl, rfl⟩ ?_
            refine o1 rfl (det_neq rfl rfl) rfl rfl ⟨_, rfl, rfl⟩ ?_
            refine o1 rfl (det_pickF rfl rfl) rfl rfl trivial ?_
            refine be rfl ?_
            refine k_then ?_
            refine t_condP bne_iff_ne rfl (fun hb => ?_) (fun hb => ?_)
            · exfalso; first | exact hb rfl | (simp at hb; done) | (revert hb; decide)
            refine t_skip ?_
            refine k_then ?_
            refine t_seq ?_
            refine t_seq ?_
            refine b0 ?_
            refine o1 rfl (det_loadN tN26 rfl rfl (.head _) rfl) rfl rfl trivial ?_
            refine o1 rfl (det_move rfl) rfl rfl trivial ?_
            refine o1 rfl (det_move rfl) rfl rfl trivial ?_
            obtain ⟨x3, hx3⟩ : ∃ x : Int, (startL l1 h1 t).getD (-1) = x := ⟨_, rfl⟩
            refine o1 rfl (det_call hb25 rfl rfl (fun w1 hs => rstart_at hs.know hl1 hP1 hL hH ht hx3)) rfl rfl trivial ?_
            refine o1 rfl (det_assign rfl) rfl rfl trivial ?_
            refine be rfl ?_
            refine k_then ?_
            refine t_seq ?_
            refine b0 ?_
            refine o1 rfl (det_move rfl) rfl rfl trivial ?_
            refine o1 rfl (det_geq rfl rfl) rfl rfl trivial ?_
            refine be rfl ?_
            refine k_then ?_
            refine t_condP decide_eq_true_iff rfl (fun hb => ?_) (fun hb => ?_)
            ·
              have hsl := start_get hx3 hb
              rw [startA_ok hz0, hsl] at hst
              cases hst
              refine t_seq ?_
              refine b0 ?_
              refine o1 rfl (det_move rfl) rfl rfl trivial ?_
              refine o1 rfl (det_move rfl) rfl rfl trivial ?_
              refine o1 rfl (det_eql rfl rfl) rfl rfl trivial ?_
              refine o2P beq_iff_eq rfl (det_move rfl) rfl rfl trivial (fun hb => ?_) (fun hb => ?_)
              rotate_left
              · exfalso; first | exact hb rfl | (simp at hb; done) | (revert hb; decide)
              refine o1 rfl (det_move rfl) rfl rfl ⟨_, rfl, rfl⟩ ?_
              refine o1 rfl (det_eql rfl rfl) rfl rfl ⟨_, rfl, rfl⟩ ?_
              refine o1 rfl (det_pickT rfl rfl) rfl rfl trivial ?_
              refine o1 rfl (det_assign rfl) rfl rfl trivial ?_
              refine be rfl ?_
              refine k_then ?_
              refine t_ret (k_thenR (?_))
              refine ret_tmp rfl rfl rfl (fun w1 hs => ?_)
              exact ⟨by simp, hs.keep⟩
            ·
              have hsl := start_not hx3 hb
              rw [startA_ok hz0, hsl] at hst
              cases hst
              refine t_skip ?_
              refine k_then ?_
              refine t_seq ?_
              refine b0 ?_
              refine o1 rfl (det_move rfl) rfl rfl trivial ?_
              refine o1 rfl (det_eql rfl rfl) rfl rfl trivial ?_
              refine o2P beq_iff_eq rfl (det_move rfl) rfl rfl trivial (fun hb => ?_) (fun hb => ?_)
              rotate_left
              · exfalso; first | exact hb rfl | (simp at hb; done) | (revert hb; decide)
              refine o1 rfl (det_move rfl) rfl rfl ⟨_, rfl, rfl⟩ ?_
              refine o1 rfl (det_eql rfl rfl) rfl rfl ⟨_, rfl, rfl⟩ ?_
              refine o1 rfl (det_pickT rfl rfl) rfl rfl trivial ?_
              refine o1 rfl (det_assign rfl) rfl rfl trivial ?_
              refine be rfl ?_
              refine k_then ?_
              refine t_ret ?_
              refine ret_tmp rfl rfl rfl (fun w1 hs => ?_)
              exact ⟨by simp, hs.keep⟩
          ·
            have hcl : 0 ≤ cl ∧ cl ≤ 7 := by omega
            rw [mayA_in hz0 hcl] at hma
            cases hma
            refine t_seq ?_
            refine b0 ?_
            refine o1 rfl (det_move rfl) rfl rfl trivial ?_
            refine o1 rfl (det_loadN tN26 rfl rfl (.head _) rfl) rfl rfl trivial ?_
            refine o1 rfl (det_move rfl) rfl rfl trivial ?_
            refine o1 rfl (det_move rfl) rfl rfl trivial ?_
            refine o1 rfl (det_move rfl) rfl rfl trivial ?_
            refine o1 rfl (det_call hb24 rfl rfl (fun w1 hs => rmay_ok hs.know hl1 hP1 hL hH hcl (by omega))) rfl rfl trivial ?_
            refine o1 rfl (det_neqB Try.underlying4 rfl rfl) rfl rfl trivial ?_
            refine o2P Iff.rfl rfl (det_move rfl) rfl rfl trivial (fun hb => ?_) (fun hb => ?_)
            · exfalso; first | exact hb rfl | (simp at hb; done) | (revert hb; decide)
            refine o1 rfl (det_move rfl) rfl rfl ⟨_, rfl, rfl⟩ ?_
            refine o1 rfl (det_neq rfl rfl) rfl rfl ⟨_, rfl, rfl⟩ ?_
            refine o1 rfl (det_pickF rfl rfl) rfl rfl trivial ?_
            refine be rfl ?_
            refine k_then ?_
            refine t_condP bne_iff_ne rfl (fun hb => ?_) (fun hb => ?_)
            · exfalso; first | exact hb rfl | (simp at hb; done) | (revert hb; decide)
            refine t_skip ?_
            refine k_then ?_
            refine t_seq ?_
            refine t_seq ?_
            refine b0 ?_
            refine o1 rfl (det_loadN tN26 rfl rfl (.head _) rfl) rfl rfl trivial ?_
            refine o1 rfl (det_move rfl) rfl rfl trivial ?_
            refine o1 rfl (det_move rfl) rfl rfl trivial ?_
            obtain ⟨x3, hx3⟩ : ∃ x : Int, (startL l1 h1 t).getD (-1) = x := ⟨_, rfl⟩
            refine o1 rfl (det_call hb25 rfl rfl (fun w1 hs => rstart_at hs.know hl1 hP1 hL hH ht hx3)) rfl rfl trivial ?_
            refine o1 rfl (det_assign rfl) rfl rfl trivial ?_
            refine be rfl ?_
            refine k_then ?_
            refine t_seq ?_
            refine b0 ?_
            refine o1 rfl (det_move rfl) rfl rfl trivial ?_
            refine o1 rfl (det_geq rfl rfl) rfl rfl trivial ?_
            refine be rfl ?_
            refine k_then ?_
            refine t_condP decide_eq_true_iff rfl (fun hb => ?_) (fun hb => ?_)
            ·
              have hsl := start_get hx3 hb
              rw [startA_ok hz0, hsl] at hst
              cases hst
              refine t_seq ?_
              refine b0 ?_
              refine o1 rfl (det_move rfl) rfl rfl trivial ?_
              refine o1 rfl (det_move rfl) rfl rfl trivial ?_
              refine o1 rfl (det_eql rfl rfl) rfl rfl trivial ?_
              refine o2P beq_iff_eq rfl (det_move rfl) rfl rfl trivial (fun hb => ?_) (fun hb => ?_)
              rotate_left
              · exfalso; first | exact hb rfl | (simp at hb; done) | (revert hb; decide)
              refine o1 rfl (det_move rfl) rfl rfl ⟨_, rfl, rfl⟩ ?_
              refine o1 rfl (det_eql rfl rfl) rfl rfl ⟨_, rfl, rfl⟩ ?_
              refine o1 rfl (det_pickT rfl rfl) rfl rfl trivial ?_
              refine o1 rfl (det_assign rfl) rfl rfl trivial ?_
              refine be rfl ?_
              refine k_then ?_
              refine t_ret (k_thenR (?_))
              refine ret_tmp rfl rfl rfl (fun w1 hs => ?_)
              exact ⟨by simp, hs.keep⟩
            ·
              have hsl := start_not hx3 hb
              rw [startA_ok hz0, hsl] at hst
              cases hst
              refine t_skip ?_
              refine k_then ?_
              refine t_seq ?_
              refine b0 ?_
              refine o1 rfl (det_move rfl) rfl rfl trivial ?_
              refine o1 rfl (det_eql rfl rfl) rfl rfl trivial ?_
              refine o2P beq_iff_eq rfl (det_move rfl) rfl rfl trivial (fun hb => ?_) (fun hb => ?_)
              rotate_left
              · exfalso; first | exact hb rfl | (simp at hb; done) | (revert hb; decide)
              refine o1 rfl (det_move rfl) rfl rfl ⟨_, rfl, rfl⟩ ?_
              refine o1 rfl (det_eql rfl rfl) rfl rfl ⟨_, rfl, rfl⟩ ?_
              refine o1 rfl (det_pickT rfl rfl) rfl rfl trivial ?_
              refine o1 rfl (det_assign rfl) rfl rfl trivial ?_
              refine be rfl ?_
              refine k_then ?_
              refine t_ret ?_
              refine ret_tmp rfl rfl rfl (fun w1 hs => ?_)
              exact ⟨by simp, hs.keep⟩
    ·
      skip
      refine on rfl rfl rfl ⟨_, rfl, .inl rfl⟩ ?_
      refine on rfl rfl rfl ⟨_, rfl, .inl rfl⟩ ?_
      refine o1 rfl (det_pickF rfl rfl) rfl rfl ⟨_, rfl, rfl⟩ ?_
      refine o1 rfl (det_pickF rfl rfl) rfl rfl trivial ?_
      refine be rfl ?_
      refine k_then ?_
      refine t_condF rfl ?_
      refine t_skip ?_
      refine k_then ?_
      refine t_seq ?_
      refine b0 ?_
      refine o1 rfl (det_loadN tN26 rfl rfl (.head _) rfl) rfl rfl trivial ?_
      refine o1 rfl (det_move rfl) rfl rfl trivial ?_
      refine o1 rfl (det_move rfl) rfl rfl trivial ?_
      refine o1 rfl (det_move rfl) rfl rfl trivial ?_
      obtain ⟨b1, e1, hma⟩ : ∃ b e, mayA l1 h1 cl t = (b, e) := ⟨_, _, rfl⟩
      refine o1 rfl (det_call hb21 rfl rfl (fun w1 hs => may_at hs.know hl1 hP1 hb1 hma)) rfl rfl trivial ?_
      refine o1 rfl (det_move rfl) rfl rfl trivial ?_
      refine o1 rfl (det_extract rfl rfl) rfl rfl trivial ?_
      refine o1 rfl (det_extract rfl rfl) rfl rfl trivial ?_
      refine o1 rfl (det_assign rfl) rfl rfl trivial ?_
      refine o1 rfl (det_assign rfl) rfl rfl trivial ?_
      refine be rfl ?_
      refine k_then ?_
      refine t_seq ?_
      refine b0 ?_
      refine o1 rfl (det_loadN tN26 rfl rfl (.head _) rfl) rfl rfl trivial ?_
      refine o1 rfl (det_move rfl) rfl rfl trivial ?_
      refine o1 rfl (det_move rfl) rfl rfl trivial ?_
      obtain ⟨s1, f1, hst⟩ : ∃ s f, startA l1 h1 t = (s, f) := ⟨_, _, rfl⟩
      refine o1 rfl (det_call hb22 rfl rfl (fun w1 hs => start_at hs.know hl1 hP1 hb1 hst)) rfl rfl trivial ?_
      refine o1 rfl (det_move rfl) rfl rfl trivial ?_
      refine o1 rfl (det_extract rfl rfl) rfl rfl trivial ?_
      refine o1 rfl (det_extract rfl rfl) rfl rfl trivial ?_
      refine o1 rfl (det_assign rfl) rfl rfl trivial ?_
      refine o1 rfl (det_assign rfl) rfl rfl trivial ?_
      refine be rfl ?_
      refine k_then ?_
      refine t_seq ?_
      refine t_seq ?_
      refine b0 ?_
      refine o1 rfl (det_loadN tN26 rfl rfl (.head _) rfl) rfl rfl trivial ?_
      refine o1 rfl (det_move rfl) rfl rfl trivial ?_
      refine o1 rfl (det_move rfl) rfl rfl trivial ?_
      obtain ⟨z, hz⟩ : ∃ z, errC l1 h1 t = z := ⟨_, rfl⟩
      refine o1 rfl (det_call hb23 rfl rfl (fun w1 hs => want_at hs.know hl1 hP1 hz)) rfl rfl trivial ?_
      refine o1 rfl (det_assign rfl) rfl rfl trivial ?_
      refine be rfl ?_
      refine k_then ?_
      refine t_seq ?_
      refine b0 ?_
      refine o1 rfl (det_move rfl) rfl rfl trivial ?_
      refine o1 rfl (det_neq rfl rfl) rfl rfl trivial ?_
      refine be rfl ?_
      refine k_then ?_
      refine t_condP bne_iff_ne rfl (fun hb => ?_) (fun hb => ?_)
      ·
        have hz0 : errC l1 h1 t ≠ 0 := by rw [hz]; exact hb
        rw [mayA_err hz0, hz] at hma
        cases hma
        rw [startA_err hz0, hz] at hst
        cases hst
        refine t_seq ?_
        refine b0 ?_
        refine o1 rfl (det_move rfl) rfl rfl trivial ?_
        refine o1 rfl (det_not rfl) rfl rfl trivial ?_
        refine o2P not_iff_false rfl (det_move rfl) rfl rfl trivial (fun hb => ?_) (fun hb => ?_)
        rotate_left
        · exfalso; first | exact hb rfl | (simp at hb; done) | (revert hb; decide)
        refine o1 rfl (det_move rfl) rfl rfl ⟨_, rfl, rfl⟩ ?_
        refine o1 rfl (det_move rfl) rfl rfl ⟨_, rfl, rfl⟩ ?_
        refine o1 rfl (det_eql rfl rfl) rfl rfl ⟨_, rfl, rfl⟩ ?_
        refine o1 rfl (det_pickT rfl rfl) rfl rfl trivial ?_
        refine o2P beq_iff_eq rfl (det_move rfl) rfl rfl trivial (fun hb => ?_) (fun hb => ?_)
        rotate_left
        · exfalso; first | exact hb rfl | (simp at hb; done) | (revert hb; decide)
        refine o1 rfl (det_move rfl) rfl rfl ⟨_, rfl, rfl⟩ ?_
        refine o1 rfl (det_eql rfl rfl) rfl rfl ⟨_, rfl, rfl⟩ ?_
        refine o1 rfl (det_pickT rfl rfl) rfl rfl trivial ?_
        refine o2P beq_iff_eq rfl (det_move rfl) rfl rfl trivial (fun hb => ?_) (fun hb => ?_)
        rotate_left
        · exfalso; first | exact hb rfl | (simp at hb; done) | (revert hb; decide)
        refine o1 rfl (det_move rfl) rfl rfl ⟨_, rfl, rfl⟩ ?_
        refine o1 rfl (det_move rfl) rfl rfl ⟨_, rfl, rfl⟩ ?_
        refine o1 rfl (det_eql rfl rfl) rfl rfl ⟨_, rfl, rfl⟩ ?_
        refine o1 rfl (det_pickT rfl rfl) rfl rfl trivial ?_
        refine o1 rfl (det_assign rfl) rfl rfl trivial ?_
        refine be rfl ?_
        refine k_then ?_
        refine t_ret (k_thenR (?_))
        refine ret_tmp rfl rfl rfl (fun w1 hs => ?_)
        exact ⟨by simp, hs.keep⟩
      ·
        have hz0 : errC l1 h1 t = 0 := by rw [hz]; simpa using hb
        obtain ⟨hL, hH, ht⟩ := errC_zero hz0
        refine t_skip ?_
        refine k_then ?_
        refine t_seq ?_
        refine t_seq ?_
        refine b0 ?_
        refine o1 rfl (det_move rfl) rfl rfl trivial ?_
        refine o1 rfl (det_lss rfl rfl) rfl rfl trivial ?_
        refine o2P decide_eq_true_iff rfl (det_move rfl) rfl rfl trivial (fun hb => ?_) (fun hb => ?_)
        ·
          have hcl : ¬ (0 ≤ cl ∧ cl ≤ 7) := by omega
          rw [mayA_out hz0 hcl] at hma
          cases hma
          refine on rfl rfl rfl ⟨_, rfl, .inl rfl⟩ ?_
          refine on rfl rfl rfl ⟨_, rfl, .inl rfl⟩ ?_
          refine o1 rfl (det_pickT rfl rfl) rfl rfl trivial ?_
          refine be rfl ?_
          refine k_then ?_
          refine t_condT rfl ?_
          refine t_seq ?_
          refine b0 ?_
          refine o1 rfl (det_move rfl) rfl rfl trivial ?_
          refine o2P Iff.rfl rfl (det_move rfl) rfl rfl trivial (fun hb => ?_) (fun hb => ?_)
          · exfalso; first | exact hb rfl | (simp at hb; done) | (revert hb; decide)
          refine o1 rfl (det_move rfl) rfl rfl ⟨_, rfl, rfl⟩ ?_
          refine o1 rfl (det_neq rfl rfl) rfl rfl ⟨_, rfl, rfl⟩ ?_
          refine o1 rfl (det_pickF rfl rfl) rfl rfl trivial ?_
          refine be rfl ?_
          refine k_then ?_
          refine t_condP bne_iff_ne rfl (fun hb => ?_) (fun hb => ?_)
          · exfalso; first | exact hb rfl | (simp at hb; done) | (revert hb; decide)
          refine t_skip ?_
          refine k_then ?_
          refine t_seq ?_
          refine t_seq ?_
          refine b0 ?_
          refine o1 rfl (det_loadN tN26 rfl rfl (.head _) rfl) rfl rfl trivial ?_
          refine o1 rfl (det_move rfl) rfl rfl trivial ?_
          refine o1 rfl (det_move rfl) rfl rfl trivial ?_
          obtain ⟨x3, hx3⟩ : ∃ x : Int, (startL l1 h1 t).getD (-1) = x := ⟨_, rfl⟩
          refine o1 rfl (det_call hb25 rfl rfl (fun w1 hs => rstart_at hs.know hl1 hP1 hL hH ht hx3)) rfl rfl trivial ?_
          refine o1 rfl (det_assign rfl) rfl rfl trivial ?_
          refine be rfl ?_
          refine k_then ?_
          refine t_seq ?_
          refine b0 ?_
          refine o1 rfl (det_move rfl) rfl rfl trivial ?_
          refine o1 rfl (det_geq rfl rfl) rfl rfl trivial ?_
          refine be rfl ?_
          refine k_then ?_
          refine t_condP decide_eq_true_iff rfl (fun hb => ?_) (fun hb => ?_)
          ·
            have hsl := start_get hx3 hb
            rw [startA_ok hz0, hsl] at hst
            cases hst
            refine t_seq ?_
            refine b0 ?_
            refine o1 rfl (det_move rfl) rfl rfl trivial ?_
            refine o1 rfl (det_move rfl) rfl rfl trivial ?_
            refine o1 rfl (det_eql rfl rfl) rfl rfl trivial ?_
            refine o2P beq_iff_eq rfl (det_move rfl) rfl rfl trivial (fun hb => ?_) (fun hb => ?_)
            rotate_left
            · exfalso; first | exact hb rfl | (simp at hb; done) | (revert hb; decide)
            refine o1 rfl (det_move rfl) rfl rfl ⟨_, rfl, rfl⟩ ?_
            refine o1 rfl (det_eql rfl rfl) rfl rfl ⟨_, rfl, rfl⟩ ?_
            refine o1 rfl (det_pickT rfl rfl) rfl rfl trivial ?_
            refine o1 rfl (det_assign rfl) rfl rfl trivial ?_
            refine be rfl ?_
            refine k_then ?_
            refine t_ret (k_thenR (?_))
            refine ret_tmp rfl rfl rfl (fun w1 hs => ?_)
            exact ⟨by simp, hs.keep⟩
          ·
            have hsl := start_not hx3 hb
            rw [startA_ok hz0, hsl] at hst
            cases hst
            refine t_skip ?_
            refine k_then ?_
            refine t_seq ?_
            refine b0 ?_
            refine o1 rfl (det_move rfl) rfl rfl trivial ?_
            refine o1 rfl (det_eql rfl rfl) rfl rfl trivial ?_
            refine o2P beq_iff_eq rfl (det_move rfl) rfl rfl trivial (fun hb => ?_) (fun hb => ?_)
            rotate_left
            · exfalso; first | exact hb rfl | (simp at hb; done) | (revert hb; decide)
            refine o1 rfl (det_move rfl) rfl rfl ⟨_, rfl, rfl⟩ ?_
            refine o1 rfl (det_eql rfl rfl) rfl rfl ⟨_, rfl, rfl⟩ ?_
            refine o1 rfl (det_pickT rfl rfl) rfl rfl trivial ?_
            refine o1 rfl (det_assign rfl) rfl rfl trivial ?_
            refine be rfl ?_
            refine k_then ?_
            refine t_ret ?_
            refine ret_tmp rfl rfl rfl (fun w1 hs => ?_)
            exact ⟨by simp, hs.keep⟩
        ·
          skip
          refine o1 rfl (det_move rfl) rfl rfl ⟨_, rfl, rfl⟩ ?_
          refine o1 rfl (det_gtr rfl rfl) rfl rfl ⟨_, rfl, rfl⟩ ?_
          refine o1 rfl (det_pickF rfl rfl) rfl rfl trivial ?_
          refine be rfl ?_
          refine k_then ?_
          refine t_condP decide_eq_true_iff rfl (fun hb => ?_) (fun hb => ?_)
          ·
            have hcl : ¬ (0 ≤ cl ∧ cl ≤ 7) := by omega
            rw [mayA_out hz0 hcl] at hma
            cases hma
            refine t_seq ?_
            refine b0 ?_
            refine o1 rfl (det_move rfl) rfl rfl trivial ?_
            refine o2P Iff.rfl rfl (det_move rfl) rfl rfl trivial (fun hb => ?_) (fun hb => ?_)
            · exfalso; first | exact hb rfl | (simp at hb; done) | (revert hb; decide)
            refine o1 rfl (det_move rfl) rfl rfl ⟨_, rfl, rfl⟩ ?_
            refine o1 rfl (det_neq rfl rfl) rfl rfl ⟨_, rfl, rfl⟩ ?_
            refine o1 rfl (det_pickF rfl rfl) rfl rfl trivial ?_
            refine be rfl ?_
            refine k_then ?_
            refine t_condP bne_iff_ne rfl (fun hb => ?_) (fun hb => ?_)
            · exfalso; first | exact hb rfl | (simp at hb; done) | (revert hb; decide)
            refine t_skip ?_
            refine k_then ?_
            refine t_seq ?_
            refine t_seq ?_
            refine b0 ?_
            refine o1 rfl (det_loadN tN26 rfl rfl (.head _) rfl) rfl rfl trivial ?_
            refine o1 rfl (det_move rfl) rfl rfl trivial ?_
            refine o1 rfl (det_move rfl) rfl rfl trivial ?_
            obtain ⟨x3, hx3⟩ : ∃ x : Int, (startL l1 h1 t).getD (-1) = x := ⟨_, rfl⟩
            refine o1 rfl (det_call hb25 rfl rfl (fun w1 hs => rstart_at hs.know hl1 hP1 hL hH ht hx3)) rfl rfl trivial ?_
            refine o1 rfl (det_assign rfl) rfl rfl trivial ?_
            refine be rfl ?_
            refine k_then ?_
            refine t_seq ?_
            refine b0 ?_
            refine o1 rfl (det_move rfl) rfl rfl trivial ?_
            refine o1 rfl (det_geq rfl rfl) rfl rfl trivial ?_
            refine be rfl ?_
            refine k_then ?_
            refine t_condP decide_eq_true_iff rfl (fun hb => ?_) (fun hb => ?_)
            ·
              have hsl := start_get hx3 hb
              rw [startA_ok hz0, hsl] at hst
              cases hst
              refine t_seq ?_
              refine b0 ?_
              refine o1 rfl (det_move rfl) rfl rfl trivial ?_
              refine o1 rfl (det_move rfl) rfl rfl trivial ?_
              refine o1 rfl (det_eql rfl rfl) rfl rfl trivial ?_
              refine o2P beq_iff_eq rfl (det_move rfl) rfl rfl trivial (fun hb => ?_) (fun hb => ?_)
              rotate_left
              · exfalso; first | exact hb rfl | (simp at hb; done) | (revert hb; decide)
              refine o1 rfl (det_move rfl) rfl rfl ⟨_, rfl, rfl⟩ ?_
              refine o1 rfl (det_eql rfl rfl) rfl rfl ⟨_, rfl, rfl⟩ ?_
              refine o1 rfl (det_pickT rfl rfl) rfl rfl trivial ?_
              refine o1 rfl (det_assign rfl) rfl rfl trivial ?_
              refine be rfl ?_
              refine k_then ?_
              refine t_ret (k_thenR (?_))
              refine ret_tmp rfl rfl rfl (fun w1 hs => ?_)
              exact ⟨by simp, hs.keep⟩
            ·
              have hsl := start_not hx3 hb
              rw [startA_ok hz0, hsl] at hst
              cases hst
              refine t_skip ?_
              refine k_then ?_
              refine t_seq ?_
              refine b0 ?_
              refine o1 rfl (det_move rfl) rfl rfl trivial ?_
              refine o1 rfl (det_eql rfl rfl) rfl rfl trivial ?_
              refine o2P beq_iff_eq rfl (det_move rfl) rfl rfl trivial (fun hb => ?_) (fun hb => ?_)
              rotate_left
              · exfalso; first | exact hb rfl | (simp at hb; done) | (revert hb; decide)
              refine o1 rfl (det_move rfl) rfl rfl ⟨_, rfl, rfl⟩ ?_
              refine o1 rfl (det_eql rfl rfl) rfl rfl ⟨_, rfl, rfl⟩ ?_
              refine o1 rfl (det_pickT rfl rfl) rfl rfl trivial ?_
              refine o1 rfl (det_assign rfl) rfl rfl trivial ?_
              refine be rfl ?_
              refine k_then ?_
              refine t_ret ?_
              refine ret_tmp rfl rfl rfl (fun w1 hs => ?_)
              exact ⟨by simp, hs.keep⟩
          ·
            have hcl : 0 ≤ cl ∧ cl ≤ 7 := by omega
            rw [mayA_in hz0 hcl] at hma
            cases hma
            refine t_seq ?_
            refine b0 ?_
            refine o1 rfl (det_move rfl) rfl rfl trivial ?_
            refine o1 rfl (det_loadN tN26 rfl rfl (.head _) rfl) rfl rfl trivial ?_
            refine o1 rfl (det_move rfl) rfl rfl trivial ?_
            refine o1 rfl (det_move rfl) rfl rfl trivial ?_
            refine o1 rfl (det_move rfl) rfl rfl trivial ?_
            refine o1 rfl (det_call hb24 rfl rfl (fun w1 hs => rmay_ok hs.know hl1 hP1 hL hH hcl (by omega))) rfl rfl trivial ?_
            refine o1 rfl (det_neqB Try.underlying4 rfl rfl) rfl rfl trivial ?_
            refine o2P Iff.rfl rfl (det_move rfl) rfl rfl trivial (fun hb => ?_) (fun hb => ?_)
            · exfalso; first | exact hb rfl | (simp at hb; done) | (revert hb; decide)
            refine o1 rfl (det_move rfl) rfl rfl ⟨_, rfl, rfl⟩ ?_
            refine o1 rfl (det_neq rfl rfl) rfl rfl ⟨_, rfl, rfl⟩ ?_
            refine o1 rfl (det_pickF rfl rfl) rfl rfl trivial ?_
            refine be rfl ?_
            refine k_then ?_
            refine t_condP bne_iff_ne rfl (fun hb => ?_) (fun hb => ?_)
            · exfalso; first | exact hb rfl | (simp at hb; done) | (revert hb; decide)
            refine t_skip ?_
            refine k_then ?_
            refine t_seq ?_
            refine t_seq ?_
            refine b0 ?_
            refine o1 rfl (det_loadN tN26 rfl rfl (.head _) rfl) rfl rfl trivial ?_
            refine o1 rfl (det_move rfl) rfl rfl trivial ?_
            refine o1 rfl (det_move rfl) rfl rfl trivial ?_
            obtain ⟨x3, hx3⟩ : ∃ x : Int, (startL l1 h1 t).getD (-1) = x := ⟨_, rfl⟩
            refine o1 rfl (det_call hb25 rfl rfl (fun w1 hs => rstart_at hs.know hl1 hP1 hL hH ht hx3)) rfl rfl trivial ?_
            refine o1 rfl (det_assign rfl) rfl rfl trivial ?_
            refine be rfl ?_
            refine k_then ?_
            refine t_seq ?_
            refine b0 ?_
            refine o1 rfl (det_move rfl) rfl rfl trivial ?_
            refine o1 rfl (det_geq rfl rfl) rfl rfl trivial ?_
            refine be rfl ?_
            refine k_then ?_
            refine t_condP decide_eq_true_iff rfl (fun hb => ?_) (fun hb => ?_)
            ·
              have hsl := start_get hx3 hb
              rw [startA_ok hz0, hsl] at hst
              cases hst
              refine t_seq ?_
              refine b0 ?_
              refine o1 rfl (det_move rfl) rfl rfl trivial ?_
              refine o1 rfl (det_move rfl) rfl rfl trivial ?_
              refine o1 rfl (det_eql rfl rfl) rfl rfl trivial ?_
              refine o2P beq_iff_eq rfl (det_move rfl) rfl rfl trivial (fun hb => ?_) (fun hb => ?_)
              rotate_left
              · exfalso; first | exact hb rfl | (simp at hb; done) | (revert hb; decide)
              refine o1 rfl (det_move rfl) rfl rfl ⟨_, rfl, rfl⟩ ?_
              refine o1 rfl (det_eql rfl rfl) rfl rfl ⟨_, rfl, rfl⟩ ?_
              refine o1 rfl (det_pickT rfl rfl) rfl rfl trivial ?_
              refine o1 rfl (det_assign rfl) rfl rfl trivial ?_
              refine be rfl ?_
              refine k_then ?_
              refine t_ret (k_thenR (?_))
              refine ret_tmp rfl rfl rfl (fun w1 hs => ?_)
              exact ⟨by simp, hs.keep⟩
            ·
              have hsl := start_not hx3 hb
              rw [startA_ok hz0, hsl] at hst
              cases hst
              refine t_skip ?_
              refine k_then ?_
              refine t_seq ?_
              refine b0 ?_
              refine o1 rfl (det_move rfl) rfl rfl trivial ?_
              refine o1 rfl (det_eql rfl rfl) rfl rfl trivial ?_
              refine o2P beq_iff_eq rfl (det_move rfl) rfl rfl trivial (fun hb => ?_) (fun hb => ?_)
              rotate_left
              · exfalso; first | exact hb rfl | (simp at hb; done) | (revert hb; decide)
              refine o1 rfl (det_move rfl) rfl rfl ⟨_, rfl, rfl⟩ ?_
              refine o1 rfl (det_eql rfl rfl) rfl rfl ⟨_, rfl, rfl⟩ ?_
              refine o1 rfl (det_pickT rfl rfl) rfl rfl trivial ?_
              refine o1 rfl (det_assign rfl) rfl rfl trivial ?_
              refine be rfl ?_
              refine k_then ?_
              refine t_ret ?_
              refine ret_tmp rfl rfl rfl (fun w1 hs => ?_)
              exact ⟨by simp, hs.keep⟩

end Go.Proofs.Cp
