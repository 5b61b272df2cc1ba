/-
  Walks through layer 40 and its reference.
-/
import Derived.Test.YtichjhggoioenaaRcW2
namespace Go.Proofs.Rc
open Go Go.Eng Go.Rc
set_option maxRecDepth 4000

/-- mask. -/
theorem mask_ok {w : World} {F : Know} (hF : ∀ a v, F a = some v → w.cell? a = some v) {l : Int} (hl : 0 ≤ l ∧ l ≤ 64) : Pure Try.prog 25 [.int .i64 l] w (.int .u64 ((2 ^ l.toNat - 1 : Nat) : Int)) := by
  refine fn_pure (F := F) Try.func25 rfl Try.ntmps25 rfl hF ?_
  refine t_seq ?_
  refine b0 ?_
  refine o1 rfl (det_assign rfl) rfl rfl trivial ?_
  refine be rfl ?_
  refine k_then ?_
  refine t_seq ?_
  refine b0 ?_
  refine o1 rfl (det_move rfl) rfl rfl trivial ?_
  first | (refine o1 rfl (det_subI rfl rfl ?_) rfl rfl trivial ?_; (· omega)) | refine o1 rfl (det_sub rfl rfl) rfl rfl trivial ?_
  obtain ⟨k, rfl⟩ : ∃ k : Nat, l = k := ⟨l.toNat, by omega⟩
  rw [show (64 : Int) - (k : Int) = ((64 - k : Nat) : Int) by omega]
  first | (refine o1 rfl (det_shr rfl rfl ?_) rfl rfl trivial ?_; (· (first | decide | omega)))
  refine o1 rfl (det_assign rfl) rfl rfl trivial ?_
  refine be rfl ?_
  refine k_then ?_
  refine t_ret ?_
  refine ret_tmp rfl rfl rfl (fun w1 hs => ?_)
  exact ⟨by have h := shr_nat 18446744073709551615 (64 - k) (by omega); rw [mask_nat (by omega)] at h; exact congrArg (fun x => Ending.returned (Value.int .u64 x)) h, hs.keep⟩

/-- Check. -/
theorem check_ok {w : World} {F : Know} (hF : ∀ a v, F a = some v → w.cell? a = some v) {r : Rc} (hse : r.se < 18446744073709551616) : Pure Try.prog 13 [.agg (rcv r).toArray] w (.int .i64 (if okR r then 0 else 500)) := by
  refine fn_pure (F := F) Try.func13 rfl Try.ntmps13 rfl hF ?_
  refine t_seq ?_
  refine b0 ?_
  refine om1 rfl (new_boxN rfl) rfl rfl trivial (fun p1 => ?_)
  refine o1 rfl (det_assign rfl) rfl rfl trivial ?_
  refine be rfl ?_
  refine k_then ?_
  refine t_seq ?_
  refine t_seq ?_
  refine t_merge (env0 := [(1, _), (2, _)]) ⟨rfl, rfl, trivial⟩ 20 (.bool (decide (¬ (1 ≤ r.ln ∧ r.ln ≤ 64 ∧ 1 ≤ r.rs ∧ r.rs ≤ 1099511627776)))) ?_ (fun hK => ?_)
  ·
    refine k_then ?_
    refine t_condP decide_eq_true_iff rfl (fun hb => ?_) (fun hb => ?_)
    ·
      have h1 : ¬ (1 ≤ r.ln ∧ r.ln ≤ 64 ∧ 1 ≤ r.rs ∧ r.rs ≤ 1099511627776) := by simpa using hb
      refine t_seq ?_
      refine b0 ?_
      refine o1 rfl (det_assign rfl) rfl rfl trivial ?_
      refine be rfl ?_
      refine k_then ?_
      refine t_ret (k_thenR (?_))
      refine ret_tmp rfl rfl rfl (fun w1 hs => ?_)
      exact ⟨by rw [if_neg (by simp [okR]; grind)], hs.keep⟩
    ·
      have h1 : 1 ≤ r.ln ∧ r.ln ≤ 64 ∧ 1 ≤ r.rs ∧ r.rs ≤ 1099511627776 := by simpa using hb
      refine t_skip ?_
      refine k_then ?_
      refine t_seq ?_
      refine t_seq ?_
      refine b0 ?_
      refine o1 rfl (det_fieldAddr fld24_2 rfl) rfl rfl trivial ?_
      refine o1 rfl (det_load1 t1_4 rfl rfl (.head _) rfl) rfl rfl trivial ?_
      refine be rfl ?_
      refine k_then ?_
      refine t_condP Iff.rfl rfl (fun hb => ?_) (fun hb => ?_)
      ·
        have han : r.an = true := hb
        refine t_seq ?_
        refine t_seq ?_
        refine b0 ?_
        refine o1 rfl (det_loadN tN24 rfl rfl (.head _) rfl) rfl rfl trivial ?_
        refine o1 rfl (det_fieldAddr fld24_0 rfl) rfl rfl trivial ?_
        refine o1 rfl (det_load1 t1_3 rfl rfl (.head _) rfl) rfl rfl trivial ?_
        refine o1 rfl (det_fieldAddr fld24_1 rfl) rfl rfl trivial ?_
        refine o1 rfl (det_load1 t1_3 rfl rfl (.head _) rfl) rfl rfl trivial ?_
        refine o1 rfl (det_build rfl (fun w => bld24_0_1_2 _ _ _ w)) rfl rfl trivial ?_
        refine o1 rfl (det_neqS rfl rfl eqg24 (fun w => eq24 _ _ _ _ _ _ _ _ _ _ _ _ w)) rfl rfl trivial ?_
        refine be rfl ?_
        refine k_then ?_
        refine t_condP Iff.rfl rfl (fun hb => ?_) (fun hb => ?_)
        ·
          skip
          refine t_seq ?_
          refine b0 ?_
          refine o1 rfl (det_assign rfl) rfl rfl trivial ?_
          refine be rfl ?_
          refine k_then ?_
          refine t_ret (k_thenR (k_thenR (?_)))
          refine ret_tmp rfl rfl rfl (fun w1 hs => ?_)
          exact ⟨by rw [if_neg (by simp [okR, han]; grind)], hs.keep⟩
        ·
          skip
          refine t_skip ?_
          refine k_then ?_
          refine t_seq ?_
          refine b0 ?_
          refine o1 rfl (det_assign rfl) rfl rfl trivial ?_
          refine be rfl ?_
          refine k_then ?_
          refine t_ret (k_thenR (?_))
          refine ret_tmp rfl rfl rfl (fun w1 hs => ?_)
          exact ⟨by rw [if_pos (by simp [okR, han]; grind)], hs.keep⟩
      ·
        have han : r.an = false := by simpa using hb
        refine t_skip ?_
        refine k_then ?_
        refine t_seq ?_
        refine t_seq ?_
        refine t_merge (env0 := [(2, _)]) ⟨rfl, trivial⟩ 62 (.bool (decide (¬ (0 ≤ r.la ∧ r.la ≤ 65535 ∧ 0 ≤ r.at_ ∧ r.at_ ≤ 1099511627776 ∧ r.se % 2 = 1 ∧ r.se < 2 ^ r.ln.toNat)))) ?_ (fun hK => ?_)
        ·
          refine k_then ?_
          refine t_condP decide_eq_true_iff rfl (fun hb => ?_) (fun hb => ?_)
          ·
            skip
            refine t_seq ?_
            refine b0 ?_
            refine o1 rfl (det_assign rfl) rfl rfl trivial ?_
            refine be rfl ?_
            refine k_then ?_
            refine t_ret (k_thenR (?_))
            refine ret_tmp rfl rfl rfl (fun w1 hs => ?_)
            exact ⟨by rw [if_neg (by simp [okR, han, okN]; grind)], hs.keep⟩
          ·
            skip
            refine t_skip ?_
            refine k_then ?_
            refine t_seq ?_
            refine b0 ?_
            refine o1 rfl (det_assign rfl) rfl rfl trivial ?_
            refine be rfl ?_
            refine k_then ?_
            refine t_ret ?_
            refine ret_tmp rfl rfl rfl (fun w1 hs => ?_)
            exact ⟨by rw [if_pos (by simp [okR, han, okN]; grind)], hs.keep⟩
        ·
          refine bD mixed ?_
          refine r_seg 33 33 [] [0, 1, 2, 3, 4, 5, 6, 7, 8, 9, 10, 11, 12, 13, 14, 15, 16, 17, 18, 19, 20, 21, 22, 23, 24, 25, 26, 27, 28, 29, 30, 31, 32] (by kernel_rfl) ?_
          have e2 := and_one hse
          have e3 := andNot_zero hse (k := r.ln.toNat) (by omega)
          refine s1 rfl (det_fieldAddr fld24_3 rfl) rfl rfl trivial rfl ?_
          refine s1 rfl (det_load1 t1_3 rfl rfl (.head _) rfl) rfl rfl trivial rfl ?_
          refine s1 rfl (det_lss rfl rfl) rfl rfl trivial rfl ?_
          refine s2P decide_eq_true_iff rfl (det_move rfl) rfl rfl trivial rfl (fun hb => ?_) (fun hb => ?_)
          ·
            refine sn rfl rfl rfl ⟨_, rfl, .inl rfl⟩ ?_
            refine sn rfl rfl rfl ⟨_, rfl, .inl rfl⟩ ?_
            refine sn rfl rfl rfl ⟨_, rfl, .inl rfl⟩ ?_
            refine s1 rfl (det_pickT rfl rfl) rfl rfl trivial rfl ?_
            refine s1 rfl (det_move rfl) rfl rfl trivial rfl ?_
            refine sn rfl rfl rfl ⟨_, rfl, .inl rfl⟩ ?_
            refine sn rfl rfl rfl ⟨_, rfl, .inl rfl⟩ ?_
            refine sn rfl rfl rfl ⟨_, rfl, .inl rfl⟩ ?_
            refine s1 rfl (det_pickT rfl rfl) rfl rfl trivial rfl ?_
            refine s1 rfl (det_move rfl) rfl rfl trivial rfl ?_
            refine sn rfl rfl rfl ⟨_, rfl, .inl rfl⟩ ?_
            refine sn rfl rfl rfl ⟨_, rfl, .inl rfl⟩ ?_
            refine sn rfl rfl rfl ⟨_, rfl, .inl rfl⟩ ?_
            refine s1 rfl (det_pickT rfl rfl) rfl rfl trivial rfl ?_
            refine s1 rfl (det_move rfl) rfl rfl trivial rfl ?_
            refine sn rfl rfl rfl ⟨_, rfl, .inl rfl⟩ ?_
            refine sn rfl rfl rfl ⟨_, rfl, .inl rfl⟩ ?_
            refine sn rfl rfl rfl ⟨_, rfl, .inl rfl⟩ ?_
            refine sn rfl rfl rfl ⟨_, rfl, .inl rfl⟩ ?_
            refine s1 rfl (det_pickT rfl rfl) rfl rfl trivial rfl ?_
            refine s1 rfl (det_move rfl) rfl rfl trivial rfl ?_
            refine sn rfl rfl rfl ⟨_, rfl, .inl rfl⟩ ?_
            refine sn rfl rfl rfl ⟨_, rfl, .inl rfl⟩ ?_
            refine sn rfl rfl rfl ⟨_, rfl, .inl rfl⟩ ?_
            refine sn rfl rfl rfl ⟨_, rfl, .inl rfl⟩ ?_
            refine sn rfl rfl rfl ⟨_, rfl, .inl rfl⟩ ?_
            refine sn rfl rfl rfl ⟨_, rfl, .inl rfl⟩ ?_
            refine sn rfl rfl rfl ⟨_, rfl, .inl rfl⟩ ?_
            refine s1 rfl (det_pickT rfl rfl) rfl rfl trivial rfl ?_
            refine sg_nil ?_
            refine be rfl ?_
            refine tk_drop ?_ (.refl _) hK
            exact ⟨(mb rfl (by grind)), rfl, trivial⟩
          ·
            refine s1 rfl (det_fieldAddr fld24_3 rfl) rfl rfl ⟨_, rfl, rfl⟩ rfl ?_
            refine s1 rfl (det_load1 t1_3 rfl rfl (.head _) rfl) rfl rfl ⟨_, rfl, rfl⟩ rfl ?_
            refine s1 rfl (det_geq rfl rfl) rfl rfl ⟨_, rfl, rfl⟩ rfl ?_
            refine s1 rfl (det_pickF rfl rfl) rfl rfl trivial rfl ?_
            refine s2P decide_eq_true_iff rfl (det_move rfl) rfl rfl trivial rfl (fun hb => ?_) (fun hb => ?_)
            ·
              refine sn rfl rfl rfl ⟨_, rfl, .inl rfl⟩ ?_
              refine sn rfl rfl rfl ⟨_, rfl, .inl rfl⟩ ?_
              refine sn rfl rfl rfl ⟨_, rfl, .inl rfl⟩ ?_
              refine s1 rfl (det_pickT rfl rfl) rfl rfl trivial rfl ?_
              refine s1 rfl (det_move rfl) rfl rfl trivial rfl ?_
              refine sn rfl rfl rfl ⟨_, rfl, .inl rfl⟩ ?_
              refine sn rfl rfl rfl ⟨_, rfl, .inl rfl⟩ ?_
              refine sn rfl rfl rfl ⟨_, rfl, .inl rfl⟩ ?_
              refine s1 rfl (det_pickT rfl rfl) rfl rfl trivial rfl ?_
              refine s1 rfl (det_move rfl) rfl rfl trivial rfl ?_
              refine sn rfl rfl rfl ⟨_, rfl, .inl rfl⟩ ?_
              refine sn rfl rfl rfl ⟨_, rfl, .inl rfl⟩ ?_
              refine sn rfl rfl rfl ⟨_, rfl, .inl rfl⟩ ?_
              refine sn rfl rfl rfl ⟨_, rfl, .inl rfl⟩ ?_
              refine s1 rfl (det_pickT rfl rfl) rfl rfl trivial rfl ?_
              refine s1 rfl (det_move rfl) rfl rfl trivial rfl ?_
              refine sn rfl rfl rfl ⟨_, rfl, .inl rfl⟩ ?_
              refine sn rfl rfl rfl ⟨_, rfl, .inl rfl⟩ ?_
              refine sn rfl rfl rfl ⟨_, rfl, .inl rfl⟩ ?_
              refine sn rfl rfl rfl ⟨_, rfl, .inl rfl⟩ ?_
              refine sn rfl rfl rfl ⟨_, rfl, .inl rfl⟩ ?_
              refine sn rfl rfl rfl ⟨_, rfl, .inl rfl⟩ ?_
              refine sn rfl rfl rfl ⟨_, rfl, .inl rfl⟩ ?_
              refine s1 rfl (det_pickT rfl rfl) rfl rfl trivial rfl ?_
              refine sg_nil ?_
              refine be rfl ?_
              refine tk_drop ?_ (.refl _) hK
              exact ⟨(mb rfl (by grind)), rfl, trivial⟩
            ·
              refine s1 rfl (det_fieldAddr fld24_4 rfl) rfl rfl ⟨_, rfl, rfl⟩ rfl ?_
              refine s1 rfl (det_load1 t1_3 rfl rfl (.head _) rfl) rfl rfl ⟨_, rfl, rfl⟩ rfl ?_
              refine s1 rfl (det_lss rfl rfl) rfl rfl ⟨_, rfl, rfl⟩ rfl ?_
              refine s1 rfl (det_pickF rfl rfl) rfl rfl trivial rfl ?_
              refine s2P decide_eq_true_iff rfl (det_move rfl) rfl rfl trivial rfl (fun hb => ?_) (fun hb => ?_)
              ·
                refine sn rfl rfl rfl ⟨_, rfl, .inl rfl⟩ ?_
                refine sn rfl rfl rfl ⟨_, rfl, .inl rfl⟩ ?_
                refine sn rfl rfl rfl ⟨_, rfl, .inl rfl⟩ ?_
                refine s1 rfl (det_pickT rfl rfl) rfl rfl trivial rfl ?_
                refine s1 rfl (det_move rfl) rfl rfl trivial rfl ?_
                refine sn rfl rfl rfl ⟨_, rfl, .inl rfl⟩ ?_
                refine sn rfl rfl rfl ⟨_, rfl, .inl rfl⟩ ?_
                refine sn rfl rfl rfl ⟨_, rfl, .inl rfl⟩ ?_
                refine sn rfl rfl rfl ⟨_, rfl, .inl rfl⟩ ?_
                refine s1 rfl (det_pickT rfl rfl) rfl rfl trivial rfl ?_
                refine s1 rfl (det_move rfl) rfl rfl trivial rfl ?_
                refine sn rfl rfl rfl ⟨_, rfl, .inl rfl⟩ ?_
                refine sn rfl rfl rfl ⟨_, rfl, .inl rfl⟩ ?_
                refine sn rfl rfl rfl ⟨_, rfl, .inl rfl⟩ ?_
                refine sn rfl rfl rfl ⟨_, rfl, .inl rfl⟩ ?_
                refine sn rfl rfl rfl ⟨_, rfl, .inl rfl⟩ ?_
                refine sn rfl rfl rfl ⟨_, rfl, .inl rfl⟩ ?_
                refine sn rfl rfl rfl ⟨_, rfl, .inl rfl⟩ ?_
                refine s1 rfl (det_pickT rfl rfl) rfl rfl trivial rfl ?_
                refine sg_nil ?_
                refine be rfl ?_
                refine tk_drop ?_ (.refl _) hK
                exact ⟨(mb rfl (by grind)), rfl, trivial⟩
              ·
                refine s1 rfl (det_fieldAddr fld24_4 rfl) rfl rfl ⟨_, rfl, rfl⟩ rfl ?_
                refine s1 rfl (det_load1 t1_3 rfl rfl (.head _) rfl) rfl rfl ⟨_, rfl, rfl⟩ rfl ?_
                refine s1 rfl (det_gtr rfl rfl) rfl rfl ⟨_, rfl, rfl⟩ rfl ?_
                refine s1 rfl (det_pickF rfl rfl) rfl rfl trivial rfl ?_
                refine s2P decide_eq_true_iff rfl (det_move rfl) rfl rfl trivial rfl (fun hb => ?_) (fun hb => ?_)
                ·
                  refine sn rfl rfl rfl ⟨_, rfl, .inl rfl⟩ ?_
                  refine sn rfl rfl rfl ⟨_, rfl, .inl rfl⟩ ?_
                  refine sn rfl rfl rfl ⟨_, rfl, .inl rfl⟩ ?_
                  refine sn rfl rfl rfl ⟨_, rfl, .inl rfl⟩ ?_
                  refine s1 rfl (det_pickT rfl rfl) rfl rfl trivial rfl ?_
                  refine s1 rfl (det_move rfl) rfl rfl trivial rfl ?_
                  refine sn rfl rfl rfl ⟨_, rfl, .inl rfl⟩ ?_
                  refine sn rfl rfl rfl ⟨_, rfl, .inl rfl⟩ ?_
                  refine sn rfl rfl rfl ⟨_, rfl, .inl rfl⟩ ?_
                  refine sn rfl rfl rfl ⟨_, rfl, .inl rfl⟩ ?_
                  refine sn rfl rfl rfl ⟨_, rfl, .inl rfl⟩ ?_
                  refine sn rfl rfl rfl ⟨_, rfl, .inl rfl⟩ ?_
                  refine sn rfl rfl rfl ⟨_, rfl, .inl rfl⟩ ?_
                  refine s1 rfl (det_pickT rfl rfl) rfl rfl trivial rfl ?_
                  refine sg_nil ?_
                  refine be rfl ?_
                  refine tk_drop ?_ (.refl _) hK
                  exact ⟨(mb rfl (by grind)), rfl, trivial⟩
                ·
                  refine s1 rfl (det_fieldAddr fld24_5 rfl) rfl rfl ⟨_, rfl, rfl⟩ rfl ?_
                  refine s1 rfl (det_load1 t1_22 rfl rfl (.head _) rfl) rfl rfl ⟨_, rfl, rfl⟩ rfl ?_
                  refine s1 rfl (det_and rfl rfl) rfl rfl ⟨_, rfl, rfl⟩ rfl ?_
                  refine s1 rfl (det_eql rfl rfl) rfl rfl ⟨_, rfl, rfl⟩ rfl ?_
                  refine s1 rfl (det_pickF rfl rfl) rfl rfl trivial rfl ?_
                  refine s2P beq_iff_eq rfl (det_move rfl) rfl rfl trivial rfl (fun hb => ?_) (fun hb => ?_)
                  ·
                    refine sn rfl rfl rfl ⟨_, rfl, .inl rfl⟩ ?_
                    refine sn rfl rfl rfl ⟨_, rfl, .inl rfl⟩ ?_
                    refine sn rfl rfl rfl ⟨_, rfl, .inl rfl⟩ ?_
                    refine sn rfl rfl rfl ⟨_, rfl, .inl rfl⟩ ?_
                    refine sn rfl rfl rfl ⟨_, rfl, .inl rfl⟩ ?_
                    refine sn rfl rfl rfl ⟨_, rfl, .inl rfl⟩ ?_
                    refine sn rfl rfl rfl ⟨_, rfl, .inl rfl⟩ ?_
                    refine s1 rfl (det_pickT rfl rfl) rfl rfl trivial rfl ?_
                    refine sg_nil ?_
                    refine be rfl ?_
                    refine tk_drop ?_ (.refl _) hK
                    exact ⟨(mb rfl (by grind)), rfl, trivial⟩
                  ·
                    refine s1 rfl (det_fieldAddr fld24_5 rfl) rfl rfl ⟨_, rfl, rfl⟩ rfl ?_
                    refine s1 rfl (det_load1 t1_22 rfl rfl (.head _) rfl) rfl rfl ⟨_, rfl, rfl⟩ rfl ?_
                    refine s1 rfl (det_fieldAddr fld24_0 rfl) rfl rfl ⟨_, rfl, rfl⟩ rfl ?_
                    refine s1 rfl (det_load1 t1_3 rfl rfl (.head _) rfl) rfl rfl ⟨_, rfl, rfl⟩ rfl ?_
                    refine s1 rfl (det_call hb25 rfl rfl (fun w1 hs => mask_ok hs.know (by omega))) rfl rfl ⟨_, rfl, rfl⟩ rfl ?_
                    refine s1 rfl (det_andNot rfl rfl) rfl rfl ⟨_, rfl, rfl⟩ rfl ?_
                    refine s1 rfl (det_neq rfl rfl) rfl rfl ⟨_, rfl, rfl⟩ rfl ?_
                    refine s1 rfl (det_pickF rfl rfl) rfl rfl trivial rfl ?_
                    refine sg_nil ?_
                    refine be rfl ?_
                    refine tk_drop ?_ (.refl _) hK
                    exact ⟨(mb rfl (by grind)), rfl, trivial⟩
  ·
    refine b0 ?_
    refine o1 rfl (det_fieldAddr fld24_0 rfl) rfl rfl trivial ?_
    refine o1 rfl (det_load1 t1_3 rfl rfl (.head _) rfl) rfl rfl trivial ?_
    refine o1 rfl (det_lss rfl rfl) rfl rfl trivial ?_
    refine o2P decide_eq_true_iff rfl (det_move rfl) rfl rfl trivial (fun hb => ?_) (fun hb => ?_)
    ·
      refine on rfl rfl rfl ⟨_, rfl, .inl rfl⟩ ?_
      refine on rfl rfl rfl ⟨_, rfl, .inl rfl⟩ ?_
      refine on rfl rfl rfl ⟨_, rfl, .inl rfl⟩ ?_
      refine o1 rfl (det_pickT rfl rfl) rfl rfl trivial ?_
      refine o1 rfl (det_move rfl) rfl rfl trivial ?_
      refine on rfl rfl rfl ⟨_, rfl, .inl rfl⟩ ?_
      refine on rfl rfl rfl ⟨_, rfl, .inl rfl⟩ ?_
      refine on rfl rfl rfl ⟨_, rfl, .inl rfl⟩ ?_
      refine o1 rfl (det_pickT rfl rfl) rfl rfl trivial ?_
      refine o1 rfl (det_move rfl) rfl rfl trivial ?_
      refine on rfl rfl rfl ⟨_, rfl, .inl rfl⟩ ?_
      refine on rfl rfl rfl ⟨_, rfl, .inl rfl⟩ ?_
      refine on rfl rfl rfl ⟨_, rfl, .inl rfl⟩ ?_
      refine o1 rfl (det_pickT rfl rfl) rfl rfl trivial ?_
      refine be rfl ?_
      refine tk_drop ?_ (.refl _) hK
      exact ⟨(mb rfl (by grind)), rfl, rfl, trivial⟩
    ·
      refine o1 rfl (det_fieldAddr fld24_0 rfl) rfl rfl ⟨_, rfl, rfl⟩ ?_
      refine o1 rfl (det_load1 t1_3 rfl rfl (.head _) rfl) rfl rfl ⟨_, rfl, rfl⟩ ?_
      refine o1 rfl (det_gtr rfl rfl) rfl rfl ⟨_, rfl, rfl⟩ ?_
      refine o1 rfl (det_pickF rfl rfl) rfl rfl trivial ?_
      refine o2P decide_eq_true_iff rfl (det_move rfl) rfl rfl trivial (fun hb => ?_) (fun hb => ?_)
      ·
        refine on rfl rfl rfl ⟨_, rfl, .inl rfl⟩ ?_
        refine on rfl rfl rfl ⟨_, rfl, .inl rfl⟩ ?_
        refine on rfl rfl rfl ⟨_, rfl, .inl rfl⟩ ?_
        refine o1 rfl (det_pickT rfl rfl) rfl rfl trivial ?_
        refine o1 rfl (det_move rfl) rfl rfl trivial ?_
        refine on rfl rfl rfl ⟨_, rfl, .inl rfl⟩ ?_
        refine on rfl rfl rfl ⟨_, rfl, .inl rfl⟩ ?_
        refine on rfl rfl rfl ⟨_, rfl, .inl rfl⟩ ?_
        refine o1 rfl (det_pickT rfl rfl) rfl rfl trivial ?_
        refine be rfl ?_
        refine tk_drop ?_ (.refl _) hK
        exact ⟨(mb rfl (by grind)), rfl, rfl, trivial⟩
      ·
        refine o1 rfl (det_fieldAddr fld24_1 rfl) rfl rfl ⟨_, rfl, rfl⟩ ?_
        refine o1 rfl (det_load1 t1_3 rfl rfl (.head _) rfl) rfl rfl ⟨_, rfl, rfl⟩ ?_
        refine o1 rfl (det_lss rfl rfl) rfl rfl ⟨_, rfl, rfl⟩ ?_
        refine o1 rfl (det_pickF rfl rfl) rfl rfl trivial ?_
        refine o2P decide_eq_true_iff rfl (det_move rfl) rfl rfl trivial (fun hb => ?_) (fun hb => ?_)
        ·
          refine on rfl rfl rfl ⟨_, rfl, .inl rfl⟩ ?_
          refine on rfl rfl rfl ⟨_, rfl, .inl rfl⟩ ?_
          refine on rfl rfl rfl ⟨_, rfl, .inl rfl⟩ ?_
          refine o1 rfl (det_pickT rfl rfl) rfl rfl trivial ?_
          refine be rfl ?_
          refine tk_drop ?_ (.refl _) hK
          exact ⟨(mb rfl (by grind)), rfl, rfl, trivial⟩
        ·
          refine o1 rfl (det_fieldAddr fld24_1 rfl) rfl rfl ⟨_, rfl, rfl⟩ ?_
          refine o1 rfl (det_load1 t1_3 rfl rfl (.head _) rfl) rfl rfl ⟨_, rfl, rfl⟩ ?_
          refine o1 rfl (det_gtr rfl rfl) rfl rfl ⟨_, rfl, rfl⟩ ?_
          refine o1 rfl (det_pickF rfl rfl) rfl rfl trivial ?_
          refine be rfl ?_
          refine tk_drop ?_ (.refl _) hK
          exact ⟨(mb rfl (by grind)), rfl, rfl, trivial⟩

end Go.Proofs.Rc
