/-
  Walks through layer 40 and its reference.
-/
import Derived.Test.YtichjhggoioenaaRcL0
import Derived.Test.YtichjhggoioenaaRcW11
namespace Go.Proofs.Rc
open Go Go.Eng Go.Rc
set_option maxRecDepth 4000

set_option maxHeartbeats 1000000 in
/-- RecoverChecks. -/
theorem checks_ok {w : World} {F : Know} (hF : ∀ a v, F a = some v → w.cell? a = some v) {r : Rc} (hse : r.se < 18446744073709551616) {d : Df} (hd : Df.rng d) {wh : Int} (hwh : 0 ≤ wh ∧ wh ≤ 255) {bz : Nat} (hbz : bz < 18446744073709551616) : Pure Try.prog 3 [.agg (rcv r).toArray, .agg (dfv d).toArray, .int .u8 wh, .int .u64 (bz : Int)] w (.bool true) := by
  refine fn_pure (F := F) Try.func3 rfl Try.ntmps3 rfl hF ?_
  refine t_seq ?_
  refine b0 ?_
  refine om1 rfl (new_boxN rfl) rfl rfl trivial (fun p4 => ?_)
  refine om1 rfl (new_boxN rfl) rfl rfl trivial (fun p5 => ?_)
  refine o1 rfl (det_assign rfl) rfl rfl trivial ?_
  refine be rfl ?_
  refine k_then ?_
  refine t_seq ?_
  refine t_seq ?_
  refine b0 ?_
  refine o1 rfl (det_call hb9 rfl rfl (fun w1 hs => works_ok hs.know)) rfl rfl trivial ?_
  refine o1 rfl (det_not rfl) rfl rfl trivial ?_
  refine be rfl ?_
  refine k_then ?_
  refine t_condP not_iff_false rfl (fun hb => ?_) (fun hb => ?_)
  · exfalso; simp at hb
  refine t_skip ?_
  refine k_then ?_
  refine t_seq ?_
  refine b0 ?_
  have hdse := okR_se (ok_dfR hd)
  refine o1 rfl (det_loadN tN28 rfl rfl (.head _) rfl) rfl rfl trivial ?_
  refine o1 rfl (det_call hb10 rfl rfl (fun w1 hs => draft_ok hs.know hd)) rfl rfl trivial ?_
  refine om1 rfl (new_alloc z24) rfl rfl trivial (fun p9 => ?_)
  refine stN nofun rfl tN24 rfl rfl rfl .head rfl trivial rfl rfl ?_
  refine be rfl ?_
  refine k_then ?_
  refine t_seq ?_
  refine b0 ?_
  refine o1 rfl (det_loadN tN24 rfl rfl (.head _) rfl) rfl rfl trivial ?_
  refine om1 rfl (new_alloc z24) rfl rfl trivial (fun p10 => ?_)
  refine stN nofun rfl tN24 rfl rfl rfl .head rfl trivial rfl rfl ?_
  refine be rfl ?_
  refine k_then ?_
  refine t_seq ?_
  refine t_seq ?_
  refine b0 ?_
  refine o1 rfl (det_move rfl) rfl rfl trivial ?_
  first | (refine o1 rfl (det_remP rfl rfl ?_) rfl rfl trivial ?_; (· omega)) | (refine o1 rfl (det_rem rfl rfl ?_) rfl rfl trivial ?_; (· (first | decide | omega)))
  refine be rfl ?_
  refine k_then ?_
  refine t_block ?_
  refine t_seq ?_
  refine b0 ?_
  refine o1 rfl (det_eql rfl rfl) rfl rfl trivial ?_
  refine o1 rfl (det_assign rfl) rfl rfl trivial ?_
  refine be rfl ?_
  refine k_then ?_
  refine t_condP beq_iff_eq rfl (fun hb => ?_) (fun hb => ?_)
  ·
    skip --note:b0
    refine b0 ?_
    refine o1 rfl (det_move rfl) rfl rfl trivial ?_
    first | (refine o1 rfl (det_convW Try.underlying22 Try.underlying3 rfl ?_) rfl rfl trivial ?_; (· exact IntWalk.i64_in _ (by omega))) | refine o1 rfl (det_conv Try.underlying22 Try.underlying3 rfl) rfl rfl trivial ?_
    refine o1 rfl (det_fieldAddr fld24_0 rfl) rfl rfl trivial ?_
    refine st1 nofun rfl t1_3 rfl rfl rfl .head rfl trivial rfl ?_
    refine be rfl ?_
    refine k_blk ?_
    refine k_then ?_
    refine t_seq ?_
    refine t_seq ?_
    refine b0 ?_
    refine o1 rfl (det_loadN tN24 rfl rfl (.tail _ (.tail _ (.tail _ (.head _)))) rfl) rfl rfl trivial ?_
    refine o1 rfl (det_loadN tN24 rfl rfl (.tail _ (.head _)) rfl) rfl rfl trivial ?_
    refine o1 rfl (det_loadN tN24 rfl rfl (.head _) rfl) rfl rfl trivial ?_
    refine o1 rfl (det_build rfl (fun w => bld31_0_1_2 _ _ _ _ _ _ _ _ _ _ _ _ _ _ _ _ _ _ w)) rfl rfl trivial ?_
    refine o1 rfl (det_move rfl) rfl rfl trivial ?_
    refine be rfl ?_
    refine k_then ?_
    refine t_block ?_
    refine t_whileK (σ := Nat) (fun s => [(56, .int .i64 s)]) (fun s => F) (fun _ => _) (fun s => 3 - s) (fun s => s ≤ 3) 0 (env0 := [(10, _), (55, _)]) (Nat.zero_le _) incl_refl ⟨rfl, trivial⟩ ⟨rfl, rfl, trivial⟩ (.refl _) ?_
    intro s hsl
    refine t_seq ?_
    refine b0 ?_
    refine o1 rfl (det_lss rfl rfl) rfl rfl trivial ?_
    refine be rfl ?_
    refine k_then ?_
    refine t_seq ?_
    refine t_condP decide_eq_true_iff rfl (fun hb => ?_) (fun hb => ?_)
    ·
      have hlt : s < 3 := by omega
      obtain ⟨y, hcut, hyse⟩ : ∃ y : Rc, cutV ((s : Int).toNat * 6) 6 (rcv r ++ rcv (dfR d) ++ rcv ({ dfR d with ln := IntKind.i64.wrap (bz : Int) } : Rc)) = some (rcv y) ∧ y.se < 18446744073709551616 := by
        have h6 : s = 0 ∨ s = 1 ∨ s = 2 := by omega
        rcases h6 with rfl | rfl | rfl
        · exact ⟨r, rfl, hse⟩
        · exact ⟨dfR d, rfl, hdse⟩
        · exact ⟨({ dfR d with ln := IntKind.i64.wrap (bz : Int) } : Rc), rfl, hdse⟩
      refine t_skip ?_
      refine k_then ?_
      refine t_seq ?_
      refine t_block ?_
      refine t_seq ?_
      refine b0 ?_
      refine o1 rfl (det_indexN ar31 tN24 rfl rfl (by omega) hcut) rfl rfl trivial ?_
      refine om1 rfl (new_alloc z24) rfl rfl trivial (fun p12 => ?_)
      refine stN nofun rfl tN24 rfl rfl rfl .head rfl trivial rfl rfl ?_
      refine be rfl ?_
      refine k_then ?_
      refine t_seq ?_
      refine b0 ?_
      refine o1 rfl (det_loadN tN24 rfl rfl (.head _) rfl) rfl rfl trivial ?_
      refine oF nofun rfl hb11 rfl rfl rfl trivial (fun w1 hs => (missing_ok hs.know hyse).any) (fun v1 F1 hF1 hN1 ⟨A1, n1, c1, hv, hm1⟩ => ?_)
      subst hv
      refine o1 rfl (det_move rfl) rfl rfl trivial ?_
      refine o1 rfl (det_extract rfl rfl) rfl rfl trivial ?_
      refine o1 rfl (det_extract rfl rfl) rfl rfl trivial ?_
      refine o1 rfl (det_assign rfl) rfl rfl trivial ?_
      refine o1 rfl (det_assign rfl) rfl rfl trivial ?_
      refine be rfl ?_
      refine k_then ?_
      refine t_seq ?_
      refine t_seq ?_
      refine b0 ?_
      refine o1 rfl (det_loadN tN24 rfl rfl (.head _) rfl) rfl rfl trivial ?_
      refine o1 rfl (det_call hb12 rfl rfl (fun w1 hs => right_ok hs.know hyse)) rfl rfl trivial ?_
      refine o1 rfl (det_not rfl) rfl rfl trivial ?_
      refine be rfl ?_
      refine k_then ?_
      refine t_condP not_iff_false rfl (fun hb => ?_) (fun hb => ?_)
      ·
        have hno : okR y = false := by simpa using hb
        simp only [hno, Bool.false_eq_true, if_false] at hm1
        have hn0 : n1 = 0 := hm1.len
        refine t_seq ?_
        refine t_seq ?_
        refine t_merge (env0 := [(10, _), (12, _), (13, _), (14, _), (55, _), (56, _)]) ⟨rfl, rfl, rfl, rfl, rfl, rfl, trivial⟩ 78 (.bool false) ?_ (fun hK => ?_)
        ·
          refine k_then ?_
          refine t_condF rfl ?_
          refine t_skip ?_
          refine k_then ?_
          refine t_exit ?_
          refine k_thenE ?_
          refine k_blkE ?_
          refine k_then ?_
          refine b0 ?_
          first | (refine o1 rfl (det_addI rfl rfl ?_) rfl rfl trivial ?_; (· omega)) | refine o1 rfl (det_add rfl rfl) rfl rfl trivial ?_
          refine o1 rfl (det_move rfl) rfl rfl trivial ?_
          refine be rfl ?_
          refine k_then ?_
          refine loop_backK (s + 1) (by omega) (by omega) hF1 ⟨rfl, rfl, rfl, trivial⟩ (.cons _ (.refl _))
        ·
          refine b0 ?_
          refine o1 rfl (det_loadN tN24 rfl rfl (.head _) rfl) rfl rfl trivial ?_
          refine o1 rfl (det_call hb13 rfl rfl (fun w1 hs => check_ok hs.know hyse)) rfl rfl trivial ?_
          refine o1 rfl (det_neq rfl rfl) rfl rfl trivial ?_
          refine o2P bne_iff_ne rfl (det_move rfl) rfl rfl trivial (fun hb => ?_) (fun hb => ?_)
          ·
            skip
            refine on rfl rfl rfl ⟨_, rfl, .inl rfl⟩ ?_
            refine on rfl rfl rfl ⟨_, rfl, .inl rfl⟩ ?_
            refine o1 rfl (det_pickT rfl rfl) rfl rfl trivial ?_
            refine o1 rfl (det_move rfl) rfl rfl trivial ?_
            refine on rfl rfl rfl ⟨_, rfl, .inl rfl⟩ ?_
            refine on rfl rfl rfl ⟨_, rfl, .inl rfl⟩ ?_
            refine on rfl rfl rfl ⟨_, rfl, .inl rfl⟩ ?_
            refine o1 rfl (det_pickT rfl rfl) rfl rfl trivial ?_
            refine be rfl ?_
            refine tk_drop ?_ (.refl _) hK
            exact ⟨(mb rfl (by grind)), rfl, rfl, rfl, rfl, rfl, rfl, trivial⟩
          ·
            skip
            refine o1 rfl (det_move rfl) rfl rfl ⟨_, rfl, rfl⟩ ?_
            refine o1 rfl (det_neq rfl rfl) rfl rfl ⟨_, rfl, rfl⟩ ?_
            refine o1 rfl (det_pickF rfl rfl) rfl rfl trivial ?_
            refine o2P bne_iff_ne rfl (det_move rfl) rfl rfl trivial (fun hb => ?_) (fun hb => ?_)
            ·
              skip
              refine on rfl rfl rfl ⟨_, rfl, .inl rfl⟩ ?_
              refine on rfl rfl rfl ⟨_, rfl, .inl rfl⟩ ?_
              refine on rfl rfl rfl ⟨_, rfl, .inl rfl⟩ ?_
              refine o1 rfl (det_pickT rfl rfl) rfl rfl trivial ?_
              refine be rfl ?_
              refine tk_drop ?_ (.refl _) hK
              exact ⟨(mb rfl (by grind)), rfl, rfl, rfl, rfl, rfl, rfl, trivial⟩
            ·
              skip
              refine o1 rfl (det_move rfl) rfl rfl ⟨_, rfl, rfl⟩ ?_
              refine o1 rfl (det_lenS sl32 rfl) rfl rfl ⟨_, rfl, rfl⟩ ?_
              refine o1 rfl (det_gtr rfl rfl) rfl rfl ⟨_, rfl, rfl⟩ ?_
              refine o1 rfl (det_pickF rfl rfl) rfl rfl trivial ?_
              refine be rfl ?_
              refine tk_drop ?_ (.refl _) hK
              exact ⟨(mb rfl (by grind)), rfl, rfl, rfl, rfl, rfl, rfl, trivial⟩
      ·
        have hok : okR y = true := by simpa using hb
        simp only [hok, if_true] at hm1
        refine t_skip ?_
        refine k_then ?_
        refine t_seq ?_
        refine b0 ?_
        refine o1 rfl (det_loadN tN24 rfl rfl (.head _) rfl) rfl rfl trivial ?_
        refine o1 rfl (det_call hb13 rfl rfl (fun w1 hs => check_ok hs.know hyse)) rfl rfl trivial ?_
        refine o1 rfl (det_neq rfl rfl) rfl rfl trivial ?_
        refine o2P bne_iff_ne rfl (det_move rfl) rfl rfl trivial (fun hb => ?_) (fun hb => ?_)
        · exfalso; simp [hok] at hb
        refine o1 rfl (det_move rfl) rfl rfl ⟨_, rfl, rfl⟩ ?_
        refine o1 rfl (det_neq rfl rfl) rfl rfl ⟨_, rfl, rfl⟩ ?_
        refine o1 rfl (det_pickF rfl rfl) rfl rfl trivial ?_
        refine o2P bne_iff_ne rfl (det_move rfl) rfl rfl trivial (fun hb => ?_) (fun hb => ?_)
        · exfalso; simp [hok] at hb
        refine o1 rfl (det_move rfl) rfl rfl ⟨_, rfl, rfl⟩ ?_
        refine o1 rfl (det_loadN tN24 rfl rfl (.head _) rfl) rfl rfl ⟨_, rfl, rfl⟩ ?_
        refine oF nofun rfl hb15 rfl rfl rfl ⟨_, rfl, rfl⟩ (fun w1 hs => (rmissing_ok hs.know hok).any) (fun v2 F2 hF2 hN2 ⟨A2, n2, c2, hv, hm2⟩ => ?_)
        subst hv
        refine o1 rfl (det_call hb14 rfl rfl (fun w1 hs => equalI_ok hs.know (hm1.mono hF2) hm2 (by rw [hm1.len]; have := missL_len y hok; omega))) rfl rfl ⟨_, rfl, rfl⟩ ?_
        refine o1 rfl (det_not rfl) rfl rfl ⟨_, rfl, rfl⟩ ?_
        refine o1 rfl (det_pickF rfl rfl) rfl rfl trivial ?_
        refine be rfl ?_
        refine k_then ?_
        refine t_condP not_iff_false rfl (fun hb => ?_) (fun hb => ?_)
        · exfalso; simp at hb
        refine t_skip ?_
        refine k_blk ?_
        refine k_then ?_
        refine b0 ?_
        first | (refine o1 rfl (det_addI rfl rfl ?_) rfl rfl trivial ?_; (· omega)) | refine o1 rfl (det_add rfl rfl) rfl rfl trivial ?_
        refine o1 rfl (det_move rfl) rfl rfl trivial ?_
        refine be rfl ?_
        refine k_then ?_
        refine loop_backK (s + 1) (by omega) (by omega) (fun a u h => hF2 a u (hF1 a u h)) ⟨rfl, rfl, rfl, trivial⟩ (.cons _ (.refl _))
    ·
      skip
      refine t_exit ?_
      refine k_thenE ?_
      refine k_thenE ?_
      refine k_blkE ?_
      refine k_then ?_
      refine t_seq ?_
      refine b0 ?_
      cases hko : okR (anyR ({ dfR d with ln := IntKind.i64.wrap (bz : Int) } : Rc).ln ({ dfR d with ln := IntKind.i64.wrap (bz : Int) } : Rc).rs)
      ·
        have hko2 := mt ok_any_iff.2 (show ¬ (_ = true) by rw [hko]; simp)
        refine o1 rfl (det_fieldAddr fld24_0 rfl) rfl rfl trivial ?_
        refine o1 rfl (det_load1 t1_3 rfl rfl (.head _) rfl) rfl rfl trivial ?_
        refine o1 rfl (det_fieldAddr fld24_1 rfl) rfl rfl trivial ?_
        refine o1 rfl (det_load1 t1_3 rfl rfl (.head _) rfl) rfl rfl trivial ?_
        refine o1 rfl (det_call hb16 rfl rfl (fun w1 hs => new_at hs.know hko)) rfl rfl trivial ?_
        refine o1 rfl (det_move rfl) rfl rfl trivial ?_
        refine o1 rfl (det_extract rfl rfl) rfl rfl trivial ?_
        refine o1 rfl (det_extract rfl rfl) rfl rfl trivial ?_
        refine om1 rfl (new_alloc z24) rfl rfl trivial (fun p15 => ?_)
        refine stN nofun rfl tN24 rfl rfl rfl .head rfl trivial rfl rfl ?_
        refine o1 rfl (det_assign rfl) rfl rfl trivial ?_
        refine be rfl ?_
        refine k_then ?_
        refine t_seq ?_
        refine t_seq ?_
        refine t_merge (env0 := [(10, _), (15, _), (16, _)]) ⟨rfl, rfl, rfl, trivial⟩ 119 (.bool true) ?_ (fun hK => ?_)
        ·
          refine k_then ?_
          refine t_condT rfl ?_
          refine t_seq ?_
          refine b0 ?_
          refine o1 rfl (det_move rfl) rfl rfl trivial ?_
          refine o1 rfl (det_eql rfl rfl) rfl rfl trivial ?_
          refine o2P beq_iff_eq rfl (det_move rfl) rfl rfl trivial (fun hb => ?_) (fun hb => ?_)
          rotate_left
          · exfalso; first | exact hb rfl | (simp at hb; done) | (revert hb; decide)
          refine o1 rfl (det_loadN tN24 rfl rfl (.head _) rfl) rfl rfl ⟨_, rfl, rfl⟩ ?_
          refine o1 rfl (det_build rfl (fun w => bld24_ w)) rfl rfl ⟨_, rfl, rfl⟩ ?_
          refine o1 rfl (det_eqlS rfl rfl eqg24 (fun w => eq24 _ _ _ _ _ _ _ _ _ _ _ _ w)) rfl rfl ⟨_, rfl, rfl⟩ ?_
          refine o1 rfl (det_pickT rfl rfl) rfl rfl trivial ?_
          refine o1 rfl (det_assign rfl) rfl rfl trivial ?_
          refine be rfl ?_
          refine k_then ?_
          refine t_ret (k_thenR (?_))
          refine ret_tmp rfl rfl rfl (fun w1 hs => ?_)
          first | exact ⟨rfl, hs.keep⟩ | exact ⟨by simp [anyR], hs.keep⟩
        ·
          refine b0 ?_
          refine o1 rfl (det_fieldAddr fld24_0 rfl) rfl rfl trivial ?_
          refine o1 rfl (det_load1 t1_3 rfl rfl (.tail _ (.head _)) rfl) rfl rfl trivial ?_
          refine o1 rfl (det_lss rfl rfl) rfl rfl trivial ?_
          refine o2P decide_eq_true_iff rfl (det_move rfl) rfl rfl trivial (fun hb => ?_) (fun hb => ?_)
          ·
            skip
            refine on rfl rfl rfl ⟨_, rfl, .inl rfl⟩ ?_
            refine on rfl rfl rfl ⟨_, rfl, .inl rfl⟩ ?_
            refine on rfl rfl rfl ⟨_, rfl, .inl rfl⟩ ?_
            refine o1 rfl (det_pickT rfl rfl) rfl rfl trivial ?_
            refine o1 rfl (det_move rfl) rfl rfl trivial ?_
            refine on rfl rfl rfl ⟨_, rfl, .inl rfl⟩ ?_
            refine on rfl rfl rfl ⟨_, rfl, .inl rfl⟩ ?_
            refine on rfl rfl rfl ⟨_, rfl, .inl rfl⟩ ?_
            refine o1 rfl (det_pickT rfl rfl) rfl rfl trivial ?_
            refine o1 rfl (det_move rfl) rfl rfl trivial ?_
            refine on rfl rfl rfl ⟨_, rfl, .inl rfl⟩ ?_
            refine on rfl rfl rfl ⟨_, rfl, .inl rfl⟩ ?_
            refine on rfl rfl rfl ⟨_, rfl, .inl rfl⟩ ?_
            refine o1 rfl (det_pickT rfl rfl) rfl rfl trivial ?_
            refine be rfl ?_
            refine tk_drop ?_ (.refl _) hK
            exact ⟨(mb rfl (by grind)), rfl, rfl, rfl, trivial⟩
          ·
            skip
            refine o1 rfl (det_fieldAddr fld24_0 rfl) rfl rfl ⟨_, rfl, rfl⟩ ?_
            refine o1 rfl (det_load1 t1_3 rfl rfl (.tail _ (.head _)) rfl) rfl rfl ⟨_, rfl, rfl⟩ ?_
            refine o1 rfl (det_gtr rfl rfl) rfl rfl ⟨_, rfl, rfl⟩ ?_
            refine o1 rfl (det_pickF rfl rfl) rfl rfl trivial ?_
            refine o2P decide_eq_true_iff rfl (det_move rfl) rfl rfl trivial (fun hb => ?_) (fun hb => ?_)
            ·
              skip
              refine on rfl rfl rfl ⟨_, rfl, .inl rfl⟩ ?_
              refine on rfl rfl rfl ⟨_, rfl, .inl rfl⟩ ?_
              refine on rfl rfl rfl ⟨_, rfl, .inl rfl⟩ ?_
              refine o1 rfl (det_pickT rfl rfl) rfl rfl trivial ?_
              refine o1 rfl (det_move rfl) rfl rfl trivial ?_
              refine on rfl rfl rfl ⟨_, rfl, .inl rfl⟩ ?_
              refine on rfl rfl rfl ⟨_, rfl, .inl rfl⟩ ?_
              refine on rfl rfl rfl ⟨_, rfl, .inl rfl⟩ ?_
              refine o1 rfl (det_pickT rfl rfl) rfl rfl trivial ?_
              refine be rfl ?_
              refine tk_drop ?_ (.refl _) hK
              exact ⟨(mb rfl (by grind)), rfl, rfl, rfl, trivial⟩
            ·
              skip
              refine o1 rfl (det_fieldAddr fld24_1 rfl) rfl rfl ⟨_, rfl, rfl⟩ ?_
              refine o1 rfl (det_load1 t1_3 rfl rfl (.tail _ (.head _)) rfl) rfl rfl ⟨_, rfl, rfl⟩ ?_
              refine o1 rfl (det_lss rfl rfl) rfl rfl ⟨_, rfl, rfl⟩ ?_
              refine o1 rfl (det_pickF rfl rfl) rfl rfl trivial ?_
              refine o2P decide_eq_true_iff rfl (det_move rfl) rfl rfl trivial (fun hb => ?_) (fun hb => ?_)
              ·
                skip
                refine on rfl rfl rfl ⟨_, rfl, .inl rfl⟩ ?_
                refine on rfl rfl rfl ⟨_, rfl, .inl rfl⟩ ?_
                refine on rfl rfl rfl ⟨_, rfl, .inl rfl⟩ ?_
                refine o1 rfl (det_pickT rfl rfl) rfl rfl trivial ?_
                refine be rfl ?_
                refine tk_drop ?_ (.refl _) hK
                exact ⟨(mb rfl (by grind)), rfl, rfl, rfl, trivial⟩
              ·
                skip
                refine o1 rfl (det_fieldAddr fld24_1 rfl) rfl rfl ⟨_, rfl, rfl⟩ ?_
                refine o1 rfl (det_load1 t1_3 rfl rfl (.tail _ (.head _)) rfl) rfl rfl ⟨_, rfl, rfl⟩ ?_
                refine o1 rfl (det_gtr rfl rfl) rfl rfl ⟨_, rfl, rfl⟩ ?_
                refine o1 rfl (det_pickF rfl rfl) rfl rfl trivial ?_
                refine be rfl ?_
                refine tk_drop ?_ (.refl _) hK
                exact ⟨(mb rfl (by grind)), rfl, rfl, rfl, trivial⟩
      ·
        have hko2 := ok_any_iff.1 hko
        refine o1 rfl (det_fieldAddr fld24_0 rfl) rfl rfl trivial ?_
        refine o1 rfl (det_load1 t1_3 rfl rfl (.head _) rfl) rfl rfl trivial ?_
        refine o1 rfl (det_fieldAddr fld24_1 rfl) rfl rfl trivial ?_
        refine o1 rfl (det_load1 t1_3 rfl rfl (.head _) rfl) rfl rfl trivial ?_
        refine o1 rfl (det_call hb16 rfl rfl (fun w1 hs => new_at hs.know hko)) rfl rfl trivial ?_
        refine o1 rfl (det_move rfl) rfl rfl trivial ?_
        refine o1 rfl (det_extract rfl rfl) rfl rfl trivial ?_
        refine o1 rfl (det_extract rfl rfl) rfl rfl trivial ?_
        refine om1 rfl (new_alloc z24) rfl rfl trivial (fun p15 => ?_)
        refine stN nofun rfl tN24 rfl rfl rfl .head rfl trivial rfl rfl ?_
        refine o1 rfl (det_assign rfl) rfl rfl trivial ?_
        refine be rfl ?_
        refine k_then ?_
        refine t_seq ?_
        refine t_seq ?_
        refine t_merge (env0 := [(10, _), (15, _), (16, _)]) ⟨rfl, rfl, rfl, trivial⟩ 119 (.bool false) ?_ (fun hK => ?_)
        ·
          refine k_then ?_
          refine t_condF rfl ?_
          refine t_skip ?_
          refine k_then ?_
          refine t_seq ?_
          refine b0 ?_
          refine o1 rfl (det_move rfl) rfl rfl trivial ?_
          refine o1 rfl (det_eql rfl rfl) rfl rfl trivial ?_
          refine o2P beq_iff_eq rfl (det_move rfl) rfl rfl trivial (fun hb => ?_) (fun hb => ?_)
          rotate_left
          · exfalso; first | exact hb rfl | (simp at hb; done) | (revert hb; decide)
          refine o1 rfl (det_loadN tN24 rfl rfl (.head _) rfl) rfl rfl ⟨_, rfl, rfl⟩ ?_
          refine o1 rfl (det_fieldAddr fld24_0 rfl) rfl rfl ⟨_, rfl, rfl⟩ ?_
          refine o1 rfl (det_load1 t1_3 rfl rfl (.tail _ (.head _)) rfl) rfl rfl ⟨_, rfl, rfl⟩ ?_
          refine o1 rfl (det_fieldAddr fld24_1 rfl) rfl rfl ⟨_, rfl, rfl⟩ ?_
          refine o1 rfl (det_load1 t1_3 rfl rfl (.tail _ (.head _)) rfl) rfl rfl ⟨_, rfl, rfl⟩ ?_
          refine o1 rfl (det_build rfl (fun w => bld24_0_1_2 _ _ _ w)) rfl rfl ⟨_, rfl, rfl⟩ ?_
          refine o1 rfl (det_eqlS rfl rfl eqg24 (fun w => eq24 _ _ _ _ _ _ _ _ _ _ _ _ w)) rfl rfl ⟨_, rfl, rfl⟩ ?_
          refine o1 rfl (det_pickT rfl rfl) rfl rfl trivial ?_
          refine o1 rfl (det_assign rfl) rfl rfl trivial ?_
          refine be rfl ?_
          refine k_then ?_
          refine t_ret ?_
          refine ret_tmp rfl rfl rfl (fun w1 hs => ?_)
          first | exact ⟨rfl, hs.keep⟩ | exact ⟨by simp [anyR], hs.keep⟩
        ·
          refine b0 ?_
          refine o1 rfl (det_fieldAddr fld24_0 rfl) rfl rfl trivial ?_
          refine o1 rfl (det_load1 t1_3 rfl rfl (.tail _ (.head _)) rfl) rfl rfl trivial ?_
          refine o1 rfl (det_lss rfl rfl) rfl rfl trivial ?_
          refine o2P decide_eq_true_iff rfl (det_move rfl) rfl rfl trivial (fun hb => ?_) (fun hb => ?_)
          ·
            skip
            refine on rfl rfl rfl ⟨_, rfl, .inl rfl⟩ ?_
            refine on rfl rfl rfl ⟨_, rfl, .inl rfl⟩ ?_
            refine on rfl rfl rfl ⟨_, rfl, .inl rfl⟩ ?_
            refine o1 rfl (det_pickT rfl rfl) rfl rfl trivial ?_
            refine o1 rfl (det_move rfl) rfl rfl trivial ?_
            refine on rfl rfl rfl ⟨_, rfl, .inl rfl⟩ ?_
            refine on rfl rfl rfl ⟨_, rfl, .inl rfl⟩ ?_
            refine on rfl rfl rfl ⟨_, rfl, .inl rfl⟩ ?_
            refine o1 rfl (det_pickT rfl rfl) rfl rfl trivial ?_
            refine o1 rfl (det_move rfl) rfl rfl trivial ?_
            refine on rfl rfl rfl ⟨_, rfl, .inl rfl⟩ ?_
            refine on rfl rfl rfl ⟨_, rfl, .inl rfl⟩ ?_
            refine on rfl rfl rfl ⟨_, rfl, .inl rfl⟩ ?_
            refine o1 rfl (det_pickT rfl rfl) rfl rfl trivial ?_
            refine be rfl ?_
            refine tk_drop ?_ (.refl _) hK
            exact ⟨(mb rfl (by grind)), rfl, rfl, rfl, trivial⟩
          ·
            skip
            refine o1 rfl (det_fieldAddr fld24_0 rfl) rfl rfl ⟨_, rfl, rfl⟩ ?_
            refine o1 rfl (det_load1 t1_3 rfl rfl (.tail _ (.head _)) rfl) rfl rfl ⟨_, rfl, rfl⟩ ?_
            refine o1 rfl (det_gtr rfl rfl) rfl rfl ⟨_, rfl, rfl⟩ ?_
            refine o1 rfl (det_pickF rfl rfl) rfl rfl trivial ?_
            refine o2P decide_eq_true_iff rfl (det_move rfl) rfl rfl trivial (fun hb => ?_) (fun hb => ?_)
            ·
              skip
              refine on rfl rfl rfl ⟨_, rfl, .inl rfl⟩ ?_
              refine on rfl rfl rfl ⟨_, rfl, .inl rfl⟩ ?_
              refine on rfl rfl rfl ⟨_, rfl, .inl rfl⟩ ?_
              refine o1 rfl (det_pickT rfl rfl) rfl rfl trivial ?_
              refine o1 rfl (det_move rfl) rfl rfl trivial ?_
              refine on rfl rfl rfl ⟨_, rfl, .inl rfl⟩ ?_
              refine on rfl rfl rfl ⟨_, rfl, .inl rfl⟩ ?_
              refine on rfl rfl rfl ⟨_, rfl, .inl rfl⟩ ?_
              refine o1 rfl (det_pickT rfl rfl) rfl rfl trivial ?_
              refine be rfl ?_
              refine tk_drop ?_ (.refl _) hK
              exact ⟨(mb rfl (by grind)), rfl, rfl, rfl, trivial⟩
            ·
              skip
              refine o1 rfl (det_fieldAddr fld24_1 rfl) rfl rfl ⟨_, rfl, rfl⟩ ?_
              refine o1 rfl (det_load1 t1_3 rfl rfl (.tail _ (.head _)) rfl) rfl rfl ⟨_, rfl, rfl⟩ ?_
              refine o1 rfl (det_lss rfl rfl) rfl rfl ⟨_, rfl, rfl⟩ ?_
              refine o1 rfl (det_pickF rfl rfl) rfl rfl trivial ?_
              refine o2P decide_eq_true_iff rfl (det_move rfl) rfl rfl trivial (fun hb => ?_) (fun hb => ?_)
              ·
                skip
                refine on rfl rfl rfl ⟨_, rfl, .inl rfl⟩ ?_
                refine on rfl rfl rfl ⟨_, rfl, .inl rfl⟩ ?_
                refine on rfl rfl rfl ⟨_, rfl, .inl rfl⟩ ?_
                refine o1 rfl (det_pickT rfl rfl) rfl rfl trivial ?_
                refine be rfl ?_
                refine tk_drop ?_ (.refl _) hK
                exact ⟨(mb rfl (by grind)), rfl, rfl, rfl, trivial⟩
              ·
                skip
                refine o1 rfl (det_fieldAddr fld24_1 rfl) rfl rfl ⟨_, rfl, rfl⟩ ?_
                refine o1 rfl (det_load1 t1_3 rfl rfl (.tail _ (.head _)) rfl) rfl rfl ⟨_, rfl, rfl⟩ ?_
                refine o1 rfl (det_gtr rfl rfl) rfl rfl ⟨_, rfl, rfl⟩ ?_
                refine o1 rfl (det_pickF rfl rfl) rfl rfl trivial ?_
                refine be rfl ?_
                refine tk_drop ?_ (.refl _) hK
                exact ⟨(mb rfl (by grind)), rfl, rfl, rfl, trivial⟩
  ·
    skip
    refine t_seq ?_
    refine b0 ?_
    refine o1 rfl (det_eql rfl rfl) rfl rfl trivial ?_
    refine o1 rfl (det_assign rfl) rfl rfl trivial ?_
    refine be rfl ?_
    refine k_then ?_
    refine t_condP beq_iff_eq rfl (fun hb => ?_) (fun hb => ?_)
    ·
      skip --note:b1
      refine b0 ?_
      refine o1 rfl (det_move rfl) rfl rfl trivial ?_
      first | (refine o1 rfl (det_convW Try.underlying22 Try.underlying3 rfl ?_) rfl rfl trivial ?_; (· exact IntWalk.i64_in _ (by omega))) | refine o1 rfl (det_conv Try.underlying22 Try.underlying3 rfl) rfl rfl trivial ?_
      refine o1 rfl (det_fieldAddr fld24_1 rfl) rfl rfl trivial ?_
      refine st1 nofun rfl t1_3 rfl rfl rfl .head rfl trivial rfl ?_
      refine be rfl ?_
      refine k_blk ?_
      refine k_then ?_
      refine t_seq ?_
      refine t_seq ?_
      refine b0 ?_
      refine o1 rfl (det_loadN tN24 rfl rfl (.tail _ (.tail _ (.tail _ (.head _)))) rfl) rfl rfl trivial ?_
      refine o1 rfl (det_loadN tN24 rfl rfl (.tail _ (.head _)) rfl) rfl rfl trivial ?_
      refine o1 rfl (det_loadN tN24 rfl rfl (.head _) rfl) rfl rfl trivial ?_
      refine o1 rfl (det_build rfl (fun w => bld31_0_1_2 _ _ _ _ _ _ _ _ _ _ _ _ _ _ _ _ _ _ w)) rfl rfl trivial ?_
      refine o1 rfl (det_move rfl) rfl rfl trivial ?_
      refine be rfl ?_
      refine k_then ?_
      refine t_block ?_
      refine t_whileK (σ := Nat) (fun s => [(56, .int .i64 s)]) (fun s => F) (fun _ => _) (fun s => 3 - s) (fun s => s ≤ 3) 0 (env0 := [(10, _), (55, _)]) (Nat.zero_le _) incl_refl ⟨rfl, trivial⟩ ⟨rfl, rfl, trivial⟩ (.refl _) ?_
      intro s hsl
      refine t_seq ?_
      refine b0 ?_
      refine o1 rfl (det_lss rfl rfl) rfl rfl trivial ?_
      refine be rfl ?_
      refine k_then ?_
      refine t_seq ?_
      refine t_condP decide_eq_true_iff rfl (fun hb => ?_) (fun hb => ?_)
      ·
        have hlt : s < 3 := by omega
        obtain ⟨y, hcut, hyse⟩ : ∃ y : Rc, cutV ((s : Int).toNat * 6) 6 (rcv r ++ rcv (dfR d) ++ rcv ({ dfR d with rs := IntKind.i64.wrap (bz : Int) } : Rc)) = some (rcv y) ∧ y.se < 18446744073709551616 := by
          have h6 : s = 0 ∨ s = 1 ∨ s = 2 := by omega
          rcases h6 with rfl | rfl | rfl
          · exact ⟨r, rfl, hse⟩
          · exact ⟨dfR d, rfl, hdse⟩
          · exact ⟨({ dfR d with rs := IntKind.i64.wrap (bz : Int) } : Rc), rfl, hdse⟩
        refine t_skip ?_
        refine k_then ?_
        refine t_seq ?_
        refine t_block ?_
        refine t_seq ?_
        refine b0 ?_
        refine o1 rfl (det_indexN ar31 tN24 rfl rfl (by omega) hcut) rfl rfl trivial ?_
        refine om1 rfl (new_alloc z24) rfl rfl trivial (fun p12 => ?_)
        refine stN nofun rfl tN24 rfl rfl rfl .head rfl trivial rfl rfl ?_
        refine be rfl ?_
        refine k_then ?_
        refine t_seq ?_
        refine b0 ?_
        refine o1 rfl (det_loadN tN24 rfl rfl (.head _) rfl) rfl rfl trivial ?_
        refine oF nofun rfl hb11 rfl rfl rfl trivial (fun w1 hs => (missing_ok hs.know hyse).any) (fun v1 F1 hF1 hN1 ⟨A1, n1, c1, hv, hm1⟩ => ?_)
        subst hv
        refine o1 rfl (det_move rfl) rfl rfl trivial ?_
        refine o1 rfl (det_extract rfl rfl) rfl rfl trivial ?_
        refine o1 rfl (det_extract rfl rfl) rfl rfl trivial ?_
        refine o1 rfl (det_assign rfl) rfl rfl trivial ?_
        refine o1 rfl (det_assign rfl) rfl rfl trivial ?_
        refine be rfl ?_
        refine k_then ?_
        refine t_seq ?_
        refine t_seq ?_
        refine b0 ?_
        refine o1 rfl (det_loadN tN24 rfl rfl (.head _) rfl) rfl rfl trivial ?_
        refine o1 rfl (det_call hb12 rfl rfl (fun w1 hs => right_ok hs.know hyse)) rfl rfl trivial ?_
        refine o1 rfl (det_not rfl) rfl rfl trivial ?_
        refine be rfl ?_
        refine k_then ?_
        refine t_condP not_iff_false rfl (fun hb => ?_) (fun hb => ?_)
        ·
          have hno : okR y = false := by simpa using hb
          simp only [hno, Bool.false_eq_true, if_false] at hm1
          have hn0 : n1 = 0 := hm1.len
          refine t_seq ?_
          refine t_seq ?_
          refine t_merge (env0 := [(10, _), (12, _), (13, _), (14, _), (55, _), (56, _)]) ⟨rfl, rfl, rfl, rfl, rfl, rfl, trivial⟩ 78 (.bool false) ?_ (fun hK => ?_)
          ·
            refine k_then ?_
            refine t_condF rfl ?_
            refine t_skip ?_
            refine k_then ?_
            refine t_exit ?_
            refine k_thenE ?_
            refine k_blkE ?_
            refine k_then ?_
            refine b0 ?_
            first | (refine o1 rfl (det_addI rfl rfl ?_) rfl rfl trivial ?_; (· omega)) | refine o1 rfl (det_add rfl rfl) rfl rfl trivial ?_
            refine o1 rfl (det_move rfl) rfl rfl trivial ?_
            refine be rfl ?_
            refine k_then ?_
            refine loop_backK (s + 1) (by omega) (by omega) hF1 ⟨rfl, rfl, rfl, trivial⟩ (.cons _ (.refl _))
          ·
            refine b0 ?_
            refine o1 rfl (det_loadN tN24 rfl rfl (.head _) rfl) rfl rfl trivial ?_
            refine o1 rfl (det_call hb13 rfl rfl (fun w1 hs => check_ok hs.know hyse)) rfl rfl trivial ?_
            refine o1 rfl (det_neq rfl rfl) rfl rfl trivial ?_
            refine o2P bne_iff_ne rfl (det_move rfl) rfl rfl trivial (fun hb => ?_) (fun hb => ?_)
            ·
              skip
              refine on rfl rfl rfl ⟨_, rfl, .inl rfl⟩ ?_
              refine on rfl rfl rfl ⟨_, rfl, .inl rfl⟩ ?_
              refine o1 rfl (det_pickT rfl rfl) rfl rfl trivial ?_
              refine o1 rfl (det_move rfl) rfl rfl trivial ?_
              refine on rfl rfl rfl ⟨_, rfl, .inl rfl⟩ ?_
              refine on rfl rfl rfl ⟨_, rfl, .inl rfl⟩ ?_
              refine on rfl rfl rfl ⟨_, rfl, .inl rfl⟩ ?_
              refine o1 rfl (det_pickT rfl rfl) rfl rfl trivial ?_
              refine be rfl ?_
              refine tk_drop ?_ (.refl _) hK
              exact ⟨(mb rfl (by grind)), rfl, rfl, rfl, rfl, rfl, rfl, trivial⟩
            ·
              skip
              refine o1 rfl (det_move rfl) rfl rfl ⟨_, rfl, rfl⟩ ?_
              refine o1 rfl (det_neq rfl rfl) rfl rfl ⟨_, rfl, rfl⟩ ?_
              refine o1 rfl (det_pickF rfl rfl) rfl rfl trivial ?_
              refine o2P bne_iff_ne rfl (det_move rfl) rfl rfl trivial (fun hb => ?_) (fun hb => ?_)
              ·
                skip
                refine on rfl rfl rfl ⟨_, rfl, .inl rfl⟩ ?_
                refine on rfl rfl rfl ⟨_, rfl, .inl rfl⟩ ?_
                refine on rfl rfl rfl ⟨_, rfl, .inl rfl⟩ ?_
                refine o1 rfl (det_pickT rfl rfl) rfl rfl trivial ?_
                refine be rfl ?_
                refine tk_drop ?_ (.refl _) hK
                exact ⟨(mb rfl (by grind)), rfl, rfl, rfl, rfl, rfl, rfl, trivial⟩
              ·
                skip
                refine o1 rfl (det_move rfl) rfl rfl ⟨_, rfl, rfl⟩ ?_
                refine o1 rfl (det_lenS sl32 rfl) rfl rfl ⟨_, rfl, rfl⟩ ?_
                refine o1 rfl (det_gtr rfl rfl) rfl rfl ⟨_, rfl, rfl⟩ ?_
                refine o1 rfl (det_pickF rfl rfl) rfl rfl trivial ?_
                refine be rfl ?_
                refine tk_drop ?_ (.refl _) hK
                exact ⟨(mb rfl (by grind)), rfl, rfl, rfl, rfl, rfl, rfl, trivial⟩
        ·
          have hok : okR y = true := by simpa using hb
          simp only [hok, if_true] at hm1
          refine t_skip ?_
          refine k_then ?_
          refine t_seq ?_
          refine b0 ?_
          refine o1 rfl (det_loadN tN24 rfl rfl (.head _) rfl) rfl rfl trivial ?_
          refine o1 rfl (det_call hb13 rfl rfl (fun w1 hs => check_ok hs.know hyse)) rfl rfl trivial ?_
          refine o1 rfl (det_neq rfl rfl) rfl rfl trivial ?_
          refine o2P bne_iff_ne rfl (det_move rfl) rfl rfl trivial (fun hb => ?_) (fun hb => ?_)
          · exfalso; simp [hok] at hb
          refine o1 rfl (det_move rfl) rfl rfl ⟨_, rfl, rfl⟩ ?_
          refine o1 rfl (det_neq rfl rfl) rfl rfl ⟨_, rfl, rfl⟩ ?_
          refine o1 rfl (det_pickF rfl rfl) rfl rfl trivial ?_
          refine o2P bne_iff_ne rfl (det_move rfl) rfl rfl trivial (fun hb => ?_) (fun hb => ?_)
          · exfalso; simp [hok] at hb
          refine o1 rfl (det_move rfl) rfl rfl ⟨_, rfl, rfl⟩ ?_
          refine o1 rfl (det_loadN tN24 rfl rfl (.head _) rfl) rfl rfl ⟨_, rfl, rfl⟩ ?_
          refine oF nofun rfl hb15 rfl rfl rfl ⟨_, rfl, rfl⟩ (fun w1 hs => (rmissing_ok hs.know hok).any) (fun v2 F2 hF2 hN2 ⟨A2, n2, c2, hv, hm2⟩ => ?_)
          subst hv
          refine o1 rfl (det_call hb14 rfl rfl (fun w1 hs => equalI_ok hs.know (hm1.mono hF2) hm2 (by rw [hm1.len]; have := missL_len y hok; omega))) rfl rfl ⟨_, rfl, rfl⟩ ?_
          refine o1 rfl (det_not rfl) rfl rfl ⟨_, rfl, rfl⟩ ?_
          refine o1 rfl (det_pickF rfl rfl) rfl rfl trivial ?_
          refine be rfl ?_
          refine k_then ?_
          refine t_condP not_iff_false rfl (fun hb => ?_) (fun hb => ?_)
          · exfalso; simp at hb
          refine t_skip ?_
          refine k_blk ?_
          refine k_then ?_
          refine b0 ?_
          first | (refine o1 rfl (det_addI rfl rfl ?_) rfl rfl trivial ?_; (· omega)) | refine o1 rfl (det_add rfl rfl) rfl rfl trivial ?_
          refine o1 rfl (det_move rfl) rfl rfl trivial ?_
          refine be rfl ?_
          refine k_then ?_
          refine loop_backK (s + 1) (by omega) (by omega) (fun a u h => hF2 a u (hF1 a u h)) ⟨rfl, rfl, rfl, trivial⟩ (.cons _ (.refl _))
      ·
        skip
        refine t_exit ?_
        refine k_thenE ?_
        refine k_thenE ?_
        refine k_blkE ?_
        refine k_then ?_
        refine t_seq ?_
        refine b0 ?_
        cases hko : okR (anyR ({ dfR d with rs := IntKind.i64.wrap (bz : Int) } : Rc).ln ({ dfR d with rs := IntKind.i64.wrap (bz : Int) } : Rc).rs)
        ·
          have hko2 := mt ok_any_iff.2 (show ¬ (_ = true) by rw [hko]; simp)
          refine o1 rfl (det_fieldAddr fld24_0 rfl) rfl rfl trivial ?_
          refine o1 rfl (det_load1 t1_3 rfl rfl (.head _) rfl) rfl rfl trivial ?_
          refine o1 rfl (det_fieldAddr fld24_1 rfl) rfl rfl trivial ?_
          refine o1 rfl (det_load1 t1_3 rfl rfl (.head _) rfl) rfl rfl trivial ?_
          refine o1 rfl (det_call hb16 rfl rfl (fun w1 hs => new_at hs.know hko)) rfl rfl trivial ?_
          refine o1 rfl (det_move rfl) rfl rfl trivial ?_
          refine o1 rfl (det_extract rfl rfl) rfl rfl trivial ?_
          refine o1 rfl (det_extract rfl rfl) rfl rfl trivial ?_
          refine om1 rfl (new_alloc z24) rfl rfl trivial (fun p15 => ?_)
          refine stN nofun rfl tN24 rfl rfl rfl .head rfl trivial rfl rfl ?_
          refine o1 rfl (det_assign rfl) rfl rfl trivial ?_
          refine be rfl ?_
          refine k_then ?_
          refine t_seq ?_
          refine t_seq ?_
          refine t_merge (env0 := [(10, _), (15, _), (16, _)]) ⟨rfl, rfl, rfl, trivial⟩ 119 (.bool true) ?_ (fun hK => ?_)
          ·
            refine k_then ?_
            refine t_condT rfl ?_
            refine t_seq ?_
            refine b0 ?_
            refine o1 rfl (det_move rfl) rfl rfl trivial ?_
            refine o1 rfl (det_eql rfl rfl) rfl rfl trivial ?_
            refine o2P beq_iff_eq rfl (det_move rfl) rfl rfl trivial (fun hb => ?_) (fun hb => ?_)
            rotate_left
            · exfalso; first | exact hb rfl | (simp at hb; done) | (revert hb; decide)
            refine o1 rfl (det_loadN tN24 rfl rfl (.head _) rfl) rfl rfl ⟨_, rfl, rfl⟩ ?_
            refine o1 rfl (det_build rfl (fun w => bld24_ w)) rfl rfl ⟨_, rfl, rfl⟩ ?_
            refine o1 rfl (det_eqlS rfl rfl eqg24 (fun w => eq24 _ _ _ _ _ _ _ _ _ _ _ _ w)) rfl rfl ⟨_, rfl, rfl⟩ ?_
            refine o1 rfl (det_pickT rfl rfl) rfl rfl trivial ?_
            refine o1 rfl (det_assign rfl) rfl rfl trivial ?_
            refine be rfl ?_
            refine k_then ?_
            refine t_ret (k_thenR (?_))
            refine ret_tmp rfl rfl rfl (fun w1 hs => ?_)
            first | exact ⟨rfl, hs.keep⟩ | exact ⟨by simp [anyR], hs.keep⟩
          ·
            refine b0 ?_
            refine o1 rfl (det_fieldAddr fld24_0 rfl) rfl rfl trivial ?_
            refine o1 rfl (det_load1 t1_3 rfl rfl (.tail _ (.head _)) rfl) rfl rfl trivial ?_
            refine o1 rfl (det_lss rfl rfl) rfl rfl trivial ?_
            refine o2P decide_eq_true_iff rfl (det_move rfl) rfl rfl trivial (fun hb => ?_) (fun hb => ?_)
            ·
              skip
              refine on rfl rfl rfl ⟨_, rfl, .inl rfl⟩ ?_
              refine on rfl rfl rfl ⟨_, rfl, .inl rfl⟩ ?_
              refine on rfl rfl rfl ⟨_, rfl, .inl rfl⟩ ?_
              refine o1 rfl (det_pickT rfl rfl) rfl rfl trivial ?_
              refine o1 rfl (det_move rfl) rfl rfl trivial ?_
              refine on rfl rfl rfl ⟨_, rfl, .inl rfl⟩ ?_
              refine on rfl rfl rfl ⟨_, rfl, .inl rfl⟩ ?_
              refine on rfl rfl rfl ⟨_, rfl, .inl rfl⟩ ?_
              refine o1 rfl (det_pickT rfl rfl) rfl rfl trivial ?_
              refine o1 rfl (det_move rfl) rfl rfl trivial ?_
              refine on rfl rfl rfl ⟨_, rfl, .inl rfl⟩ ?_
              refine on rfl rfl rfl ⟨_, rfl, .inl rfl⟩ ?_
              refine on rfl rfl rfl ⟨_, rfl, .inl rfl⟩ ?_
              refine o1 rfl (det_pickT rfl rfl) rfl rfl trivial ?_
              refine be rfl ?_
              refine tk_drop ?_ (.refl _) hK
              exact ⟨(mb rfl (by grind)), rfl, rfl, rfl, trivial⟩
            ·
              skip
              refine o1 rfl (det_fieldAddr fld24_0 rfl) rfl rfl ⟨_, rfl, rfl⟩ ?_
              refine o1 rfl (det_load1 t1_3 rfl rfl (.tail _ (.head _)) rfl) rfl rfl ⟨_, rfl, rfl⟩ ?_
              refine o1 rfl (det_gtr rfl rfl) rfl rfl ⟨_, rfl, rfl⟩ ?_
              refine o1 rfl (det_pickF rfl rfl) rfl rfl trivial ?_
              refine o2P decide_eq_true_iff rfl (det_move rfl) rfl rfl trivial (fun hb => ?_) (fun hb => ?_)
              ·
                skip
                refine on rfl rfl rfl ⟨_, rfl, .inl rfl⟩ ?_
                refine on rfl rfl rfl ⟨_, rfl, .inl rfl⟩ ?_
                refine on rfl rfl rfl ⟨_, rfl, .inl rfl⟩ ?_
                refine o1 rfl (det_pickT rfl rfl) rfl rfl trivial ?_
                refine o1 rfl (det_move rfl) rfl rfl trivial ?_
                refine on rfl rfl rfl ⟨_, rfl, .inl rfl⟩ ?_
                refine on rfl rfl rfl ⟨_, rfl, .inl rfl⟩ ?_
                refine on rfl rfl rfl ⟨_, rfl, .inl rfl⟩ ?_
                refine o1 rfl (det_pickT rfl rfl) rfl rfl trivial ?_
                refine be rfl ?_
                refine tk_drop ?_ (.refl _) hK
                exact ⟨(mb rfl (by grind)), rfl, rfl, rfl, trivial⟩
              ·
                skip
                refine o1 rfl (det_fieldAddr fld24_1 rfl) rfl rfl ⟨_, rfl, rfl⟩ ?_
                refine o1 rfl (det_load1 t1_3 rfl rfl (.tail _ (.head _)) rfl) rfl rfl ⟨_, rfl, rfl⟩ ?_
                refine o1 rfl (det_lss rfl rfl) rfl rfl ⟨_, rfl, rfl⟩ ?_
                refine o1 rfl (det_pickF rfl rfl) rfl rfl trivial ?_
                refine o2P decide_eq_true_iff rfl (det_move rfl) rfl rfl trivial (fun hb => ?_) (fun hb => ?_)
                ·
                  skip
                  refine on rfl rfl rfl ⟨_, rfl, .inl rfl⟩ ?_
                  refine on rfl rfl rfl ⟨_, rfl, .inl rfl⟩ ?_
                  refine on rfl rfl rfl ⟨_, rfl, .inl rfl⟩ ?_
                  refine o1 rfl (det_pickT rfl rfl) rfl rfl trivial ?_
                  refine be rfl ?_
                  refine tk_drop ?_ (.refl _) hK
                  exact ⟨(mb rfl (by grind)), rfl, rfl, rfl, trivial⟩
                ·
                  skip
                  refine o1 rfl (det_fieldAddr fld24_1 rfl) rfl rfl ⟨_, rfl, rfl⟩ ?_
                  refine o1 rfl (det_load1 t1_3 rfl rfl (.tail _ (.head _)) rfl) rfl rfl ⟨_, rfl, rfl⟩ ?_
                  refine o1 rfl (det_gtr rfl rfl) rfl rfl ⟨_, rfl, rfl⟩ ?_
                  refine o1 rfl (det_pickF rfl rfl) rfl rfl trivial ?_
                  refine be rfl ?_
                  refine tk_drop ?_ (.refl _) hK
                  exact ⟨(mb rfl (by grind)), rfl, rfl, rfl, trivial⟩
        ·
          have hko2 := ok_any_iff.1 hko
          refine o1 rfl (det_fieldAddr fld24_0 rfl) rfl rfl trivial ?_
          refine o1 rfl (det_load1 t1_3 rfl rfl (.head _) rfl) rfl rfl trivial ?_
          refine o1 rfl (det_fieldAddr fld24_1 rfl) rfl rfl trivial ?_
          refine o1 rfl (det_load1 t1_3 rfl rfl (.head _) rfl) rfl rfl trivial ?_
          refine o1 rfl (det_call hb16 rfl rfl (fun w1 hs => new_at hs.know hko)) rfl rfl trivial ?_
          refine o1 rfl (det_move rfl) rfl rfl trivial ?_
          refine o1 rfl (det_extract rfl rfl) rfl rfl trivial ?_
          refine o1 rfl (det_extract rfl rfl) rfl rfl trivial ?_
          refine om1 rfl (new_alloc z24) rfl rfl trivial (fun p15 => ?_)
          refine stN nofun rfl tN24 rfl rfl rfl .head rfl trivial rfl rfl ?_
          refine o1 rfl (det_assign rfl) rfl rfl trivial ?_
          refine be rfl ?_
          refine k_then ?_
          refine t_seq ?_
          refine t_seq ?_
          refine t_merge (env0 := [(10, _), (15, _), (16, _)]) ⟨rfl, rfl, rfl, trivial⟩ 119 (.bool false) ?_ (fun hK => ?_)
          ·
            refine k_then ?_
            refine t_condF rfl ?_
            refine t_skip ?_
            refine k_then ?_
            refine t_seq ?_
            refine b0 ?_
            refine o1 rfl (det_move rfl) rfl rfl trivial ?_
            refine o1 rfl (det_eql rfl rfl) rfl rfl trivial ?_
            refine o2P beq_iff_eq rfl (det_move rfl) rfl rfl trivial (fun hb => ?_) (fun hb => ?_)
            rotate_left
            · exfalso; first | exact hb rfl | (simp at hb; done) | (revert hb; decide)
            refine o1 rfl (det_loadN tN24 rfl rfl (.head _) rfl) rfl rfl ⟨_, rfl, rfl⟩ ?_
            refine o1 rfl (det_fieldAddr fld24_0 rfl) rfl rfl ⟨_, rfl, rfl⟩ ?_
            refine o1 rfl (det_load1 t1_3 rfl rfl (.tail _ (.head _)) rfl) rfl rfl ⟨_, rfl, rfl⟩ ?_
            refine o1 rfl (det_fieldAddr fld24_1 rfl) rfl rfl ⟨_, rfl, rfl⟩ ?_
            refine o1 rfl (det_load1 t1_3 rfl rfl (.tail _ (.head _)) rfl) rfl rfl ⟨_, rfl, rfl⟩ ?_
            refine o1 rfl (det_build rfl (fun w => bld24_0_1_2 _ _ _ w)) rfl rfl ⟨_, rfl, rfl⟩ ?_
            refine o1 rfl (det_eqlS rfl rfl eqg24 (fun w => eq24 _ _ _ _ _ _ _ _ _ _ _ _ w)) rfl rfl ⟨_, rfl, rfl⟩ ?_
            refine o1 rfl (det_pickT rfl rfl) rfl rfl trivial ?_
            refine o1 rfl (det_assign rfl) rfl rfl trivial ?_
            refine be rfl ?_
            refine k_then ?_
            refine t_ret ?_
            refine ret_tmp rfl rfl rfl (fun w1 hs => ?_)
            first | exact ⟨rfl, hs.keep⟩ | exact ⟨by simp [anyR], hs.keep⟩
          ·
            refine b0 ?_
            refine o1 rfl (det_fieldAddr fld24_0 rfl) rfl rfl trivial ?_
            refine o1 rfl (det_load1 t1_3 rfl rfl (.tail _ (.head _)) rfl) rfl rfl trivial ?_
            refine o1 rfl (det_lss rfl rfl) rfl rfl trivial ?_
            refine o2P decide_eq_true_iff rfl (det_move rfl) rfl rfl trivial (fun hb => ?_) (fun hb => ?_)
            ·
              skip
              refine on rfl rfl rfl ⟨_, rfl, .inl rfl⟩ ?_
              refine on rfl rfl rfl ⟨_, rfl, .inl rfl⟩ ?_
              refine on rfl rfl rfl ⟨_, rfl, .inl rfl⟩ ?_
              refine o1 rfl (det_pickT rfl rfl) rfl rfl trivial ?_
              refine o1 rfl (det_move rfl) rfl rfl trivial ?_
              refine on rfl rfl rfl ⟨_, rfl, .inl rfl⟩ ?_
              refine on rfl rfl rfl ⟨_, rfl, .inl rfl⟩ ?_
              refine on rfl rfl rfl ⟨_, rfl, .inl rfl⟩ ?_
              refine o1 rfl (det_pickT rfl rfl) rfl rfl trivial ?_
              refine o1 rfl (det_move rfl) rfl rfl trivial ?_
              refine on rfl rfl rfl ⟨_, rfl, .inl rfl⟩ ?_
              refine on rfl rfl rfl ⟨_, rfl, .inl rfl⟩ ?_
              refine on rfl rfl rfl ⟨_, rfl, .inl rfl⟩ ?_
              refine o1 rfl (det_pickT rfl rfl) rfl rfl trivial ?_
              refine be rfl ?_
              refine tk_drop ?_ (.refl _) hK
              exact ⟨(mb rfl (by grind)), rfl, rfl, rfl, trivial⟩
            ·
              skip
              refine o1 rfl (det_fieldAddr fld24_0 rfl) rfl rfl ⟨_, rfl, rfl⟩ ?_
              refine o1 rfl (det_load1 t1_3 rfl rfl (.tail _ (.head _)) rfl) rfl rfl ⟨_, rfl, rfl⟩ ?_
              refine o1 rfl (det_gtr rfl rfl) rfl rfl ⟨_, rfl, rfl⟩ ?_
              refine o1 rfl (det_pickF rfl rfl) rfl rfl trivial ?_
              refine o2P decide_eq_true_iff rfl (det_move rfl) rfl rfl trivial (fun hb => ?_) (fun hb => ?_)
              ·
                skip
                refine on rfl rfl rfl ⟨_, rfl, .inl rfl⟩ ?_
                refine on rfl rfl rfl ⟨_, rfl, .inl rfl⟩ ?_
                refine on rfl rfl rfl ⟨_, rfl, .inl rfl⟩ ?_
                refine o1 rfl (det_pickT rfl rfl) rfl rfl trivial ?_
                refine o1 rfl (det_move rfl) rfl rfl trivial ?_
                refine on rfl rfl rfl ⟨_, rfl, .inl rfl⟩ ?_
                refine on rfl rfl rfl ⟨_, rfl, .inl rfl⟩ ?_
                refine on rfl rfl rfl ⟨_, rfl, .inl rfl⟩ ?_
                refine o1 rfl (det_pickT rfl rfl) rfl rfl trivial ?_
                refine be rfl ?_
                refine tk_drop ?_ (.refl _) hK
                exact ⟨(mb rfl (by grind)), rfl, rfl, rfl, trivial⟩
              ·
                skip
                refine o1 rfl (det_fieldAddr fld24_1 rfl) rfl rfl ⟨_, rfl, rfl⟩ ?_
                refine o1 rfl (det_load1 t1_3 rfl rfl (.tail _ (.head _)) rfl) rfl rfl ⟨_, rfl, rfl⟩ ?_
                refine o1 rfl (det_lss rfl rfl) rfl rfl ⟨_, rfl, rfl⟩ ?_
                refine o1 rfl (det_pickF rfl rfl) rfl rfl trivial ?_
                refine o2P decide_eq_true_iff rfl (det_move rfl) rfl rfl trivial (fun hb => ?_) (fun hb => ?_)
                ·
                  skip
                  refine on rfl rfl rfl ⟨_, rfl, .inl rfl⟩ ?_
                  refine on rfl rfl rfl ⟨_, rfl, .inl rfl⟩ ?_
                  refine on rfl rfl rfl ⟨_, rfl, .inl rfl⟩ ?_
                  refine o1 rfl (det_pickT rfl rfl) rfl rfl trivial ?_
                  refine be rfl ?_
                  refine tk_drop ?_ (.refl _) hK
                  exact ⟨(mb rfl (by grind)), rfl, rfl, rfl, trivial⟩
                ·
                  skip
                  refine o1 rfl (det_fieldAddr fld24_1 rfl) rfl rfl ⟨_, rfl, rfl⟩ ?_
                  refine o1 rfl (det_load1 t1_3 rfl rfl (.tail _ (.head _)) rfl) rfl rfl ⟨_, rfl, rfl⟩ ?_
                  refine o1 rfl (det_gtr rfl rfl) rfl rfl ⟨_, rfl, rfl⟩ ?_
                  refine o1 rfl (det_pickF rfl rfl) rfl rfl trivial ?_
                  refine be rfl ?_
                  refine tk_drop ?_ (.refl _) hK
                  exact ⟨(mb rfl (by grind)), rfl, rfl, rfl, trivial⟩
    ·
      skip
      refine t_seq ?_
      refine b0 ?_
      refine o1 rfl (det_eql rfl rfl) rfl rfl trivial ?_
      refine o1 rfl (det_assign rfl) rfl rfl trivial ?_
      refine be rfl ?_
      refine k_then ?_
      refine t_condP beq_iff_eq rfl (fun hb => ?_) (fun hb => ?_)
      ·
        skip --note:b2
        refine b0 ?_
        refine o1 rfl (det_fieldAddr fld24_2 rfl) rfl rfl trivial ?_
        refine o1 rfl (det_load1 t1_4 rfl rfl (.tail _ (.head _)) rfl) rfl rfl trivial ?_
        refine o1 rfl (det_not rfl) rfl rfl trivial ?_
        refine o1 rfl (det_fieldAddr fld24_2 rfl) rfl rfl trivial ?_
        refine st1 nofun rfl t1_4 rfl rfl rfl .head rfl trivial rfl ?_
        refine be rfl ?_
        refine k_blk ?_
        refine k_then ?_
        refine t_seq ?_
        refine t_seq ?_
        refine b0 ?_
        refine o1 rfl (det_loadN tN24 rfl rfl (.tail _ (.tail _ (.tail _ (.head _)))) rfl) rfl rfl trivial ?_
        refine o1 rfl (det_loadN tN24 rfl rfl (.tail _ (.head _)) rfl) rfl rfl trivial ?_
        refine o1 rfl (det_loadN tN24 rfl rfl (.head _) rfl) rfl rfl trivial ?_
        refine o1 rfl (det_build rfl (fun w => bld31_0_1_2 _ _ _ _ _ _ _ _ _ _ _ _ _ _ _ _ _ _ w)) rfl rfl trivial ?_
        refine o1 rfl (det_move rfl) rfl rfl trivial ?_
        refine be rfl ?_
        refine k_then ?_
        refine t_block ?_
        refine t_whileK (σ := Nat) (fun s => [(56, .int .i64 s)]) (fun s => F) (fun _ => _) (fun s => 3 - s) (fun s => s ≤ 3) 0 (env0 := [(10, _), (55, _)]) (Nat.zero_le _) incl_refl ⟨rfl, trivial⟩ ⟨rfl, rfl, trivial⟩ (.refl _) ?_
        intro s hsl
        refine t_seq ?_
        refine b0 ?_
        refine o1 rfl (det_lss rfl rfl) rfl rfl trivial ?_
        refine be rfl ?_
        refine k_then ?_
        refine t_seq ?_
        refine t_condP decide_eq_true_iff rfl (fun hb => ?_) (fun hb => ?_)
        ·
          have hlt : s < 3 := by omega
          obtain ⟨y, hcut, hyse⟩ : ∃ y : Rc, cutV ((s : Int).toNat * 6) 6 (rcv r ++ rcv (dfR d) ++ rcv ({ dfR d with an := !(dfR d).an } : Rc)) = some (rcv y) ∧ y.se < 18446744073709551616 := by
            have h6 : s = 0 ∨ s = 1 ∨ s = 2 := by omega
            rcases h6 with rfl | rfl | rfl
            · exact ⟨r, rfl, hse⟩
            · exact ⟨dfR d, rfl, hdse⟩
            · exact ⟨({ dfR d with an := !(dfR d).an } : Rc), rfl, hdse⟩
          refine t_skip ?_
          refine k_then ?_
          refine t_seq ?_
          refine t_block ?_
          refine t_seq ?_
          refine b0 ?_
          refine o1 rfl (det_indexN ar31 tN24 rfl rfl (by omega) hcut) rfl rfl trivial ?_
          refine om1 rfl (new_alloc z24) rfl rfl trivial (fun p12 => ?_)
          refine stN nofun rfl tN24 rfl rfl rfl .head rfl trivial rfl rfl ?_
          refine be rfl ?_
          refine k_then ?_
          refine t_seq ?_
          refine b0 ?_
          refine o1 rfl (det_loadN tN24 rfl rfl (.head _) rfl) rfl rfl trivial ?_
          refine oF nofun rfl hb11 rfl rfl rfl trivial (fun w1 hs => (missing_ok hs.know hyse).any) (fun v1 F1 hF1 hN1 ⟨A1, n1, c1, hv, hm1⟩ => ?_)
          subst hv
          refine o1 rfl (det_move rfl) rfl rfl trivial ?_
          refine o1 rfl (det_extract rfl rfl) rfl rfl trivial ?_
          refine o1 rfl (det_extract rfl rfl) rfl rfl trivial ?_
          refine o1 rfl (det_assign rfl) rfl rfl trivial ?_
          refine o1 rfl (det_assign rfl) rfl rfl trivial ?_
          refine be rfl ?_
          refine k_then ?_
          refine t_seq ?_
          refine t_seq ?_
          refine b0 ?_
          refine o1 rfl (det_loadN tN24 rfl rfl (.head _) rfl) rfl rfl trivial ?_
          refine o1 rfl (det_call hb12 rfl rfl (fun w1 hs => right_ok hs.know hyse)) rfl rfl trivial ?_
          refine o1 rfl (det_not rfl) rfl rfl trivial ?_
          refine be rfl ?_
          refine k_then ?_
          refine t_condP not_iff_false rfl (fun hb => ?_) (fun hb => ?_)
          ·
            have hno : okR y = false := by simpa using hb
            simp only [hno, Bool.false_eq_true, if_false] at hm1
            have hn0 : n1 = 0 := hm1.len
            refine t_seq ?_
            refine t_seq ?_
            refine t_merge (env0 := [(10, _), (12, _), (13, _), (14, _), (55, _), (56, _)]) ⟨rfl, rfl, rfl, rfl, rfl, rfl, trivial⟩ 78 (.bool false) ?_ (fun hK => ?_)
            ·
              refine k_then ?_
              refine t_condF rfl ?_
              refine t_skip ?_
              refine k_then ?_
              refine t_exit ?_
              refine k_thenE ?_
              refine k_blkE ?_
              refine k_then ?_
              refine b0 ?_
              first | (refine o1 rfl (det_addI rfl rfl ?_) rfl rfl trivial ?_; (· omega)) | refine o1 rfl (det_add rfl rfl) rfl rfl trivial ?_
              refine o1 rfl (det_move rfl) rfl rfl trivial ?_
              refine be rfl ?_
              refine k_then ?_
              refine loop_backK (s + 1) (by omega) (by omega) hF1 ⟨rfl, rfl, rfl, trivial⟩ (.cons _ (.refl _))
            ·
              refine b0 ?_
              refine o1 rfl (det_loadN tN24 rfl rfl (.head _) rfl) rfl rfl trivial ?_
              refine o1 rfl (det_call hb13 rfl rfl (fun w1 hs => check_ok hs.know hyse)) rfl rfl trivial ?_
              refine o1 rfl (det_neq rfl rfl) rfl rfl trivial ?_
              refine o2P bne_iff_ne rfl (det_move rfl) rfl rfl trivial (fun hb => ?_) (fun hb => ?_)
              ·
                skip
                refine on rfl rfl rfl ⟨_, rfl, .inl rfl⟩ ?_
                refine on rfl rfl rfl ⟨_, rfl, .inl rfl⟩ ?_
                refine o1 rfl (det_pickT rfl rfl) rfl rfl trivial ?_
                refine o1 rfl (det_move rfl) rfl rfl trivial ?_
                refine on rfl rfl rfl ⟨_, rfl, .inl rfl⟩ ?_
                refine on rfl rfl rfl ⟨_, rfl, .inl rfl⟩ ?_
                refine on rfl rfl rfl ⟨_, rfl, .inl rfl⟩ ?_
                refine o1 rfl (det_pickT rfl rfl) rfl rfl trivial ?_
                refine be rfl ?_
                refine tk_drop ?_ (.refl _) hK
                exact ⟨(mb rfl (by grind)), rfl, rfl, rfl, rfl, rfl, rfl, trivial⟩
              ·
                skip
                refine o1 rfl (det_move rfl) rfl rfl ⟨_, rfl, rfl⟩ ?_
                refine o1 rfl (det_neq rfl rfl) rfl rfl ⟨_, rfl, rfl⟩ ?_
                refine o1 rfl (det_pickF rfl rfl) rfl rfl trivial ?_
                refine o2P bne_iff_ne rfl (det_move rfl) rfl rfl trivial (fun hb => ?_) (fun hb => ?_)
                ·
                  skip
                  refine on rfl rfl rfl ⟨_, rfl, .inl rfl⟩ ?_
                  refine on rfl rfl rfl ⟨_, rfl, .inl rfl⟩ ?_
                  refine on rfl rfl rfl ⟨_, rfl, .inl rfl⟩ ?_
                  refine o1 rfl (det_pickT rfl rfl) rfl rfl trivial ?_
                  refine be rfl ?_
                  refine tk_drop ?_ (.refl _) hK
                  exact ⟨(mb rfl (by grind)), rfl, rfl, rfl, rfl, rfl, rfl, trivial⟩
                ·
                  skip
                  refine o1 rfl (det_move rfl) rfl rfl ⟨_, rfl, rfl⟩ ?_
                  refine o1 rfl (det_lenS sl32 rfl) rfl rfl ⟨_, rfl, rfl⟩ ?_
                  refine o1 rfl (det_gtr rfl rfl) rfl rfl ⟨_, rfl, rfl⟩ ?_
                  refine o1 rfl (det_pickF rfl rfl) rfl rfl trivial ?_
                  refine be rfl ?_
                  refine tk_drop ?_ (.refl _) hK
                  exact ⟨(mb rfl (by grind)), rfl, rfl, rfl, rfl, rfl, rfl, trivial⟩
          ·
            have hok : okR y = true := by simpa using hb
            simp only [hok, if_true] at hm1
            refine t_skip ?_
            refine k_then ?_
            refine t_seq ?_
            refine b0 ?_
            refine o1 rfl (det_loadN tN24 rfl rfl (.head _) rfl) rfl rfl trivial ?_
            refine o1 rfl (det_call hb13 rfl rfl (fun w1 hs => check_ok hs.know hyse)) rfl rfl trivial ?_
            refine o1 rfl (det_neq rfl rfl) rfl rfl trivial ?_
            refine o2P bne_iff_ne rfl (det_move rfl) rfl rfl trivial (fun hb => ?_) (fun hb => ?_)
            · exfalso; simp [hok] at hb
            refine o1 rfl (det_move rfl) rfl rfl ⟨_, rfl, rfl⟩ ?_
            refine o1 rfl (det_neq rfl rfl) rfl rfl ⟨_, rfl, rfl⟩ ?_
            refine o1 rfl (det_pickF rfl rfl) rfl rfl trivial ?_
            refine o2P bne_iff_ne rfl (det_move rfl) rfl rfl trivial (fun hb => ?_) (fun hb => ?_)
            · exfalso; simp [hok] at hb
            refine o1 rfl (det_move rfl) rfl rfl ⟨_, rfl, rfl⟩ ?_
            refine o1 rfl (det_loadN tN24 rfl rfl (.head _) rfl) rfl rfl ⟨_, rfl, rfl⟩ ?_
            refine oF nofun rfl hb15 rfl rfl rfl ⟨_, rfl, rfl⟩ (fun w1 hs => (rmissing_ok hs.know hok).any) (fun v2 F2 hF2 hN2 ⟨A2, n2, c2, hv, hm2⟩ => ?_)
            subst hv
            refine o1 rfl (det_call hb14 rfl rfl (fun w1 hs => equalI_ok hs.know (hm1.mono hF2) hm2 (by rw [hm1.len]; have := missL_len y hok; omega))) rfl rfl ⟨_, rfl, rfl⟩ ?_
            refine o1 rfl (det_not rfl) rfl rfl ⟨_, rfl, rfl⟩ ?_
            refine o1 rfl (det_pickF rfl rfl) rfl rfl trivial ?_
            refine be rfl ?_
            refine k_then ?_
            refine t_condP not_iff_false rfl (fun hb => ?_) (fun hb => ?_)
            · exfalso; simp at hb
            refine t_skip ?_
            refine k_blk ?_
            refine k_then ?_
            refine b0 ?_
            first | (refine o1 rfl (det_addI rfl rfl ?_) rfl rfl trivial ?_; (· omega)) | refine o1 rfl (det_add rfl rfl) rfl rfl trivial ?_
            refine o1 rfl (det_move rfl) rfl rfl trivial ?_
            refine be rfl ?_
            refine k_then ?_
            refine loop_backK (s + 1) (by omega) (by omega) (fun a u h => hF2 a u (hF1 a u h)) ⟨rfl, rfl, rfl, trivial⟩ (.cons _ (.refl _))
        ·
          skip
          refine t_exit ?_
          refine k_thenE ?_
          refine k_thenE ?_
          refine k_blkE ?_
          refine k_then ?_
          refine t_seq ?_
          refine b0 ?_
          cases hko : okR (anyR ({ dfR d with an := !(dfR d).an } : Rc).ln ({ dfR d with an := !(dfR d).an } : Rc).rs)
          ·
            have hko2 := mt ok_any_iff.2 (show ¬ (_ = true) by rw [hko]; simp)
            refine o1 rfl (det_fieldAddr fld24_0 rfl) rfl rfl trivial ?_
            refine o1 rfl (det_load1 t1_3 rfl rfl (.head _) rfl) rfl rfl trivial ?_
            refine o1 rfl (det_fieldAddr fld24_1 rfl) rfl rfl trivial ?_
            refine o1 rfl (det_load1 t1_3 rfl rfl (.head _) rfl) rfl rfl trivial ?_
            refine o1 rfl (det_call hb16 rfl rfl (fun w1 hs => new_at hs.know hko)) rfl rfl trivial ?_
            refine o1 rfl (det_move rfl) rfl rfl trivial ?_
            refine o1 rfl (det_extract rfl rfl) rfl rfl trivial ?_
            refine o1 rfl (det_extract rfl rfl) rfl rfl trivial ?_
            refine om1 rfl (new_alloc z24) rfl rfl trivial (fun p15 => ?_)
            refine stN nofun rfl tN24 rfl rfl rfl .head rfl trivial rfl rfl ?_
            refine o1 rfl (det_assign rfl) rfl rfl trivial ?_
            refine be rfl ?_
            refine k_then ?_
            refine t_seq ?_
            refine t_seq ?_
            refine t_merge (env0 := [(10, _), (15, _), (16, _)]) ⟨rfl, rfl, rfl, trivial⟩ 119 (.bool true) ?_ (fun hK => ?_)
            ·
              refine k_then ?_
              refine t_condT rfl ?_
              refine t_seq ?_
              refine b0 ?_
              refine o1 rfl (det_move rfl) rfl rfl trivial ?_
              refine o1 rfl (det_eql rfl rfl) rfl rfl trivial ?_
              refine o2P beq_iff_eq rfl (det_move rfl) rfl rfl trivial (fun hb => ?_) (fun hb => ?_)
              rotate_left
              · exfalso; first | exact hb rfl | (simp at hb; done) | (revert hb; decide)
              refine o1 rfl (det_loadN tN24 rfl rfl (.head _) rfl) rfl rfl ⟨_, rfl, rfl⟩ ?_
              refine o1 rfl (det_build rfl (fun w => bld24_ w)) rfl rfl ⟨_, rfl, rfl⟩ ?_
              refine o1 rfl (det_eqlS rfl rfl eqg24 (fun w => eq24 _ _ _ _ _ _ _ _ _ _ _ _ w)) rfl rfl ⟨_, rfl, rfl⟩ ?_
              refine o1 rfl (det_pickT rfl rfl) rfl rfl trivial ?_
              refine o1 rfl (det_assign rfl) rfl rfl trivial ?_
              refine be rfl ?_
              refine k_then ?_
              refine t_ret (k_thenR (?_))
              refine ret_tmp rfl rfl rfl (fun w1 hs => ?_)
              first | exact ⟨rfl, hs.keep⟩ | exact ⟨by simp [anyR], hs.keep⟩
            ·
              refine b0 ?_
              refine o1 rfl (det_fieldAddr fld24_0 rfl) rfl rfl trivial ?_
              refine o1 rfl (det_load1 t1_3 rfl rfl (.tail _ (.head _)) rfl) rfl rfl trivial ?_
              refine o1 rfl (det_lss rfl rfl) rfl rfl trivial ?_
              refine o2P decide_eq_true_iff rfl (det_move rfl) rfl rfl trivial (fun hb => ?_) (fun hb => ?_)
              ·
                skip
                refine on rfl rfl rfl ⟨_, rfl, .inl rfl⟩ ?_
                refine on rfl rfl rfl ⟨_, rfl, .inl rfl⟩ ?_
                refine on rfl rfl rfl ⟨_, rfl, .inl rfl⟩ ?_
                refine o1 rfl (det_pickT rfl rfl) rfl rfl trivial ?_
                refine o1 rfl (det_move rfl) rfl rfl trivial ?_
                refine on rfl rfl rfl ⟨_, rfl, .inl rfl⟩ ?_
                refine on rfl rfl rfl ⟨_, rfl, .inl rfl⟩ ?_
                refine on rfl rfl rfl ⟨_, rfl, .inl rfl⟩ ?_
                refine o1 rfl (det_pickT rfl rfl) rfl rfl trivial ?_
                refine o1 rfl (det_move rfl) rfl rfl trivial ?_
                refine on rfl rfl rfl ⟨_, rfl, .inl rfl⟩ ?_
                refine on rfl rfl rfl ⟨_, rfl, .inl rfl⟩ ?_
                refine on rfl rfl rfl ⟨_, rfl, .inl rfl⟩ ?_
                refine o1 rfl (det_pickT rfl rfl) rfl rfl trivial ?_
                refine be rfl ?_
                refine tk_drop ?_ (.refl _) hK
                exact ⟨(mb rfl (by grind)), rfl, rfl, rfl, trivial⟩
              ·
                skip
                refine o1 rfl (det_fieldAddr fld24_0 rfl) rfl rfl ⟨_, rfl, rfl⟩ ?_
                refine o1 rfl (det_load1 t1_3 rfl rfl (.tail _ (.head _)) rfl) rfl rfl ⟨_, rfl, rfl⟩ ?_
                refine o1 rfl (det_gtr rfl rfl) rfl rfl ⟨_, rfl, rfl⟩ ?_
                refine o1 rfl (det_pickF rfl rfl) rfl rfl trivial ?_
                refine o2P decide_eq_true_iff rfl (det_move rfl) rfl rfl trivial (fun hb => ?_) (fun hb => ?_)
                ·
                  skip
                  refine on rfl rfl rfl ⟨_, rfl, .inl rfl⟩ ?_
                  refine on rfl rfl rfl ⟨_, rfl, .inl rfl⟩ ?_
                  refine on rfl rfl rfl ⟨_, rfl, .inl rfl⟩ ?_
                  refine o1 rfl (det_pickT rfl rfl) rfl rfl trivial ?_
                  refine o1 rfl (det_move rfl) rfl rfl trivial ?_
                  refine on rfl rfl rfl ⟨_, rfl, .inl rfl⟩ ?_
                  refine on rfl rfl rfl ⟨_, rfl, .inl rfl⟩ ?_
                  refine on rfl rfl rfl ⟨_, rfl, .inl rfl⟩ ?_
                  refine o1 rfl (det_pickT rfl rfl) rfl rfl trivial ?_
                  refine be rfl ?_
                  refine tk_drop ?_ (.refl _) hK
                  exact ⟨(mb rfl (by grind)), rfl, rfl, rfl, trivial⟩
                ·
                  skip
                  refine o1 rfl (det_fieldAddr fld24_1 rfl) rfl rfl ⟨_, rfl, rfl⟩ ?_
                  refine o1 rfl (det_load1 t1_3 rfl rfl (.tail _ (.head _)) rfl) rfl rfl ⟨_, rfl, rfl⟩ ?_
                  refine o1 rfl (det_lss rfl rfl) rfl rfl ⟨_, rfl, rfl⟩ ?_
                  refine o1 rfl (det_pickF rfl rfl) rfl rfl trivial ?_
                  refine o2P decide_eq_true_iff rfl (det_move rfl) rfl rfl trivial (fun hb => ?_) (fun hb => ?_)
                  ·
                    skip
                    refine on rfl rfl rfl ⟨_, rfl, .inl rfl⟩ ?_
                    refine on rfl rfl rfl ⟨_, rfl, .inl rfl⟩ ?_
                    refine on rfl rfl rfl ⟨_, rfl, .inl rfl⟩ ?_
                    refine o1 rfl (det_pickT rfl rfl) rfl rfl trivial ?_
                    refine be rfl ?_
                    refine tk_drop ?_ (.refl _) hK
                    exact ⟨(mb rfl (by grind)), rfl, rfl, rfl, trivial⟩
                  ·
                    skip
                    refine o1 rfl (det_fieldAddr fld24_1 rfl) rfl rfl ⟨_, rfl, rfl⟩ ?_
                    refine o1 rfl (det_load1 t1_3 rfl rfl (.tail _ (.head _)) rfl) rfl rfl ⟨_, rfl, rfl⟩ ?_
                    refine o1 rfl (det_gtr rfl rfl) rfl rfl ⟨_, rfl, rfl⟩ ?_
                    refine o1 rfl (det_pickF rfl rfl) rfl rfl trivial ?_
                    refine be rfl ?_
                    refine tk_drop ?_ (.refl _) hK
                    exact ⟨(mb rfl (by grind)), rfl, rfl, rfl, trivial⟩
          ·
            have hko2 := ok_any_iff.1 hko
            refine o1 rfl (det_fieldAddr fld24_0 rfl) rfl rfl trivial ?_
            refine o1 rfl (det_load1 t1_3 rfl rfl (.head _) rfl) rfl rfl trivial ?_
            refine o1 rfl (det_fieldAddr fld24_1 rfl) rfl rfl trivial ?_
            refine o1 rfl (det_load1 t1_3 rfl rfl (.head _) rfl) rfl rfl trivial ?_
            refine o1 rfl (det_call hb16 rfl rfl (fun w1 hs => new_at hs.know hko)) rfl rfl trivial ?_
            refine o1 rfl (det_move rfl) rfl rfl trivial ?_
            refine o1 rfl (det_extract rfl rfl) rfl rfl trivial ?_
            refine o1 rfl (det_extract rfl rfl) rfl rfl trivial ?_
            refine om1 rfl (new_alloc z24) rfl rfl trivial (fun p15 => ?_)
            refine stN nofun rfl tN24 rfl rfl rfl .head rfl trivial rfl rfl ?_
            refine o1 rfl (det_assign rfl) rfl rfl trivial ?_
            refine be rfl ?_
            refine k_then ?_
            refine t_seq ?_
            refine t_seq ?_
            refine t_merge (env0 := [(10, _), (15, _), (16, _)]) ⟨rfl, rfl, rfl, trivial⟩ 119 (.bool false) ?_ (fun hK => ?_)
            ·
              refine k_then ?_
              refine t_condF rfl ?_
              refine t_skip ?_
              refine k_then ?_
              refine t_seq ?_
              refine b0 ?_
              refine o1 rfl (det_move rfl) rfl rfl trivial ?_
              refine o1 rfl (det_eql rfl rfl) rfl rfl trivial ?_
              refine o2P beq_iff_eq rfl (det_move rfl) rfl rfl trivial (fun hb => ?_) (fun hb => ?_)
              rotate_left
              · exfalso; first | exact hb rfl | (simp at hb; done) | (revert hb; decide)
              refine o1 rfl (det_loadN tN24 rfl rfl (.head _) rfl) rfl rfl ⟨_, rfl, rfl⟩ ?_
              refine o1 rfl (det_fieldAddr fld24_0 rfl) rfl rfl ⟨_, rfl, rfl⟩ ?_
              refine o1 rfl (det_load1 t1_3 rfl rfl (.tail _ (.head _)) rfl) rfl rfl ⟨_, rfl, rfl⟩ ?_
              refine o1 rfl (det_fieldAddr fld24_1 rfl) rfl rfl ⟨_, rfl, rfl⟩ ?_
              refine o1 rfl (det_load1 t1_3 rfl rfl (.tail _ (.head _)) rfl) rfl rfl ⟨_, rfl, rfl⟩ ?_
              refine o1 rfl (det_build rfl (fun w => bld24_0_1_2 _ _ _ w)) rfl rfl ⟨_, rfl, rfl⟩ ?_
              refine o1 rfl (det_eqlS rfl rfl eqg24 (fun w => eq24 _ _ _ _ _ _ _ _ _ _ _ _ w)) rfl rfl ⟨_, rfl, rfl⟩ ?_
              refine o1 rfl (det_pickT rfl rfl) rfl rfl trivial ?_
              refine o1 rfl (det_assign rfl) rfl rfl trivial ?_
              refine be rfl ?_
              refine k_then ?_
              refine t_ret ?_
              refine ret_tmp rfl rfl rfl (fun w1 hs => ?_)
              first | exact ⟨rfl, hs.keep⟩ | exact ⟨by simp [anyR], hs.keep⟩
            ·
              refine b0 ?_
              refine o1 rfl (det_fieldAddr fld24_0 rfl) rfl rfl trivial ?_
              refine o1 rfl (det_load1 t1_3 rfl rfl (.tail _ (.head _)) rfl) rfl rfl trivial ?_
              refine o1 rfl (det_lss rfl rfl) rfl rfl trivial ?_
              refine o2P decide_eq_true_iff rfl (det_move rfl) rfl rfl trivial (fun hb => ?_) (fun hb => ?_)
              ·
                skip
                refine on rfl rfl rfl ⟨_, rfl, .inl rfl⟩ ?_
                refine on rfl rfl rfl ⟨_, rfl, .inl rfl⟩ ?_
                refine on rfl rfl rfl ⟨_, rfl, .inl rfl⟩ ?_
                refine o1 rfl (det_pickT rfl rfl) rfl rfl trivial ?_
                refine o1 rfl (det_move rfl) rfl rfl trivial ?_
                refine on rfl rfl rfl ⟨_, rfl, .inl rfl⟩ ?_
                refine on rfl rfl rfl ⟨_, rfl, .inl rfl⟩ ?_
                refine on rfl rfl rfl ⟨_, rfl, .inl rfl⟩ ?_
                refine o1 rfl (det_pickT rfl rfl) rfl rfl trivial ?_
                refine o1 rfl (det_move rfl) rfl rfl trivial ?_
                refine on rfl rfl rfl ⟨_, rfl, .inl rfl⟩ ?_
                refine on rfl rfl rfl ⟨_, rfl, .inl rfl⟩ ?_
                refine on rfl rfl rfl ⟨_, rfl, .inl rfl⟩ ?_
                refine o1 rfl (det_pickT rfl rfl) rfl rfl trivial ?_
                refine be rfl ?_
                refine tk_drop ?_ (.refl _) hK
                exact ⟨(mb rfl (by grind)), rfl, rfl, rfl, trivial⟩
              ·
                skip
                refine o1 rfl (det_fieldAddr fld24_0 rfl) rfl rfl ⟨_, rfl, rfl⟩ ?_
                refine o1 rfl (det_load1 t1_3 rfl rfl (.tail _ (.head _)) rfl) rfl rfl ⟨_, rfl, rfl⟩ ?_
                refine o1 rfl (det_gtr rfl rfl) rfl rfl ⟨_, rfl, rfl⟩ ?_
                refine o1 rfl (det_pickF rfl rfl) rfl rfl trivial ?_
                refine o2P decide_eq_true_iff rfl (det_move rfl) rfl rfl trivial (fun hb => ?_) (fun hb => ?_)
                ·
                  skip
                  refine on rfl rfl rfl ⟨_, rfl, .inl rfl⟩ ?_
                  refine on rfl rfl rfl ⟨_, rfl, .inl rfl⟩ ?_
                  refine on rfl rfl rfl ⟨_, rfl, .inl rfl⟩ ?_
                  refine o1 rfl (det_pickT rfl rfl) rfl rfl trivial ?_
                  refine o1 rfl (det_move rfl) rfl rfl trivial ?_
                  refine on rfl rfl rfl ⟨_, rfl, .inl rfl⟩ ?_
                  refine on rfl rfl rfl ⟨_, rfl, .inl rfl⟩ ?_
                  refine on rfl rfl rfl ⟨_, rfl, .inl rfl⟩ ?_
                  refine o1 rfl (det_pickT rfl rfl) rfl rfl trivial ?_
                  refine be rfl ?_
                  refine tk_drop ?_ (.refl _) hK
                  exact ⟨(mb rfl (by grind)), rfl, rfl, rfl, trivial⟩
                ·
                  skip
                  refine o1 rfl (det_fieldAddr fld24_1 rfl) rfl rfl ⟨_, rfl, rfl⟩ ?_
                  refine o1 rfl (det_load1 t1_3 rfl rfl (.tail _ (.head _)) rfl) rfl rfl ⟨_, rfl, rfl⟩ ?_
                  refine o1 rfl (det_lss rfl rfl) rfl rfl ⟨_, rfl, rfl⟩ ?_
                  refine o1 rfl (det_pickF rfl rfl) rfl rfl trivial ?_
                  refine o2P decide_eq_true_iff rfl (det_move rfl) rfl rfl trivial (fun hb => ?_) (fun hb => ?_)
                  ·
                    skip
                    refine on rfl rfl rfl ⟨_, rfl, .inl rfl⟩ ?_
                    refine on rfl rfl rfl ⟨_, rfl, .inl rfl⟩ ?_
                    refine on rfl rfl rfl ⟨_, rfl, .inl rfl⟩ ?_
                    refine o1 rfl (det_pickT rfl rfl) rfl rfl trivial ?_
                    refine be rfl ?_
                    refine tk_drop ?_ (.refl _) hK
                    exact ⟨(mb rfl (by grind)), rfl, rfl, rfl, trivial⟩
                  ·
                    skip
                    refine o1 rfl (det_fieldAddr fld24_1 rfl) rfl rfl ⟨_, rfl, rfl⟩ ?_
                    refine o1 rfl (det_load1 t1_3 rfl rfl (.tail _ (.head _)) rfl) rfl rfl ⟨_, rfl, rfl⟩ ?_
                    refine o1 rfl (det_gtr rfl rfl) rfl rfl ⟨_, rfl, rfl⟩ ?_
                    refine o1 rfl (det_pickF rfl rfl) rfl rfl trivial ?_
                    refine be rfl ?_
                    refine tk_drop ?_ (.refl _) hK
                    exact ⟨(mb rfl (by grind)), rfl, rfl, rfl, trivial⟩
      ·
        skip
        refine t_seq ?_
        refine b0 ?_
        refine o1 rfl (det_eql rfl rfl) rfl rfl trivial ?_
        refine o1 rfl (det_assign rfl) rfl rfl trivial ?_
        refine be rfl ?_
        refine k_then ?_
        refine t_condP beq_iff_eq rfl (fun hb => ?_) (fun hb => ?_)
        ·
          skip --note:b3
          refine b0 ?_
          refine o1 rfl (det_move rfl) rfl rfl trivial ?_
          first | (refine o1 rfl (det_convW Try.underlying22 Try.underlying3 rfl ?_) rfl rfl trivial ?_; (· exact IntWalk.i64_in _ (by omega))) | refine o1 rfl (det_conv Try.underlying22 Try.underlying3 rfl) rfl rfl trivial ?_
          refine o1 rfl (det_fieldAddr fld24_3 rfl) rfl rfl trivial ?_
          refine st1 nofun rfl t1_3 rfl rfl rfl .head rfl trivial rfl ?_
          refine be rfl ?_
          refine k_blk ?_
          refine k_then ?_
          refine t_seq ?_
          refine t_seq ?_
          refine b0 ?_
          refine o1 rfl (det_loadN tN24 rfl rfl (.tail _ (.tail _ (.tail _ (.head _)))) rfl) rfl rfl trivial ?_
          refine o1 rfl (det_loadN tN24 rfl rfl (.tail _ (.head _)) rfl) rfl rfl trivial ?_
          refine o1 rfl (det_loadN tN24 rfl rfl (.head _) rfl) rfl rfl trivial ?_
          refine o1 rfl (det_build rfl (fun w => bld31_0_1_2 _ _ _ _ _ _ _ _ _ _ _ _ _ _ _ _ _ _ w)) rfl rfl trivial ?_
          refine o1 rfl (det_move rfl) rfl rfl trivial ?_
          refine be rfl ?_
          refine k_then ?_
          refine t_block ?_
          refine t_whileK (σ := Nat) (fun s => [(56, .int .i64 s)]) (fun s => F) (fun _ => _) (fun s => 3 - s) (fun s => s ≤ 3) 0 (env0 := [(10, _), (55, _)]) (Nat.zero_le _) incl_refl ⟨rfl, trivial⟩ ⟨rfl, rfl, trivial⟩ (.refl _) ?_
          intro s hsl
          refine t_seq ?_
          refine b0 ?_
          refine o1 rfl (det_lss rfl rfl) rfl rfl trivial ?_
          refine be rfl ?_
          refine k_then ?_
          refine t_seq ?_
          refine t_condP decide_eq_true_iff rfl (fun hb => ?_) (fun hb => ?_)
          ·
            have hlt : s < 3 := by omega
            obtain ⟨y, hcut, hyse⟩ : ∃ y : Rc, cutV ((s : Int).toNat * 6) 6 (rcv r ++ rcv (dfR d) ++ rcv ({ dfR d with la := IntKind.i64.wrap (bz : Int) } : Rc)) = some (rcv y) ∧ y.se < 18446744073709551616 := by
              have h6 : s = 0 ∨ s = 1 ∨ s = 2 := by omega
              rcases h6 with rfl | rfl | rfl
              · exact ⟨r, rfl, hse⟩
              · exact ⟨dfR d, rfl, hdse⟩
              · exact ⟨({ dfR d with la := IntKind.i64.wrap (bz : Int) } : Rc), rfl, hdse⟩
            refine t_skip ?_
            refine k_then ?_
            refine t_seq ?_
            refine t_block ?_
            refine t_seq ?_
            refine b0 ?_
            refine o1 rfl (det_indexN ar31 tN24 rfl rfl (by omega) hcut) rfl rfl trivial ?_
            refine om1 rfl (new_alloc z24) rfl rfl trivial (fun p12 => ?_)
            refine stN nofun rfl tN24 rfl rfl rfl .head rfl trivial rfl rfl ?_
            refine be rfl ?_
            refine k_then ?_
            refine t_seq ?_
            refine b0 ?_
            refine o1 rfl (det_loadN tN24 rfl rfl (.head _) rfl) rfl rfl trivial ?_
            refine oF nofun rfl hb11 rfl rfl rfl trivial (fun w1 hs => (missing_ok hs.know hyse).any) (fun v1 F1 hF1 hN1 ⟨A1, n1, c1, hv, hm1⟩ => ?_)
            subst hv
            refine o1 rfl (det_move rfl) rfl rfl trivial ?_
            refine o1 rfl (det_extract rfl rfl) rfl rfl trivial ?_
            refine o1 rfl (det_extract rfl rfl) rfl rfl trivial ?_
            refine o1 rfl (det_assign rfl) rfl rfl trivial ?_
            refine o1 rfl (det_assign rfl) rfl rfl trivial ?_
            refine be rfl ?_
            refine k_then ?_
            refine t_seq ?_
            refine t_seq ?_
            refine b0 ?_
            refine o1 rfl (det_loadN tN24 rfl rfl (.head _) rfl) rfl rfl trivial ?_
            refine o1 rfl (det_call hb12 rfl rfl (fun w1 hs => right_ok hs.know hyse)) rfl rfl trivial ?_
            refine o1 rfl (det_not rfl) rfl rfl trivial ?_
            refine be rfl ?_
            refine k_then ?_
            refine t_condP not_iff_false rfl (fun hb => ?_) (fun hb => ?_)
            ·
              have hno : okR y = false := by simpa using hb
              simp only [hno, Bool.false_eq_true, if_false] at hm1
              have hn0 : n1 = 0 := hm1.len
              refine t_seq ?_
              refine t_seq ?_
              refine t_merge (env0 := [(10, _), (12, _), (13, _), (14, _), (55, _), (56, _)]) ⟨rfl, rfl, rfl, rfl, rfl, rfl, trivial⟩ 78 (.bool false) ?_ (fun hK => ?_)
              ·
                refine k_then ?_
                refine t_condF rfl ?_
                refine t_skip ?_
                refine k_then ?_
                refine t_exit ?_
                refine k_thenE ?_
                refine k_blkE ?_
                refine k_then ?_
                refine b0 ?_
                first | (refine o1 rfl (det_addI rfl rfl ?_) rfl rfl trivial ?_; (· omega)) | refine o1 rfl (det_add rfl rfl) rfl rfl trivial ?_
                refine o1 rfl (det_move rfl) rfl rfl trivial ?_
                refine be rfl ?_
                refine k_then ?_
                refine loop_backK (s + 1) (by omega) (by omega) hF1 ⟨rfl, rfl, rfl, trivial⟩ (.cons _ (.refl _))
              ·
                refine b0 ?_
                refine o1 rfl (det_loadN tN24 rfl rfl (.head _) rfl) rfl rfl trivial ?_
                refine o1 rfl (det_call hb13 rfl rfl (fun w1 hs => check_ok hs.know hyse)) rfl rfl trivial ?_
                refine o1 rfl (det_neq rfl rfl) rfl rfl trivial ?_
                refine o2P bne_iff_ne rfl (det_move rfl) rfl rfl trivial (fun hb => ?_) (fun hb => ?_)
                ·
                  skip
                  refine on rfl rfl rfl ⟨_, rfl, .inl rfl⟩ ?_
                  refine on rfl rfl rfl ⟨_, rfl, .inl rfl⟩ ?_
                  refine o1 rfl (det_pickT rfl rfl) rfl rfl trivial ?_
                  refine o1 rfl (det_move rfl) rfl rfl trivial ?_
                  refine on rfl rfl rfl ⟨_, rfl, .inl rfl⟩ ?_
                  refine on rfl rfl rfl ⟨_, rfl, .inl rfl⟩ ?_
                  refine on rfl rfl rfl ⟨_, rfl, .inl rfl⟩ ?_
                  refine o1 rfl (det_pickT rfl rfl) rfl rfl trivial ?_
                  refine be rfl ?_
                  refine tk_drop ?_ (.refl _) hK
                  exact ⟨(mb rfl (by grind)), rfl, rfl, rfl, rfl, rfl, rfl, trivial⟩
                ·
                  skip
                  refine o1 rfl (det_move rfl) rfl rfl ⟨_, rfl, rfl⟩ ?_
                  refine o1 rfl (det_neq rfl rfl) rfl rfl ⟨_, rfl, rfl⟩ ?_
                  refine o1 rfl (det_pickF rfl rfl) rfl rfl trivial ?_
                  refine o2P bne_iff_ne rfl (det_move rfl) rfl rfl trivial (fun hb => ?_) (fun hb => ?_)
                  ·
                    skip
                    refine on rfl rfl rfl ⟨_, rfl, .inl rfl⟩ ?_
                    refine on rfl rfl rfl ⟨_, rfl, .inl rfl⟩ ?_
                    refine on rfl rfl rfl ⟨_, rfl, .inl rfl⟩ ?_
                    refine o1 rfl (det_pickT rfl rfl) rfl rfl trivial ?_
                    refine be rfl ?_
                    refine tk_drop ?_ (.refl _) hK
                    exact ⟨(mb rfl (by grind)), rfl, rfl, rfl, rfl, rfl, rfl, trivial⟩
                  ·
                    skip
                    refine o1 rfl (det_move rfl) rfl rfl ⟨_, rfl, rfl⟩ ?_
                    refine o1 rfl (det_lenS sl32 rfl) rfl rfl ⟨_, rfl, rfl⟩ ?_
                    refine o1 rfl (det_gtr rfl rfl) rfl rfl ⟨_, rfl, rfl⟩ ?_
                    refine o1 rfl (det_pickF rfl rfl) rfl rfl trivial ?_
                    refine be rfl ?_
                    refine tk_drop ?_ (.refl _) hK
                    exact ⟨(mb rfl (by grind)), rfl, rfl, rfl, rfl, rfl, rfl, trivial⟩
            ·
              have hok : okR y = true := by simpa using hb
              simp only [hok, if_true] at hm1
              refine t_skip ?_
              refine k_then ?_
              refine t_seq ?_
              refine b0 ?_
              refine o1 rfl (det_loadN tN24 rfl rfl (.head _) rfl) rfl rfl trivial ?_
              refine o1 rfl (det_call hb13 rfl rfl (fun w1 hs => check_ok hs.know hyse)) rfl rfl trivial ?_
              refine o1 rfl (det_neq rfl rfl) rfl rfl trivial ?_
              refine o2P bne_iff_ne rfl (det_move rfl) rfl rfl trivial (fun hb => ?_) (fun hb => ?_)
              · exfalso; simp [hok] at hb
              refine o1 rfl (det_move rfl) rfl rfl ⟨_, rfl, rfl⟩ ?_
              refine o1 rfl (det_neq rfl rfl) rfl rfl ⟨_, rfl, rfl⟩ ?_
              refine o1 rfl (det_pickF rfl rfl) rfl rfl trivial ?_
              refine o2P bne_iff_ne rfl (det_move rfl) rfl rfl trivial (fun hb => ?_) (fun hb => ?_)
              · exfalso; simp [hok] at hb
              refine o1 rfl (det_move rfl) rfl rfl ⟨_, rfl, rfl⟩ ?_
              refine o1 rfl (det_loadN tN24 rfl rfl (.head _) rfl) rfl rfl ⟨_, rfl, rfl⟩ ?_
              refine oF nofun rfl hb15 rfl rfl rfl ⟨_, rfl, rfl⟩ (fun w1 hs => (rmissing_ok hs.know hok).any) (fun v2 F2 hF2 hN2 ⟨A2, n2, c2, hv, hm2⟩ => ?_)
              subst hv
              refine o1 rfl (det_call hb14 rfl rfl (fun w1 hs => equalI_ok hs.know (hm1.mono hF2) hm2 (by rw [hm1.len]; have := missL_len y hok; omega))) rfl rfl ⟨_, rfl, rfl⟩ ?_
              refine o1 rfl (det_not rfl) rfl rfl ⟨_, rfl, rfl⟩ ?_
              refine o1 rfl (det_pickF rfl rfl) rfl rfl trivial ?_
              refine be rfl ?_
              refine k_then ?_
              refine t_condP not_iff_false rfl (fun hb => ?_) (fun hb => ?_)
              · exfalso; simp at hb
              refine t_skip ?_
              refine k_blk ?_
              refine k_then ?_
              refine b0 ?_
              first | (refine o1 rfl (det_addI rfl rfl ?_) rfl rfl trivial ?_; (· omega)) | refine o1 rfl (det_add rfl rfl) rfl rfl trivial ?_
              refine o1 rfl (det_move rfl) rfl rfl trivial ?_
              refine be rfl ?_
              refine k_then ?_
              refine loop_backK (s + 1) (by omega) (by omega) (fun a u h => hF2 a u (hF1 a u h)) ⟨rfl, rfl, rfl, trivial⟩ (.cons _ (.refl _))
          ·
            skip
            refine t_exit ?_
            refine k_thenE ?_
            refine k_thenE ?_
            refine k_blkE ?_
            refine k_then ?_
            refine t_seq ?_
            refine b0 ?_
            cases hko : okR (anyR ({ dfR d with la := IntKind.i64.wrap (bz : Int) } : Rc).ln ({ dfR d with la := IntKind.i64.wrap (bz : Int) } : Rc).rs)
            ·
              have hko2 := mt ok_any_iff.2 (show ¬ (_ = true) by rw [hko]; simp)
              refine o1 rfl (det_fieldAddr fld24_0 rfl) rfl rfl trivial ?_
              refine o1 rfl (det_load1 t1_3 rfl rfl (.head _) rfl) rfl rfl trivial ?_
              refine o1 rfl (det_fieldAddr fld24_1 rfl) rfl rfl trivial ?_
              refine o1 rfl (det_load1 t1_3 rfl rfl (.head _) rfl) rfl rfl trivial ?_
              refine o1 rfl (det_call hb16 rfl rfl (fun w1 hs => new_at hs.know hko)) rfl rfl trivial ?_
              refine o1 rfl (det_move rfl) rfl rfl trivial ?_
              refine o1 rfl (det_extract rfl rfl) rfl rfl trivial ?_
              refine o1 rfl (det_extract rfl rfl) rfl rfl trivial ?_
              refine om1 rfl (new_alloc z24) rfl rfl trivial (fun p15 => ?_)
              refine stN nofun rfl tN24 rfl rfl rfl .head rfl trivial rfl rfl ?_
              refine o1 rfl (det_assign rfl) rfl rfl trivial ?_
              refine be rfl ?_
              refine k_then ?_
              refine t_seq ?_
              refine t_seq ?_
              refine t_merge (env0 := [(10, _), (15, _), (16, _)]) ⟨rfl, rfl, rfl, trivial⟩ 119 (.bool true) ?_ (fun hK => ?_)
              ·
                refine k_then ?_
                refine t_condT rfl ?_
                refine t_seq ?_
                refine b0 ?_
                refine o1 rfl (det_move rfl) rfl rfl trivial ?_
                refine o1 rfl (det_eql rfl rfl) rfl rfl trivial ?_
                refine o2P beq_iff_eq rfl (det_move rfl) rfl rfl trivial (fun hb => ?_) (fun hb => ?_)
                rotate_left
                · exfalso; first | exact hb rfl | (simp at hb; done) | (revert hb; decide)
                refine o1 rfl (det_loadN tN24 rfl rfl (.head _) rfl) rfl rfl ⟨_, rfl, rfl⟩ ?_
                refine o1 rfl (det_build rfl (fun w => bld24_ w)) rfl rfl ⟨_, rfl, rfl⟩ ?_
                refine o1 rfl (det_eqlS rfl rfl eqg24 (fun w => eq24 _ _ _ _ _ _ _ _ _ _ _ _ w)) rfl rfl ⟨_, rfl, rfl⟩ ?_
                refine o1 rfl (det_pickT rfl rfl) rfl rfl trivial ?_
                refine o1 rfl (det_assign rfl) rfl rfl trivial ?_
                refine be rfl ?_
                refine k_then ?_
                refine t_ret (k_thenR (?_))
                refine ret_tmp rfl rfl rfl (fun w1 hs => ?_)
                first | exact ⟨rfl, hs.keep⟩ | exact ⟨by simp [anyR], hs.keep⟩
              ·
                refine b0 ?_
                refine o1 rfl (det_fieldAddr fld24_0 rfl) rfl rfl trivial ?_
                refine o1 rfl (det_load1 t1_3 rfl rfl (.tail _ (.head _)) rfl) rfl rfl trivial ?_
                refine o1 rfl (det_lss rfl rfl) rfl rfl trivial ?_
                refine o2P decide_eq_true_iff rfl (det_move rfl) rfl rfl trivial (fun hb => ?_) (fun hb => ?_)
                ·
                  skip
                  refine on rfl rfl rfl ⟨_, rfl, .inl rfl⟩ ?_
                  refine on rfl rfl rfl ⟨_, rfl, .inl rfl⟩ ?_
                  refine on rfl rfl rfl ⟨_, rfl, .inl rfl⟩ ?_
                  refine o1 rfl (det_pickT rfl rfl) rfl rfl trivial ?_
                  refine o1 rfl (det_move rfl) rfl rfl trivial ?_
                  refine on rfl rfl rfl ⟨_, rfl, .inl rfl⟩ ?_
                  refine on rfl rfl rfl ⟨_, rfl, .inl rfl⟩ ?_
                  refine on rfl rfl rfl ⟨_, rfl, .inl rfl⟩ ?_
                  refine o1 rfl (det_pickT rfl rfl) rfl rfl trivial ?_
                  refine o1 rfl (det_move rfl) rfl rfl trivial ?_
                  refine on rfl rfl rfl ⟨_, rfl, .inl rfl⟩ ?_
                  refine on rfl rfl rfl ⟨_, rfl, .inl rfl⟩ ?_
                  refine on rfl rfl rfl ⟨_, rfl, .inl rfl⟩ ?_
                  refine o1 rfl (det_pickT rfl rfl) rfl rfl trivial ?_
                  refine be rfl ?_
                  refine tk_drop ?_ (.refl _) hK
                  exact ⟨(mb rfl (by grind)), rfl, rfl, rfl, trivial⟩
                ·
                  skip
                  refine o1 rfl (det_fieldAddr fld24_0 rfl) rfl rfl ⟨_, rfl, rfl⟩ ?_
                  refine o1 rfl (det_load1 t1_3 rfl rfl (.tail _ (.head _)) rfl) rfl rfl ⟨_, rfl, rfl⟩ ?_
                  refine o1 rfl (det_gtr rfl rfl) rfl rfl ⟨_, rfl, rfl⟩ ?_
                  refine o1 rfl (det_pickF rfl rfl) rfl rfl trivial ?_
                  refine o2P decide_eq_true_iff rfl (det_move rfl) rfl rfl trivial (fun hb => ?_) (fun hb => ?_)
                  ·
                    skip
                    refine on rfl rfl rfl ⟨_, rfl, .inl rfl⟩ ?_
                    refine on rfl rfl rfl ⟨_, rfl, .inl rfl⟩ ?_
                    refine on rfl rfl rfl ⟨_, rfl, .inl rfl⟩ ?_
                    refine o1 rfl (det_pickT rfl rfl) rfl rfl trivial ?_
                    refine o1 rfl (det_move rfl) rfl rfl trivial ?_
                    refine on rfl rfl rfl ⟨_, rfl, .inl rfl⟩ ?_
                    refine on rfl rfl rfl ⟨_, rfl, .inl rfl⟩ ?_
                    refine on rfl rfl rfl ⟨_, rfl, .inl rfl⟩ ?_
                    refine o1 rfl (det_pickT rfl rfl) rfl rfl trivial ?_
                    refine be rfl ?_
                    refine tk_drop ?_ (.refl _) hK
                    exact ⟨(mb rfl (by grind)), rfl, rfl, rfl, trivial⟩
                  ·
                    skip
                    refine o1 rfl (det_fieldAddr fld24_1 rfl) rfl rfl ⟨_, rfl, rfl⟩ ?_
                    refine o1 rfl (det_load1 t1_3 rfl rfl (.tail _ (.head _)) rfl) rfl rfl ⟨_, rfl, rfl⟩ ?_
                    refine o1 rfl (det_lss rfl rfl) rfl rfl ⟨_, rfl, rfl⟩ ?_
                    refine o1 rfl (det_pickF rfl rfl) rfl rfl trivial ?_
                    refine o2P decide_eq_true_iff rfl (det_move rfl) rfl rfl trivial (fun hb => ?_) (fun hb => ?_)
                    ·
                      skip
                      refine on rfl rfl rfl ⟨_, rfl, .inl rfl⟩ ?_
                      refine on rfl rfl rfl ⟨_, rfl, .inl rfl⟩ ?_
                      refine on rfl rfl rfl ⟨_, rfl, .inl rfl⟩ ?_
                      refine o1 rfl (det_pickT rfl rfl) rfl rfl trivial ?_
                      refine be rfl ?_
                      refine tk_drop ?_ (.refl _) hK
                      exact ⟨(mb rfl (by grind)), rfl, rfl, rfl, trivial⟩
                    ·
                      skip
                      refine o1 rfl (det_fieldAddr fld24_1 rfl) rfl rfl ⟨_, rfl, rfl⟩ ?_
                      refine o1 rfl (det_load1 t1_3 rfl rfl (.tail _ (.head _)) rfl) rfl rfl ⟨_, rfl, rfl⟩ ?_
                      refine o1 rfl (det_gtr rfl rfl) rfl rfl ⟨_, rfl, rfl⟩ ?_
                      refine o1 rfl (det_pickF rfl rfl) rfl rfl trivial ?_
                      refine be rfl ?_
                      refine tk_drop ?_ (.refl _) hK
                      exact ⟨(mb rfl (by grind)), rfl, rfl, rfl, trivial⟩
            ·
              have hko2 := ok_any_iff.1 hko
              refine o1 rfl (det_fieldAddr fld24_0 rfl) rfl rfl trivial ?_
              refine o1 rfl (det_load1 t1_3 rfl rfl (.head _) rfl) rfl rfl trivial ?_
              refine o1 rfl (det_fieldAddr fld24_1 rfl) rfl rfl trivial ?_
              refine o1 rfl (det_load1 t1_3 rfl rfl (.head _) rfl) rfl rfl trivial ?_
              refine o1 rfl (det_call hb16 rfl rfl (fun w1 hs => new_at hs.know hko)) rfl rfl trivial ?_
              refine o1 rfl (det_move rfl) rfl rfl trivial ?_
              refine o1 rfl (det_extract rfl rfl) rfl rfl trivial ?_
              refine o1 rfl (det_extract rfl rfl) rfl rfl trivial ?_
              refine om1 rfl (new_alloc z24) rfl rfl trivial (fun p15 => ?_)
              refine stN nofun rfl tN24 rfl rfl rfl .head rfl trivial rfl rfl ?_
              refine o1 rfl (det_assign rfl) rfl rfl trivial ?_
              refine be rfl ?_
              refine k_then ?_
              refine t_seq ?_
              refine t_seq ?_
              refine t_merge (env0 := [(10, _), (15, _), (16, _)]) ⟨rfl, rfl, rfl, trivial⟩ 119 (.bool false) ?_ (fun hK => ?_)
              ·
                refine k_then ?_
                refine t_condF rfl ?_
                refine t_skip ?_
                refine k_then ?_
                refine t_seq ?_
                refine b0 ?_
                refine o1 rfl (det_move rfl) rfl rfl trivial ?_
                refine o1 rfl (det_eql rfl rfl) rfl rfl trivial ?_
                refine o2P beq_iff_eq rfl (det_move rfl) rfl rfl trivial (fun hb => ?_) (fun hb => ?_)
                rotate_left
                · exfalso; first | exact hb rfl | (simp at hb; done) | (revert hb; decide)
                refine o1 rfl (det_loadN tN24 rfl rfl (.head _) rfl) rfl rfl ⟨_, rfl, rfl⟩ ?_
                refine o1 rfl (det_fieldAddr fld24_0 rfl) rfl rfl ⟨_, rfl, rfl⟩ ?_
                refine o1 rfl (det_load1 t1_3 rfl rfl (.tail _ (.head _)) rfl) rfl rfl ⟨_, rfl, rfl⟩ ?_
                refine o1 rfl (det_fieldAddr fld24_1 rfl) rfl rfl ⟨_, rfl, rfl⟩ ?_
                refine o1 rfl (det_load1 t1_3 rfl rfl (.tail _ (.head _)) rfl) rfl rfl ⟨_, rfl, rfl⟩ ?_
                refine o1 rfl (det_build rfl (fun w => bld24_0_1_2 _ _ _ w)) rfl rfl ⟨_, rfl, rfl⟩ ?_
                refine o1 rfl (det_eqlS rfl rfl eqg24 (fun w => eq24 _ _ _ _ _ _ _ _ _ _ _ _ w)) rfl rfl ⟨_, rfl, rfl⟩ ?_
                refine o1 rfl (det_pickT rfl rfl) rfl rfl trivial ?_
                refine o1 rfl (det_assign rfl) rfl rfl trivial ?_
                refine be rfl ?_
                refine k_then ?_
                refine t_ret ?_
                refine ret_tmp rfl rfl rfl (fun w1 hs => ?_)
                first | exact ⟨rfl, hs.keep⟩ | exact ⟨by simp [anyR], hs.keep⟩
              ·
                refine b0 ?_
                refine o1 rfl (det_fieldAddr fld24_0 rfl) rfl rfl trivial ?_
                refine o1 rfl (det_load1 t1_3 rfl rfl (.tail _ (.head _)) rfl) rfl rfl trivial ?_
                refine o1 rfl (det_lss rfl rfl) rfl rfl trivial ?_
                refine o2P decide_eq_true_iff rfl (det_move rfl) rfl rfl trivial (fun hb => ?_) (fun hb => ?_)
                ·
                  skip
                  refine on rfl rfl rfl ⟨_, rfl, .inl rfl⟩ ?_
                  refine on rfl rfl rfl ⟨_, rfl, .inl rfl⟩ ?_
                  refine on rfl rfl rfl ⟨_, rfl, .inl rfl⟩ ?_
                  refine o1 rfl (det_pickT rfl rfl) rfl rfl trivial ?_
                  refine o1 rfl (det_move rfl) rfl rfl trivial ?_
                  refine on rfl rfl rfl ⟨_, rfl, .inl rfl⟩ ?_
                  refine on rfl rfl rfl ⟨_, rfl, .inl rfl⟩ ?_
                  refine on rfl rfl rfl ⟨_, rfl, .inl rfl⟩ ?_
                  refine o1 rfl (det_pickT rfl rfl) rfl rfl trivial ?_
                  refine o1 rfl (det_move rfl) rfl rfl trivial ?_
                  refine on rfl rfl rfl ⟨_, rfl, .inl rfl⟩ ?_
                  refine on rfl rfl rfl ⟨_, rfl, .inl rfl⟩ ?_
                  refine on rfl rfl rfl ⟨_, rfl, .inl rfl⟩ ?_
                  refine o1 rfl (det_pickT rfl rfl) rfl rfl trivial ?_
                  refine be rfl ?_
                  refine tk_drop ?_ (.refl _) hK
                  exact ⟨(mb rfl (by grind)), rfl, rfl, rfl, trivial⟩
                ·
                  skip
                  refine o1 rfl (det_fieldAddr fld24_0 rfl) rfl rfl ⟨_, rfl, rfl⟩ ?_
                  refine o1 rfl (det_load1 t1_3 rfl rfl (.tail _ (.head _)) rfl) rfl rfl ⟨_, rfl, rfl⟩ ?_
                  refine o1 rfl (det_gtr rfl rfl) rfl rfl ⟨_, rfl, rfl⟩ ?_
                  refine o1 rfl (det_pickF rfl rfl) rfl rfl trivial ?_
                  refine o2P decide_eq_true_iff rfl (det_move rfl) rfl rfl trivial (fun hb => ?_) (fun hb => ?_)
                  ·
                    skip
                    refine on rfl rfl rfl ⟨_, rfl, .inl rfl⟩ ?_
                    refine on rfl rfl rfl ⟨_, rfl, .inl rfl⟩ ?_
                    refine on rfl rfl rfl ⟨_, rfl, .inl rfl⟩ ?_
                    refine o1 rfl (det_pickT rfl rfl) rfl rfl trivial ?_
                    refine o1 rfl (det_move rfl) rfl rfl trivial ?_
                    refine on rfl rfl rfl ⟨_, rfl, .inl rfl⟩ ?_
                    refine on rfl rfl rfl ⟨_, rfl, .inl rfl⟩ ?_
                    refine on rfl rfl rfl ⟨_, rfl, .inl rfl⟩ ?_
                    refine o1 rfl (det_pickT rfl rfl) rfl rfl trivial ?_
                    refine be rfl ?_
                    refine tk_drop ?_ (.refl _) hK
                    exact ⟨(mb rfl (by grind)), rfl, rfl, rfl, trivial⟩
                  ·
                    skip
                    refine o1 rfl (det_fieldAddr fld24_1 rfl) rfl rfl ⟨_, rfl, rfl⟩ ?_
                    refine o1 rfl (det_load1 t1_3 rfl rfl (.tail _ (.head _)) rfl) rfl rfl ⟨_, rfl, rfl⟩ ?_
                    refine o1 rfl (det_lss rfl rfl) rfl rfl ⟨_, rfl, rfl⟩ ?_
                    refine o1 rfl (det_pickF rfl rfl) rfl rfl trivial ?_
                    refine o2P decide_eq_true_iff rfl (det_move rfl) rfl rfl trivial (fun hb => ?_) (fun hb => ?_)
                    ·
                      skip
                      refine on rfl rfl rfl ⟨_, rfl, .inl rfl⟩ ?_
                      refine on rfl rfl rfl ⟨_, rfl, .inl rfl⟩ ?_
                      refine on rfl rfl rfl ⟨_, rfl, .inl rfl⟩ ?_
                      refine o1 rfl (det_pickT rfl rfl) rfl rfl trivial ?_
                      refine be rfl ?_
                      refine tk_drop ?_ (.refl _) hK
                      exact ⟨(mb rfl (by grind)), rfl, rfl, rfl, trivial⟩
                    ·
                      skip
                      refine o1 rfl (det_fieldAddr fld24_1 rfl) rfl rfl ⟨_, rfl, rfl⟩ ?_
                      refine o1 rfl (det_load1 t1_3 rfl rfl (.tail _ (.head _)) rfl) rfl rfl ⟨_, rfl, rfl⟩ ?_
                      refine o1 rfl (det_gtr rfl rfl) rfl rfl ⟨_, rfl, rfl⟩ ?_
                      refine o1 rfl (det_pickF rfl rfl) rfl rfl trivial ?_
                      refine be rfl ?_
                      refine tk_drop ?_ (.refl _) hK
                      exact ⟨(mb rfl (by grind)), rfl, rfl, rfl, trivial⟩
        ·
          skip
          refine t_seq ?_
          refine b0 ?_
          refine o1 rfl (det_eql rfl rfl) rfl rfl trivial ?_
          refine o1 rfl (det_assign rfl) rfl rfl trivial ?_
          refine be rfl ?_
          refine k_then ?_
          refine t_condP beq_iff_eq rfl (fun hb => ?_) (fun hb => ?_)
          ·
            skip --note:b4
            refine b0 ?_
            refine o1 rfl (det_move rfl) rfl rfl trivial ?_
            first | (refine o1 rfl (det_convW Try.underlying22 Try.underlying3 rfl ?_) rfl rfl trivial ?_; (· exact IntWalk.i64_in _ (by omega))) | refine o1 rfl (det_conv Try.underlying22 Try.underlying3 rfl) rfl rfl trivial ?_
            refine o1 rfl (det_fieldAddr fld24_4 rfl) rfl rfl trivial ?_
            refine st1 nofun rfl t1_3 rfl rfl rfl .head rfl trivial rfl ?_
            refine be rfl ?_
            refine k_blk ?_
            refine k_then ?_
            refine t_seq ?_
            refine t_seq ?_
            refine b0 ?_
            refine o1 rfl (det_loadN tN24 rfl rfl (.tail _ (.tail _ (.tail _ (.head _)))) rfl) rfl rfl trivial ?_
            refine o1 rfl (det_loadN tN24 rfl rfl (.tail _ (.head _)) rfl) rfl rfl trivial ?_
            refine o1 rfl (det_loadN tN24 rfl rfl (.head _) rfl) rfl rfl trivial ?_
            refine o1 rfl (det_build rfl (fun w => bld31_0_1_2 _ _ _ _ _ _ _ _ _ _ _ _ _ _ _ _ _ _ w)) rfl rfl trivial ?_
            refine o1 rfl (det_move rfl) rfl rfl trivial ?_
            refine be rfl ?_
            refine k_then ?_
            refine t_block ?_
            refine t_whileK (σ := Nat) (fun s => [(56, .int .i64 s)]) (fun s => F) (fun _ => _) (fun s => 3 - s) (fun s => s ≤ 3) 0 (env0 := [(10, _), (55, _)]) (Nat.zero_le _) incl_refl ⟨rfl, trivial⟩ ⟨rfl, rfl, trivial⟩ (.refl _) ?_
            intro s hsl
            refine t_seq ?_
            refine b0 ?_
            refine o1 rfl (det_lss rfl rfl) rfl rfl trivial ?_
            refine be rfl ?_
            refine k_then ?_
            refine t_seq ?_
            refine t_condP decide_eq_true_iff rfl (fun hb => ?_) (fun hb => ?_)
            ·
              have hlt : s < 3 := by omega
              obtain ⟨y, hcut, hyse⟩ : ∃ y : Rc, cutV ((s : Int).toNat * 6) 6 (rcv r ++ rcv (dfR d) ++ rcv ({ dfR d with at_ := IntKind.i64.wrap (bz : Int) } : Rc)) = some (rcv y) ∧ y.se < 18446744073709551616 := by
                have h6 : s = 0 ∨ s = 1 ∨ s = 2 := by omega
                rcases h6 with rfl | rfl | rfl
                · exact ⟨r, rfl, hse⟩
                · exact ⟨dfR d, rfl, hdse⟩
                · exact ⟨({ dfR d with at_ := IntKind.i64.wrap (bz : Int) } : Rc), rfl, hdse⟩
              refine t_skip ?_
              refine k_then ?_
              refine t_seq ?_
              refine t_block ?_
              refine t_seq ?_
              refine b0 ?_
              refine o1 rfl (det_indexN ar31 tN24 rfl rfl (by omega) hcut) rfl rfl trivial ?_
              refine om1 rfl (new_alloc z24) rfl rfl trivial (fun p12 => ?_)
              refine stN nofun rfl tN24 rfl rfl rfl .head rfl trivial rfl rfl ?_
              refine be rfl ?_
              refine k_then ?_
              refine t_seq ?_
              refine b0 ?_
              refine o1 rfl (det_loadN tN24 rfl rfl (.head _) rfl) rfl rfl trivial ?_
              refine oF nofun rfl hb11 rfl rfl rfl trivial (fun w1 hs => (missing_ok hs.know hyse).any) (fun v1 F1 hF1 hN1 ⟨A1, n1, c1, hv, hm1⟩ => ?_)
              subst hv
              refine o1 rfl (det_move rfl) rfl rfl trivial ?_
              refine o1 rfl (det_extract rfl rfl) rfl rfl trivial ?_
              refine o1 rfl (det_extract rfl rfl) rfl rfl trivial ?_
              refine o1 rfl (det_assign rfl) rfl rfl trivial ?_
              refine o1 rfl (det_assign rfl) rfl rfl trivial ?_
              refine be rfl ?_
              refine k_then ?_
              refine t_seq ?_
              refine t_seq ?_
              refine b0 ?_
              refine o1 rfl (det_loadN tN24 rfl rfl (.head _) rfl) rfl rfl trivial ?_
              refine o1 rfl (det_call hb12 rfl rfl (fun w1 hs => right_ok hs.know hyse)) rfl rfl trivial ?_
              refine o1 rfl (det_not rfl) rfl rfl trivial ?_
              refine be rfl ?_
              refine k_then ?_
              refine t_condP not_iff_false rfl (fun hb => ?_) (fun hb => ?_)
              ·
                have hno : okR y = false := by simpa using hb
                simp only [hno, Bool.false_eq_true, if_false] at hm1
                have hn0 : n1 = 0 := hm1.len
                refine t_seq ?_
                refine t_seq ?_
                refine t_merge (env0 := [(10, _), (12, _), (13, _), (14, _), (55, _), (56, _)]) ⟨rfl, rfl, rfl, rfl, rfl, rfl, trivial⟩ 78 (.bool false) ?_ (fun hK => ?_)
                ·
                  refine k_then ?_
                  refine t_condF rfl ?_
                  refine t_skip ?_
                  refine k_then ?_
                  refine t_exit ?_
                  refine k_thenE ?_
                  refine k_blkE ?_
                  refine k_then ?_
                  refine b0 ?_
                  first | (refine o1 rfl (det_addI rfl rfl ?_) rfl rfl trivial ?_; (· omega)) | refine o1 rfl (det_add rfl rfl) rfl rfl trivial ?_
                  refine o1 rfl (det_move rfl) rfl rfl trivial ?_
                  refine be rfl ?_
                  refine k_then ?_
                  refine loop_backK (s + 1) (by omega) (by omega) hF1 ⟨rfl, rfl, rfl, trivial⟩ (.cons _ (.refl _))
                ·
                  refine b0 ?_
                  refine o1 rfl (det_loadN tN24 rfl rfl (.head _) rfl) rfl rfl trivial ?_
                  refine o1 rfl (det_call hb13 rfl rfl (fun w1 hs => check_ok hs.know hyse)) rfl rfl trivial ?_
                  refine o1 rfl (det_neq rfl rfl) rfl rfl trivial ?_
                  refine o2P bne_iff_ne rfl (det_move rfl) rfl rfl trivial (fun hb => ?_) (fun hb => ?_)
                  ·
                    skip
                    refine on rfl rfl rfl ⟨_, rfl, .inl rfl⟩ ?_
                    refine on rfl rfl rfl ⟨_, rfl, .inl rfl⟩ ?_
                    refine o1 rfl (det_pickT rfl rfl) rfl rfl trivial ?_
                    refine o1 rfl (det_move rfl) rfl rfl trivial ?_
                    refine on rfl rfl rfl ⟨_, rfl, .inl rfl⟩ ?_
                    refine on rfl rfl rfl ⟨_, rfl, .inl rfl⟩ ?_
                    refine on rfl rfl rfl ⟨_, rfl, .inl rfl⟩ ?_
                    refine o1 rfl (det_pickT rfl rfl) rfl rfl trivial ?_
                    refine be rfl ?_
                    refine tk_drop ?_ (.refl _) hK
                    exact ⟨(mb rfl (by grind)), rfl, rfl, rfl, rfl, rfl, rfl, trivial⟩
                  ·
                    skip
                    refine o1 rfl (det_move rfl) rfl rfl ⟨_, rfl, rfl⟩ ?_
                    refine o1 rfl (det_neq rfl rfl) rfl rfl ⟨_, rfl, rfl⟩ ?_
                    refine o1 rfl (det_pickF rfl rfl) rfl rfl trivial ?_
                    refine o2P bne_iff_ne rfl (det_move rfl) rfl rfl trivial (fun hb => ?_) (fun hb => ?_)
                    ·
                      skip
                      refine on rfl rfl rfl ⟨_, rfl, .inl rfl⟩ ?_
                      refine on rfl rfl rfl ⟨_, rfl, .inl rfl⟩ ?_
                      refine on rfl rfl rfl ⟨_, rfl, .inl rfl⟩ ?_
                      refine o1 rfl (det_pickT rfl rfl) rfl rfl trivial ?_
                      refine be rfl ?_
                      refine tk_drop ?_ (.refl _) hK
                      exact ⟨(mb rfl (by grind)), rfl, rfl, rfl, rfl, rfl, rfl, trivial⟩
                    ·
                      skip
                      refine o1 rfl (det_move rfl) rfl rfl ⟨_, rfl, rfl⟩ ?_
                      refine o1 rfl (det_lenS sl32 rfl) rfl rfl ⟨_, rfl, rfl⟩ ?_
                      refine o1 rfl (det_gtr rfl rfl) rfl rfl ⟨_, rfl, rfl⟩ ?_
                      refine o1 rfl (det_pickF rfl rfl) rfl rfl trivial ?_
                      refine be rfl ?_
                      refine tk_drop ?_ (.refl _) hK
                      exact ⟨(mb rfl (by grind)), rfl, rfl, rfl, rfl, rfl, rfl, trivial⟩
              ·
                have hok : okR y = true := by simpa using hb
                simp only [hok, if_true] at hm1
                refine t_skip ?_
                refine k_then ?_
                refine t_seq ?_
                refine b0 ?_
                refine o1 rfl (det_loadN tN24 rfl rfl (.head _) rfl) rfl rfl trivial ?_
                refine o1 rfl (det_call hb13 rfl rfl (fun w1 hs => check_ok hs.know hyse)) rfl rfl trivial ?_
                refine o1 rfl (det_neq rfl rfl) rfl rfl trivial ?_
                refine o2P bne_iff_ne rfl (det_move rfl) rfl rfl trivial (fun hb => ?_) (fun hb => ?_)
                · exfalso; simp [hok] at hb
                refine o1 rfl (det_move rfl) rfl rfl ⟨_, rfl, rfl⟩ ?_
                refine o1 rfl (det_neq rfl rfl) rfl rfl ⟨_, rfl, rfl⟩ ?_
                refine o1 rfl (det_pickF rfl rfl) rfl rfl trivial ?_
                refine o2P bne_iff_ne rfl (det_move rfl) rfl rfl trivial (fun hb => ?_) (fun hb => ?_)
                · exfalso; simp [hok] at hb
                refine o1 rfl (det_move rfl) rfl rfl ⟨_, rfl, rfl⟩ ?_
                refine o1 rfl (det_loadN tN24 rfl rfl (.head _) rfl) rfl rfl ⟨_, rfl, rfl⟩ ?_
                refine oF nofun rfl hb15 rfl rfl rfl ⟨_, rfl, rfl⟩ (fun w1 hs => (rmissing_ok hs.know hok).any) (fun v2 F2 hF2 hN2 ⟨A2, n2, c2, hv, hm2⟩ => ?_)
                subst hv
                refine o1 rfl (det_call hb14 rfl rfl (fun w1 hs => equalI_ok hs.know (hm1.mono hF2) hm2 (by rw [hm1.len]; have := missL_len y hok; omega))) rfl rfl ⟨_, rfl, rfl⟩ ?_
                refine o1 rfl (det_not rfl) rfl rfl ⟨_, rfl, rfl⟩ ?_
                refine o1 rfl (det_pickF rfl rfl) rfl rfl trivial ?_
                refine be rfl ?_
                refine k_then ?_
                refine t_condP not_iff_false rfl (fun hb => ?_) (fun hb => ?_)
                · exfalso; simp at hb
                refine t_skip ?_
                refine k_blk ?_
                refine k_then ?_
                refine b0 ?_
                first | (refine o1 rfl (det_addI rfl rfl ?_) rfl rfl trivial ?_; (· omega)) | refine o1 rfl (det_add rfl rfl) rfl rfl trivial ?_
                refine o1 rfl (det_move rfl) rfl rfl trivial ?_
                refine be rfl ?_
                refine k_then ?_
                refine loop_backK (s + 1) (by omega) (by omega) (fun a u h => hF2 a u (hF1 a u h)) ⟨rfl, rfl, rfl, trivial⟩ (.cons _ (.refl _))
            ·
              skip
              refine t_exit ?_
              refine k_thenE ?_
              refine k_thenE ?_
              refine k_blkE ?_
              refine k_then ?_
              refine t_seq ?_
              refine b0 ?_
              cases hko : okR (anyR ({ dfR d with at_ := IntKind.i64.wrap (bz : Int) } : Rc).ln ({ dfR d with at_ := IntKind.i64.wrap (bz : Int) } : Rc).rs)
              ·
                have hko2 := mt ok_any_iff.2 (show ¬ (_ = true) by rw [hko]; simp)
                refine o1 rfl (det_fieldAddr fld24_0 rfl) rfl rfl trivial ?_
                refine o1 rfl (det_load1 t1_3 rfl rfl (.head _) rfl) rfl rfl trivial ?_
                refine o1 rfl (det_fieldAddr fld24_1 rfl) rfl rfl trivial ?_
                refine o1 rfl (det_load1 t1_3 rfl rfl (.head _) rfl) rfl rfl trivial ?_
                refine o1 rfl (det_call hb16 rfl rfl (fun w1 hs => new_at hs.know hko)) rfl rfl trivial ?_
                refine o1 rfl (det_move rfl) rfl rfl trivial ?_
                refine o1 rfl (det_extract rfl rfl) rfl rfl trivial ?_
                refine o1 rfl (det_extract rfl rfl) rfl rfl trivial ?_
                refine om1 rfl (new_alloc z24) rfl rfl trivial (fun p15 => ?_)
                refine stN nofun rfl tN24 rfl rfl rfl .head rfl trivial rfl rfl ?_
                refine o1 rfl (det_assign rfl) rfl rfl trivial ?_
                refine be rfl ?_
                refine k_then ?_
                refine t_seq ?_
                refine t_seq ?_
                refine t_merge (env0 := [(10, _), (15, _), (16, _)]) ⟨rfl, rfl, rfl, trivial⟩ 119 (.bool true) ?_ (fun hK => ?_)
                ·
                  refine k_then ?_
                  refine t_condT rfl ?_
                  refine t_seq ?_
                  refine b0 ?_
                  refine o1 rfl (det_move rfl) rfl rfl trivial ?_
                  refine o1 rfl (det_eql rfl rfl) rfl rfl trivial ?_
                  refine o2P beq_iff_eq rfl (det_move rfl) rfl rfl trivial (fun hb => ?_) (fun hb => ?_)
                  rotate_left
                  · exfalso; first | exact hb rfl | (simp at hb; done) | (revert hb; decide)
                  refine o1 rfl (det_loadN tN24 rfl rfl (.head _) rfl) rfl rfl ⟨_, rfl, rfl⟩ ?_
                  refine o1 rfl (det_build rfl (fun w => bld24_ w)) rfl rfl ⟨_, rfl, rfl⟩ ?_
                  refine o1 rfl (det_eqlS rfl rfl eqg24 (fun w => eq24 _ _ _ _ _ _ _ _ _ _ _ _ w)) rfl rfl ⟨_, rfl, rfl⟩ ?_
                  refine o1 rfl (det_pickT rfl rfl) rfl rfl trivial ?_
                  refine o1 rfl (det_assign rfl) rfl rfl trivial ?_
                  refine be rfl ?_
                  refine k_then ?_
                  refine t_ret (k_thenR (?_))
                  refine ret_tmp rfl rfl rfl (fun w1 hs => ?_)
                  first | exact ⟨rfl, hs.keep⟩ | exact ⟨by simp [anyR], hs.keep⟩
                ·
                  refine b0 ?_
                  refine o1 rfl (det_fieldAddr fld24_0 rfl) rfl rfl trivial ?_
                  refine o1 rfl (det_load1 t1_3 rfl rfl (.tail _ (.head _)) rfl) rfl rfl trivial ?_
                  refine o1 rfl (det_lss rfl rfl) rfl rfl trivial ?_
                  refine o2P decide_eq_true_iff rfl (det_move rfl) rfl rfl trivial (fun hb => ?_) (fun hb => ?_)
                  ·
                    skip
                    refine on rfl rfl rfl ⟨_, rfl, .inl rfl⟩ ?_
                    refine on rfl rfl rfl ⟨_, rfl, .inl rfl⟩ ?_
                    refine on rfl rfl rfl ⟨_, rfl, .inl rfl⟩ ?_
                    refine o1 rfl (det_pickT rfl rfl) rfl rfl trivial ?_
                    refine o1 rfl (det_move rfl) rfl rfl trivial ?_
                    refine on rfl rfl rfl ⟨_, rfl, .inl rfl⟩ ?_
                    refine on rfl rfl rfl ⟨_, rfl, .inl rfl⟩ ?_
                    refine on rfl rfl rfl ⟨_, rfl, .inl rfl⟩ ?_
                    refine o1 rfl (det_pickT rfl rfl) rfl rfl trivial ?_
                    refine o1 rfl (det_move rfl) rfl rfl trivial ?_
                    refine on rfl rfl rfl ⟨_, rfl, .inl rfl⟩ ?_
                    refine on rfl rfl rfl ⟨_, rfl, .inl rfl⟩ ?_
                    refine on rfl rfl rfl ⟨_, rfl, .inl rfl⟩ ?_
                    refine o1 rfl (det_pickT rfl rfl) rfl rfl trivial ?_
                    refine be rfl ?_
                    refine tk_drop ?_ (.refl _) hK
                    exact ⟨(mb rfl (by grind)), rfl, rfl, rfl, trivial⟩
                  ·
                    skip
                    refine o1 rfl (det_fieldAddr fld24_0 rfl) rfl rfl ⟨_, rfl, rfl⟩ ?_
                    refine o1 rfl (det_load1 t1_3 rfl rfl (.tail _ (.head _)) rfl) rfl rfl ⟨_, rfl, rfl⟩ ?_
                    refine o1 rfl (det_gtr rfl rfl) rfl rfl ⟨_, rfl, rfl⟩ ?_
                    refine o1 rfl (det_pickF rfl rfl) rfl rfl trivial ?_
                    refine o2P decide_eq_true_iff rfl (det_move rfl) rfl rfl trivial (fun hb => ?_) (fun hb => ?_)
                    ·
                      skip
                      refine on rfl rfl rfl ⟨_, rfl, .inl rfl⟩ ?_
                      refine on rfl rfl rfl ⟨_, rfl, .inl rfl⟩ ?_
                      refine on rfl rfl rfl ⟨_, rfl, .inl rfl⟩ ?_
                      refine o1 rfl (det_pickT rfl rfl) rfl rfl trivial ?_
                      refine o1 rfl (det_move rfl) rfl rfl trivial ?_
                      refine on rfl rfl rfl ⟨_, rfl, .inl rfl⟩ ?_
                      refine on rfl rfl rfl ⟨_, rfl, .inl rfl⟩ ?_
                      refine on rfl rfl rfl ⟨_, rfl, .inl rfl⟩ ?_
                      refine o1 rfl (det_pickT rfl rfl) rfl rfl trivial ?_
                      refine be rfl ?_
                      refine tk_drop ?_ (.refl _) hK
                      exact ⟨(mb rfl (by grind)), rfl, rfl, rfl, trivial⟩
                    ·
                      skip
                      refine o1 rfl (det_fieldAddr fld24_1 rfl) rfl rfl ⟨_, rfl, rfl⟩ ?_
                      refine o1 rfl (det_load1 t1_3 rfl rfl (.tail _ (.head _)) rfl) rfl rfl ⟨_, rfl, rfl⟩ ?_
                      refine o1 rfl (det_lss rfl rfl) rfl rfl ⟨_, rfl, rfl⟩ ?_
                      refine o1 rfl (det_pickF rfl rfl) rfl rfl trivial ?_
                      refine o2P decide_eq_true_iff rfl (det_move rfl) rfl rfl trivial (fun hb => ?_) (fun hb => ?_)
                      ·
                        skip
                        refine on rfl rfl rfl ⟨_, rfl, .inl rfl⟩ ?_
                        refine on rfl rfl rfl ⟨_, rfl, .inl rfl⟩ ?_
                        refine on rfl rfl rfl ⟨_, rfl, .inl rfl⟩ ?_
                        refine o1 rfl (det_pickT rfl rfl) rfl rfl trivial ?_
                        refine be rfl ?_
                        refine tk_drop ?_ (.refl _) hK
                        exact ⟨(mb rfl (by grind)), rfl, rfl, rfl, trivial⟩
                      ·
                        skip
                        refine o1 rfl (det_fieldAddr fld24_1 rfl) rfl rfl ⟨_, rfl, rfl⟩ ?_
                        refine o1 rfl (det_load1 t1_3 rfl rfl (.tail _ (.head _)) rfl) rfl rfl ⟨_, rfl, rfl⟩ ?_
                        refine o1 rfl (det_gtr rfl rfl) rfl rfl ⟨_, rfl, rfl⟩ ?_
                        refine o1 rfl (det_pickF rfl rfl) rfl rfl trivial ?_
                        refine be rfl ?_
                        refine tk_drop ?_ (.refl _) hK
                        exact ⟨(mb rfl (by grind)), rfl, rfl, rfl, trivial⟩
              ·
                have hko2 := ok_any_iff.1 hko
                refine o1 rfl (det_fieldAddr fld24_0 rfl) rfl rfl trivial ?_
                refine o1 rfl (det_load1 t1_3 rfl rfl (.head _) rfl) rfl rfl trivial ?_
                refine o1 rfl (det_fieldAddr fld24_1 rfl) rfl rfl trivial ?_
                refine o1 rfl (det_load1 t1_3 rfl rfl (.head _) rfl) rfl rfl trivial ?_
                refine o1 rfl (det_call hb16 rfl rfl (fun w1 hs => new_at hs.know hko)) rfl rfl trivial ?_
                refine o1 rfl (det_move rfl) rfl rfl trivial ?_
                refine o1 rfl (det_extract rfl rfl) rfl rfl trivial ?_
                refine o1 rfl (det_extract rfl rfl) rfl rfl trivial ?_
                refine om1 rfl (new_alloc z24) rfl rfl trivial (fun p15 => ?_)
                refine stN nofun rfl tN24 rfl rfl rfl .head rfl trivial rfl rfl ?_
                refine o1 rfl (det_assign rfl) rfl rfl trivial ?_
                refine be rfl ?_
                refine k_then ?_
                refine t_seq ?_
                refine t_seq ?_
                refine t_merge (env0 := [(10, _), (15, _), (16, _)]) ⟨rfl, rfl, rfl, trivial⟩ 119 (.bool false) ?_ (fun hK => ?_)
                ·
                  refine k_then ?_
                  refine t_condF rfl ?_
                  refine t_skip ?_
                  refine k_then ?_
                  refine t_seq ?_
                  refine b0 ?_
                  refine o1 rfl (det_move rfl) rfl rfl trivial ?_
                  refine o1 rfl (det_eql rfl rfl) rfl rfl trivial ?_
                  refine o2P beq_iff_eq rfl (det_move rfl) rfl rfl trivial (fun hb => ?_) (fun hb => ?_)
                  rotate_left
                  · exfalso; first | exact hb rfl | (simp at hb; done) | (revert hb; decide)
                  refine o1 rfl (det_loadN tN24 rfl rfl (.head _) rfl) rfl rfl ⟨_, rfl, rfl⟩ ?_
                  refine o1 rfl (det_fieldAddr fld24_0 rfl) rfl rfl ⟨_, rfl, rfl⟩ ?_
                  refine o1 rfl (det_load1 t1_3 rfl rfl (.tail _ (.head _)) rfl) rfl rfl ⟨_, rfl, rfl⟩ ?_
                  refine o1 rfl (det_fieldAddr fld24_1 rfl) rfl rfl ⟨_, rfl, rfl⟩ ?_
                  refine o1 rfl (det_load1 t1_3 rfl rfl (.tail _ (.head _)) rfl) rfl rfl ⟨_, rfl, rfl⟩ ?_
                  refine o1 rfl (det_build rfl (fun w => bld24_0_1_2 _ _ _ w)) rfl rfl ⟨_, rfl, rfl⟩ ?_
                  refine o1 rfl (det_eqlS rfl rfl eqg24 (fun w => eq24 _ _ _ _ _ _ _ _ _ _ _ _ w)) rfl rfl ⟨_, rfl, rfl⟩ ?_
                  refine o1 rfl (det_pickT rfl rfl) rfl rfl trivial ?_
                  refine o1 rfl (det_assign rfl) rfl rfl trivial ?_
                  refine be rfl ?_
                  refine k_then ?_
                  refine t_ret ?_
                  refine ret_tmp rfl rfl rfl (fun w1 hs => ?_)
                  first | exact ⟨rfl, hs.keep⟩ | exact ⟨by simp [anyR], hs.keep⟩
                ·
                  refine b0 ?_
                  refine o1 rfl (det_fieldAddr fld24_0 rfl) rfl rfl trivial ?_
                  refine o1 rfl (det_load1 t1_3 rfl rfl (.tail _ (.head _)) rfl) rfl rfl trivial ?_
                  refine o1 rfl (det_lss rfl rfl) rfl rfl trivial ?_
                  refine o2P decide_eq_true_iff rfl (det_move rfl) rfl rfl trivial (fun hb => ?_) (fun hb => ?_)
                  ·
                    skip
                    refine on rfl rfl rfl ⟨_, rfl, .inl rfl⟩ ?_
                    refine on rfl rfl rfl ⟨_, rfl, .inl rfl⟩ ?_
                    refine on rfl rfl rfl ⟨_, rfl, .inl rfl⟩ ?_
                    refine o1 rfl (det_pickT rfl rfl) rfl rfl trivial ?_
                    refine o1 rfl (det_move rfl) rfl rfl trivial ?_
                    refine on rfl rfl rfl ⟨_, rfl, .inl rfl⟩ ?_
                    refine on rfl rfl rfl ⟨_, rfl, .inl rfl⟩ ?_
                    refine on rfl rfl rfl ⟨_, rfl, .inl rfl⟩ ?_
                    refine o1 rfl (det_pickT rfl rfl) rfl rfl trivial ?_
                    refine o1 rfl (det_move rfl) rfl rfl trivial ?_
                    refine on rfl rfl rfl ⟨_, rfl, .inl rfl⟩ ?_
                    refine on rfl rfl rfl ⟨_, rfl, .inl rfl⟩ ?_
                    refine on rfl rfl rfl ⟨_, rfl, .inl rfl⟩ ?_
                    refine o1 rfl (det_pickT rfl rfl) rfl rfl trivial ?_
                    refine be rfl ?_
                    refine tk_drop ?_ (.refl _) hK
                    exact ⟨(mb rfl (by grind)), rfl, rfl, rfl, trivial⟩
                  ·
                    skip
                    refine o1 rfl (det_fieldAddr fld24_0 rfl) rfl rfl ⟨_, rfl, rfl⟩ ?_
                    refine o1 rfl (det_load1 t1_3 rfl rfl (.tail _ (.head _)) rfl) rfl rfl ⟨_, rfl, rfl⟩ ?_
                    refine o1 rfl (det_gtr rfl rfl) rfl rfl ⟨_, rfl, rfl⟩ ?_
                    refine o1 rfl (det_pickF rfl rfl) rfl rfl trivial ?_
                    refine o2P decide_eq_true_iff rfl (det_move rfl) rfl rfl trivial (fun hb => ?_) (fun hb => ?_)
                    ·
                      skip
                      refine on rfl rfl rfl ⟨_, rfl, .inl rfl⟩ ?_
                      refine on rfl rfl rfl ⟨_, rfl, .inl rfl⟩ ?_
                      refine on rfl rfl rfl ⟨_, rfl, .inl rfl⟩ ?_
                      refine o1 rfl (det_pickT rfl rfl) rfl rfl trivial ?_
                      refine o1 rfl (det_move rfl) rfl rfl trivial ?_
                      refine on rfl rfl rfl ⟨_, rfl, .inl rfl⟩ ?_
                      refine on rfl rfl rfl ⟨_, rfl, .inl rfl⟩ ?_
                      refine on rfl rfl rfl ⟨_, rfl, .inl rfl⟩ ?_
                      refine o1 rfl (det_pickT rfl rfl) rfl rfl trivial ?_
                      refine be rfl ?_
                      refine tk_drop ?_ (.refl _) hK
                      exact ⟨(mb rfl (by grind)), rfl, rfl, rfl, trivial⟩
                    ·
                      skip
                      refine o1 rfl (det_fieldAddr fld24_1 rfl) rfl rfl ⟨_, rfl, rfl⟩ ?_
                      refine o1 rfl (det_load1 t1_3 rfl rfl (.tail _ (.head _)) rfl) rfl rfl ⟨_, rfl, rfl⟩ ?_
                      refine o1 rfl (det_lss rfl rfl) rfl rfl ⟨_, rfl, rfl⟩ ?_
                      refine o1 rfl (det_pickF rfl rfl) rfl rfl trivial ?_
                      refine o2P decide_eq_true_iff rfl (det_move rfl) rfl rfl trivial (fun hb => ?_) (fun hb => ?_)
                      ·
                        skip
                        refine on rfl rfl rfl ⟨_, rfl, .inl rfl⟩ ?_
                        refine on rfl rfl rfl ⟨_, rfl, .inl rfl⟩ ?_
                        refine on rfl rfl rfl ⟨_, rfl, .inl rfl⟩ ?_
                        refine o1 rfl (det_pickT rfl rfl) rfl rfl trivial ?_
                        refine be rfl ?_
                        refine tk_drop ?_ (.refl _) hK
                        exact ⟨(mb rfl (by grind)), rfl, rfl, rfl, trivial⟩
                      ·
                        skip
                        refine o1 rfl (det_fieldAddr fld24_1 rfl) rfl rfl ⟨_, rfl, rfl⟩ ?_
                        refine o1 rfl (det_load1 t1_3 rfl rfl (.tail _ (.head _)) rfl) rfl rfl ⟨_, rfl, rfl⟩ ?_
                        refine o1 rfl (det_gtr rfl rfl) rfl rfl ⟨_, rfl, rfl⟩ ?_
                        refine o1 rfl (det_pickF rfl rfl) rfl rfl trivial ?_
                        refine be rfl ?_
                        refine tk_drop ?_ (.refl _) hK
                        exact ⟨(mb rfl (by grind)), rfl, rfl, rfl, trivial⟩
          ·
            skip --note:b5
            refine b0 ?_
            refine o1 rfl (det_move rfl) rfl rfl trivial ?_
            refine o1 rfl (det_fieldAddr fld24_5 rfl) rfl rfl trivial ?_
            refine st1 nofun rfl t1_22 rfl rfl rfl .head rfl trivial rfl ?_
            refine be rfl ?_
            refine k_blk ?_
            refine k_then ?_
            refine t_seq ?_
            refine t_seq ?_
            refine b0 ?_
            refine o1 rfl (det_loadN tN24 rfl rfl (.tail _ (.tail _ (.tail _ (.head _)))) rfl) rfl rfl trivial ?_
            refine o1 rfl (det_loadN tN24 rfl rfl (.tail _ (.head _)) rfl) rfl rfl trivial ?_
            refine o1 rfl (det_loadN tN24 rfl rfl (.head _) rfl) rfl rfl trivial ?_
            refine o1 rfl (det_build rfl (fun w => bld31_0_1_2 _ _ _ _ _ _ _ _ _ _ _ _ _ _ _ _ _ _ w)) rfl rfl trivial ?_
            refine o1 rfl (det_move rfl) rfl rfl trivial ?_
            refine be rfl ?_
            refine k_then ?_
            refine t_block ?_
            refine t_whileK (σ := Nat) (fun s => [(56, .int .i64 s)]) (fun s => F) (fun _ => _) (fun s => 3 - s) (fun s => s ≤ 3) 0 (env0 := [(10, _), (55, _)]) (Nat.zero_le _) incl_refl ⟨rfl, trivial⟩ ⟨rfl, rfl, trivial⟩ (.refl _) ?_
            intro s hsl
            refine t_seq ?_
            refine b0 ?_
            refine o1 rfl (det_lss rfl rfl) rfl rfl trivial ?_
            refine be rfl ?_
            refine k_then ?_
            refine t_seq ?_
            refine t_condP decide_eq_true_iff rfl (fun hb => ?_) (fun hb => ?_)
            ·
              have hlt : s < 3 := by omega
              obtain ⟨y, hcut, hyse⟩ : ∃ y : Rc, cutV ((s : Int).toNat * 6) 6 (rcv r ++ rcv (dfR d) ++ rcv ({ dfR d with se := bz } : Rc)) = some (rcv y) ∧ y.se < 18446744073709551616 := by
                have h6 : s = 0 ∨ s = 1 ∨ s = 2 := by omega
                rcases h6 with rfl | rfl | rfl
                · exact ⟨r, rfl, hse⟩
                · exact ⟨dfR d, rfl, hdse⟩
                · exact ⟨({ dfR d with se := bz } : Rc), rfl, hbz⟩
              refine t_skip ?_
              refine k_then ?_
              refine t_seq ?_
              refine t_block ?_
              refine t_seq ?_
              refine b0 ?_
              refine o1 rfl (det_indexN ar31 tN24 rfl rfl (by omega) hcut) rfl rfl trivial ?_
              refine om1 rfl (new_alloc z24) rfl rfl trivial (fun p12 => ?_)
              refine stN nofun rfl tN24 rfl rfl rfl .head rfl trivial rfl rfl ?_
              refine be rfl ?_
              refine k_then ?_
              refine t_seq ?_
              refine b0 ?_
              refine o1 rfl (det_loadN tN24 rfl rfl (.head _) rfl) rfl rfl trivial ?_
              refine oF nofun rfl hb11 rfl rfl rfl trivial (fun w1 hs => (missing_ok hs.know hyse).any) (fun v1 F1 hF1 hN1 ⟨A1, n1, c1, hv, hm1⟩ => ?_)
              subst hv
              refine o1 rfl (det_move rfl) rfl rfl trivial ?_
              refine o1 rfl (det_extract rfl rfl) rfl rfl trivial ?_
              refine o1 rfl (det_extract rfl rfl) rfl rfl trivial ?_
              refine o1 rfl (det_assign rfl) rfl rfl trivial ?_
              refine o1 rfl (det_assign rfl) rfl rfl trivial ?_
              refine be rfl ?_
              refine k_then ?_
              refine t_seq ?_
              refine t_seq ?_
              refine b0 ?_
              refine o1 rfl (det_loadN tN24 rfl rfl (.head _) rfl) rfl rfl trivial ?_
              refine o1 rfl (det_call hb12 rfl rfl (fun w1 hs => right_ok hs.know hyse)) rfl rfl trivial ?_
              refine o1 rfl (det_not rfl) rfl rfl trivial ?_
              refine be rfl ?_
              refine k_then ?_
              refine t_condP not_iff_false rfl (fun hb => ?_) (fun hb => ?_)
              ·
                have hno : okR y = false := by simpa using hb
                simp only [hno, Bool.false_eq_true, if_false] at hm1
                have hn0 : n1 = 0 := hm1.len
                refine t_seq ?_
                refine t_seq ?_
                refine t_merge (env0 := [(10, _), (12, _), (13, _), (14, _), (55, _), (56, _)]) ⟨rfl, rfl, rfl, rfl, rfl, rfl, trivial⟩ 78 (.bool false) ?_ (fun hK => ?_)
                ·
                  refine k_then ?_
                  refine t_condF rfl ?_
                  refine t_skip ?_
                  refine k_then ?_
                  refine t_exit ?_
                  refine k_thenE ?_
                  refine k_blkE ?_
                  refine k_then ?_
                  refine b0 ?_
                  first | (refine o1 rfl (det_addI rfl rfl ?_) rfl rfl trivial ?_; (· omega)) | refine o1 rfl (det_add rfl rfl) rfl rfl trivial ?_
                  refine o1 rfl (det_move rfl) rfl rfl trivial ?_
                  refine be rfl ?_
                  refine k_then ?_
                  refine loop_backK (s + 1) (by omega) (by omega) hF1 ⟨rfl, rfl, rfl, trivial⟩ (.cons _ (.refl _))
                ·
                  refine b0 ?_
                  refine o1 rfl (det_loadN tN24 rfl rfl (.head _) rfl) rfl rfl trivial ?_
                  refine o1 rfl (det_call hb13 rfl rfl (fun w1 hs => check_ok hs.know hyse)) rfl rfl trivial ?_
                  refine o1 rfl (det_neq rfl rfl) rfl rfl trivial ?_
                  refine o2P bne_iff_ne rfl (det_move rfl) rfl rfl trivial (fun hb => ?_) (fun hb => ?_)
                  ·
                    skip
                    refine on rfl rfl rfl ⟨_, rfl, .inl rfl⟩ ?_
                    refine on rfl rfl rfl ⟨_, rfl, .inl rfl⟩ ?_
                    refine o1 rfl (det_pickT rfl rfl) rfl rfl trivial ?_
                    refine o1 rfl (det_move rfl) rfl rfl trivial ?_
                    refine on rfl rfl rfl ⟨_, rfl, .inl rfl⟩ ?_
                    refine on rfl rfl rfl ⟨_, rfl, .inl rfl⟩ ?_
                    refine on rfl rfl rfl ⟨_, rfl, .inl rfl⟩ ?_
                    refine o1 rfl (det_pickT rfl rfl) rfl rfl trivial ?_
                    refine be rfl ?_
                    refine tk_drop ?_ (.refl _) hK
                    exact ⟨(mb rfl (by grind)), rfl, rfl, rfl, rfl, rfl, rfl, trivial⟩
                  ·
                    skip
                    refine o1 rfl (det_move rfl) rfl rfl ⟨_, rfl, rfl⟩ ?_
                    refine o1 rfl (det_neq rfl rfl) rfl rfl ⟨_, rfl, rfl⟩ ?_
                    refine o1 rfl (det_pickF rfl rfl) rfl rfl trivial ?_
                    refine o2P bne_iff_ne rfl (det_move rfl) rfl rfl trivial (fun hb => ?_) (fun hb => ?_)
                    ·
                      skip
                      refine on rfl rfl rfl ⟨_, rfl, .inl rfl⟩ ?_
                      refine on rfl rfl rfl ⟨_, rfl, .inl rfl⟩ ?_
                      refine on rfl rfl rfl ⟨_, rfl, .inl rfl⟩ ?_
                      refine o1 rfl (det_pickT rfl rfl) rfl rfl trivial ?_
                      refine be rfl ?_
                      refine tk_drop ?_ (.refl _) hK
                      exact ⟨(mb rfl (by grind)), rfl, rfl, rfl, rfl, rfl, rfl, trivial⟩
                    ·
                      skip
                      refine o1 rfl (det_move rfl) rfl rfl ⟨_, rfl, rfl⟩ ?_
                      refine o1 rfl (det_lenS sl32 rfl) rfl rfl ⟨_, rfl, rfl⟩ ?_
                      refine o1 rfl (det_gtr rfl rfl) rfl rfl ⟨_, rfl, rfl⟩ ?_
                      refine o1 rfl (det_pickF rfl rfl) rfl rfl trivial ?_
                      refine be rfl ?_
                      refine tk_drop ?_ (.refl _) hK
                      exact ⟨(mb rfl (by grind)), rfl, rfl, rfl, rfl, rfl, rfl, trivial⟩
              ·
                have hok : okR y = true := by simpa using hb
                simp only [hok, if_true] at hm1
                refine t_skip ?_
                refine k_then ?_
                refine t_seq ?_
                refine b0 ?_
                refine o1 rfl (det_loadN tN24 rfl rfl (.head _) rfl) rfl rfl trivial ?_
                refine o1 rfl (det_call hb13 rfl rfl (fun w1 hs => check_ok hs.know hyse)) rfl rfl trivial ?_
                refine o1 rfl (det_neq rfl rfl) rfl rfl trivial ?_
                refine o2P bne_iff_ne rfl (det_move rfl) rfl rfl trivial (fun hb => ?_) (fun hb => ?_)
                · exfalso; simp [hok] at hb
                refine o1 rfl (det_move rfl) rfl rfl ⟨_, rfl, rfl⟩ ?_
                refine o1 rfl (det_neq rfl rfl) rfl rfl ⟨_, rfl, rfl⟩ ?_
                refine o1 rfl (det_pickF rfl rfl) rfl rfl trivial ?_
                refine o2P bne_iff_ne rfl (det_move rfl) rfl rfl trivial (fun hb => ?_) (fun hb => ?_)
                · exfalso; simp [hok] at hb
                refine o1 rfl (det_move rfl) rfl rfl ⟨_, rfl, rfl⟩ ?_
                refine o1 rfl (det_loadN tN24 rfl rfl (.head _) rfl) rfl rfl ⟨_, rfl, rfl⟩ ?_
                refine oF nofun rfl hb15 rfl rfl rfl ⟨_, rfl, rfl⟩ (fun w1 hs => (rmissing_ok hs.know hok).any) (fun v2 F2 hF2 hN2 ⟨A2, n2, c2, hv, hm2⟩ => ?_)
                subst hv
                refine o1 rfl (det_call hb14 rfl rfl (fun w1 hs => equalI_ok hs.know (hm1.mono hF2) hm2 (by rw [hm1.len]; have := missL_len y hok; omega))) rfl rfl ⟨_, rfl, rfl⟩ ?_
                refine o1 rfl (det_not rfl) rfl rfl ⟨_, rfl, rfl⟩ ?_
                refine o1 rfl (det_pickF rfl rfl) rfl rfl trivial ?_
                refine be rfl ?_
                refine k_then ?_
                refine t_condP not_iff_false rfl (fun hb => ?_) (fun hb => ?_)
                · exfalso; simp at hb
                refine t_skip ?_
                refine k_blk ?_
                refine k_then ?_
                refine b0 ?_
                first | (refine o1 rfl (det_addI rfl rfl ?_) rfl rfl trivial ?_; (· omega)) | refine o1 rfl (det_add rfl rfl) rfl rfl trivial ?_
                refine o1 rfl (det_move rfl) rfl rfl trivial ?_
                refine be rfl ?_
                refine k_then ?_
                refine loop_backK (s + 1) (by omega) (by omega) (fun a u h => hF2 a u (hF1 a u h)) ⟨rfl, rfl, rfl, trivial⟩ (.cons _ (.refl _))
            ·
              skip
              refine t_exit ?_
              refine k_thenE ?_
              refine k_thenE ?_
              refine k_blkE ?_
              refine k_then ?_
              refine t_seq ?_
              refine b0 ?_
              cases hko : okR (anyR ({ dfR d with se := bz } : Rc).ln ({ dfR d with se := bz } : Rc).rs)
              ·
                have hko2 := mt ok_any_iff.2 (show ¬ (_ = true) by rw [hko]; simp)
                refine o1 rfl (det_fieldAddr fld24_0 rfl) rfl rfl trivial ?_
                refine o1 rfl (det_load1 t1_3 rfl rfl (.head _) rfl) rfl rfl trivial ?_
                refine o1 rfl (det_fieldAddr fld24_1 rfl) rfl rfl trivial ?_
                refine o1 rfl (det_load1 t1_3 rfl rfl (.head _) rfl) rfl rfl trivial ?_
                refine o1 rfl (det_call hb16 rfl rfl (fun w1 hs => new_at hs.know hko)) rfl rfl trivial ?_
                refine o1 rfl (det_move rfl) rfl rfl trivial ?_
                refine o1 rfl (det_extract rfl rfl) rfl rfl trivial ?_
                refine o1 rfl (det_extract rfl rfl) rfl rfl trivial ?_
                refine om1 rfl (new_alloc z24) rfl rfl trivial (fun p15 => ?_)
                refine stN nofun rfl tN24 rfl rfl rfl .head rfl trivial rfl rfl ?_
                refine o1 rfl (det_assign rfl) rfl rfl trivial ?_
                refine be rfl ?_
                refine k_then ?_
                refine t_seq ?_
                refine t_seq ?_
                refine t_merge (env0 := [(10, _), (15, _), (16, _)]) ⟨rfl, rfl, rfl, trivial⟩ 119 (.bool true) ?_ (fun hK => ?_)
                ·
                  refine k_then ?_
                  refine t_condT rfl ?_
                  refine t_seq ?_
                  refine b0 ?_
                  refine o1 rfl (det_move rfl) rfl rfl trivial ?_
                  refine o1 rfl (det_eql rfl rfl) rfl rfl trivial ?_
                  refine o2P beq_iff_eq rfl (det_move rfl) rfl rfl trivial (fun hb => ?_) (fun hb => ?_)
                  rotate_left
                  · exfalso; first | exact hb rfl | (simp at hb; done) | (revert hb; decide)
                  refine o1 rfl (det_loadN tN24 rfl rfl (.head _) rfl) rfl rfl ⟨_, rfl, rfl⟩ ?_
                  refine o1 rfl (det_build rfl (fun w => bld24_ w)) rfl rfl ⟨_, rfl, rfl⟩ ?_
                  refine o1 rfl (det_eqlS rfl rfl eqg24 (fun w => eq24 _ _ _ _ _ _ _ _ _ _ _ _ w)) rfl rfl ⟨_, rfl, rfl⟩ ?_
                  refine o1 rfl (det_pickT rfl rfl) rfl rfl trivial ?_
                  refine o1 rfl (det_assign rfl) rfl rfl trivial ?_
                  refine be rfl ?_
                  refine k_then ?_
                  refine t_ret (k_thenR (?_))
                  refine ret_tmp rfl rfl rfl (fun w1 hs => ?_)
                  first | exact ⟨rfl, hs.keep⟩ | exact ⟨by simp [anyR], hs.keep⟩
                ·
                  refine b0 ?_
                  refine o1 rfl (det_fieldAddr fld24_0 rfl) rfl rfl trivial ?_
                  refine o1 rfl (det_load1 t1_3 rfl rfl (.tail _ (.head _)) rfl) rfl rfl trivial ?_
                  refine o1 rfl (det_lss rfl rfl) rfl rfl trivial ?_
                  refine o2P decide_eq_true_iff rfl (det_move rfl) rfl rfl trivial (fun hb => ?_) (fun hb => ?_)
                  ·
                    skip
                    refine on rfl rfl rfl ⟨_, rfl, .inl rfl⟩ ?_
                    refine on rfl rfl rfl ⟨_, rfl, .inl rfl⟩ ?_
                    refine on rfl rfl rfl ⟨_, rfl, .inl rfl⟩ ?_
                    refine o1 rfl (det_pickT rfl rfl) rfl rfl trivial ?_
                    refine o1 rfl (det_move rfl) rfl rfl trivial ?_
                    refine on rfl rfl rfl ⟨_, rfl, .inl rfl⟩ ?_
                    refine on rfl rfl rfl ⟨_, rfl, .inl rfl⟩ ?_
                    refine on rfl rfl rfl ⟨_, rfl, .inl rfl⟩ ?_
                    refine o1 rfl (det_pickT rfl rfl) rfl rfl trivial ?_
                    refine o1 rfl (det_move rfl) rfl rfl trivial ?_
                    refine on rfl rfl rfl ⟨_, rfl, .inl rfl⟩ ?_
                    refine on rfl rfl rfl ⟨_, rfl, .inl rfl⟩ ?_
                    refine on rfl rfl rfl ⟨_, rfl, .inl rfl⟩ ?_
                    refine o1 rfl (det_pickT rfl rfl) rfl rfl trivial ?_
                    refine be rfl ?_
                    refine tk_drop ?_ (.refl _) hK
                    exact ⟨(mb rfl (by grind)), rfl, rfl, rfl, trivial⟩
                  ·
                    skip
                    refine o1 rfl (det_fieldAddr fld24_0 rfl) rfl rfl ⟨_, rfl, rfl⟩ ?_
                    refine o1 rfl (det_load1 t1_3 rfl rfl (.tail _ (.head _)) rfl) rfl rfl ⟨_, rfl, rfl⟩ ?_
                    refine o1 rfl (det_gtr rfl rfl) rfl rfl ⟨_, rfl, rfl⟩ ?_
                    refine o1 rfl (det_pickF rfl rfl) rfl rfl trivial ?_
                    refine o2P decide_eq_true_iff rfl (det_move rfl) rfl rfl trivial (fun hb => ?_) (fun hb => ?_)
                    ·
                      skip
                      refine on rfl rfl rfl ⟨_, rfl, .inl rfl⟩ ?_
                      refine on rfl rfl rfl ⟨_, rfl, .inl rfl⟩ ?_
                      refine on rfl rfl rfl ⟨_, rfl, .inl rfl⟩ ?_
                      refine o1 rfl (det_pickT rfl rfl) rfl rfl trivial ?_
                      refine o1 rfl (det_move rfl) rfl rfl trivial ?_
                      refine on rfl rfl rfl ⟨_, rfl, .inl rfl⟩ ?_
                      refine on rfl rfl rfl ⟨_, rfl, .inl rfl⟩ ?_
                      refine on rfl rfl rfl ⟨_, rfl, .inl rfl⟩ ?_
                      refine o1 rfl (det_pickT rfl rfl) rfl rfl trivial ?_
                      refine be rfl ?_
                      refine tk_drop ?_ (.refl _) hK
                      exact ⟨(mb rfl (by grind)), rfl, rfl, rfl, trivial⟩
                    ·
                      skip
                      refine o1 rfl (det_fieldAddr fld24_1 rfl) rfl rfl ⟨_, rfl, rfl⟩ ?_
                      refine o1 rfl (det_load1 t1_3 rfl rfl (.tail _ (.head _)) rfl) rfl rfl ⟨_, rfl, rfl⟩ ?_
                      refine o1 rfl (det_lss rfl rfl) rfl rfl ⟨_, rfl, rfl⟩ ?_
                      refine o1 rfl (det_pickF rfl rfl) rfl rfl trivial ?_
                      refine o2P decide_eq_true_iff rfl (det_move rfl) rfl rfl trivial (fun hb => ?_) (fun hb => ?_)
                      ·
                        skip
                        refine on rfl rfl rfl ⟨_, rfl, .inl rfl⟩ ?_
                        refine on rfl rfl rfl ⟨_, rfl, .inl rfl⟩ ?_
                        refine on rfl rfl rfl ⟨_, rfl, .inl rfl⟩ ?_
                        refine o1 rfl (det_pickT rfl rfl) rfl rfl trivial ?_
                        refine be rfl ?_
                        refine tk_drop ?_ (.refl _) hK
                        exact ⟨(mb rfl (by grind)), rfl, rfl, rfl, trivial⟩
                      ·
                        skip
                        refine o1 rfl (det_fieldAddr fld24_1 rfl) rfl rfl ⟨_, rfl, rfl⟩ ?_
                        refine o1 rfl (det_load1 t1_3 rfl rfl (.tail _ (.head _)) rfl) rfl rfl ⟨_, rfl, rfl⟩ ?_
                        refine o1 rfl (det_gtr rfl rfl) rfl rfl ⟨_, rfl, rfl⟩ ?_
                        refine o1 rfl (det_pickF rfl rfl) rfl rfl trivial ?_
                        refine be rfl ?_
                        refine tk_drop ?_ (.refl _) hK
                        exact ⟨(mb rfl (by grind)), rfl, rfl, rfl, trivial⟩
              ·
                have hko2 := ok_any_iff.1 hko
                refine o1 rfl (det_fieldAddr fld24_0 rfl) rfl rfl trivial ?_
                refine o1 rfl (det_load1 t1_3 rfl rfl (.head _) rfl) rfl rfl trivial ?_
                refine o1 rfl (det_fieldAddr fld24_1 rfl) rfl rfl trivial ?_
                refine o1 rfl (det_load1 t1_3 rfl rfl (.head _) rfl) rfl rfl trivial ?_
                refine o1 rfl (det_call hb16 rfl rfl (fun w1 hs => new_at hs.know hko)) rfl rfl trivial ?_
                refine o1 rfl (det_move rfl) rfl rfl trivial ?_
                refine o1 rfl (det_extract rfl rfl) rfl rfl trivial ?_
                refine o1 rfl (det_extract rfl rfl) rfl rfl trivial ?_
                refine om1 rfl (new_alloc z24) rfl rfl trivial (fun p15 => ?_)
                refine stN nofun rfl tN24 rfl rfl rfl .head rfl trivial rfl rfl ?_
                refine o1 rfl (det_assign rfl) rfl rfl trivial ?_
                refine be rfl ?_
                refine k_then ?_
                refine t_seq ?_
                refine t_seq ?_
                refine t_merge (env0 := [(10, _), (15, _), (16, _)]) ⟨rfl, rfl, rfl, trivial⟩ 119 (.bool false) ?_ (fun hK => ?_)
                ·
                  refine k_then ?_
                  refine t_condF rfl ?_
                  refine t_skip ?_
                  refine k_then ?_
                  refine t_seq ?_
                  refine b0 ?_
                  refine o1 rfl (det_move rfl) rfl rfl trivial ?_
                  refine o1 rfl (det_eql rfl rfl) rfl rfl trivial ?_
                  refine o2P beq_iff_eq rfl (det_move rfl) rfl rfl trivial (fun hb => ?_) (fun hb => ?_)
                  rotate_left
                  · exfalso; first | exact hb rfl | (simp at hb; done) | (revert hb; decide)
                  refine o1 rfl (det_loadN tN24 rfl rfl (.head _) rfl) rfl rfl ⟨_, rfl, rfl⟩ ?_
                  refine o1 rfl (det_fieldAddr fld24_0 rfl) rfl rfl ⟨_, rfl, rfl⟩ ?_
                  refine o1 rfl (det_load1 t1_3 rfl rfl (.tail _ (.head _)) rfl) rfl rfl ⟨_, rfl, rfl⟩ ?_
                  refine o1 rfl (det_fieldAddr fld24_1 rfl) rfl rfl ⟨_, rfl, rfl⟩ ?_
                  refine o1 rfl (det_load1 t1_3 rfl rfl (.tail _ (.head _)) rfl) rfl rfl ⟨_, rfl, rfl⟩ ?_
                  refine o1 rfl (det_build rfl (fun w => bld24_0_1_2 _ _ _ w)) rfl rfl ⟨_, rfl, rfl⟩ ?_
                  refine o1 rfl (det_eqlS rfl rfl eqg24 (fun w => eq24 _ _ _ _ _ _ _ _ _ _ _ _ w)) rfl rfl ⟨_, rfl, rfl⟩ ?_
                  refine o1 rfl (det_pickT rfl rfl) rfl rfl trivial ?_
                  refine o1 rfl (det_assign rfl) rfl rfl trivial ?_
                  refine be rfl ?_
                  refine k_then ?_
                  refine t_ret ?_
                  refine ret_tmp rfl rfl rfl (fun w1 hs => ?_)
                  first | exact ⟨rfl, hs.keep⟩ | exact ⟨by simp [anyR], hs.keep⟩
                ·
                  refine b0 ?_
                  refine o1 rfl (det_fieldAddr fld24_0 rfl) rfl rfl trivial ?_
                  refine o1 rfl (det_load1 t1_3 rfl rfl (.tail _ (.head _)) rfl) rfl rfl trivial ?_
                  refine o1 rfl (det_lss rfl rfl) rfl rfl trivial ?_
                  refine o2P decide_eq_true_iff rfl (det_move rfl) rfl rfl trivial (fun hb => ?_) (fun hb => ?_)
                  ·
                    skip
                    refine on rfl rfl rfl ⟨_, rfl, .inl rfl⟩ ?_
                    refine on rfl rfl rfl ⟨_, rfl, .inl rfl⟩ ?_
                    refine on rfl rfl rfl ⟨_, rfl, .inl rfl⟩ ?_
                    refine o1 rfl (det_pickT rfl rfl) rfl rfl trivial ?_
                    refine o1 rfl (det_move rfl) rfl rfl trivial ?_
                    refine on rfl rfl rfl ⟨_, rfl, .inl rfl⟩ ?_
                    refine on rfl rfl rfl ⟨_, rfl, .inl rfl⟩ ?_
                    refine on rfl rfl rfl ⟨_, rfl, .inl rfl⟩ ?_
                    refine o1 rfl (det_pickT rfl rfl) rfl rfl trivial ?_
                    refine o1 rfl (det_move rfl) rfl rfl trivial ?_
                    refine on rfl rfl rfl ⟨_, rfl, .inl rfl⟩ ?_
                    refine on rfl rfl rfl ⟨_, rfl, .inl rfl⟩ ?_
                    refine on rfl rfl rfl ⟨_, rfl, .inl rfl⟩ ?_
                    refine o1 rfl (det_pickT rfl rfl) rfl rfl trivial ?_
                    refine be rfl ?_
                    refine tk_drop ?_ (.refl _) hK
                    exact ⟨(mb rfl (by grind)), rfl, rfl, rfl, trivial⟩
                  ·
                    skip
                    refine o1 rfl (det_fieldAddr fld24_0 rfl) rfl rfl ⟨_, rfl, rfl⟩ ?_
                    refine o1 rfl (det_load1 t1_3 rfl rfl (.tail _ (.head _)) rfl) rfl rfl ⟨_, rfl, rfl⟩ ?_
                    refine o1 rfl (det_gtr rfl rfl) rfl rfl ⟨_, rfl, rfl⟩ ?_
                    refine o1 rfl (det_pickF rfl rfl) rfl rfl trivial ?_
                    refine o2P decide_eq_true_iff rfl (det_move rfl) rfl rfl trivial (fun hb => ?_) (fun hb => ?_)
                    ·
                      skip
                      refine on rfl rfl rfl ⟨_, rfl, .inl rfl⟩ ?_
                      refine on rfl rfl rfl ⟨_, rfl, .inl rfl⟩ ?_
                      refine on rfl rfl rfl ⟨_, rfl, .inl rfl⟩ ?_
                      refine o1 rfl (det_pickT rfl rfl) rfl rfl trivial ?_
                      refine o1 rfl (det_move rfl) rfl rfl trivial ?_
                      refine on rfl rfl rfl ⟨_, rfl, .inl rfl⟩ ?_
                      refine on rfl rfl rfl ⟨_, rfl, .inl rfl⟩ ?_
                      refine on rfl rfl rfl ⟨_, rfl, .inl rfl⟩ ?_
                      refine o1 rfl (det_pickT rfl rfl) rfl rfl trivial ?_
                      refine be rfl ?_
                      refine tk_drop ?_ (.refl _) hK
                      exact ⟨(mb rfl (by grind)), rfl, rfl, rfl, trivial⟩
                    ·
                      skip
                      refine o1 rfl (det_fieldAddr fld24_1 rfl) rfl rfl ⟨_, rfl, rfl⟩ ?_
                      refine o1 rfl (det_load1 t1_3 rfl rfl (.tail _ (.head _)) rfl) rfl rfl ⟨_, rfl, rfl⟩ ?_
                      refine o1 rfl (det_lss rfl rfl) rfl rfl ⟨_, rfl, rfl⟩ ?_
                      refine o1 rfl (det_pickF rfl rfl) rfl rfl trivial ?_
                      refine o2P decide_eq_true_iff rfl (det_move rfl) rfl rfl trivial (fun hb => ?_) (fun hb => ?_)
                      ·
                        skip
                        refine on rfl rfl rfl ⟨_, rfl, .inl rfl⟩ ?_
                        refine on rfl rfl rfl ⟨_, rfl, .inl rfl⟩ ?_
                        refine on rfl rfl rfl ⟨_, rfl, .inl rfl⟩ ?_
                        refine o1 rfl (det_pickT rfl rfl) rfl rfl trivial ?_
                        refine be rfl ?_
                        refine tk_drop ?_ (.refl _) hK
                        exact ⟨(mb rfl (by grind)), rfl, rfl, rfl, trivial⟩
                      ·
                        skip
                        refine o1 rfl (det_fieldAddr fld24_1 rfl) rfl rfl ⟨_, rfl, rfl⟩ ?_
                        refine o1 rfl (det_load1 t1_3 rfl rfl (.tail _ (.head _)) rfl) rfl rfl ⟨_, rfl, rfl⟩ ?_
                        refine o1 rfl (det_gtr rfl rfl) rfl rfl ⟨_, rfl, rfl⟩ ?_
                        refine o1 rfl (det_pickF rfl rfl) rfl rfl trivial ?_
                        refine be rfl ?_
                        refine tk_drop ?_ (.refl _) hK
                        exact ⟨(mb rfl (by grind)), rfl, rfl, rfl, trivial⟩

end Go.Proofs.Rc
