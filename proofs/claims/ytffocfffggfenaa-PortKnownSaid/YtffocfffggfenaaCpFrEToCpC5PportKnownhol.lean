/-
  The texts CpFrE to CpC5, one after the other.
-/
import Derived.Test.YtffocfffggfenaaGtPlainToPoPlain14PportKnownhol
import Derived.Test.YtffocfffggfenaaCpFactsPportKnownhol
import Derived.Test.YtffocfffggfenaaEng12ToEng24PportKnownhol
import Derived.Test.YtffocfffggfenaaEng4ToEng11PportKnownhol
/-
  Lists of entries among the arguments.
-/
namespace Go.Proofs.Cp
open Go Go.Eng Go.Gt Go.Proofs.Gt
end Go.Proofs.Cp

/-
  Walks through layers 36, 37 and 38 and their references.
-/
namespace Go.Proofs.Cp
open Go Go.Eng Go.Gt Go.Proofs.Gt
set_option maxRecDepth 4000
theorem check_ok {w : World} {F : Know} (hF : ∀ a v, F a = some v → w.cell? a = some v) {A : Option Addr} {n cap : Nat} {es : Ents} {cyc : Int} (hE : EntK F A n es) : Pure Try.prog 42 [.agg [.slice A n cap, .int .i64 cyc].toArray] w (.int .i64 (if okG es cyc then 0 else 370)) := by
  refine fn_pure (F := F) Try.func42 rfl Try.ntmps42 rfl hF ?_
  refine t_seq ?_
  refine b0 ?_
  refine om1 rfl (new_boxN rfl) rfl rfl trivial (fun p1 => ?_)
  refine o1 rfl (det_assign rfl) rfl rfl trivial ?_
  refine be rfl ?_
  refine k_then ?_
  refine t_seq ?_
  refine t_seq ?_
  refine b0 ?_
  refine o1 rfl (det_fieldAddr fld24_0 rfl) rfl rfl trivial ?_
  refine o1 rfl (det_load1 t1_22 rfl rfl (.head _) rfl) rfl rfl trivial ?_
  refine o1 rfl (det_lenS sl22 rfl) rfl rfl trivial ?_
  refine o1 rfl (det_lss rfl rfl) rfl rfl trivial ?_
  refine o2P decide_eq_true_iff rfl (det_move rfl) rfl rfl trivial (fun hb => ?_) (fun hb => ?_)
  ·
    refine on rfl rfl rfl ⟨_, rfl, .inl rfl⟩ ?_
    refine on rfl rfl rfl ⟨_, rfl, .inl rfl⟩ ?_
    refine on rfl rfl rfl ⟨_, rfl, .inl rfl⟩ ?_
    refine on rfl rfl rfl ⟨_, rfl, .inl rfl⟩ ?_
    refine o1 rfl (det_pickT rfl rfl) rfl rfl trivial ?_
    refine be rfl ?_
    refine k_then ?_
    refine t_condT rfl ?_
    refine t_seq ?_
    refine b0 ?_
    refine o1 rfl (det_assign rfl) rfl rfl trivial ?_
    refine be rfl ?_
    refine k_then ?_
    refine t_ret (k_thenR (?_))
    refine ret_tmp rfl rfl rfl (fun w1 hs => ?_)
    exact ⟨by rw [okG_len (.inl (by have := hE.len; omega))]; rfl, hs.keep⟩
  ·
    refine o1 rfl (det_fieldAddr fld24_0 rfl) rfl rfl ⟨_, rfl, rfl⟩ ?_
    refine o1 rfl (det_load1 t1_22 rfl rfl (.head _) rfl) rfl rfl ⟨_, rfl, rfl⟩ ?_
    refine o1 rfl (det_lenS sl22 rfl) rfl rfl ⟨_, rfl, rfl⟩ ?_
    refine o1 rfl (det_gtr rfl rfl) rfl rfl ⟨_, rfl, rfl⟩ ?_
    refine o1 rfl (det_pickF rfl rfl) rfl rfl trivial ?_
    refine be rfl ?_
    refine k_then ?_
    refine t_condP decide_eq_true_iff rfl (fun hb => ?_) (fun hb => ?_)
    ·
      refine t_seq ?_
      refine b0 ?_
      refine o1 rfl (det_assign rfl) rfl rfl trivial ?_
      refine be rfl ?_
      refine k_then ?_
      refine t_ret (k_thenR (?_))
      refine ret_tmp rfl rfl rfl (fun w1 hs => ?_)
      exact ⟨by rw [okG_len (.inr (by have := hE.len; omega))]; rfl, hs.keep⟩
    ·
      refine t_skip ?_
      refine k_then ?_
      refine t_seq ?_
      refine b0 ?_
      refine o1 rfl (det_assign rfl) rfl rfl trivial ?_
      refine be rfl ?_
      refine k_then ?_
      refine t_seq ?_
      refine t_seq ?_
      refine b0 ?_
      refine o1 rfl (det_fieldAddr fld24_0 rfl) rfl rfl trivial ?_
      refine o1 rfl (det_load1 t1_22 rfl rfl (.head _) rfl) rfl rfl trivial ?_
      refine o1 rfl (det_lenS sl22 rfl) rfl rfl trivial ?_
      refine o1 rfl (det_move rfl) rfl rfl trivial ?_
      refine be rfl ?_
      refine k_then ?_
      refine t_block ?_
      refine t_whileM (σ := Nat) (fun k => [(3, .int .i64 (sumL (es.take k))), (19, .int .i64 (k : Int))]) (fun _ => _) (fun k => es.length - k) (fun k => k ≤ es.length ∧ (es.take k).all okE = true) 0 (env0 := [(1, _), (17, _), (18, _)]) ⟨Nat.zero_le _, rfl⟩ ⟨rfl, rfl, trivial⟩ ⟨rfl, rfl, rfl, trivial⟩ (.refl _) ?_
      rintro k ⟨hk, hall⟩
      have hsb := sumL_bounds hall
      have hlk : (es.take k).length = k := by simp; omega
      rw [hlk] at hsb
      have hnl := hE.len
      have hn128 : 1 ≤ es.length ∧ es.length ≤ 128 := by omega
      refine t_seq ?_
      refine b0 ?_
      refine o1 rfl (det_lss rfl rfl) rfl rfl trivial ?_
      refine be rfl ?_
      refine k_then ?_
      refine t_seq ?_
      refine t_condP decide_eq_true_iff rfl (fun hb => ?_) (fun hb => ?_)
      ·
        have hlt : k < es.length := by omega
        obtain ⟨A, rfl⟩ := hE.some hlt
        obtain ⟨hr1, hr2, hr3, hr4⟩ := hE.rng k hlt
        clear hb
        refine t_skip ?_
        refine k_then ?_
        refine t_seq ?_
        refine t_block ?_
        refine t_seq ?_
        refine b0 ?_
        first | (refine o1 rfl (det_indexAddr sl22 rfl rfl ?_) rfl rfl trivial ?_; (· (first | decide | omega)))
        refine o1 rfl (det_loadKN tN59 rfl rfl (by intro j hj; exact hE.cells hlt j hj)) rfl rfl trivial ?_
        refine om1 rfl (new_alloc z59) rfl rfl trivial (fun p5 => ?_)
        refine stN nofun rfl tN59 rfl rfl rfl .head rfl trivial rfl rfl ?_
        refine be rfl ?_
        refine k_then ?_
        refine t_seq ?_
        refine t_seq ?_
        refine b0 ?_
        refine o1 rfl (det_fieldAddr fld59_0 rfl) rfl rfl trivial ?_
        refine o1 rfl (det_load1 t1_3 rfl rfl (.head _) rfl) rfl rfl trivial ?_
        refine o1 rfl (det_andNot rfl rfl) rfl rfl trivial ?_
        refine o1 rfl (det_neq rfl rfl) rfl rfl trivial ?_
        refine o2P bne_iff_ne rfl (det_move rfl) rfl rfl trivial (fun hb => ?_) (fun hb => ?_)
        ·
          rw [ne_eq, andNot255 _ ⟨hr1, hr2⟩] at hb
          refine on rfl rfl rfl ⟨_, rfl, .inl rfl⟩ ?_
          refine on rfl rfl rfl ⟨_, rfl, .inl rfl⟩ ?_
          refine on rfl rfl rfl ⟨_, rfl, .inl rfl⟩ ?_
          refine o1 rfl (det_pickT rfl rfl) rfl rfl trivial ?_
          refine o1 rfl (det_move rfl) rfl rfl trivial ?_
          refine on rfl rfl rfl ⟨_, rfl, .inl rfl⟩ ?_
          refine on rfl rfl rfl ⟨_, rfl, .inl rfl⟩ ?_
          refine on rfl rfl rfl ⟨_, rfl, .inl rfl⟩ ?_
          refine o1 rfl (det_pickT rfl rfl) rfl rfl trivial ?_
          refine be rfl ?_
          refine k_then ?_
          refine t_condT rfl ?_
          refine t_seq ?_
          refine b0 ?_
          refine o1 rfl (det_assign rfl) rfl rfl trivial ?_
          refine be rfl ?_
          refine k_then ?_
          refine t_ret (k_thenR (k_blkR (k_thenR (k_thenR (k_blkR (k_thenR (?_)))))))
          refine ret_tmp rfl rfl rfl (fun w1 hs => ?_)
          exact ⟨by rw [okG_ent hlt (by omega)]; rfl, hs.keep⟩
        ·
          rw [ne_eq, andNot255 _ ⟨hr1, hr2⟩, Decidable.not_not] at hb
          refine o1 rfl (det_fieldAddr fld59_1 rfl) rfl rfl ⟨_, rfl, rfl⟩ ?_
          refine o1 rfl (det_load1 t1_3 rfl rfl (.head _) rfl) rfl rfl ⟨_, rfl, rfl⟩ ?_
          refine o1 rfl (det_lss rfl rfl) rfl rfl ⟨_, rfl, rfl⟩ ?_
          refine o1 rfl (det_pickF rfl rfl) rfl rfl trivial ?_
          refine o2P decide_eq_true_iff rfl (det_move rfl) rfl rfl trivial (fun hb => ?_) (fun hb => ?_)
          ·
            refine on rfl rfl rfl ⟨_, rfl, .inl rfl⟩ ?_
            refine on rfl rfl rfl ⟨_, rfl, .inl rfl⟩ ?_
            refine on rfl rfl rfl ⟨_, rfl, .inl rfl⟩ ?_
            refine o1 rfl (det_pickT rfl rfl) rfl rfl trivial ?_
            refine be rfl ?_
            refine k_then ?_
            refine t_condT rfl ?_
            refine t_seq ?_
            refine b0 ?_
            refine o1 rfl (det_assign rfl) rfl rfl trivial ?_
            refine be rfl ?_
            refine k_then ?_
            refine t_ret (k_thenR (k_blkR (k_thenR (k_thenR (k_blkR (k_thenR (?_)))))))
            refine ret_tmp rfl rfl rfl (fun w1 hs => ?_)
            exact ⟨by rw [okG_ent hlt (by omega)]; rfl, hs.keep⟩
          ·
            refine o1 rfl (det_fieldAddr fld59_1 rfl) rfl rfl ⟨_, rfl, rfl⟩ ?_
            refine o1 rfl (det_load1 t1_3 rfl rfl (.head _) rfl) rfl rfl ⟨_, rfl, rfl⟩ ?_
            refine o1 rfl (det_gtr rfl rfl) rfl rfl ⟨_, rfl, rfl⟩ ?_
            refine o1 rfl (det_pickF rfl rfl) rfl rfl trivial ?_
            refine be rfl ?_
            refine k_then ?_
            refine t_condP decide_eq_true_iff rfl (fun hb => ?_) (fun hb => ?_)
            ·
              refine t_seq ?_
              refine b0 ?_
              refine o1 rfl (det_assign rfl) rfl rfl trivial ?_
              refine be rfl ?_
              refine k_then ?_
              refine t_ret (k_thenR (k_blkR (k_thenR (k_thenR (k_blkR (k_thenR (?_)))))))
              refine ret_tmp rfl rfl rfl (fun w1 hs => ?_)
              exact ⟨by rw [okG_ent hlt (by omega)]; rfl, hs.keep⟩
            ·
              refine t_skip ?_
              refine k_then ?_
              refine b0 ?_
              refine o1 rfl (det_move rfl) rfl rfl trivial ?_
              refine o1 rfl (det_fieldAddr fld59_1 rfl) rfl rfl trivial ?_
              refine o1 rfl (det_load1 t1_3 rfl rfl (.head _) rfl) rfl rfl trivial ?_
              first | (refine o1 rfl (det_addI rfl rfl ?_) rfl rfl trivial ?_; (· omega)) | refine o1 rfl (det_add rfl rfl) rfl rfl trivial ?_
              refine o1 rfl (det_assign rfl) rfl rfl trivial ?_
              refine be rfl ?_
              refine k_blk ?_
              refine k_then ?_
              refine b0 ?_
              first | (refine o1 rfl (det_addI rfl rfl ?_) rfl rfl trivial ?_; (· omega)) | refine o1 rfl (det_add rfl rfl) rfl rfl trivial ?_
              refine o1 rfl (det_move rfl) rfl rfl trivial ?_
              refine be rfl ?_
              refine k_then ?_
              refine loop_back (k + 1) ⟨by omega, all_take_succ hlt hall ⟨by omega, by omega, by omega, by omega⟩⟩ (by omega) ⟨(by rw [sumL_take_succ _ _ hlt]; rfl), rfl, rfl, rfl, rfl, trivial⟩ (.cons _ (.refl _))
      ·
        have hke : k = es.length := by omega
        subst hke
        rw [List.take_length] at hall hsb ⊢
        clear hb
        refine t_exit ?_
        refine k_thenE ?_
        refine k_thenE ?_
        refine k_blkE ?_
        refine k_then ?_
        refine t_seq ?_
        refine t_seq ?_
        refine b0 ?_
        refine o1 rfl (det_move rfl) rfl rfl trivial ?_
        refine o1 rfl (det_fieldAddr fld24_1 rfl) rfl rfl trivial ?_
        refine o1 rfl (det_load1 t1_3 rfl rfl (.head _) rfl) rfl rfl trivial ?_
        refine o1 rfl (det_neq rfl rfl) rfl rfl trivial ?_
        refine o2P bne_iff_ne rfl (det_move rfl) rfl rfl trivial (fun hb => ?_) (fun hb => ?_)
        ·
          refine on rfl rfl rfl ⟨_, rfl, .inl rfl⟩ ?_
          refine on rfl rfl rfl ⟨_, rfl, .inl rfl⟩ ?_
          refine o1 rfl (det_pickT rfl rfl) rfl rfl trivial ?_
          refine be rfl ?_
          refine k_then ?_
          refine t_condT rfl ?_
          refine t_seq ?_
          refine b0 ?_
          refine o1 rfl (det_assign rfl) rfl rfl trivial ?_
          refine be rfl ?_
          refine k_then ?_
          refine t_ret (k_thenR (?_))
          refine ret_tmp rfl rfl rfl (fun w1 hs => ?_)
          exact ⟨by rw [okG_sum (.inl hb)]; rfl, hs.keep⟩
        ·
          refine o1 rfl (det_move rfl) rfl rfl ⟨_, rfl, rfl⟩ ?_
          refine o1 rfl (det_gtr rfl rfl) rfl rfl ⟨_, rfl, rfl⟩ ?_
          refine o1 rfl (det_pickF rfl rfl) rfl rfl trivial ?_
          refine be rfl ?_
          refine k_then ?_
          refine t_condP decide_eq_true_iff rfl (fun hb => ?_) (fun hb => ?_)
          ·
            refine t_seq ?_
            refine b0 ?_
            refine o1 rfl (det_assign rfl) rfl rfl trivial ?_
            refine be rfl ?_
            refine k_then ?_
            refine t_ret (k_thenR (?_))
            refine ret_tmp rfl rfl rfl (fun w1 hs => ?_)
            exact ⟨by rw [okG_sum (.inr (by omega))]; rfl, hs.keep⟩
          ·
            refine t_skip ?_
            refine k_then ?_
            refine t_seq ?_
            refine b0 ?_
            refine o1 rfl (det_assign rfl) rfl rfl trivial ?_
            refine be rfl ?_
            refine k_then ?_
            refine t_ret ?_
            refine ret_tmp rfl rfl rfl (fun w1 hs => ?_)
            exact ⟨by rw [okG_true (by omega) (by omega) hall (by omega) (by omega)]; rfl, hs.keep⟩
end Go.Proofs.Cp

/-
  Walks through layers 36, 37 and 38 and their references.
-/
namespace Go.Proofs.Cp
open Go Go.Eng Go.Gt Go.Proofs.Gt
set_option maxRecDepth 4000
theorem valid_ok {w : World} {F : Know} (hF : ∀ a v, F a = some v → w.cell? a = some v) {A : Option Addr} {n cap : Nat} {es : Ents} {cyc : Int} (hE : EntK F A n es) (cl t lg : Int) (hb1 : -9223372036854775808 ≤ cl ∧ cl ≤ 9223372036854775807) : Pure Try.prog 84 [.agg [.slice A n cap, .int .i64 cyc].toArray, .int .i64 cl, .int .i64 t, .int .i64 lg] w (.int .i64 (errG es cyc cl t lg)) := by
  refine fn_pure (F := F) Try.func84 rfl Try.ntmps84 rfl hF ?_
  refine t_seq ?_
  refine b0 ?_
  refine om1 rfl (new_boxN rfl) rfl rfl trivial (fun p4 => ?_)
  refine o1 rfl (det_assign rfl) rfl rfl trivial ?_
  refine be rfl ?_
  refine k_then ?_
  refine t_seq ?_
  refine t_seq ?_
  refine b0 ?_
  refine o1 rfl (det_loadN tN24 rfl rfl (.head _) rfl) rfl rfl trivial ?_
  refine o1 rfl (det_call hb42 rfl rfl (fun w1 hs => check_ok hs.know hE)) rfl rfl trivial ?_
  refine o1 rfl (det_assign rfl) rfl rfl trivial ?_
  refine be rfl ?_
  refine k_then ?_
  refine t_seq ?_
  refine b0 ?_
  refine o1 rfl (det_move rfl) rfl rfl trivial ?_
  refine o1 rfl (det_neq rfl rfl) rfl rfl trivial ?_
  refine be rfl ?_
  refine k_then ?_
  refine t_condP bne_iff_ne rfl (fun hb => ?_) (fun hb => ?_)
  ·
    refine t_seq ?_
    refine b0 ?_
    refine o1 rfl (det_move rfl) rfl rfl trivial ?_
    refine o1 rfl (det_assign rfl) rfl rfl trivial ?_
    refine be rfl ?_
    refine k_then ?_
    refine t_ret (k_thenR (?_))
    refine ret_tmp rfl rfl rfl (fun w1 hs => ?_)
    refine ⟨?_, hs.keep⟩
    unfold errG
    cases h : okG es cyc with
    | true => rw [h] at hb; exact absurd hb (by simp)
    | false => rfl
  ·
    have hc : okG es cyc = true := by
      cases h : okG es cyc with
      | true => rfl
      | false => rw [h] at hb; exact absurd hb (by simp)
    clear hb
    refine t_skip ?_
    refine k_then ?_
    refine t_seq ?_
    refine t_seq ?_
    refine b0 ?_
    refine o1 rfl (det_move rfl) rfl rfl trivial ?_
    refine o1 rfl (det_andNot rfl rfl) rfl rfl trivial ?_
    refine o1 rfl (det_neq rfl rfl) rfl rfl trivial ?_
    refine o2P bne_iff_ne rfl (det_move rfl) rfl rfl trivial (fun hb => ?_) (fun hb => ?_)
    ·
      rw [ne_eq, andNot7 _ hb1] at hb
      refine on rfl rfl rfl ⟨_, rfl, .inl rfl⟩ ?_
      refine on rfl rfl rfl ⟨_, rfl, .inl rfl⟩ ?_
      refine o1 rfl (det_pickT rfl rfl) rfl rfl trivial ?_
      refine o1 rfl (det_move rfl) rfl rfl trivial ?_
      refine on rfl rfl rfl ⟨_, rfl, .inl rfl⟩ ?_
      refine on rfl rfl rfl ⟨_, rfl, .inl rfl⟩ ?_
      refine o1 rfl (det_pickT rfl rfl) rfl rfl trivial ?_
      refine o1 rfl (det_move rfl) rfl rfl trivial ?_
      refine on rfl rfl rfl ⟨_, rfl, .inl rfl⟩ ?_
      refine on rfl rfl rfl ⟨_, rfl, .inl rfl⟩ ?_
      refine o1 rfl (det_pickT rfl rfl) rfl rfl trivial ?_
      refine o1 rfl (det_move rfl) rfl rfl trivial ?_
      refine on rfl rfl rfl ⟨_, rfl, .inl rfl⟩ ?_
      refine on rfl rfl rfl ⟨_, rfl, .inl rfl⟩ ?_
      refine o1 rfl (det_pickT rfl rfl) rfl rfl trivial ?_
      refine be rfl ?_
      refine k_then ?_
      refine t_condT rfl ?_
      refine t_seq ?_
      refine b0 ?_
      refine o1 rfl (det_assign rfl) rfl rfl trivial ?_
      refine be rfl ?_
      refine k_then ?_
      refine t_ret (k_thenR (?_))
      refine ret_tmp rfl rfl rfl (fun w1 hs => ?_)
      refine ⟨?_, hs.keep⟩
      unfold errG
      rw [if_pos hc, if_neg (by simp only [okT, decide_eq_true_eq]; omega)]
    ·
      rw [ne_eq, andNot7 _ hb1, Decidable.not_not] at hb
      refine o1 rfl (det_move rfl) rfl rfl ⟨_, rfl, rfl⟩ ?_
      refine o1 rfl (det_lss rfl rfl) rfl rfl ⟨_, rfl, rfl⟩ ?_
      refine o1 rfl (det_pickF rfl rfl) rfl rfl trivial ?_
      refine o2P decide_eq_true_iff rfl (det_move rfl) rfl rfl trivial (fun hb => ?_) (fun hb => ?_)
      ·
        refine on rfl rfl rfl ⟨_, rfl, .inl rfl⟩ ?_
        refine on rfl rfl rfl ⟨_, rfl, .inl rfl⟩ ?_
        refine o1 rfl (det_pickT rfl rfl) rfl rfl trivial ?_
        refine o1 rfl (det_move rfl) rfl rfl trivial ?_
        refine on rfl rfl rfl ⟨_, rfl, .inl rfl⟩ ?_
        refine on rfl rfl rfl ⟨_, rfl, .inl rfl⟩ ?_
        refine o1 rfl (det_pickT rfl rfl) rfl rfl trivial ?_
        refine o1 rfl (det_move rfl) rfl rfl trivial ?_
        refine on rfl rfl rfl ⟨_, rfl, .inl rfl⟩ ?_
        refine on rfl rfl rfl ⟨_, rfl, .inl rfl⟩ ?_
        refine o1 rfl (det_pickT rfl rfl) rfl rfl trivial ?_
        refine be rfl ?_
        refine k_then ?_
        refine t_condT rfl ?_
        refine t_seq ?_
        refine b0 ?_
        refine o1 rfl (det_assign rfl) rfl rfl trivial ?_
        refine be rfl ?_
        refine k_then ?_
        refine t_ret (k_thenR (?_))
        refine ret_tmp rfl rfl rfl (fun w1 hs => ?_)
        refine ⟨?_, hs.keep⟩
        unfold errG
        rw [if_pos hc, if_neg (by simp only [okT, decide_eq_true_eq]; omega)]
      ·
        refine o1 rfl (det_move rfl) rfl rfl ⟨_, rfl, rfl⟩ ?_
        refine o1 rfl (det_gtr rfl rfl) rfl rfl ⟨_, rfl, rfl⟩ ?_
        refine o1 rfl (det_pickF rfl rfl) rfl rfl trivial ?_
        refine o2P decide_eq_true_iff rfl (det_move rfl) rfl rfl trivial (fun hb => ?_) (fun hb => ?_)
        ·
          refine on rfl rfl rfl ⟨_, rfl, .inl rfl⟩ ?_
          refine on rfl rfl rfl ⟨_, rfl, .inl rfl⟩ ?_
          refine o1 rfl (det_pickT rfl rfl) rfl rfl trivial ?_
          refine o1 rfl (det_move rfl) rfl rfl trivial ?_
          refine on rfl rfl rfl ⟨_, rfl, .inl rfl⟩ ?_
          refine on rfl rfl rfl ⟨_, rfl, .inl rfl⟩ ?_
          refine o1 rfl (det_pickT rfl rfl) rfl rfl trivial ?_
          refine be rfl ?_
          refine k_then ?_
          refine t_condT rfl ?_
          refine t_seq ?_
          refine b0 ?_
          refine o1 rfl (det_assign rfl) rfl rfl trivial ?_
          refine be rfl ?_
          refine k_then ?_
          refine t_ret (k_thenR (?_))
          refine ret_tmp rfl rfl rfl (fun w1 hs => ?_)
          refine ⟨?_, hs.keep⟩
          unfold errG
          rw [if_pos hc, if_neg (by simp only [okT, decide_eq_true_eq]; omega)]
        ·
          refine o1 rfl (det_move rfl) rfl rfl ⟨_, rfl, rfl⟩ ?_
          refine o1 rfl (det_lss rfl rfl) rfl rfl ⟨_, rfl, rfl⟩ ?_
          refine o1 rfl (det_pickF rfl rfl) rfl rfl trivial ?_
          refine o2P decide_eq_true_iff rfl (det_move rfl) rfl rfl trivial (fun hb => ?_) (fun hb => ?_)
          ·
            refine on rfl rfl rfl ⟨_, rfl, .inl rfl⟩ ?_
            refine on rfl rfl rfl ⟨_, rfl, .inl rfl⟩ ?_
            refine o1 rfl (det_pickT rfl rfl) rfl rfl trivial ?_
            refine be rfl ?_
            refine k_then ?_
            refine t_condT rfl ?_
            refine t_seq ?_
            refine b0 ?_
            refine o1 rfl (det_assign rfl) rfl rfl trivial ?_
            refine be rfl ?_
            refine k_then ?_
            refine t_ret (k_thenR (?_))
            refine ret_tmp rfl rfl rfl (fun w1 hs => ?_)
            refine ⟨?_, hs.keep⟩
            unfold errG
            rw [if_pos hc, if_neg (by simp only [okT, decide_eq_true_eq]; omega)]
          ·
            refine o1 rfl (det_move rfl) rfl rfl ⟨_, rfl, rfl⟩ ?_
            refine o1 rfl (det_gtr rfl rfl) rfl rfl ⟨_, rfl, rfl⟩ ?_
            refine o1 rfl (det_pickF rfl rfl) rfl rfl trivial ?_
            refine be rfl ?_
            refine k_then ?_
            refine t_condP decide_eq_true_iff rfl (fun hb => ?_) (fun hb => ?_)
            ·
              refine t_seq ?_
              refine b0 ?_
              refine o1 rfl (det_assign rfl) rfl rfl trivial ?_
              refine be rfl ?_
              refine k_then ?_
              refine t_ret (k_thenR (?_))
              refine ret_tmp rfl rfl rfl (fun w1 hs => ?_)
              refine ⟨?_, hs.keep⟩
              unfold errG
              rw [if_pos hc, if_neg (by simp only [okT, decide_eq_true_eq]; omega)]
            ·
              refine t_skip ?_
              refine k_then ?_
              refine t_seq ?_
              refine b0 ?_
              refine o1 rfl (det_assign rfl) rfl rfl trivial ?_
              refine be rfl ?_
              refine k_then ?_
              refine t_ret ?_
              refine ret_tmp rfl rfl rfl (fun w1 hs => ?_)
              refine ⟨?_, hs.keep⟩
              unfold errG
              rw [if_pos hc, if_pos (by simp only [okT, decide_eq_true_eq]; omega)]
theorem entry_ok {w : World} {F : Know} (hF : ∀ a v, F a = some v → w.cell? a = some v) {A : Option Addr} {n cap : Nat} {es : Ents} {cyc : Int} (hE : EntK F A n es) (hG : okG es cyc = true) (t : Int) (ht : -1099511627776 * 4 ≤ t ∧ t ≤ 1099511627776 * 4) : Pure Try.prog 112 [.agg [.slice A n cap, .int .i64 cyc].toArray, .int .i64 t] w (.tuple [.int .i64 ((loc es cyc t).1 : Int), .int .i64 (t - (loc es cyc t).2)].toArray) := by
  obtain ⟨hl1, hl2, hall0, hsum, hc9, hc1⟩ := okG_parts hG
  replace hc1 : 0 < cyc := by omega
  refine fn_pure (F := F) Try.func112 rfl Try.ntmps112 rfl hF ?_
  refine t_seq ?_
  refine b0 ?_
  refine om1 rfl (new_boxN rfl) rfl rfl trivial (fun p2 => ?_)
  refine o1 rfl (det_assign rfl) rfl rfl trivial ?_
  refine o1 rfl (det_assign rfl) rfl rfl trivial ?_
  refine be rfl ?_
  refine k_then ?_
  refine t_scope (l := 0) (σ := Nat × Int) (fun s => [(4, .int .i64 (s.1 : Int)), (5, .int .i64 (t - s.2 + sumL (es.take s.1))), (6, .int .i64 (s.2 - sumL (es.take s.1))), (2, .pointer (some ⟨p2, 0, none⟩))]) (fun s => [(p2, .cells [.slice A n cap, .int .i64 cyc].toArray 24 (0, 0))]) (fun s => es.length - s.1) (fun s => s.2 = t % cyc ∧ s.1 ≤ es.length ∧ 0 ≤ s.2 - sumL (es.take s.1) ∧ ∀ j (h : j < es.length), j < s.1 → es[j].2 ≤ s.2 - sumL (es.take j)) rfl ?_ ?_
  ·
    rintro s ⟨hx, hk, h0, hall⟩
    have hlt : s.1 < es.length := locate_more (x := s.2) (by rw [hx, hsum]; exact Int.emod_lt_of_pos _ hc1) hk h0
    obtain ⟨A, rfl⟩ := hE.some hlt
    have hnl := hE.len
    obtain ⟨_, _, he1, he2⟩ := okE_get hall0 hlt
    have hxc : s.2 < cyc := by rw [hx]; exact Int.emod_lt_of_pos _ hc1
    have hst := sumL_take_le hall0 s.1
    refine t_seq ?_
    refine t_seq ?_
    refine b0 ?_
    refine o1 rfl (det_fieldAddr fld24_0 rfl) rfl rfl trivial ?_
    refine o1 rfl (det_load1 t1_22 rfl rfl (.head _) rfl) rfl rfl trivial ?_
    refine o1 rfl (det_move rfl) rfl rfl trivial ?_
    first | (refine o1 rfl (det_indexAddr sl22 rfl rfl ?_) rfl rfl trivial ?_; (· (first | decide | omega)))
    refine o1 rfl (det_fieldAddr fld59_1 rfl) rfl rfl trivial ?_
    refine o1 rfl (det_loadK t1_3 rfl (by have := hE.cells hlt 1 (by omega); rw [add_add] at this ⊢; simpa using this)) rfl rfl trivial ?_
    refine o1 rfl (det_assign rfl) rfl rfl trivial ?_
    refine be rfl ?_
    refine k_then ?_
    refine t_seq ?_
    refine b0 ?_
    refine o1 rfl (det_move rfl) rfl rfl trivial ?_
    refine o1 rfl (det_move rfl) rfl rfl trivial ?_
    refine o1 rfl (det_geq rfl rfl) rfl rfl trivial ?_
    refine be rfl ?_
    refine k_then ?_
    refine t_condP decide_eq_true_iff rfl (fun hb => ?_) (fun hb => ?_)
    ·
      refine t_seq ?_
      refine b0 ?_
      refine o1 rfl (det_move rfl) rfl rfl trivial ?_
      refine o1 rfl (det_move rfl) rfl rfl trivial ?_
      first | (refine o1 rfl (det_subI rfl rfl ?_) rfl rfl trivial ?_; (· omega)) | refine o1 rfl (det_sub rfl rfl) rfl rfl trivial ?_
      refine o1 rfl (det_assign rfl) rfl rfl trivial ?_
      refine be rfl ?_
      refine k_then ?_
      refine t_seq ?_
      refine b0 ?_
      refine o1 rfl (det_move rfl) rfl rfl trivial ?_
      refine o1 rfl (det_move rfl) rfl rfl trivial ?_
      first | (refine o1 rfl (det_addI rfl rfl ?_) rfl rfl trivial ?_; (· omega)) | refine o1 rfl (det_add rfl rfl) rfl rfl trivial ?_
      refine o1 rfl (det_assign rfl) rfl rfl trivial ?_
      refine be rfl ?_
      refine k_then ?_
      refine t_seq ?_
      refine b0 ?_
      refine o1 rfl (det_move rfl) rfl rfl trivial ?_
      first | (refine o1 rfl (det_addI rfl rfl ?_) rfl rfl trivial ?_; (· omega)) | refine o1 rfl (det_add rfl rfl) rfl rfl trivial ?_
      refine o1 rfl (det_assign rfl) rfl rfl trivial ?_
      refine be rfl ?_
      refine k_then ?_
      refine t_goto ?_
      refine k_thenG ?_
      refine k_jmpG ?_
      refine loop_back (s.1 + 1, s.2) ⟨hx, by show s.1 + 1 ≤ _; omega, by simp only; rw [sumL_take_succ _ _ hlt]; omega, locate_step hlt hb hall⟩ (by simp only; omega) ⟨rfl, (by simp only; rw [sumL_take_succ _ _ hlt, ← Int.add_assoc]; rfl), (by simp only; rw [sumL_take_succ _ _ hlt, ← Int.sub_sub]; rfl), rfl, trivial⟩ (.refl _)
    ·
      refine t_skip ?_
      refine k_then ?_
      refine t_seq ?_
      refine b0 ?_
      refine o1 rfl (det_move rfl) rfl rfl trivial ?_
      refine o1 rfl (det_move rfl) rfl rfl trivial ?_
      refine o1 rfl (det_assign rfl) rfl rfl trivial ?_
      refine o1 rfl (det_assign rfl) rfl rfl trivial ?_
      refine be rfl ?_
      refine k_then ?_
      refine t_ret (k_jmpR (?_))
      refine ret_tmp2 rfl rfl rfl rfl (fun w1 hs => ?_)
      refine ⟨?_, hs.keep⟩
      rw [loc, locate_of hlt (by rw [← hx]; exact hall) (by rw [← hx]; omega), ← hx]
      simp only
      rw [show t - (s.2 - sumL (es.take s.1)) = t - s.2 + sumL (es.take s.1) by omega]
  ·
    intro hp
    refine t_seq ?_
    refine bD mixed ?_
    refine r_seg 11 11 [] [0, 1, 2, 3, 4, 5, 6, 7, 8, 9, 10] (by kernel_rfl) ?_
    refine s1 rfl (det_move rfl) rfl rfl trivial rfl ?_
    refine s1 rfl (det_fieldAddr fld24_1 rfl) rfl rfl trivial rfl ?_
    refine s1 rfl (det_load1 t1_3 rfl rfl (.head _) rfl) rfl rfl trivial rfl ?_
    first | (refine s1 rfl (det_remP rfl rfl ?_) rfl rfl trivial rfl ?_; (· omega)) | (refine s1 rfl (det_rem rfl rfl ?_) rfl rfl trivial rfl ?_; (· (first | decide | omega)))
    refine s1 rfl (det_fieldAddr fld24_1 rfl) rfl rfl trivial rfl ?_
    refine s1 rfl (det_load1 t1_3 rfl rfl (.head _) rfl) rfl rfl trivial rfl ?_
    have htb := tmod_bounds t hc1
    first | (refine s1 rfl (det_addI rfl rfl ?_) rfl rfl trivial rfl ?_; (· omega)) | refine s1 rfl (det_add rfl rfl) rfl rfl trivial rfl ?_
    refine s1 rfl (det_fieldAddr fld24_1 rfl) rfl rfl trivial rfl ?_
    refine s1 rfl (det_load1 t1_3 rfl rfl (.head _) rfl) rfl rfl trivial rfl ?_
    first | (refine s1 rfl (det_remP rfl rfl ?_) rfl rfl trivial rfl ?_; (· omega)) | (refine s1 rfl (det_rem rfl rfl ?_) rfl rfl trivial rfl ?_; (· (first | decide | omega)))
    refine s1 rfl (det_assign rfl) rfl rfl trivial rfl ?_
    refine sg_nil ?_
    refine be rfl ?_
    refine k_then ?_
    refine t_seq ?_
    refine b0 ?_
    refine o1 rfl (det_move rfl) rfl rfl trivial ?_
    refine o1 rfl (det_move rfl) rfl rfl trivial ?_
    have hq1 := Int.emod_nonneg (t.tmod cyc + cyc) (show cyc ≠ 0 by omega)
    have hq2 := Int.emod_lt_of_pos (t.tmod cyc + cyc) hc1
    first | (refine o1 rfl (det_subI rfl rfl ?_) rfl rfl trivial ?_; (· omega)) | refine o1 rfl (det_sub rfl rfl) rfl rfl trivial ?_
    refine o1 rfl (det_assign rfl) rfl rfl trivial ?_
    refine be rfl ?_
    refine k_then ?_
    exact at_label hp (0, (t.tmod cyc + cyc) % cyc) ⟨tmod_norm, Nat.zero_le _, by simp only [sumL_zero]; exact Int.sub_nonneg.2 hq1, fun j _ hj => absurd hj (Nat.not_lt_zero _)⟩ ⟨rfl, (by rw [sumL_zero, Int.add_zero]; rfl), (by rw [sumL_zero, Int.sub_zero]; rfl), rfl, trivial⟩ (.refl _)
end Go.Proofs.Cp

/-
  Walks through layers 36, 37 and 38 and their references.
-/
namespace Go.Proofs.Cp
open Go Go.Eng Go.Gt Go.Proofs.Gt
set_option maxRecDepth 4000
end Go.Proofs.Cp

/-
  Walks through layers 36, 37 and 38 and their references.
-/
namespace Go.Proofs.Cp
open Go Go.Eng Go.Gt Go.Proofs.Gt
set_option maxRecDepth 4000
theorem walk_on {w : World} {F : Know} (hF : ∀ a v, F a = some v → w.cell? a = some v) {A : Option Addr} {n cap : Nat} {es : Ents} {cyc : Int} (hE : EntK F A n es) (hG : okG es cyc = true) (t : Int) (ht : -1099511627776 * 4 ≤ t ∧ t ≤ 1099511627776 * 4) {cp0 : Own} (haway : ∀ a v, F a = some v → a.block ∉ idsO cp0) (hnd : (idsO cp0).Nodup) (hown : ∀ x ∈ cp0, w.heap[x.1]? = some x.2) {fid : FuncId} {caps : List Value} (hbody : HasBody Try.prog fid) {R Ro : Nat → Own → Prop} (h0 : R 0 cp0)
  (hcl : ∀ i, i < es.length → ∀ cp, R i cp → idsO cp = idsO cp0 → ∀ w1 : World, (∀ a v, F a = some v → w1.cell? a = some v) → (∀ x ∈ cp, w1.heap[x.1]? = some x.2) →
    CallsOn Try.prog fid ([.agg [.int .i64 (ent es (loc es cyc t).1 i).1, .int .i64 (ent es (loc es cyc t).1 i).2].toArray, .int .i64 (beg es cyc t i)] ++ caps) w1 cp (fun v cp' => ∃ b : Bool, v = .bool b ∧ (b = true → R (i + 1) cp') ∧ (b = false → Ro i cp'))) : CallsOn Try.prog 92 [.agg [.slice A n cap, .int .i64 cyc].toArray, .int .i64 t, .func (.func fid) #[] caps.toArray] w (cp0) (fun v cp1 => ∃ b : Bool, v = .bool b ∧ (b = true → R es.length cp1) ∧ (b = false → ∃ i, i < es.length ∧ Ro i cp1)) := by
  obtain ⟨hl1, hl2, hall0, hsum, hc9, hc1⟩ := okG_parts hG
  replace hc1 : 0 < cyc := by omega

  refine fn_on (F := F) Try.func92 rfl Try.ntmps92 rfl hF haway hnd hown ?_
  refine t_seq ?_
  refine b0 ?_
  refine om1 rfl (new_boxN rfl) rfl rfl trivial (fun p3 => ?_)
  refine o1 rfl (det_assign rfl) rfl rfl trivial ?_
  refine be rfl ?_
  refine k_then ?_
  refine t_seq ?_
  refine b0 ?_
  refine o1 rfl (det_loadN tN24 rfl rfl (.head _) rfl) rfl rfl trivial ?_
  refine o1 rfl (det_move rfl) rfl rfl trivial ?_
  refine o1 rfl (det_call hb112 rfl rfl (fun w1 hs => entry_ok hs.know hE hG t ht)) rfl rfl trivial ?_
  refine o1 rfl (det_move rfl) rfl rfl trivial ?_
  refine o1 rfl (det_extract rfl rfl) rfl rfl trivial ?_
  refine o1 rfl (det_extract rfl rfl) rfl rfl trivial ?_
  refine o1 rfl (det_assign rfl) rfl rfl trivial ?_
  refine o1 rfl (det_assign rfl) rfl rfl trivial ?_
  refine be rfl ?_
  refine k_then ?_
  refine t_seq ?_
  refine t_seq ?_
  refine b0 ?_
  refine o1 rfl (det_fieldAddr fld24_0 rfl) rfl rfl trivial ?_
  refine o1 rfl (det_load1 t1_22 rfl rfl (.head _) rfl) rfl rfl trivial ?_
  refine o1 rfl (det_lenS sl22 rfl) rfl rfl trivial ?_
  refine o1 rfl (det_move rfl) rfl rfl trivial ?_
  refine be rfl ?_
  refine k_then ?_
  refine t_block ?_
  refine t_whileM (σ := Nat × Own) (fun s => [(20, .int .i64 (s.1 : Int)), (8, .int .i64 (beg es cyc t s.1))]) (fun s => (p3, .cells [.slice A n cap, .int .i64 cyc].toArray 24 (0, 0)) :: s.2) (fun s => es.length - s.1) (fun s => s.1 ≤ es.length ∧ R s.1 s.2 ∧ idsO s.2 = idsO cp0) (0, cp0) (env0 := [(2, _), (3, _), (7, _), (19, _)]) ⟨Nat.zero_le _, h0, rfl⟩ ⟨rfl, (by simp only [beg, rs, Int.add_zero]; rfl), trivial⟩ ⟨rfl, rfl, rfl, rfl, trivial⟩ (.refl _) ?_
  rintro s ⟨hk, hR, hi⟩
  refine t_seq ?_
  refine b0 ?_
  refine o1 rfl (det_lss rfl rfl) rfl rfl trivial ?_
  refine be rfl ?_
  refine k_then ?_
  refine t_seq ?_
  refine t_condP decide_eq_true_iff rfl (fun hb => ?_) (fun hb => ?_)
  ·
    have hlt : s.1 < es.length := by have := hE.len; omega
    have hnl := hE.len
    have hlo := loc_spec hG t
    obtain ⟨hlo, hy0, hy1, _⟩ := hlo
    obtain ⟨A, rfl⟩ := hE.some hlt
    have hmlt := Nat.mod_lt ((loc es cyc t).1 + s.1) hl1
    have hmod : (((loc es cyc t).1 : Int) + (s.1 : Int)) % (n : Int) = (((((loc es cyc t).1 + s.1) % es.length : Nat)) : Int) := by rw [hnl, ← Int.natCast_add, ← Int.natCast_emod]
    have hcell : ∀ j, j < 2 → F ((A.add (((((loc es cyc t).1 : Int) + (s.1 : Int)) % (n : Int)).toNat * 2)).add j) = [Value.int .i64 (ent es (loc es cyc t).1 s.1).1, .int .i64 (ent es (loc es cyc t).1 s.1).2][j]? := by
      rw [hmod, ent_get _ _ hl1]; exact hE.cells hmlt
    have hrs := rs_bounds hall0 hl1 (loc es cyc t).1 s.1
    have hen := ent_ok hall0 hl1 (loc es cyc t).1 s.1
    have hyb := loc_bounds hG t
    have hbg : beg es cyc t s.1 = t - (loc es cyc t).2 + rs es (loc es cyc t).1 s.1 := rfl
    refine t_skip ?_
    refine k_then ?_
    refine t_seq ?_
    refine t_block ?_
    refine t_seq ?_
    refine b0 ?_
    refine o1 rfl (det_move rfl) rfl rfl trivial ?_
    refine o1 rfl (det_assign rfl) rfl rfl trivial ?_
    refine be rfl ?_
    refine k_then ?_
    refine t_seq ?_
    refine bD mixed ?_
    refine r_seg 13 12 [11] [0, 1, 2, 3, 4, 5, 6, 7, 8, 9, 10, 11] (by kernel_rfl) ?_
    refine s1 rfl (det_fieldAddr fld24_0 rfl) rfl rfl trivial rfl ?_
    refine s1 rfl (det_load1 t1_22 rfl rfl (.head _) rfl) rfl rfl trivial rfl ?_
    refine s1 rfl (det_move rfl) rfl rfl trivial rfl ?_
    refine s1 rfl (det_move rfl) rfl rfl trivial rfl ?_
    first | (refine s1 rfl (det_addI rfl rfl ?_) rfl rfl trivial rfl ?_; (· omega)) | refine s1 rfl (det_add rfl rfl) rfl rfl trivial rfl ?_
    refine s1 rfl (det_fieldAddr fld24_0 rfl) rfl rfl trivial rfl ?_
    refine s1 rfl (det_load1 t1_22 rfl rfl (.head _) rfl) rfl rfl trivial rfl ?_
    refine s1 rfl (det_lenS sl22 rfl) rfl rfl trivial rfl ?_
    first | (refine s1 rfl (det_remP rfl rfl ?_) rfl rfl trivial rfl ?_; (· omega)) | (refine s1 rfl (det_rem rfl rfl ?_) rfl rfl trivial rfl ?_; (· (first | decide | omega)))
    first | (refine s1 rfl (det_indexAddr sl22 rfl rfl ?_) rfl rfl trivial rfl ?_; (· (first | decide | omega)))
    refine s1 rfl (det_loadKN tN59 rfl rfl hcell) rfl rfl trivial rfl ?_
    refine sm1 rfl (new_alloc z59) rfl rfl trivial rfl (fun p10 => ?_)
    refine sg_nil ?_
    refine stN (fun _ => by kernel_rfl) rfl tN59 rfl rfl rfl .head rfl trivial rfl rfl ?_
    refine be rfl ?_
    refine k_then ?_
    refine t_seq ?_
    refine t_seq ?_
    refine b0 ?_
    refine o1 rfl (det_move rfl) rfl rfl trivial ?_
    refine o1 rfl (det_loadN tN59 rfl rfl (.head _) rfl) rfl rfl trivial ?_
    refine o1 rfl (det_move rfl) rfl rfl trivial ?_
    refine oOnS (pre := [_, _]) (cp := s.2) nofun rfl hbody rfl rfl rfl trivial (fun w1 hs => hcl s.1 hlt s.2 hR hi w1 hs.know (fun x hx => hs.own x (List.mem_append_right _ hx))) (fun v cp1 hv hi1 => ?_)
    obtain ⟨b, rfl, hRt, hRf⟩ := hv
    refine o1 rfl (det_not rfl) rfl rfl trivial ?_
    refine be rfl ?_
    refine k_then ?_
    refine t_condP not_iff_false rfl (fun hb => ?_) (fun hb => ?_)
    ·
      refine t_seq ?_
      refine b0 ?_
      refine o1 rfl (det_assign rfl) rfl rfl trivial ?_
      refine be rfl ?_
      refine k_then ?_
      refine t_ret (k_thenR (k_blkR (k_thenR (k_thenR (k_blkR (k_thenR (?_)))))))
      refine ret_tmp rfl rfl rfl (fun w1 hs => ?_)
      refine end_on (bs := [_, _]) hs (hi1.trans hi) ⟨_, rfl, nofun, fun _ => ⟨s.1, hlt, hRf hb⟩⟩
    ·
      refine t_skip ?_
      refine k_then ?_
      refine b0 ?_
      refine o1 rfl (det_move rfl) rfl rfl trivial ?_
      refine o1 rfl (det_fieldAddr fld59_1 rfl) rfl rfl trivial ?_
      refine o1 rfl (det_load1 t1_3 rfl rfl (.head _) rfl) rfl rfl trivial ?_
      first | (refine o1 rfl (det_addI rfl rfl ?_) rfl rfl trivial ?_; (· omega)) | refine o1 rfl (det_add rfl rfl) rfl rfl trivial ?_
      refine o1 rfl (det_assign rfl) rfl rfl trivial ?_
      refine be rfl ?_
      refine k_blk ?_
      refine k_then ?_
      refine b0 ?_
      first | (refine o1 rfl (det_addI rfl rfl ?_) rfl rfl trivial ?_; (· omega)) | refine o1 rfl (det_add rfl rfl) rfl rfl trivial ?_
      refine o1 rfl (det_move rfl) rfl rfl trivial ?_
      refine be rfl ?_
      refine k_then ?_
      refine loop_back (s.1 + 1, cp1) ⟨by show s.1 + 1 ≤ _; omega, hRt (by simpa using hb), hi1.trans hi⟩ (by simp only; omega) ⟨rfl, (by simp only [beg, rs, Int.add_assoc]; rfl), rfl, rfl, rfl, rfl, trivial⟩ (.cons _ (.refl _))
  ·
    refine t_exit ?_
    refine k_thenE ?_
    refine k_thenE ?_
    refine k_blkE ?_
    refine k_then ?_
    refine t_seq ?_
    refine b0 ?_
    refine o1 rfl (det_assign rfl) rfl rfl trivial ?_
    refine be rfl ?_
    refine k_then ?_
    refine t_ret ?_
    refine ret_tmp rfl rfl rfl (fun w1 hs => ?_)
    refine end_on (bs := [_]) hs hi ⟨_, rfl, fun _ => ?_, nofun⟩
    rwa [show s.1 = es.length from by have := hE.len; omega] at hR
end Go.Proofs.Cp

/-
  Walks through layers 36, 37 and 38 and their references.
-/
namespace Go.Proofs.Cp
open Go Go.Eng Go.Gt Go.Proofs.Gt
set_option maxRecDepth 4000
theorem openC_on {w : World} {F : Know} (hF : ∀ a v, F a = some v → w.cell? a = some v) {q4 q7 : Nat} {rest : Own} {e1 e2 b cl x : Int} (he : (0 ≤ e1 ∧ e1 ≤ 255) ∧ 1 ≤ e2 ∧ e2 ≤ 9600000) (hb : -9000000000000 ≤ b ∧ b ≤ 9000000000000) (hcl : 0 ≤ cl ∧ cl ≤ 7) (haway : ∀ a v, F a = some v → a.block ∉ idsO ((q7, .cells [.int .i64 (x)].toArray 3 (0, 0)) :: (q4, .cells [.int .i64 (cl)].toArray 3 (0, 0)) :: rest)) (hnd : (idsO ((q7, .cells [.int .i64 (x)].toArray 3 (0, 0)) :: (q4, .cells [.int .i64 (cl)].toArray 3 (0, 0)) :: rest)).Nodup) (hown : ∀ y ∈ ((q7, .cells [.int .i64 (x)].toArray 3 (0, 0)) :: (q4, .cells [.int .i64 (cl)].toArray 3 (0, 0)) :: rest : Own), w.heap[y.1]? = some y.2) : CallsOn Try.prog 109 [.agg [.int .i64 e1, .int .i64 e2].toArray, .int .i64 b, .pointer (some ⟨q4, 0, none⟩), .pointer (some ⟨q7, 0, none⟩)] w ((q7, .cells [.int .i64 (x)].toArray 3 (0, 0)) :: (q4, .cells [.int .i64 (cl)].toArray 3 (0, 0)) :: rest) (fun v cp1 => v = .bool (bitE e1 cl) ∧ cp1 = (q7, .cells [.int .i64 (if bitE e1 cl then b + e2 else x)].toArray 3 (0, 0)) :: (q4, .cells [.int .i64 (cl)].toArray 3 (0, 0)) :: rest) := by
  refine fn_on (F := F) Try.func109 rfl Try.ntmps109 rfl hF haway hnd hown ?_
  refine t_seq ?_
  refine b0 ?_
  refine om1 rfl (new_boxN rfl) rfl rfl trivial (fun p4 => ?_)
  refine o1 rfl (det_assign rfl) rfl rfl trivial ?_
  refine be rfl ?_
  refine k_then ?_
  refine t_seq ?_
  refine t_seq ?_
  refine b0 ?_
  refine o1 rfl (det_fieldAddr fld59_0 rfl) rfl rfl trivial ?_
  refine o1 rfl (det_load1 t1_3 rfl rfl (.head _) rfl) rfl rfl trivial ?_
  refine o1 rfl (det_load1 t1_3 rfl rfl (.tail _ (.tail _ (.head _))) rfl) rfl rfl trivial ?_
  first | (refine o1 rfl (det_shr rfl rfl ?_) rfl rfl trivial ?_; (· (first | decide | omega)))
  refine o1 rfl (det_and rfl rfl) rfl rfl trivial ?_
  refine o1 rfl (det_eql rfl rfl) rfl rfl trivial ?_
  refine be rfl ?_
  refine k_then ?_
  refine t_condP beq_iff_eq rfl (fun hb => ?_) (fun hb => ?_)
  ·
    refine t_seq ?_
    refine b0 ?_
    refine o1 rfl (det_assign rfl) rfl rfl trivial ?_
    refine be rfl ?_
    refine k_then ?_
    refine t_ret (k_thenR (?_))
    refine ret_tmp rfl rfl rfl (fun w1 hs => ?_)
    have hbit := (bitE_and he.1 hcl).1 hb
    refine end_on (bs := [_]) hs rfl ⟨by rw [hbit], by rw [hbit]; rfl⟩
  ·
    refine t_skip ?_
    refine k_then ?_
    refine t_seq ?_
    refine b0 ?_
    refine o1 rfl (det_move rfl) rfl rfl trivial ?_
    refine o1 rfl (det_fieldAddr fld59_1 rfl) rfl rfl trivial ?_
    refine o1 rfl (det_load1 t1_3 rfl rfl (.head _) rfl) rfl rfl trivial ?_
    first | (refine o1 rfl (det_addI rfl rfl ?_) rfl rfl trivial ?_; (· omega)) | refine o1 rfl (det_add rfl rfl) rfl rfl trivial ?_
    refine st1 nofun rfl t1_3 rfl rfl rfl (.tail .head) rfl trivial rfl ?_
    refine be rfl ?_
    refine k_then ?_
    refine t_seq ?_
    refine b0 ?_
    refine o1 rfl (det_assign rfl) rfl rfl trivial ?_
    refine be rfl ?_
    refine k_then ?_
    refine t_ret ?_
    refine ret_tmp rfl rfl rfl (fun w1 hs => ?_)
    have hbit : bitE e1 cl = true := by
      cases h : bitE e1 cl with
      | true => rfl
      | false => exact absurd ((bitE_and he.1 hcl).2 h) hb
    refine end_on (bs := [_]) hs rfl ⟨by rw [hbit], by rw [hbit]; rfl⟩
theorem open_ok {w : World} {F : Know} (hF : ∀ a v, F a = some v → w.cell? a = some v) {A : Option Addr} {n cap : Nat} {es : Ents} {cyc : Int} (hE : EntK F A n es) (hG : okG es cyc = true) (cl : Int) (hcl : 0 ≤ cl ∧ cl ≤ 7) (t : Int) (ht : -1099511627776 * 4 ≤ t ∧ t ≤ 1099511627776 * 4) : Pure Try.prog 85 [.agg [.slice A n cap, .int .i64 cyc].toArray, .int .i64 cl, .int .i64 t] w (.int .i64 (spanE es cyc cl t)) := by
  obtain ⟨hl1, hl2, hall0, hsum, hc9, hc1⟩ := okG_parts hG
  replace hc1 : 0 < cyc := by omega

  refine fn_pure (F := F) Try.func85 rfl Try.ntmps85 rfl hF ?_
  refine t_seq ?_
  refine b0 ?_
  refine om1 rfl (new_boxN rfl) rfl rfl trivial (fun p3 => ?_)
  refine om1 rfl (new_box1 rfl rfl) rfl rfl trivial (fun p4 => ?_)
  refine o1 rfl (det_assign rfl) rfl rfl trivial ?_
  refine be rfl ?_
  refine k_then ?_
  refine t_seq ?_
  refine b0 ?_
  refine o1 rfl (det_move rfl) rfl rfl trivial ?_
  refine om1 rfl (new_alloc z3) rfl rfl trivial (fun p7 => ?_)
  refine st1 nofun rfl t1_3 rfl rfl rfl .head rfl trivial rfl ?_
  refine be rfl ?_
  refine k_then ?_
  refine t_seq ?_
  refine t_seq ?_
  refine b0 ?_
  refine o1 rfl (det_loadN tN24 rfl rfl (.tail _ (.tail _ (.head _))) rfl) rfl rfl trivial ?_
  refine o1 rfl (det_move rfl) rfl rfl trivial ?_
  refine o1 rfl (det_makeFunc rfl rfl) rfl rfl trivial ?_
  refine oOn (cp := [_, _, _]) (rest := []) nofun rfl hb92 rfl rfl rfl trivial (fun w1 hs => (walk_on (R := fun i cp => cp = [(p7, .cells [.int .i64 (fst0 es cyc t i)].toArray 3 (0, 0)), (p4, .cells [.int .i64 (cl)].toArray 3 (0, 0)), (p3, .cells [.slice A n cap, .int .i64 cyc].toArray 24 (0, 0))] ∧ (∀ j, j < i → bitE (ent es (loc es cyc t).1 j).1 cl = true)) (Ro := fun i cp => cp = [(p7, .cells [.int .i64 (fst0 es cyc t i)].toArray 3 (0, 0)), (p4, .cells [.int .i64 (cl)].toArray 3 (0, 0)), (p3, .cells [.slice A n cap, .int .i64 cyc].toArray 24 (0, 0))] ∧ (∀ j, j < i → bitE (ent es (loc es cyc t).1 j).1 cl = true) ∧ bitE (ent es (loc es cyc t).1 i).1 cl = false) hs.know hE hG t ht hs.away hs.nodup hs.own hb109 ⟨rfl, fun j hj => absurd hj (Nat.not_lt_zero _)⟩ (by
      intro i hi cp hR hids w2 hk ho
      obtain ⟨rfl, hbits⟩ := hR
      have hen := ent_ok hall0 hl1 (loc es cyc t).1 i
      have hrs := rs_bounds hall0 hl1 (loc es cyc t).1 i
      have hyb := loc_bounds hG t
      have hbg : beg es cyc t i = t - (loc es cyc t).2 + rs es (loc es cyc t).1 i := rfl
      refine (openC_on (x := fst0 es cyc t i) (rest := [_]) hk ⟨⟨hen.1, hen.2.1⟩, hen.2.2⟩ (by omega) hcl hs.away hs.nodup ho).mono ?_
      rintro v cp' - ⟨rfl, rfl⟩
      refine ⟨_, rfl, fun hb => ⟨by rw [if_pos hb, ← beg_succ, fst0_succ], fun j hj => ?_⟩, fun hb => ⟨by rw [if_neg (by simp [hb])], hbits, hb⟩⟩
      by_cases e : j = i
      · rw [e]; exact hb
      · exact hbits j (by omega)))) (fun v cp1 hv hi1 => ?_)
  obtain ⟨b, rfl, hT, hN⟩ := hv
  refine be rfl ?_
  refine k_then ?_
  refine t_condP Iff.rfl rfl (fun hb => ?_) (fun hb => ?_)
  ·
    refine t_seq ?_
    refine b0 ?_
    refine o1 rfl (det_assign rfl) rfl rfl trivial ?_
    refine be rfl ?_
    refine k_then ?_
    refine t_ret (k_thenR (?_))
    refine ret_tmp rfl rfl rfl (fun w1 hs => ?_)
    refine ⟨?_, hs.keep⟩
    rw [spanE_all (hT hb).2]
  ·
    obtain ⟨i, hi, rfl, hbits, hno⟩ := hN (by simpa using hb)
    have hen := ent_ok hall0 hl1 (loc es cyc t).1 i
    have hrs := rs_bounds hall0 hl1 (loc es cyc t).1 i
    have hyb := loc_bounds hG t
    have hbg : beg es cyc t i = t - (loc es cyc t).2 + rs es (loc es cyc t).1 i := rfl
    have hf : fst0 es cyc t i = t ∨ fst0 es cyc t i = beg es cyc t i := by unfold fst0; split <;> simp
    refine t_skip ?_
    refine k_then ?_
    refine t_seq ?_
    refine b0 ?_
    refine o1 rfl (det_load1 t1_3 rfl rfl (.head _) rfl) rfl rfl trivial ?_
    refine o1 rfl (det_move rfl) rfl rfl trivial ?_
    first | (refine o1 rfl (det_subI rfl rfl ?_) rfl rfl trivial ?_; (· omega)) | refine o1 rfl (det_sub rfl rfl) rfl rfl trivial ?_
    refine o1 rfl (det_assign rfl) rfl rfl trivial ?_
    refine be rfl ?_
    refine k_then ?_
    refine t_ret ?_
    refine ret_tmp rfl rfl rfl (fun w1 hs => ?_)
    exact ⟨by rw [spanE_at hi hbits hno], hs.keep⟩
end Go.Proofs.Cp

/-
  Walks through layers 36, 37 and 38 and their references.
-/
namespace Go.Proofs.Cp
open Go Go.Eng Go.Gt Go.Proofs.Gt
set_option maxRecDepth 4000
theorem Fits_ok {w : World} {F : Know} (hF : ∀ a v, F a = some v → w.cell? a = some v) {A : Option Addr} {n cap : Nat} {es : Ents} {cyc : Int} (hE : EntK F A n es) (cl : Int) (hcb : -9223372036854775808 ≤ cl ∧ cl ≤ 9223372036854775807) (t lg : Int) : Pure Try.prog 47 [.agg [.slice A n cap, .int .i64 cyc].toArray, .int .i64 cl, .int .i64 t, .int .i64 lg] w (.tuple [.bool (fitsA es cyc cl t lg).1, .int .i64 (fitsA es cyc cl t lg).2].toArray) := by
  refine fn_pure (F := F) Try.func47 rfl Try.ntmps47 rfl hF ?_
  refine t_seq ?_
  refine b0 ?_
  refine om1 rfl (new_boxN rfl) rfl rfl trivial (fun p4 => ?_)
  refine o1 rfl (det_assign rfl) rfl rfl trivial ?_
  refine o1 rfl (det_assign rfl) rfl rfl trivial ?_
  refine be rfl ?_
  refine k_then ?_
  refine t_seq ?_
  refine t_seq ?_
  refine b0 ?_
  refine o1 rfl (det_loadN tN24 rfl rfl (.head _) rfl) rfl rfl trivial ?_
  refine o1 rfl (det_move rfl) rfl rfl trivial ?_
  refine o1 rfl (det_move rfl) rfl rfl trivial ?_
  refine o1 rfl (det_move rfl) rfl rfl trivial ?_
  refine o1 rfl (det_call hb84 rfl rfl (fun w1 hs => valid_ok hs.know hE cl t lg hcb)) rfl rfl trivial ?_
  refine o1 rfl (det_assign rfl) rfl rfl trivial ?_
  refine be rfl ?_
  refine k_then ?_
  refine t_seq ?_
  refine b0 ?_
  refine o1 rfl (det_move rfl) rfl rfl trivial ?_
  refine o1 rfl (det_neq rfl rfl) rfl rfl trivial ?_
  refine be rfl ?_
  refine k_then ?_
  refine t_condP bne_iff_ne rfl (fun hb => ?_) (fun hb => ?_)
  ·
    refine t_seq ?_
    refine b0 ?_
    refine o1 rfl (det_move rfl) rfl rfl trivial ?_
    refine o1 rfl (det_assign rfl) rfl rfl trivial ?_
    refine o1 rfl (det_assign rfl) rfl rfl trivial ?_
    refine be rfl ?_
    refine k_then ?_
    refine t_ret (k_thenR (?_))
    refine ret_tmp2 rfl rfl rfl rfl (fun w1 hs => ?_)
    exact ⟨by rw [fitsA, if_neg hb], hs.keep⟩
  ·
    have he0 : errG es cyc cl t lg = 0 := by omega
    obtain ⟨hG, hT⟩ := errG_zero he0
    have ht : -1099511627776 * 4 ≤ t ∧ t ≤ 1099511627776 * 4 := by omega
    obtain ⟨hl1, hl2, hall0, hsum, hc9, hc1⟩ := okG_parts hG
    replace hc1 : 0 < cyc := by omega
    refine t_skip ?_
    refine k_then ?_
    refine t_seq ?_
    refine b0 ?_
    refine o1 rfl (det_loadN tN24 rfl rfl (.head _) rfl) rfl rfl trivial ?_
    refine o1 rfl (det_move rfl) rfl rfl trivial ?_
    refine o1 rfl (det_move rfl) rfl rfl trivial ?_
    refine o1 rfl (det_call hb85 rfl rfl (fun w1 hs => open_ok hs.know hE hG cl ⟨hT.1, hT.2.1⟩ t ht)) rfl rfl trivial ?_
    refine o1 rfl (det_move rfl) rfl rfl trivial ?_
    refine o1 rfl (det_geq rfl rfl) rfl rfl trivial ?_
    refine o1 rfl (det_assign rfl) rfl rfl trivial ?_
    refine o1 rfl (det_assign rfl) rfl rfl trivial ?_
    refine be rfl ?_
    refine k_then ?_
    refine t_ret ?_
    refine ret_tmp2 rfl rfl rfl rfl (fun w1 hs => ?_)
    exact ⟨by rw [fitsA, if_pos he0], hs.keep⟩
end Go.Proofs.Cp

/-
  Walks through layers 36, 37 and 38 and their references.
-/
namespace Go.Proofs.Cp
open Go Go.Eng Go.Gt Go.Proofs.Gt
set_option maxRecDepth 4000
theorem FitC_on {w : World} {F : Know} (hF : ∀ a v, F a = some v → w.cell? a = some v) {A : Option Addr} {n cap : Nat} {es : Ents} {cyc : Int} (hE : EntK F A n es) (hG : okG es cyc = true) {q11 q7 q5 q4 : Nat} {rest : Own} {e1 e2 b x cl lg : Int} (hcl : 0 ≤ cl ∧ cl ≤ 7) (hb : -4300000000000 ≤ b ∧ b ≤ 4300000000000) (he : 1 ≤ e2 ∧ e2 ≤ 9600000) (haway : ∀ a v, F a = some v → a.block ∉ idsO ((q11, .cells [.int .i64 (x)].toArray 3 (0, 0)) :: (q7, .cells [.int .i64 (lg)].toArray 3 (0, 0)) :: (q5, .cells [.int .i64 (cl)].toArray 3 (0, 0)) :: (q4, .cells [.slice A n cap, .int .i64 cyc].toArray 24 (0, 0)) :: rest)) (hnd : (idsO ((q11, .cells [.int .i64 (x)].toArray 3 (0, 0)) :: (q7, .cells [.int .i64 (lg)].toArray 3 (0, 0)) :: (q5, .cells [.int .i64 (cl)].toArray 3 (0, 0)) :: (q4, .cells [.slice A n cap, .int .i64 cyc].toArray 24 (0, 0)) :: rest)).Nodup) (hown : ∀ y ∈ ((q11, .cells [.int .i64 (x)].toArray 3 (0, 0)) :: (q7, .cells [.int .i64 (lg)].toArray 3 (0, 0)) :: (q5, .cells [.int .i64 (cl)].toArray 3 (0, 0)) :: (q4, .cells [.slice A n cap, .int .i64 cyc].toArray 24 (0, 0)) :: rest : Own), w.heap[y.1]? = some y.2) : CallsOn Try.prog 93 [.agg [.int .i64 e1, .int .i64 e2].toArray, .int .i64 b, .pointer (some ⟨q11, 0, none⟩), .pointer (some ⟨q4, 0, none⟩), .pointer (some ⟨q5, 0, none⟩), .pointer (some ⟨q7, 0, none⟩)] w ((q11, .cells [.int .i64 (x)].toArray 3 (0, 0)) :: (q7, .cells [.int .i64 (lg)].toArray 3 (0, 0)) :: (q5, .cells [.int .i64 (cl)].toArray 3 (0, 0)) :: (q4, .cells [.slice A n cap, .int .i64 cyc].toArray 24 (0, 0)) :: rest) (fun v cp1 => v = .bool (decide (spanE es cyc cl (b + e2) < lg)) ∧ cp1 = (q11, .cells [.int .i64 (b + e2)].toArray 3 (0, 0)) :: (q7, .cells [.int .i64 (lg)].toArray 3 (0, 0)) :: (q5, .cells [.int .i64 (cl)].toArray 3 (0, 0)) :: (q4, .cells [.slice A n cap, .int .i64 cyc].toArray 24 (0, 0)) :: rest) := by
  refine fn_on (F := F) Try.func93 rfl Try.ntmps93 rfl hF haway hnd hown ?_
  refine t_seq ?_
  refine b0 ?_
  refine om1 rfl (new_boxN rfl) rfl rfl trivial (fun p6 => ?_)
  refine o1 rfl (det_assign rfl) rfl rfl trivial ?_
  refine be rfl ?_
  refine k_then ?_
  refine t_seq ?_
  refine b0 ?_
  refine o1 rfl (det_move rfl) rfl rfl trivial ?_
  refine o1 rfl (det_fieldAddr fld59_1 rfl) rfl rfl trivial ?_
  refine o1 rfl (det_load1 t1_3 rfl rfl (.head _) rfl) rfl rfl trivial ?_
  first | (refine o1 rfl (det_addI rfl rfl ?_) rfl rfl trivial ?_; (· omega)) | refine o1 rfl (det_add rfl rfl) rfl rfl trivial ?_
  refine st1 nofun rfl t1_3 rfl rfl rfl (.tail .head) rfl trivial rfl ?_
  refine be rfl ?_
  refine k_then ?_
  refine t_seq ?_
  refine bD mixed ?_
  refine r_seg 7 7 [] [0, 1, 2, 3, 4, 5, 6] (by kernel_rfl) ?_
  refine s1 rfl (det_loadN tN24 rfl rfl (.tail _ (.tail _ (.tail _ (.tail _ (.head _))))) rfl) rfl rfl trivial rfl ?_
  refine s1 rfl (det_load1 t1_3 rfl rfl (.tail _ (.tail _ (.tail _ (.head _)))) rfl) rfl rfl trivial rfl ?_
  refine s1 rfl (det_load1 t1_3 rfl rfl (.tail _ (.head _)) rfl) rfl rfl trivial rfl ?_
  refine s1 rfl (det_call hb85 rfl rfl (fun w1 hs => open_ok hs.know hE hG cl hcl (b + e2) (by omega))) rfl rfl trivial rfl ?_
  refine s1 rfl (det_load1 t1_3 rfl rfl (.tail _ (.tail _ (.head _))) rfl) rfl rfl trivial rfl ?_
  refine s1 rfl (det_lss rfl rfl) rfl rfl trivial rfl ?_
  refine s1 rfl (det_assign rfl) rfl rfl trivial rfl ?_
  refine sg_nil ?_
  refine be rfl ?_
  refine k_then ?_
  refine t_ret ?_
  refine ret_tmp rfl rfl rfl (fun w1 hs => ?_)
  exact end_on (bs := [_]) hs rfl ⟨rfl, rfl⟩
theorem Fit_ok {w : World} {F : Know} (hF : ∀ a v, F a = some v → w.cell? a = some v) {A : Option Addr} {n cap : Nat} {es : Ents} {cyc : Int} (hE : EntK F A n es) (cl : Int) (hcb : -9223372036854775808 ≤ cl ∧ cl ≤ 9223372036854775807) (t lg : Int) : Pure Try.prog 64 [.agg [.slice A n cap, .int .i64 cyc].toArray, .int .i64 cl, .int .i64 t, .int .i64 lg] w (.tuple [.int .i64 (fitA es cyc cl t lg).1, .int .i64 (fitA es cyc cl t lg).2].toArray) := by
  refine fn_pure (F := F) Try.func64 rfl Try.ntmps64 rfl hF ?_
  refine t_seq ?_
  refine b0 ?_
  refine om1 rfl (new_boxN rfl) rfl rfl trivial (fun p4 => ?_)
  refine om1 rfl (new_box1 rfl rfl) rfl rfl trivial (fun p5 => ?_)
  refine om1 rfl (new_box1 rfl rfl) rfl rfl trivial (fun p7 => ?_)
  refine o1 rfl (det_assign rfl) rfl rfl trivial ?_
  refine o1 rfl (det_assign rfl) rfl rfl trivial ?_
  refine be rfl ?_
  refine k_then ?_
  refine t_seq ?_
  refine t_seq ?_
  refine b0 ?_
  refine o1 rfl (det_loadN tN24 rfl rfl (.tail _ (.tail _ (.head _))) rfl) rfl rfl trivial ?_
  refine o1 rfl (det_load1 t1_3 rfl rfl (.tail _ (.head _)) rfl) rfl rfl trivial ?_
  refine o1 rfl (det_move rfl) rfl rfl trivial ?_
  refine o1 rfl (det_load1 t1_3 rfl rfl (.head _) rfl) rfl rfl trivial ?_
  refine o1 rfl (det_call hb84 rfl rfl (fun w1 hs => valid_ok hs.know hE cl t lg hcb)) rfl rfl trivial ?_
  refine o1 rfl (det_assign rfl) rfl rfl trivial ?_
  refine be rfl ?_
  refine k_then ?_
  refine t_seq ?_
  refine b0 ?_
  refine o1 rfl (det_move rfl) rfl rfl trivial ?_
  refine o1 rfl (det_neq rfl rfl) rfl rfl trivial ?_
  refine be rfl ?_
  refine k_then ?_
  refine t_condP bne_iff_ne rfl (fun hb => ?_) (fun hb => ?_)
  ·
    refine t_seq ?_
    refine b0 ?_
    refine o1 rfl (det_move rfl) rfl rfl trivial ?_
    refine o1 rfl (det_assign rfl) rfl rfl trivial ?_
    refine o1 rfl (det_assign rfl) rfl rfl trivial ?_
    refine be rfl ?_
    refine k_then ?_
    refine t_ret (k_thenR (?_))
    refine ret_tmp2 rfl rfl rfl rfl (fun w1 hs => ?_)
    exact ⟨by rw [fitA, if_neg hb], hs.keep⟩
  ·
    have he0 : errG es cyc cl t lg = 0 := by omega
    obtain ⟨hG, hT⟩ := errG_zero he0
    have ht : -1099511627776 * 4 ≤ t ∧ t ≤ 1099511627776 * 4 := by omega
    obtain ⟨hl1, hl2, hall0, hsum, hc9, hc1⟩ := okG_parts hG
    replace hc1 : 0 < cyc := by omega
    refine t_skip ?_
    refine k_then ?_
    refine t_seq ?_
    refine t_seq ?_
    refine bD mixed ?_
    refine r_seg 6 6 [] [0, 1, 2, 3, 4, 5] (by kernel_rfl) ?_
    refine s1 rfl (det_loadN tN24 rfl rfl (.tail _ (.tail _ (.head _))) rfl) rfl rfl trivial rfl ?_
    refine s1 rfl (det_load1 t1_3 rfl rfl (.tail _ (.head _)) rfl) rfl rfl trivial rfl ?_
    refine s1 rfl (det_move rfl) rfl rfl trivial rfl ?_
    refine s1 rfl (det_call hb85 rfl rfl (fun w1 hs => open_ok hs.know hE hG cl ⟨hT.1, hT.2.1⟩ t ht)) rfl rfl trivial rfl ?_
    refine s1 rfl (det_load1 t1_3 rfl rfl (.head _) rfl) rfl rfl trivial rfl ?_
    refine s1 rfl (det_geq rfl rfl) rfl rfl trivial rfl ?_
    refine sg_nil ?_
    refine be rfl ?_
    refine k_then ?_
    refine t_condP decide_eq_true_iff rfl (fun hb => ?_) (fun hb => ?_)
    ·
      replace hb : lg ≤ spanE es cyc cl t := hb
      refine t_seq ?_
      refine b0 ?_
      refine o1 rfl (det_move rfl) rfl rfl trivial ?_
      refine o1 rfl (det_assign rfl) rfl rfl trivial ?_
      refine o1 rfl (det_assign rfl) rfl rfl trivial ?_
      refine be rfl ?_
      refine k_then ?_
      refine t_ret (k_thenR (?_))
      refine ret_tmp2 rfl rfl rfl rfl (fun w1 hs => ?_)
      exact ⟨by rw [fitA, if_pos he0, fitE_now hb]; rfl, hs.keep⟩
    ·
      have hno : ¬ lg ≤ spanE es cyc cl t := hb
      clear hb
      refine t_skip ?_
      refine k_then ?_
      refine t_seq ?_
      refine b0 ?_
      refine o1 rfl (det_move rfl) rfl rfl trivial ?_
      refine om1 rfl (new_alloc z3) rfl rfl trivial (fun p11 => ?_)
      refine st1 nofun rfl t1_3 rfl rfl rfl .head rfl trivial rfl ?_
      refine be rfl ?_
      refine k_then ?_
      refine t_seq ?_
      refine t_seq ?_
      refine b0 ?_
      refine o1 rfl (det_loadN tN24 rfl rfl (.tail _ (.tail _ (.tail _ (.head _)))) rfl) rfl rfl trivial ?_
      refine o1 rfl (det_move rfl) rfl rfl trivial ?_
      refine o1 rfl (det_makeFunc rfl rfl) rfl rfl trivial ?_
      refine oOn (cp := [_, _, _, _]) (rest := []) nofun rfl hb92 rfl rfl rfl trivial (fun w1 hs => (walk_on (R := fun i cp => cp = [(p11, .cells [.int .i64 (if i = 0 then t else beg es cyc t i)].toArray 3 (0, 0)), (p7, .cells [.int .i64 (lg)].toArray 3 (0, 0)), (p5, .cells [.int .i64 (cl)].toArray 3 (0, 0)), (p4, .cells [.slice A n cap, .int .i64 cyc].toArray 24 (0, 0))] ∧ (∀ j, j < i → ¬ lg ≤ spanE es cyc cl (beg es cyc t (j + 1)))) (Ro := fun i cp => cp = [(p11, .cells [.int .i64 (beg es cyc t (i + 1))].toArray 3 (0, 0)), (p7, .cells [.int .i64 (lg)].toArray 3 (0, 0)), (p5, .cells [.int .i64 (cl)].toArray 3 (0, 0)), (p4, .cells [.slice A n cap, .int .i64 cyc].toArray 24 (0, 0))] ∧ (∀ j, j < i → ¬ lg ≤ spanE es cyc cl (beg es cyc t (j + 1))) ∧ lg ≤ spanE es cyc cl (beg es cyc t (i + 1))) hs.know hE hG t ht hs.away hs.nodup hs.own hb93 ⟨rfl, fun j hj => absurd hj (Nat.not_lt_zero _)⟩ (by
          intro i hi cp hR hids w2 hk ho
          obtain ⟨rfl, hall⟩ := hR
          have hrs := rs_bounds hall0 hl1 (loc es cyc t).1 i
          have hen := ent_ok hall0 hl1 (loc es cyc t).1 i
          have hyb := loc_bounds hG t
          have hbg : beg es cyc t i = t - (loc es cyc t).2 + rs es (loc es cyc t).1 i := rfl
          refine (FitC_on (x := if i = 0 then t else beg es cyc t i) (rest := []) hk hE hG ⟨hT.1, hT.2.1⟩ (by omega) hen.2.2 hs.away hs.nodup ho).mono ?_
          rintro v cp' - ⟨rfl, rfl⟩
          rw [← beg_succ]
          refine ⟨_, rfl, fun hb => ⟨by simp, fun j hj => ?_⟩, fun hb => ⟨rfl, hall, by have := of_decide_eq_false hb; omega⟩⟩
          by_cases e : j = i
          · rw [e]; have := of_decide_eq_true hb; omega
          · exact hall j (by omega)))) (fun v cp1 hv hi1 => ?_)
      obtain ⟨b, rfl, hT1, hN⟩ := hv
      refine be rfl ?_
      refine k_then ?_
      refine t_condP Iff.rfl rfl (fun hb => ?_) (fun hb => ?_)
      ·
        refine t_seq ?_
        refine b0 ?_
        refine o1 rfl (det_assign rfl) rfl rfl trivial ?_
        refine o1 rfl (det_assign rfl) rfl rfl trivial ?_
        refine be rfl ?_
        refine k_then ?_
        refine t_ret (k_thenR (?_))
        refine ret_tmp2 rfl rfl rfl rfl (fun w1 hs => ?_)
        exact ⟨by rw [fitA, if_pos he0, fitE_none hno (hT1 hb).2]; rfl, hs.keep⟩
      ·
        obtain ⟨i, hi, rfl, hall, hne⟩ := hN (by simpa using hb)
        refine t_skip ?_
        refine k_then ?_
        refine t_seq ?_
        refine b0 ?_
        refine o1 rfl (det_load1 t1_3 rfl rfl (.head _) rfl) rfl rfl trivial ?_
        refine o1 rfl (det_assign rfl) rfl rfl trivial ?_
        refine o1 rfl (det_assign rfl) rfl rfl trivial ?_
        refine be rfl ?_
        refine k_then ?_
        refine t_ret ?_
        refine ret_tmp2 rfl rfl rfl rfl (fun w1 hs => ?_)
        exact ⟨by rw [fitA, if_pos he0, fitE_at hi hno hall hne]; rfl, hs.keep⟩
end Go.Proofs.Cp

/-
  Walks through layers 36, 37 and 38 and their references.
-/
namespace Go.Proofs.Cp
open Go Go.Eng Go.Gt Go.Proofs.Gt
set_option maxRecDepth 4000
end Go.Proofs.Cp

/-
  Walks through layers 36, 37 and 38 and their references.
-/
namespace Go.Proofs.Cp
open Go Go.Eng Go.Qu
set_option maxRecDepth 4000
theorem within_ok {w : World} {F : Know} (hF : ∀ a v, F a = some v → w.cell? a = some v) {n lo hi : Int} : Pure Try.prog 88 [.int .i64 n, .int .i64 lo, .int .i64 hi] w (.bool (decide (lo ≤ n ∧ n ≤ hi))) := by
  refine fn_pure (F := F) Try.func88 rfl Try.ntmps88 rfl hF ?_
  refine t_seq ?_
  refine b0 ?_
  refine o1 rfl (det_assign rfl) rfl rfl trivial ?_
  refine be rfl ?_
  refine k_then ?_
  refine t_seq ?_
  refine b0 ?_
  refine o1 rfl (det_move rfl) rfl rfl trivial ?_
  refine o1 rfl (det_move rfl) rfl rfl trivial ?_
  refine o1 rfl (det_geq rfl rfl) rfl rfl trivial ?_
  refine o2P decide_eq_true_iff rfl (det_move rfl) rfl rfl trivial (fun hb => ?_) (fun hb => ?_)
  ·
    refine o1 rfl (det_move rfl) rfl rfl ⟨_, rfl, rfl⟩ ?_
    refine o1 rfl (det_move rfl) rfl rfl ⟨_, rfl, rfl⟩ ?_
    refine o1 rfl (det_leq rfl rfl) rfl rfl ⟨_, rfl, rfl⟩ ?_
    refine o1 rfl (det_pickT rfl rfl) rfl rfl trivial ?_
    refine o1 rfl (det_assign rfl) rfl rfl trivial ?_
    refine be rfl ?_
    refine k_then ?_
    refine t_ret ?_
    refine ret_tmp rfl rfl rfl (fun w1 hs => ?_)
    first | exact ⟨rfl, hs.keep⟩ | exact ⟨by grind [], hs.keep⟩
  ·
    refine on rfl rfl rfl ⟨_, rfl, .inl rfl⟩ ?_
    refine on rfl rfl rfl ⟨_, rfl, .inl rfl⟩ ?_
    refine on rfl rfl rfl ⟨_, rfl, .inl rfl⟩ ?_
    refine o1 rfl (det_pickF rfl rfl) rfl rfl trivial ?_
    refine o1 rfl (det_assign rfl) rfl rfl trivial ?_
    refine be rfl ?_
    refine k_then ?_
    refine t_ret ?_
    refine ret_tmp rfl rfl rfl (fun w1 hs => ?_)
    first | exact ⟨rfl, hs.keep⟩ | exact ⟨by grind [], hs.keep⟩
theorem citem_ok {w : World} {F : Know} (hF : ∀ a v, F a = some v → w.cell? a = some v) {x : It} : Pure Try.prog 77 [.agg [.int .i64 x.st, .int .i64 x.sq, .int .i64 x.cl, .int .i64 x.sz, .int .i64 x.sn].toArray] w (.int .i64 (if okI x then 0 else 460)) := by
  refine fn_pure (F := F) Try.func77 rfl Try.ntmps77 rfl hF ?_
  refine t_seq ?_
  refine b0 ?_
  refine om1 rfl (new_boxN rfl) rfl rfl trivial (fun p1 => ?_)
  refine o1 rfl (det_assign rfl) rfl rfl trivial ?_
  refine be rfl ?_
  refine k_then ?_
  refine t_seq ?_
  refine t_seq ?_
  refine b0 ?_
  refine o1 rfl (det_fieldAddr fld55_0 rfl) rfl rfl trivial ?_
  refine o1 rfl (det_load1 t1_3 rfl rfl (.head _) rfl) rfl rfl trivial ?_
  refine o1 rfl (det_call hb88 rfl rfl (fun w1 hs => within_ok hs.know)) rfl rfl trivial ?_
  refine o1 rfl (det_not rfl) rfl rfl trivial ?_
  refine o2P not_iff_false rfl (det_move rfl) rfl rfl trivial (fun hb => ?_) (fun hb => ?_)
  ·
    refine on rfl rfl rfl ⟨_, rfl, .inl rfl⟩ ?_
    refine on rfl rfl rfl ⟨_, rfl, .inl rfl⟩ ?_
    refine on rfl rfl rfl ⟨_, rfl, .inl rfl⟩ ?_
    refine on rfl rfl rfl ⟨_, rfl, .inl rfl⟩ ?_
    refine o1 rfl (det_pickT rfl rfl) rfl rfl trivial ?_
    refine o1 rfl (det_move rfl) rfl rfl trivial ?_
    refine on rfl rfl rfl ⟨_, rfl, .inl rfl⟩ ?_
    refine on rfl rfl rfl ⟨_, rfl, .inl rfl⟩ ?_
    refine on rfl rfl rfl ⟨_, rfl, .inl rfl⟩ ?_
    refine on rfl rfl rfl ⟨_, rfl, .inl rfl⟩ ?_
    refine o1 rfl (det_pickT rfl rfl) rfl rfl trivial ?_
    refine o1 rfl (det_move rfl) rfl rfl trivial ?_
    refine on rfl rfl rfl ⟨_, rfl, .inl rfl⟩ ?_
    refine on rfl rfl rfl ⟨_, rfl, .inl rfl⟩ ?_
    refine on rfl rfl rfl ⟨_, rfl, .inl rfl⟩ ?_
    refine on rfl rfl rfl ⟨_, rfl, .inl rfl⟩ ?_
    refine o1 rfl (det_pickT rfl rfl) rfl rfl trivial ?_
    refine o1 rfl (det_move rfl) rfl rfl trivial ?_
    refine on rfl rfl rfl ⟨_, rfl, .inl rfl⟩ ?_
    refine on rfl rfl rfl ⟨_, rfl, .inl rfl⟩ ?_
    refine on rfl rfl rfl ⟨_, rfl, .inl rfl⟩ ?_
    refine on rfl rfl rfl ⟨_, rfl, .inl rfl⟩ ?_
    refine o1 rfl (det_pickT rfl rfl) rfl rfl trivial ?_
    refine be rfl ?_
    refine k_then ?_
    refine t_condT rfl ?_
    refine t_seq ?_
    refine b0 ?_
    refine o1 rfl (det_assign rfl) rfl rfl trivial ?_
    refine be rfl ?_
    refine k_then ?_
    refine t_ret (k_thenR (?_))
    refine ret_tmp rfl rfl rfl (fun w1 hs => ?_)
    first | exact ⟨rfl, hs.keep⟩ | exact ⟨by grind [okI], hs.keep⟩
  ·
    refine o1 rfl (det_fieldAddr fld55_1 rfl) rfl rfl ⟨_, rfl, rfl⟩ ?_
    refine o1 rfl (det_load1 t1_3 rfl rfl (.head _) rfl) rfl rfl ⟨_, rfl, rfl⟩ ?_
    refine o1 rfl (det_call hb88 rfl rfl (fun w1 hs => within_ok hs.know)) rfl rfl ⟨_, rfl, rfl⟩ ?_
    refine o1 rfl (det_not rfl) rfl rfl ⟨_, rfl, rfl⟩ ?_
    refine o1 rfl (det_pickF rfl rfl) rfl rfl trivial ?_
    refine o2P not_iff_false rfl (det_move rfl) rfl rfl trivial (fun hb => ?_) (fun hb => ?_)
    ·
      refine on rfl rfl rfl ⟨_, rfl, .inl rfl⟩ ?_
      refine on rfl rfl rfl ⟨_, rfl, .inl rfl⟩ ?_
      refine on rfl rfl rfl ⟨_, rfl, .inl rfl⟩ ?_
      refine on rfl rfl rfl ⟨_, rfl, .inl rfl⟩ ?_
      refine o1 rfl (det_pickT rfl rfl) rfl rfl trivial ?_
      refine o1 rfl (det_move rfl) rfl rfl trivial ?_
      refine on rfl rfl rfl ⟨_, rfl, .inl rfl⟩ ?_
      refine on rfl rfl rfl ⟨_, rfl, .inl rfl⟩ ?_
      refine on rfl rfl rfl ⟨_, rfl, .inl rfl⟩ ?_
      refine on rfl rfl rfl ⟨_, rfl, .inl rfl⟩ ?_
      refine o1 rfl (det_pickT rfl rfl) rfl rfl trivial ?_
      refine o1 rfl (det_move rfl) rfl rfl trivial ?_
      refine on rfl rfl rfl ⟨_, rfl, .inl rfl⟩ ?_
      refine on rfl rfl rfl ⟨_, rfl, .inl rfl⟩ ?_
      refine on rfl rfl rfl ⟨_, rfl, .inl rfl⟩ ?_
      refine on rfl rfl rfl ⟨_, rfl, .inl rfl⟩ ?_
      refine o1 rfl (det_pickT rfl rfl) rfl rfl trivial ?_
      refine be rfl ?_
      refine k_then ?_
      refine t_condT rfl ?_
      refine t_seq ?_
      refine b0 ?_
      refine o1 rfl (det_assign rfl) rfl rfl trivial ?_
      refine be rfl ?_
      refine k_then ?_
      refine t_ret (k_thenR (?_))
      refine ret_tmp rfl rfl rfl (fun w1 hs => ?_)
      first | exact ⟨rfl, hs.keep⟩ | exact ⟨by grind [okI], hs.keep⟩
    ·
      refine o1 rfl (det_fieldAddr fld55_4 rfl) rfl rfl ⟨_, rfl, rfl⟩ ?_
      refine o1 rfl (det_load1 t1_3 rfl rfl (.head _) rfl) rfl rfl ⟨_, rfl, rfl⟩ ?_
      refine o1 rfl (det_call hb88 rfl rfl (fun w1 hs => within_ok hs.know)) rfl rfl ⟨_, rfl, rfl⟩ ?_
      refine o1 rfl (det_not rfl) rfl rfl ⟨_, rfl, rfl⟩ ?_
      refine o1 rfl (det_pickF rfl rfl) rfl rfl trivial ?_
      refine o2P not_iff_false rfl (det_move rfl) rfl rfl trivial (fun hb => ?_) (fun hb => ?_)
      ·
        refine on rfl rfl rfl ⟨_, rfl, .inl rfl⟩ ?_
        refine on rfl rfl rfl ⟨_, rfl, .inl rfl⟩ ?_
        refine on rfl rfl rfl ⟨_, rfl, .inl rfl⟩ ?_
        refine on rfl rfl rfl ⟨_, rfl, .inl rfl⟩ ?_
        refine o1 rfl (det_pickT rfl rfl) rfl rfl trivial ?_
        refine o1 rfl (det_move rfl) rfl rfl trivial ?_
        refine on rfl rfl rfl ⟨_, rfl, .inl rfl⟩ ?_
        refine on rfl rfl rfl ⟨_, rfl, .inl rfl⟩ ?_
        refine on rfl rfl rfl ⟨_, rfl, .inl rfl⟩ ?_
        refine on rfl rfl rfl ⟨_, rfl, .inl rfl⟩ ?_
        refine o1 rfl (det_pickT rfl rfl) rfl rfl trivial ?_
        refine be rfl ?_
        refine k_then ?_
        refine t_condT rfl ?_
        refine t_seq ?_
        refine b0 ?_
        refine o1 rfl (det_assign rfl) rfl rfl trivial ?_
        refine be rfl ?_
        refine k_then ?_
        refine t_ret (k_thenR (?_))
        refine ret_tmp rfl rfl rfl (fun w1 hs => ?_)
        first | exact ⟨rfl, hs.keep⟩ | exact ⟨by grind [okI], hs.keep⟩
      ·
        refine o1 rfl (det_fieldAddr fld55_2 rfl) rfl rfl ⟨_, rfl, rfl⟩ ?_
        refine o1 rfl (det_load1 t1_3 rfl rfl (.head _) rfl) rfl rfl ⟨_, rfl, rfl⟩ ?_
        refine o1 rfl (det_call hb88 rfl rfl (fun w1 hs => within_ok hs.know)) rfl rfl ⟨_, rfl, rfl⟩ ?_
        refine o1 rfl (det_not rfl) rfl rfl ⟨_, rfl, rfl⟩ ?_
        refine o1 rfl (det_pickF rfl rfl) rfl rfl trivial ?_
        refine o2P not_iff_false rfl (det_move rfl) rfl rfl trivial (fun hb => ?_) (fun hb => ?_)
        ·
          refine on rfl rfl rfl ⟨_, rfl, .inl rfl⟩ ?_
          refine on rfl rfl rfl ⟨_, rfl, .inl rfl⟩ ?_
          refine on rfl rfl rfl ⟨_, rfl, .inl rfl⟩ ?_
          refine on rfl rfl rfl ⟨_, rfl, .inl rfl⟩ ?_
          refine o1 rfl (det_pickT rfl rfl) rfl rfl trivial ?_
          refine be rfl ?_
          refine k_then ?_
          refine t_condT rfl ?_
          refine t_seq ?_
          refine b0 ?_
          refine o1 rfl (det_assign rfl) rfl rfl trivial ?_
          refine be rfl ?_
          refine k_then ?_
          refine t_ret (k_thenR (?_))
          refine ret_tmp rfl rfl rfl (fun w1 hs => ?_)
          first | exact ⟨rfl, hs.keep⟩ | exact ⟨by grind [okI], hs.keep⟩
        ·
          refine o1 rfl (det_fieldAddr fld55_3 rfl) rfl rfl ⟨_, rfl, rfl⟩ ?_
          refine o1 rfl (det_load1 t1_3 rfl rfl (.head _) rfl) rfl rfl ⟨_, rfl, rfl⟩ ?_
          refine o1 rfl (det_call hb88 rfl rfl (fun w1 hs => within_ok hs.know)) rfl rfl ⟨_, rfl, rfl⟩ ?_
          refine o1 rfl (det_not rfl) rfl rfl ⟨_, rfl, rfl⟩ ?_
          refine o1 rfl (det_pickF rfl rfl) rfl rfl trivial ?_
          refine be rfl ?_
          refine k_then ?_
          refine t_condP not_iff_false rfl (fun hb => ?_) (fun hb => ?_)
          ·
            refine t_seq ?_
            refine b0 ?_
            refine o1 rfl (det_assign rfl) rfl rfl trivial ?_
            refine be rfl ?_
            refine k_then ?_
            refine t_ret (k_thenR (?_))
            refine ret_tmp rfl rfl rfl (fun w1 hs => ?_)
            first | exact ⟨rfl, hs.keep⟩ | exact ⟨by grind [okI], hs.keep⟩
          ·
            refine t_skip ?_
            refine k_then ?_
            refine t_seq ?_
            refine b0 ?_
            refine o1 rfl (det_assign rfl) rfl rfl trivial ?_
            refine be rfl ?_
            refine k_then ?_
            refine t_ret ?_
            refine ret_tmp rfl rfl rfl (fun w1 hs => ?_)
            first | exact ⟨rfl, hs.keep⟩ | exact ⟨by grind [okI], hs.keep⟩
theorem whole_ok {w : World} {F : Know} (hF : ∀ a v, F a = some v → w.cell? a = some v) {x : It} : Pure Try.prog 87 [.agg [.int .i64 x.st, .int .i64 x.sq, .int .i64 x.cl, .int .i64 x.sz, .int .i64 x.sn].toArray] w (.agg [.int .i64 x.st, .int .i64 x.sq, .int .i64 x.cl, .int .i64 x.sz, .int .i64 x.sn, .int .i64 x.sz, .bool false].toArray) := by
  refine fn_pure (F := F) Try.func87 rfl Try.ntmps87 rfl hF ?_
  refine t_seq ?_
  refine b0 ?_
  refine om1 rfl (new_boxN rfl) rfl rfl trivial (fun p1 => ?_)
  refine om1 rfl (new_alloc z57) rfl rfl trivial (fun p2 => ?_)
  refine be rfl ?_
  refine k_then ?_
  refine t_seq ?_
  refine b0 ?_
  refine o1 rfl (det_loadN tN55 rfl rfl (.tail _ (.head _)) rfl) rfl rfl trivial ?_
  refine o1 rfl (det_fieldAddr fld55_3 rfl) rfl rfl trivial ?_
  refine o1 rfl (det_load1 t1_3 rfl rfl (.tail _ (.head _)) rfl) rfl rfl trivial ?_
  refine o1 rfl (det_build rfl (fun w => bld57_0_1 _ _ _ _ _ _ w)) rfl rfl trivial ?_
  refine stN nofun rfl tN57 rfl rfl rfl .head rfl trivial rfl rfl ?_
  refine be rfl ?_
  refine k_then ?_
  refine t_ret ?_
  refine ret_any (vs := [_]) rfl rfl ⟨(.cellN tN57 rfl rfl (.head _) rfl), trivial⟩ rfl (fun w1 hs => ?_)
  first | exact ⟨rfl, hs.keep⟩ | exact ⟨by grind [], hs.keep⟩
theorem cpart_ok {w : World} {F : Know} (hF : ∀ a v, F a = some v → w.cell? a = some v) {p : Pt} : Pure Try.prog 53 [.agg [.int .i64 p.it.st, .int .i64 p.it.sq, .int .i64 p.it.cl, .int .i64 p.it.sz, .int .i64 p.it.sn, .int .i64 p.left, .bool p.rest].toArray] w (.int .i64 (if okP p then 0 else 460)) := by
  refine fn_pure (F := F) Try.func53 rfl Try.ntmps53 rfl hF ?_
  refine t_seq ?_
  refine b0 ?_
  refine om1 rfl (new_boxN rfl) rfl rfl trivial (fun p1 => ?_)
  refine o1 rfl (det_assign rfl) rfl rfl trivial ?_
  refine be rfl ?_
  refine k_then ?_
  refine t_seq ?_
  refine t_seq ?_
  refine b0 ?_
  refine o1 rfl (det_fieldAddr fld57_0 rfl) rfl rfl trivial ?_
  refine o1 rfl (det_loadN tN55 rfl rfl (.head _) rfl) rfl rfl trivial ?_
  refine o1 rfl (det_call hb77 rfl rfl (fun w1 hs => citem_ok hs.know)) rfl rfl trivial ?_
  refine o1 rfl (det_assign rfl) rfl rfl trivial ?_
  refine be rfl ?_
  refine k_then ?_
  refine t_seq ?_
  refine b0 ?_
  refine o1 rfl (det_move rfl) rfl rfl trivial ?_
  refine o1 rfl (det_neq rfl rfl) rfl rfl trivial ?_
  refine be rfl ?_
  refine k_then ?_
  refine t_condP bne_iff_ne rfl (fun hb => ?_) (fun hb => ?_)
  ·
    refine t_seq ?_
    refine b0 ?_
    refine o1 rfl (det_move rfl) rfl rfl trivial ?_
    refine o1 rfl (det_assign rfl) rfl rfl trivial ?_
    refine be rfl ?_
    refine k_then ?_
    refine t_ret (k_thenR (?_))
    refine ret_tmp rfl rfl rfl (fun w1 hs => ?_)
    first | exact ⟨rfl, hs.keep⟩ | exact ⟨by grind [okP, okI], hs.keep⟩
  ·
    refine t_skip ?_
    refine k_then ?_
    refine t_seq ?_
    refine t_seq ?_
    refine bD mixed ?_
    refine r_seg 24 24 [] [0, 1, 2, 3, 4, 5, 6, 7, 8, 9, 10, 11, 12, 13, 14, 15, 16, 17, 18, 19, 20, 21, 22, 23] (by kernel_rfl) ?_
    refine s1 rfl (det_loadN tN57 rfl rfl (.head _) rfl) rfl rfl trivial rfl ?_
    refine s1 rfl (det_fieldAddr fld57_0 rfl) rfl rfl trivial rfl ?_
    refine s1 rfl (det_loadN tN55 rfl rfl (.head _) rfl) rfl rfl trivial rfl ?_
    refine s1 rfl (det_call hb87 rfl rfl (fun w1 hs => whole_ok hs.know)) rfl rfl trivial rfl ?_
    refine s1 rfl (det_eqlS rfl rfl eqg57 (fun w => eq57 _ _ _ _ _ _ _ _ _ _ _ _ _ _ w)) rfl rfl trivial rfl ?_
    refine s2P Iff.rfl rfl (det_move rfl) rfl rfl trivial rfl (fun hb => ?_) (fun hb => ?_)
    ·
      refine sn rfl rfl rfl ⟨_, rfl, .inl rfl⟩ ?_
      refine sn rfl rfl rfl ⟨_, rfl, .inl rfl⟩ ?_
      refine sn rfl rfl rfl ⟨_, rfl, .inl rfl⟩ ?_
      refine sn rfl rfl rfl ⟨_, rfl, .inr rfl⟩ ?_
      refine sn rfl rfl rfl ⟨_, rfl, .inr rfl⟩ ?_
      refine sn rfl rfl rfl ⟨_, rfl, .inr rfl⟩ ?_
      refine sn rfl rfl rfl ⟨_, rfl, .inr rfl⟩ ?_
      refine sn rfl rfl rfl ⟨_, rfl, .inl rfl⟩ ?_
      refine sn rfl rfl rfl ⟨_, rfl, .inl rfl⟩ ?_
      refine sn rfl rfl rfl ⟨_, rfl, .inr rfl⟩ ?_
      refine sn rfl rfl rfl ⟨_, rfl, .inr rfl⟩ ?_
      refine sn rfl rfl rfl ⟨_, rfl, .inr rfl⟩ ?_
      refine sn rfl rfl rfl ⟨_, rfl, .inr rfl⟩ ?_
      refine sn rfl rfl rfl ⟨_, rfl, .inr rfl⟩ ?_
      refine sn rfl rfl rfl ⟨_, rfl, .inr rfl⟩ ?_
      refine sn rfl rfl rfl ⟨_, rfl, .inr rfl⟩ ?_
      refine sn rfl rfl rfl ⟨_, rfl, .inl rfl⟩ ?_
      refine s1 rfl (det_pickT rfl rfl) rfl rfl trivial rfl ?_
      refine sg_nil ?_
      refine be rfl ?_
      refine k_then ?_
      refine t_condT rfl ?_
      refine t_seq ?_
      refine b0 ?_
      refine o1 rfl (det_assign rfl) rfl rfl trivial ?_
      refine be rfl ?_
      refine k_then ?_
      refine t_ret (k_thenR (?_))
      refine ret_tmp rfl rfl rfl (fun w1 hs => ?_)
      first | exact ⟨rfl, hs.keep⟩ | exact ⟨by grind [okP, okI], hs.keep⟩
    ·
      refine s1 rfl (det_fieldAddr fld57_2 rfl) rfl rfl ⟨_, rfl, rfl⟩ rfl ?_
      refine s1 rfl (det_load1 t1_4 rfl rfl (.head _) rfl) rfl rfl ⟨_, rfl, rfl⟩ rfl ?_
      refine s2P Iff.rfl rfl (det_move rfl) rfl rfl ⟨_, rfl, rfl⟩ rfl (fun hb => ?_) (fun hb => ?_)
      ·
        refine s1 rfl (det_fieldAddr fld57_0 rfl) rfl rfl ⟨_, rfl, rfl⟩ rfl ?_
        refine s1 rfl (det_fieldAddr fld55_2 rfl) rfl rfl ⟨_, rfl, rfl⟩ rfl ?_
        refine s1 rfl (det_load1 t1_3 rfl rfl (.head _) rfl) rfl rfl ⟨_, rfl, rfl⟩ rfl ?_
        refine s1 rfl (det_lss rfl rfl) rfl rfl ⟨_, rfl, rfl⟩ rfl ?_
        refine s1 rfl (det_pickT rfl rfl) rfl rfl ⟨_, rfl, rfl⟩ rfl ?_
        refine s2P decide_eq_true_iff rfl (det_move rfl) rfl rfl ⟨_, rfl, rfl⟩ rfl (fun hb => ?_) (fun hb => ?_)
        ·
          refine s1 rfl (det_fieldAddr fld57_1 rfl) rfl rfl ⟨_, rfl, rfl⟩ rfl ?_
          refine s1 rfl (det_load1 t1_3 rfl rfl (.head _) rfl) rfl rfl ⟨_, rfl, rfl⟩ rfl ?_
          refine s1 rfl (det_fieldAddr fld57_0 rfl) rfl rfl ⟨_, rfl, rfl⟩ rfl ?_
          refine s1 rfl (det_fieldAddr fld55_3 rfl) rfl rfl ⟨_, rfl, rfl⟩ rfl ?_
          refine s1 rfl (det_load1 t1_3 rfl rfl (.head _) rfl) rfl rfl ⟨_, rfl, rfl⟩ rfl ?_
          have hsz2 : 84 ≤ p.it.sz ∧ p.it.sz ≤ 1542 := by grind [okI]
          first | (refine s1 rfl (det_subI rfl rfl ?_) rfl rfl ⟨_, rfl, rfl⟩ rfl ?_; (· omega)) | refine s1 rfl (det_sub rfl rfl) rfl rfl ⟨_, rfl, rfl⟩ rfl ?_
          refine s1 rfl (det_call hb88 rfl rfl (fun w1 hs => within_ok hs.know)) rfl rfl ⟨_, rfl, rfl⟩ rfl ?_
          refine s1 rfl (det_pickT rfl rfl) rfl rfl ⟨_, rfl, rfl⟩ rfl ?_
          refine s1 rfl (det_pickF rfl rfl) rfl rfl trivial rfl ?_
          refine sg_nil ?_
          refine be rfl ?_
          refine k_then ?_
          refine t_condP Iff.rfl rfl (fun hb => ?_) (fun hb => ?_)
          ·
            refine t_seq ?_
            refine b0 ?_
            refine o1 rfl (det_assign rfl) rfl rfl trivial ?_
            refine be rfl ?_
            refine k_then ?_
            refine t_ret (k_thenR (?_))
            refine ret_tmp rfl rfl rfl (fun w1 hs => ?_)
            first | exact ⟨rfl, hs.keep⟩ | exact ⟨by grind [okP, okI], hs.keep⟩
          ·
            refine t_skip ?_
            refine k_then ?_
            refine t_seq ?_
            refine b0 ?_
            refine o1 rfl (det_assign rfl) rfl rfl trivial ?_
            refine be rfl ?_
            refine k_then ?_
            refine t_ret ?_
            refine ret_tmp rfl rfl rfl (fun w1 hs => ?_)
            first | exact ⟨rfl, hs.keep⟩ | exact ⟨by grind [okP, okI], hs.keep⟩
        ·
          refine sn rfl rfl rfl ⟨_, rfl, .inl rfl⟩ ?_
          refine sn rfl rfl rfl ⟨_, rfl, .inl rfl⟩ ?_
          refine sn rfl rfl rfl ⟨_, rfl, .inl rfl⟩ ?_
          refine sn rfl rfl rfl ⟨_, rfl, .inl rfl⟩ ?_
          refine sn rfl rfl rfl ⟨_, rfl, .inl rfl⟩ ?_
          refine sn rfl rfl rfl ⟨_, rfl, .inl rfl⟩ ?_
          refine sn rfl rfl rfl ⟨_, rfl, .inl rfl⟩ ?_
          refine s1 rfl (det_pickF rfl rfl) rfl rfl ⟨_, rfl, rfl⟩ rfl ?_
          refine s1 rfl (det_pickF rfl rfl) rfl rfl trivial rfl ?_
          refine sg_nil ?_
          refine be rfl ?_
          refine k_then ?_
          refine t_condF rfl ?_
          refine t_skip ?_
          refine k_then ?_
          refine t_seq ?_
          refine b0 ?_
          refine o1 rfl (det_assign rfl) rfl rfl trivial ?_
          refine be rfl ?_
          refine k_then ?_
          refine t_ret ?_
          refine ret_tmp rfl rfl rfl (fun w1 hs => ?_)
          first | exact ⟨rfl, hs.keep⟩ | exact ⟨by grind [okP, okI], hs.keep⟩
      ·
        refine sn rfl rfl rfl ⟨_, rfl, .inl rfl⟩ ?_
        refine sn rfl rfl rfl ⟨_, rfl, .inl rfl⟩ ?_
        refine sn rfl rfl rfl ⟨_, rfl, .inl rfl⟩ ?_
        refine sn rfl rfl rfl ⟨_, rfl, .inl rfl⟩ ?_
        refine s1 rfl (det_pickF rfl rfl) rfl rfl ⟨_, rfl, rfl⟩ rfl ?_
        refine s1 rfl (det_move rfl) rfl rfl ⟨_, rfl, rfl⟩ rfl ?_
        refine sn rfl rfl rfl ⟨_, rfl, .inl rfl⟩ ?_
        refine sn rfl rfl rfl ⟨_, rfl, .inl rfl⟩ ?_
        refine sn rfl rfl rfl ⟨_, rfl, .inl rfl⟩ ?_
        refine sn rfl rfl rfl ⟨_, rfl, .inl rfl⟩ ?_
        refine sn rfl rfl rfl ⟨_, rfl, .inl rfl⟩ ?_
        refine sn rfl rfl rfl ⟨_, rfl, .inl rfl⟩ ?_
        refine sn rfl rfl rfl ⟨_, rfl, .inl rfl⟩ ?_
        refine s1 rfl (det_pickF rfl rfl) rfl rfl ⟨_, rfl, rfl⟩ rfl ?_
        refine s1 rfl (det_pickF rfl rfl) rfl rfl trivial rfl ?_
        refine sg_nil ?_
        refine be rfl ?_
        refine k_then ?_
        refine t_condF rfl ?_
        refine t_skip ?_
        refine k_then ?_
        refine t_seq ?_
        refine b0 ?_
        refine o1 rfl (det_assign rfl) rfl rfl trivial ?_
        refine be rfl ?_
        refine k_then ?_
        refine t_ret ?_
        refine ret_tmp rfl rfl rfl (fun w1 hs => ?_)
        first | exact ⟨rfl, hs.keep⟩ | exact ⟨by grind [okP, okI], hs.keep⟩
end Go.Proofs.Cp

/-
  Walks through layers 36, 37 and 38 and their references.
-/
namespace Go.Proofs.Cp
open Go Go.Eng Go.Gt Go.Proofs.Gt Go.Sw Go.Qu Go.Ch
set_option maxRecDepth 4000
theorem ln_cells {F : Know} {l : Ln} {q : Nat} (h : ∀ j, j < 4 → F ((⟨q, 0, none⟩ : Addr).add j) = (lnv l)[j]?) : ∀ j, j < 2 → F ((⟨q, 0, none⟩ : Addr).add j) = (glv l.g)[j]? := fun j hj => by
  rw [h j (by omega)]
  match j, hj with
  | 0, _ => rfl
  | 1, _ => rfl
theorem cl1_ok {w : World} {F : Know} (hF : ∀ a v, F a = some v → w.cell? a = some v) {l : Ln} (hl : LnK F l) {q : Nat} (h1 : ∀ j, j < 4 → F ((⟨q, 0, none⟩ : Addr).add j) = (lnv l)[j]?) : Pure Try.prog 49 [.pointer (some ⟨q, 0, none⟩)] w (.bool (okG l.g.es l.g.cyc)) := by
  refine fn_pure (F := F) Try.func49 rfl Try.ntmps49 rfl hF ?_
  refine t_seq ?_
  refine b0 ?_
  refine o1 rfl (det_assign rfl) rfl rfl trivial ?_
  refine be rfl ?_
  refine k_then ?_
  refine t_seq ?_
  refine b0 ?_
  refine o1 rfl (det_fieldAddr fld26_0 rfl) rfl rfl trivial ?_
  refine o1 rfl (det_loadKN tN24 rfl (glv_len l.g) (ln_cells h1)) rfl rfl trivial ?_
  refine o1 rfl (det_call hb42 rfl rfl (fun w1 hs => check_ok hs.know hl)) rfl rfl trivial ?_
  refine o1 rfl (det_eql rfl rfl) rfl rfl trivial ?_
  refine o1 rfl (det_assign rfl) rfl rfl trivial ?_
  refine be rfl ?_
  refine k_then ?_
  refine t_ret ?_
  refine ret_tmp rfl rfl rfl (fun w1 hs => ?_)
  exact ⟨by cases h : okG l.g.es l.g.cyc <;> simp, hs.keep⟩
theorem cl2_ok {w : World} {F : Know} (hF : ∀ a v, F a = some v → w.cell? a = some v) {l : Ln} {q : Nat} (h1 : ∀ j, j < 4 → F ((⟨q, 0, none⟩ : Addr).add j) = (lnv l)[j]?) : Pure Try.prog 50 [.pointer (some ⟨q, 0, none⟩)] w (.bool (decide (1 ≤ l.per ∧ l.per ≤ 1000))) := by
  refine fn_pure (F := F) Try.func50 rfl Try.ntmps50 rfl hF ?_
  refine t_seq ?_
  refine b0 ?_
  refine o1 rfl (det_assign rfl) rfl rfl trivial ?_
  refine be rfl ?_
  refine k_then ?_
  refine t_seq ?_
  refine b0 ?_
  refine o1 rfl (det_fieldAddr fld26_1 rfl) rfl rfl trivial ?_
  refine o1 rfl (det_loadK t1_3 rfl (h1 2 (by decide))) rfl rfl trivial ?_
  refine o1 rfl (det_geq rfl rfl) rfl rfl trivial ?_
  refine o2P decide_eq_true_iff rfl (det_move rfl) rfl rfl trivial (fun hb => ?_) (fun hb => ?_)
  ·
    refine o1 rfl (det_fieldAddr fld26_1 rfl) rfl rfl ⟨_, rfl, rfl⟩ ?_
    refine o1 rfl (det_loadK t1_3 rfl (h1 2 (by decide))) rfl rfl ⟨_, rfl, rfl⟩ ?_
    refine o1 rfl (det_leq rfl rfl) rfl rfl ⟨_, rfl, rfl⟩ ?_
    refine o1 rfl (det_pickT rfl rfl) rfl rfl trivial ?_
    refine o1 rfl (det_assign rfl) rfl rfl trivial ?_
    refine be rfl ?_
    refine k_then ?_
    refine t_ret ?_
    refine ret_tmp rfl rfl rfl (fun w1 hs => ?_)
    exact ⟨by grind, hs.keep⟩
  ·
    refine on rfl rfl rfl ⟨_, rfl, .inl rfl⟩ ?_
    refine on rfl rfl rfl ⟨_, rfl, .inl rfl⟩ ?_
    refine on rfl rfl rfl ⟨_, rfl, .inl rfl⟩ ?_
    refine o1 rfl (det_pickF rfl rfl) rfl rfl trivial ?_
    refine o1 rfl (det_assign rfl) rfl rfl trivial ?_
    refine be rfl ?_
    refine k_then ?_
    refine t_ret ?_
    refine ret_tmp rfl rfl rfl (fun w1 hs => ?_)
    exact ⟨by grind, hs.keep⟩
theorem cl3_ok {w : World} {F : Know} (hF : ∀ a v, F a = some v → w.cell? a = some v) {l : Ln} {q : Nat} (h1 : ∀ j, j < 4 → F ((⟨q, 0, none⟩ : Addr).add j) = (lnv l)[j]?) : Pure Try.prog 51 [.pointer (some ⟨q, 0, none⟩)] w (.bool (decide (-1000 ≤ l.sh ∧ l.sh ≤ 1000))) := by
  refine fn_pure (F := F) Try.func51 rfl Try.ntmps51 rfl hF ?_
  refine t_seq ?_
  refine b0 ?_
  refine o1 rfl (det_assign rfl) rfl rfl trivial ?_
  refine be rfl ?_
  refine k_then ?_
  refine t_seq ?_
  refine b0 ?_
  refine o1 rfl (det_fieldAddr fld26_2 rfl) rfl rfl trivial ?_
  refine o1 rfl (det_loadK t1_3 rfl (h1 3 (by decide))) rfl rfl trivial ?_
  refine o1 rfl (det_geq rfl rfl) rfl rfl trivial ?_
  refine o2P decide_eq_true_iff rfl (det_move rfl) rfl rfl trivial (fun hb => ?_) (fun hb => ?_)
  ·
    refine o1 rfl (det_fieldAddr fld26_2 rfl) rfl rfl ⟨_, rfl, rfl⟩ ?_
    refine o1 rfl (det_loadK t1_3 rfl (h1 3 (by decide))) rfl rfl ⟨_, rfl, rfl⟩ ?_
    refine o1 rfl (det_leq rfl rfl) rfl rfl ⟨_, rfl, rfl⟩ ?_
    refine o1 rfl (det_pickT rfl rfl) rfl rfl trivial ?_
    refine o1 rfl (det_assign rfl) rfl rfl trivial ?_
    refine be rfl ?_
    refine k_then ?_
    refine t_ret ?_
    refine ret_tmp rfl rfl rfl (fun w1 hs => ?_)
    exact ⟨by grind, hs.keep⟩
  ·
    refine on rfl rfl rfl ⟨_, rfl, .inl rfl⟩ ?_
    refine on rfl rfl rfl ⟨_, rfl, .inl rfl⟩ ?_
    refine on rfl rfl rfl ⟨_, rfl, .inl rfl⟩ ?_
    refine o1 rfl (det_pickF rfl rfl) rfl rfl trivial ?_
    refine o1 rfl (det_assign rfl) rfl rfl trivial ?_
    refine be rfl ?_
    refine k_then ?_
    refine t_ret ?_
    refine ret_tmp rfl rfl rfl (fun w1 hs => ?_)
    exact ⟨by grind, hs.keep⟩
end Go.Proofs.Cp

/-
  Walks through layers 36, 37 and 38 and their references.
-/
namespace Go.Proofs.Cp
open Go Go.Eng Go.Gt Go.Proofs.Gt Go.Sw Go.Qu Go.Ch
set_option maxRecDepth 4000
theorem cline_ok {w : World} {F : Know} (hF : ∀ a v, F a = some v → w.cell? a = some v) {l : Ln} (hl : LnK F l) : Pure Try.prog 17 [.agg (lnv l).toArray] w (.int .i64 (if okL l then 0 else 471)) := by
  refine fn_pure (F := F) Try.func17 rfl Try.ntmps17 rfl hF ?_
  refine t_seq ?_
  refine b0 ?_
  refine om1 rfl (new_boxN rfl) rfl rfl trivial (fun p1 => ?_)
  refine o1 rfl (det_assign rfl) rfl rfl trivial ?_
  refine be rfl ?_
  refine k_then ?_
  refine t_seq ?_
  refine b0 ?_
  refine o1 rfl (det_makeFunc rfl rfl) rfl rfl trivial ?_
  refine o1 rfl (det_makeFunc rfl rfl) rfl rfl trivial ?_
  refine o1 rfl (det_makeFunc rfl rfl) rfl rfl trivial ?_
  refine o1 rfl (det_build rfl (fun w => bld103_0_1_2 _ _ _ _ _ _ _ _ _ w)) rfl rfl trivial ?_
  refine om1 rfl (new_alloc z103) rfl rfl trivial (fun p3 => ?_)
  refine stN nofun rfl tN103 rfl rfl rfl .head rfl trivial rfl rfl ?_
  refine be rfl ?_
  refine k_then ?_
  refine t_seq ?_
  refine t_seq ?_
  refine b0 ?_
  refine tk_freeze (pre := [_]) rfl (fun F1 hF1 hN1 hK1 => ?_)
  have hp1 : ∀ j, j < 4 → F1 ((⟨p1, 0, none⟩ : Addr).add j) = (lnv l)[j]? := by
    intro j hj
    obtain ⟨u, hu⟩ : ∃ u, (lnv l)[j]? = some u := ⟨_, List.getElem?_eq_getElem (by rw [lnv_len]; exact hj)⟩
    rw [hu, add_mk, Nat.zero_add]
    exact hK1 j u hu
  have hl1 := EntK.mono hl hF1
  refine o1 rfl (det_loadN tN103 rfl rfl (.head _) rfl) rfl rfl trivial ?_
  refine o1 rfl (det_move rfl) rfl rfl trivial ?_
  refine be rfl ?_
  refine k_then ?_
  refine t_block ?_
  refine t_whileM (σ := Nat) (fun s => [(11, .int .i64 (s : Int))]) (fun _ => _) (fun s => 3 - s) (fun s => s ≤ 3 ∧ (0 < s → okG l.g.es l.g.cyc = true) ∧ (1 < s → decide (1 ≤ l.per ∧ l.per ≤ 1000) = true) ∧ (2 < s → decide (-1000 ≤ l.sh ∧ l.sh ≤ 1000) = true)) 0 (env0 := [(10, _)]) ⟨by omega, by omega, by omega, by omega⟩ ⟨rfl, trivial⟩ ⟨rfl, trivial⟩ (.refl _) ?_
  rintro s ⟨hs3, hA, hB, hC⟩
  refine t_seq ?_
  refine b0 ?_
  refine o1 rfl (det_lss rfl rfl) rfl rfl trivial ?_
  refine be rfl ?_
  refine k_then ?_
  refine t_seq ?_
  refine t_condP decide_eq_true_iff rfl (fun hb => ?_) (fun hb => ?_)
  ·
    skip
    refine t_skip ?_
    refine k_then ?_
    refine t_seq ?_
    refine t_block ?_
    refine t_seq ?_
    refine b0 ?_
    have h6 : s = 0 ∨ s = 1 ∨ s = 2 := by omega
    rcases h6 with rfl | rfl | rfl
    ·
      refine o1 rfl (det_index1 ar103 t1_28 rfl rfl (by decide) rfl) rfl rfl trivial ?_
      refine o1 rfl (det_assign rfl) rfl rfl trivial ?_
      refine be rfl ?_
      refine k_then ?_
      refine t_seq ?_
      refine b0 ?_
      refine o1 rfl (det_move rfl) rfl rfl trivial ?_
      refine o1 rfl (det_call hb49 rfl rfl (fun w1 hs => cl1_ok hs.know hl1 hp1)) rfl rfl trivial ?_
      refine o1 rfl (det_not rfl) rfl rfl trivial ?_
      refine be rfl ?_
      refine k_then ?_
      refine t_condP not_iff_false rfl (fun hb => ?_) (fun hb => ?_)
      ·
        refine t_seq ?_
        refine b0 ?_
        refine o1 rfl (det_assign rfl) rfl rfl trivial ?_
        refine be rfl ?_
        refine k_then ?_
        refine t_ret (k_blkR (k_thenR (k_thenR (k_blkR (k_thenR (?_))))))
        refine ret_tmp rfl rfl rfl (fun w1 hs => ?_)
        exact ⟨by rw [if_neg (by unfold okL; grind)], hs.keep⟩
      ·
        refine t_skip ?_
        refine k_blk ?_
        refine k_then ?_
        refine b0 ?_
        first | (refine o1 rfl (det_addI rfl rfl ?_) rfl rfl trivial ?_; (· omega)) | refine o1 rfl (det_add rfl rfl) rfl rfl trivial ?_
        refine o1 rfl (det_move rfl) rfl rfl trivial ?_
        refine be rfl ?_
        refine k_then ?_
        refine loop_back (1) ⟨by omega, by grind, by grind, by grind⟩ (by omega) ⟨rfl, rfl, trivial⟩ (.refl _)
    ·
      refine o1 rfl (det_index1 ar103 t1_28 rfl rfl (by decide) rfl) rfl rfl trivial ?_
      refine o1 rfl (det_assign rfl) rfl rfl trivial ?_
      refine be rfl ?_
      refine k_then ?_
      refine t_seq ?_
      refine b0 ?_
      refine o1 rfl (det_move rfl) rfl rfl trivial ?_
      refine o1 rfl (det_call hb50 rfl rfl (fun w1 hs => cl2_ok hs.know hp1)) rfl rfl trivial ?_
      refine o1 rfl (det_not rfl) rfl rfl trivial ?_
      refine be rfl ?_
      refine k_then ?_
      refine t_condP not_iff_false rfl (fun hb => ?_) (fun hb => ?_)
      ·
        refine t_seq ?_
        refine b0 ?_
        refine o1 rfl (det_assign rfl) rfl rfl trivial ?_
        refine be rfl ?_
        refine k_then ?_
        refine t_ret (k_blkR (k_thenR (k_thenR (k_blkR (k_thenR (?_))))))
        refine ret_tmp rfl rfl rfl (fun w1 hs => ?_)
        exact ⟨by rw [if_neg (by unfold okL; grind)], hs.keep⟩
      ·
        refine t_skip ?_
        refine k_blk ?_
        refine k_then ?_
        refine b0 ?_
        first | (refine o1 rfl (det_addI rfl rfl ?_) rfl rfl trivial ?_; (· omega)) | refine o1 rfl (det_add rfl rfl) rfl rfl trivial ?_
        refine o1 rfl (det_move rfl) rfl rfl trivial ?_
        refine be rfl ?_
        refine k_then ?_
        refine loop_back (2) ⟨by omega, by grind, by grind, by grind⟩ (by omega) ⟨rfl, rfl, trivial⟩ (.refl _)
    ·
      refine o1 rfl (det_index1 ar103 t1_28 rfl rfl (by decide) rfl) rfl rfl trivial ?_
      refine o1 rfl (det_assign rfl) rfl rfl trivial ?_
      refine be rfl ?_
      refine k_then ?_
      refine t_seq ?_
      refine b0 ?_
      refine o1 rfl (det_move rfl) rfl rfl trivial ?_
      refine o1 rfl (det_call hb51 rfl rfl (fun w1 hs => cl3_ok hs.know hp1)) rfl rfl trivial ?_
      refine o1 rfl (det_not rfl) rfl rfl trivial ?_
      refine be rfl ?_
      refine k_then ?_
      refine t_condP not_iff_false rfl (fun hb => ?_) (fun hb => ?_)
      ·
        refine t_seq ?_
        refine b0 ?_
        refine o1 rfl (det_assign rfl) rfl rfl trivial ?_
        refine be rfl ?_
        refine k_then ?_
        refine t_ret (k_blkR (k_thenR (k_thenR (k_blkR (k_thenR (?_))))))
        refine ret_tmp rfl rfl rfl (fun w1 hs => ?_)
        exact ⟨by rw [if_neg (by unfold okL; grind)], hs.keep⟩
      ·
        refine t_skip ?_
        refine k_blk ?_
        refine k_then ?_
        refine b0 ?_
        first | (refine o1 rfl (det_addI rfl rfl ?_) rfl rfl trivial ?_; (· omega)) | refine o1 rfl (det_add rfl rfl) rfl rfl trivial ?_
        refine o1 rfl (det_move rfl) rfl rfl trivial ?_
        refine be rfl ?_
        refine k_then ?_
        refine loop_back (3) ⟨by omega, by grind, by grind, by grind⟩ (by omega) ⟨rfl, rfl, trivial⟩ (.refl _)
  ·
    have hs4 : s = 3 := by omega
    refine t_exit ?_
    refine k_thenE ?_
    refine k_thenE ?_
    refine k_blkE ?_
    refine k_then ?_
    refine t_seq ?_
    refine b0 ?_
    refine o1 rfl (det_assign rfl) rfl rfl trivial ?_
    refine be rfl ?_
    refine k_then ?_
    refine t_ret ?_
    refine ret_tmp rfl rfl rfl (fun w1 hs => ?_)
    exact ⟨by rw [if_pos (by unfold okL; grind)], hs.keep⟩
end Go.Proofs.Cp

/-
  Walks through layers 36, 37 and 38 and their references.
-/
namespace Go.Proofs.Cp
open Go Go.Eng Go.Gt Go.Proofs.Gt Go.Sw Go.Qu Go.Ch
set_option maxRecDepth 4000
theorem cpart_at {w : World} {F : Know} (hF : ∀ a v, F a = some v → w.cell? a = some v) {p : Pt} : Pure Try.prog 53 [.agg (ptv p).toArray] w (.int .i64 (if okP p then 0 else 460)) := cpart_ok hF
theorem cheads_ok {w : World} {F : Know} (hF : ∀ a v, F a = some v → w.cell? a = some v) {A : Option Addr} {n c : Nat} {hs0 : List Pt} (hP : PK F A n hs0) (hnb : n ≤ 100000) : Pure Try.prog 19 [.slice A n c] w (.int .i64 (if okH hs0 then 0 else 470)) := by
  refine fn_pure (F := F) Try.func19 rfl Try.ntmps19 rfl hF ?_
  refine t_seq ?_
  refine b0 ?_
  refine o1 rfl (det_assign rfl) rfl rfl trivial ?_
  refine be rfl ?_
  refine k_then ?_
  refine t_seq ?_
  refine t_seq ?_
  refine b0 ?_
  refine o1 rfl (det_move rfl) rfl rfl trivial ?_
  refine o1 rfl (det_lenS sl27 rfl) rfl rfl trivial ?_
  refine o1 rfl (det_neq rfl rfl) rfl rfl trivial ?_
  refine be rfl ?_
  refine k_then ?_
  refine t_condP bne_iff_ne rfl (fun hb => ?_) (fun hb => ?_)
  ·
    have h8 : hs0.length ≠ 8 := by have := hP.len; omega
    refine t_seq ?_
    refine b0 ?_
    refine o1 rfl (det_assign rfl) rfl rfl trivial ?_
    refine be rfl ?_
    refine k_then ?_
    refine t_ret (k_thenR (?_))
    refine ret_tmp rfl rfl rfl (fun w1 hs => ?_)
    exact ⟨by rw [okH_len h8]; rfl, hs.keep⟩
  ·
    have h8 : hs0.length = 8 := by have := hP.len; omega
    refine t_skip ?_
    refine k_then ?_
    refine t_seq ?_
    refine b0 ?_
    refine o1 rfl (det_assign rfl) rfl rfl trivial ?_
    refine be rfl ?_
    refine k_then ?_
    refine t_seq ?_
    refine t_seq ?_
    refine b0 ?_
    refine o1 rfl (det_move rfl) rfl rfl trivial ?_
    refine o1 rfl (det_lenS sl27 rfl) rfl rfl trivial ?_
    refine o1 rfl (det_move rfl) rfl rfl trivial ?_
    refine be rfl ?_
    refine k_then ?_
    refine t_block ?_
    refine t_whileM (σ := Nat) (fun s => [(3, .int .i64 (restK hs0 s : Int)), (11, .int .i64 (s : Int))]) (fun _ => _) (fun s => 8 - s) (fun s => s ≤ 8 ∧ (∀ k, k < s → okAtH k (atP hs0 k) = true) ∧ restK hs0 s ≤ 1) 0 (env0 := [(9, _), (10, _)]) ⟨by omega, fun k hk => absurd hk (Nat.not_lt_zero k), by simp [restK]⟩ ⟨rfl, rfl, trivial⟩ ⟨rfl, rfl, trivial⟩ (.refl _) ?_
    rintro s ⟨hs8, hI, hr1⟩
    refine t_seq ?_
    refine b0 ?_
    refine o1 rfl (det_lss rfl rfl) rfl rfl trivial ?_
    refine be rfl ?_
    refine k_then ?_
    refine t_seq ?_
    refine t_condP decide_eq_true_iff rfl (fun hb => ?_) (fun hb => ?_)
    ·
      have hlt : s < hs0.length := by have := hP.len; omega
      obtain ⟨A, rfl⟩ := hP.some hlt
      have hrk := restK_succ hlt
      have hat := atP_get hlt
      refine t_skip ?_
      refine k_then ?_
      refine t_seq ?_
      refine t_block ?_
      refine t_seq ?_
      refine b0 ?_
      refine o1 rfl (det_move rfl) rfl rfl trivial ?_
      first | (refine o1 rfl (det_indexAddr sl27 rfl rfl ?_) rfl rfl trivial ?_; (· (first | decide | omega)))
      refine o1 rfl (det_loadKN tN57 rfl (ptv_len hs0[s]) (hP.cells (i := (s : Int)) (k := s) (Int.toNat_natCast s) hlt (ptv_len _))) rfl rfl trivial ?_
      refine om1 rfl (new_alloc z57) rfl rfl trivial (fun p5 => ?_)
      refine o1 rfl (det_assign rfl) rfl rfl trivial ?_
      refine stN nofun rfl tN57 rfl rfl rfl .head rfl trivial rfl rfl ?_
      refine be rfl ?_
      refine k_then ?_
      refine t_seq ?_
      refine t_seq ?_
      refine b0 ?_
      refine o1 rfl (det_loadN tN57 rfl rfl (.head _) rfl) rfl rfl trivial ?_
      refine o1 rfl (det_build rfl (fun w => bld57_ w)) rfl rfl trivial ?_
      refine o1 rfl (det_eqlS rfl rfl eqg57 (fun w => eq57 _ _ _ _ _ _ _ _ _ _ _ _ _ _ w)) rfl rfl trivial ?_
      refine be rfl ?_
      refine k_then ?_
      refine t_condP Iff.rfl rfl (fun hb => ?_) (fun hb => ?_)
      ·
        have hno : noneP (atP hs0 s) = true := by rw [hat]; exact hb
        have hok : okAtH s (atP hs0 s) = true := by unfold okAtH; rw [hno]; rfl
        have hrb : restB (atP hs0 s) = false := by unfold restB; rw [hno]; simp
        rw [hrb] at hrk
        simp only [Bool.false_eq_true, if_false, Nat.add_zero] at hrk
        refine t_exit ?_
        refine k_thenE ?_
        refine k_blkE ?_
        refine k_then ?_
        refine b0 ?_
        first | (refine o1 rfl (det_addI rfl rfl ?_) rfl rfl trivial ?_; (· omega)) | refine o1 rfl (det_add rfl rfl) rfl rfl trivial ?_
        refine o1 rfl (det_move rfl) rfl rfl trivial ?_
        refine be rfl ?_
        refine k_then ?_
        refine loop_back (s + 1) ⟨by omega, fun k hk => by
            by_cases e : k = s
            · subst e; exact hok
            · exact hI k (by omega), by omega⟩ (by omega) ⟨(by rw [hrk]; rfl), rfl, rfl, rfl, trivial⟩ (.cons _ (.refl _))
      ·
        have hno : noneP (atP hs0 s) = false := by rw [hat]; unfold noneP; simpa using hb
        refine t_skip ?_
        refine k_then ?_
        refine t_seq ?_
        refine t_seq ?_
        refine b0 ?_
        refine o1 rfl (det_fieldAddr fld57_2 rfl) rfl rfl trivial ?_
        refine o1 rfl (det_load1 t1_4 rfl rfl (.head _) rfl) rfl rfl trivial ?_
        refine be rfl ?_
        refine k_then ?_
        refine t_condP Iff.rfl rfl (fun hb => ?_) (fun hb => ?_)
        ·
          have hrb : restB (atP hs0 s) = true := by unfold restB; rw [hno, hat, hb]; rfl
          rw [hrb] at hrk
          simp only [if_true] at hrk
          --note:r
          refine b0 ?_
          refine o1 rfl (det_move rfl) rfl rfl trivial ?_
          first | (refine o1 rfl (det_addI rfl rfl ?_) rfl rfl trivial ?_; (· omega)) | refine o1 rfl (det_add rfl rfl) rfl rfl trivial ?_
          refine o1 rfl (det_assign rfl) rfl rfl trivial ?_
          refine be rfl ?_
          refine k_then ?_
          refine t_seq ?_
          refine b0 ?_
          refine o1 rfl (det_loadN tN57 rfl rfl (.head _) rfl) rfl rfl trivial ?_
          refine o1 rfl (det_call hb53 rfl rfl (fun w1 hs => cpart_at hs.know)) rfl rfl trivial ?_
          refine o1 rfl (det_neq rfl rfl) rfl rfl trivial ?_
          refine o2P bne_iff_ne rfl (det_move rfl) rfl rfl trivial (fun hb => ?_) (fun hb => ?_)
          ·
            refine on rfl rfl rfl ⟨_, rfl, .inl rfl⟩ ?_
            refine on rfl rfl rfl ⟨_, rfl, .inl rfl⟩ ?_
            refine on rfl rfl rfl ⟨_, rfl, .inl rfl⟩ ?_
            refine on rfl rfl rfl ⟨_, rfl, .inl rfl⟩ ?_
            refine on rfl rfl rfl ⟨_, rfl, .inl rfl⟩ ?_
            refine o1 rfl (det_pickT rfl rfl) rfl rfl trivial ?_
            refine o1 rfl (det_move rfl) rfl rfl trivial ?_
            refine on rfl rfl rfl ⟨_, rfl, .inl rfl⟩ ?_
            refine on rfl rfl rfl ⟨_, rfl, .inl rfl⟩ ?_
            refine o1 rfl (det_pickT rfl rfl) rfl rfl trivial ?_
            refine be rfl ?_
            refine k_then ?_
            refine t_condT rfl ?_
            refine t_seq ?_
            refine b0 ?_
            refine o1 rfl (det_assign rfl) rfl rfl trivial ?_
            refine be rfl ?_
            refine k_then ?_
            refine t_ret (k_blkR (k_thenR (k_thenR (k_blkR (k_thenR (?_))))))
            refine ret_tmp rfl rfl rfl (fun w1 hs => ?_)
            have hbad : okH hs0 = false := by
              first
              | exact okH_rest (k := s + 1) (by omega)
              | exact okH_at (k := s) (by omega) (by unfold okAtH; rw [hno, hat]; grind)
            exact ⟨by rw [hbad]; rfl, hs.keep⟩
          ·
            refine o1 rfl (det_fieldAddr fld57_0 rfl) rfl rfl ⟨_, rfl, rfl⟩ ?_
            refine o1 rfl (det_fieldAddr fld55_2 rfl) rfl rfl ⟨_, rfl, rfl⟩ ?_
            refine o1 rfl (det_load1 t1_3 rfl rfl (.head _) rfl) rfl rfl ⟨_, rfl, rfl⟩ ?_
            refine o1 rfl (det_move rfl) rfl rfl ⟨_, rfl, rfl⟩ ?_
            refine o1 rfl (det_neq rfl rfl) rfl rfl ⟨_, rfl, rfl⟩ ?_
            refine o1 rfl (det_pickF rfl rfl) rfl rfl trivial ?_
            refine o2P bne_iff_ne rfl (det_move rfl) rfl rfl trivial (fun hb => ?_) (fun hb => ?_)
            ·
              refine on rfl rfl rfl ⟨_, rfl, .inl rfl⟩ ?_
              refine on rfl rfl rfl ⟨_, rfl, .inl rfl⟩ ?_
              refine o1 rfl (det_pickT rfl rfl) rfl rfl trivial ?_
              refine be rfl ?_
              refine k_then ?_
              refine t_condT rfl ?_
              refine t_seq ?_
              refine b0 ?_
              refine o1 rfl (det_assign rfl) rfl rfl trivial ?_
              refine be rfl ?_
              refine k_then ?_
              refine t_ret (k_blkR (k_thenR (k_thenR (k_blkR (k_thenR (?_))))))
              refine ret_tmp rfl rfl rfl (fun w1 hs => ?_)
              have hbad : okH hs0 = false := by
                first
                | exact okH_rest (k := s + 1) (by omega)
                | exact okH_at (k := s) (by omega) (by unfold okAtH; rw [hno, hat]; grind)
              exact ⟨by rw [hbad]; rfl, hs.keep⟩
            ·
              refine o1 rfl (det_move rfl) rfl rfl ⟨_, rfl, rfl⟩ ?_
              refine o1 rfl (det_gtr rfl rfl) rfl rfl ⟨_, rfl, rfl⟩ ?_
              refine o1 rfl (det_pickF rfl rfl) rfl rfl trivial ?_
              refine be rfl ?_
              refine k_then ?_
              refine t_condP decide_eq_true_iff rfl (fun hb => ?_) (fun hb => ?_)
              ·
                have hbad : okH hs0 = false := by
                  first
                  | exact okH_rest (k := s + 1) (by omega)
                  | exact okH_at (k := s) (by omega) (by unfold okAtH; rw [hno, hat]; grind)
                refine t_seq ?_
                refine b0 ?_
                refine o1 rfl (det_assign rfl) rfl rfl trivial ?_
                refine be rfl ?_
                refine k_then ?_
                refine t_ret (k_blkR (k_thenR (k_thenR (k_blkR (k_thenR (?_))))))
                refine ret_tmp rfl rfl rfl (fun w1 hs => ?_)
                have hbad : okH hs0 = false := by
                  first
                  | exact okH_rest (k := s + 1) (by omega)
                  | exact okH_at (k := s) (by omega) (by unfold okAtH; rw [hno, hat]; grind)
                exact ⟨by rw [hbad]; rfl, hs.keep⟩
              ·
                have hok : okAtH s (atP hs0 s) = true := by unfold okAtH; rw [hno, hat]; grind
                refine t_skip ?_
                refine k_blk ?_
                refine k_then ?_
                refine b0 ?_
                first | (refine o1 rfl (det_addI rfl rfl ?_) rfl rfl trivial ?_; (· omega)) | refine o1 rfl (det_add rfl rfl) rfl rfl trivial ?_
                refine o1 rfl (det_move rfl) rfl rfl trivial ?_
                refine be rfl ?_
                refine k_then ?_
                refine loop_back (s + 1) ⟨by omega, fun k hk => by
                    by_cases e : k = s
                    · subst e; exact hok
                    · exact hI k (by omega), by omega⟩ (by omega) ⟨(by rw [hrk]; rfl), rfl, rfl, rfl, trivial⟩ (.cons _ (.refl _))
        ·
          have hrb : restB (atP hs0 s) = false := by unfold restB; rw [hat, show hs0[s].rest = false by simpa using hb]; rfl
          rw [hrb] at hrk
          simp only [Bool.false_eq_true, if_false, Nat.add_zero] at hrk
          refine t_skip ?_
          refine k_then ?_
          refine t_seq ?_
          refine b0 ?_
          refine o1 rfl (det_loadN tN57 rfl rfl (.head _) rfl) rfl rfl trivial ?_
          refine o1 rfl (det_call hb53 rfl rfl (fun w1 hs => cpart_at hs.know)) rfl rfl trivial ?_
          refine o1 rfl (det_neq rfl rfl) rfl rfl trivial ?_
          refine o2P bne_iff_ne rfl (det_move rfl) rfl rfl trivial (fun hb => ?_) (fun hb => ?_)
          ·
            refine on rfl rfl rfl ⟨_, rfl, .inl rfl⟩ ?_
            refine on rfl rfl rfl ⟨_, rfl, .inl rfl⟩ ?_
            refine on rfl rfl rfl ⟨_, rfl, .inl rfl⟩ ?_
            refine on rfl rfl rfl ⟨_, rfl, .inl rfl⟩ ?_
            refine on rfl rfl rfl ⟨_, rfl, .inl rfl⟩ ?_
            refine o1 rfl (det_pickT rfl rfl) rfl rfl trivial ?_
            refine o1 rfl (det_move rfl) rfl rfl trivial ?_
            refine on rfl rfl rfl ⟨_, rfl, .inl rfl⟩ ?_
            refine on rfl rfl rfl ⟨_, rfl, .inl rfl⟩ ?_
            refine o1 rfl (det_pickT rfl rfl) rfl rfl trivial ?_
            refine be rfl ?_
            refine k_then ?_
            refine t_condT rfl ?_
            refine t_seq ?_
            refine b0 ?_
            refine o1 rfl (det_assign rfl) rfl rfl trivial ?_
            refine be rfl ?_
            refine k_then ?_
            refine t_ret (k_blkR (k_thenR (k_thenR (k_blkR (k_thenR (?_))))))
            refine ret_tmp rfl rfl rfl (fun w1 hs => ?_)
            have hbad : okH hs0 = false := by
              first
              | exact okH_rest (k := s + 1) (by omega)
              | exact okH_at (k := s) (by omega) (by unfold okAtH; rw [hno, hat]; grind)
            exact ⟨by rw [hbad]; rfl, hs.keep⟩
          ·
            refine o1 rfl (det_fieldAddr fld57_0 rfl) rfl rfl ⟨_, rfl, rfl⟩ ?_
            refine o1 rfl (det_fieldAddr fld55_2 rfl) rfl rfl ⟨_, rfl, rfl⟩ ?_
            refine o1 rfl (det_load1 t1_3 rfl rfl (.head _) rfl) rfl rfl ⟨_, rfl, rfl⟩ ?_
            refine o1 rfl (det_move rfl) rfl rfl ⟨_, rfl, rfl⟩ ?_
            refine o1 rfl (det_neq rfl rfl) rfl rfl ⟨_, rfl, rfl⟩ ?_
            refine o1 rfl (det_pickF rfl rfl) rfl rfl trivial ?_
            refine o2P bne_iff_ne rfl (det_move rfl) rfl rfl trivial (fun hb => ?_) (fun hb => ?_)
            ·
              refine on rfl rfl rfl ⟨_, rfl, .inl rfl⟩ ?_
              refine on rfl rfl rfl ⟨_, rfl, .inl rfl⟩ ?_
              refine o1 rfl (det_pickT rfl rfl) rfl rfl trivial ?_
              refine be rfl ?_
              refine k_then ?_
              refine t_condT rfl ?_
              refine t_seq ?_
              refine b0 ?_
              refine o1 rfl (det_assign rfl) rfl rfl trivial ?_
              refine be rfl ?_
              refine k_then ?_
              refine t_ret (k_blkR (k_thenR (k_thenR (k_blkR (k_thenR (?_))))))
              refine ret_tmp rfl rfl rfl (fun w1 hs => ?_)
              have hbad : okH hs0 = false := by
                first
                | exact okH_rest (k := s + 1) (by omega)
                | exact okH_at (k := s) (by omega) (by unfold okAtH; rw [hno, hat]; grind)
              exact ⟨by rw [hbad]; rfl, hs.keep⟩
            ·
              refine o1 rfl (det_move rfl) rfl rfl ⟨_, rfl, rfl⟩ ?_
              refine o1 rfl (det_gtr rfl rfl) rfl rfl ⟨_, rfl, rfl⟩ ?_
              refine o1 rfl (det_pickF rfl rfl) rfl rfl trivial ?_
              refine be rfl ?_
              refine k_then ?_
              refine t_condP decide_eq_true_iff rfl (fun hb => ?_) (fun hb => ?_)
              ·
                have hbad : okH hs0 = false := by
                  first
                  | exact okH_rest (k := s + 1) (by omega)
                  | exact okH_at (k := s) (by omega) (by unfold okAtH; rw [hno, hat]; grind)
                refine t_seq ?_
                refine b0 ?_
                refine o1 rfl (det_assign rfl) rfl rfl trivial ?_
                refine be rfl ?_
                refine k_then ?_
                refine t_ret (k_blkR (k_thenR (k_thenR (k_blkR (k_thenR (?_))))))
                refine ret_tmp rfl rfl rfl (fun w1 hs => ?_)
                have hbad : okH hs0 = false := by
                  first
                  | exact okH_rest (k := s + 1) (by omega)
                  | exact okH_at (k := s) (by omega) (by unfold okAtH; rw [hno, hat]; grind)
                exact ⟨by rw [hbad]; rfl, hs.keep⟩
              ·
                have hok : okAtH s (atP hs0 s) = true := by unfold okAtH; rw [hno, hat]; grind
                refine t_skip ?_
                refine k_blk ?_
                refine k_then ?_
                refine b0 ?_
                first | (refine o1 rfl (det_addI rfl rfl ?_) rfl rfl trivial ?_; (· omega)) | refine o1 rfl (det_add rfl rfl) rfl rfl trivial ?_
                refine o1 rfl (det_move rfl) rfl rfl trivial ?_
                refine be rfl ?_
                refine k_then ?_
                refine loop_back (s + 1) ⟨by omega, fun k hk => by
                    by_cases e : k = s
                    · subst e; exact hok
                    · exact hI k (by omega), by omega⟩ (by omega) ⟨(by rw [hrk]; rfl), rfl, rfl, rfl, trivial⟩ (.cons _ (.refl _))
    ·
      have hs8 : s = 8 := by have := hP.len; omega
      refine t_exit ?_
      refine k_thenE ?_
      refine k_thenE ?_
      refine k_blkE ?_
      refine k_then ?_
      refine t_seq ?_
      refine b0 ?_
      refine o1 rfl (det_assign rfl) rfl rfl trivial ?_
      refine be rfl ?_
      refine k_then ?_
      refine t_ret ?_
      refine ret_tmp rfl rfl rfl (fun w1 hs => ?_)
      exact ⟨by rw [okH_true h8 (fun k hk => hI k (by omega)) (by rw [← hs8]; exact hr1)]; rfl, hs.keep⟩
end Go.Proofs.Cp

/-
  Walks through layers 36, 37 and 38 and their references.
-/
namespace Go.Proofs.Cp
open Go Go.Eng Go.Gt Go.Proofs.Gt Go.Sw Go.Qu Go.Ch
set_option maxRecDepth 4000
theorem cvalid_ok {w : World} {F : Know} (hF : ∀ a v, F a = some v → w.cell? a = some v) {l : Ln} (hl : LnK F l) {A : Option Addr} {n c : Nat} {hs0 : List Pt} (hP : PK F A n hs0) (hnb : n ≤ 100000) {t : Int} : Pure Try.prog 56 [.agg (lnv l).toArray, .slice A n c, .int .i64 t] w (.int .i64 (errC l hs0 t)) := by
  refine fn_pure (F := F) Try.func56 rfl Try.ntmps56 rfl hF ?_
  refine t_seq ?_
  refine b0 ?_
  refine om1 rfl (new_boxN rfl) rfl rfl trivial (fun p3 => ?_)
  refine o1 rfl (det_assign rfl) rfl rfl trivial ?_
  refine be rfl ?_
  refine k_then ?_
  refine t_seq ?_
  refine t_seq ?_
  refine b0 ?_
  refine o1 rfl (det_loadN tN26 rfl rfl (.head _) rfl) rfl rfl trivial ?_
  refine o1 rfl (det_call hb17 rfl rfl (fun w1 hs => cline_ok hs.know hl)) rfl rfl trivial ?_
  refine o1 rfl (det_assign rfl) rfl rfl trivial ?_
  refine be rfl ?_
  refine k_then ?_
  refine t_seq ?_
  refine b0 ?_
  refine o1 rfl (det_move rfl) rfl rfl trivial ?_
  refine o1 rfl (det_neq rfl rfl) rfl rfl trivial ?_
  refine be rfl ?_
  refine k_then ?_
  refine t_condP bne_iff_ne rfl (fun hb => ?_) (fun hb => ?_)
  ·
    refine t_seq ?_
    refine b0 ?_
    refine o1 rfl (det_move rfl) rfl rfl trivial ?_
    refine o1 rfl (det_assign rfl) rfl rfl trivial ?_
    refine be rfl ?_
    refine k_then ?_
    refine t_ret (k_thenR (?_))
    refine ret_tmp rfl rfl rfl (fun w1 hs => ?_)
    exact ⟨by unfold errC; grind, hs.keep⟩
  ·
    refine t_skip ?_
    refine k_then ?_
    refine t_seq ?_
    refine t_seq ?_
    refine b0 ?_
    refine o1 rfl (det_move rfl) rfl rfl trivial ?_
    refine o1 rfl (det_call hb19 rfl rfl (fun w1 hs => cheads_ok hs.know hP hnb)) rfl rfl trivial ?_
    refine o1 rfl (det_assign rfl) rfl rfl trivial ?_
    refine be rfl ?_
    refine k_then ?_
    refine t_seq ?_
    refine b0 ?_
    refine o1 rfl (det_move rfl) rfl rfl trivial ?_
    refine o1 rfl (det_neq rfl rfl) rfl rfl trivial ?_
    refine be rfl ?_
    refine k_then ?_
    refine t_condP bne_iff_ne rfl (fun hb => ?_) (fun hb => ?_)
    ·
      refine t_seq ?_
      refine b0 ?_
      refine o1 rfl (det_move rfl) rfl rfl trivial ?_
      refine o1 rfl (det_assign rfl) rfl rfl trivial ?_
      refine be rfl ?_
      refine k_then ?_
      refine t_ret (k_thenR (?_))
      refine ret_tmp rfl rfl rfl (fun w1 hs => ?_)
      exact ⟨by unfold errC; grind, hs.keep⟩
    ·
      refine t_skip ?_
      refine k_then ?_
      refine t_seq ?_
      refine t_seq ?_
      refine b0 ?_
      refine o1 rfl (det_move rfl) rfl rfl trivial ?_
      refine o1 rfl (det_lss rfl rfl) rfl rfl trivial ?_
      refine o2P decide_eq_true_iff rfl (det_move rfl) rfl rfl trivial (fun hb => ?_) (fun hb => ?_)
      ·
        refine on rfl rfl rfl ⟨_, rfl, .inl rfl⟩ ?_
        refine on rfl rfl rfl ⟨_, rfl, .inl rfl⟩ ?_
        refine o1 rfl (det_pickT rfl rfl) rfl rfl trivial ?_
        refine be rfl ?_
        refine k_then ?_
        refine t_condT rfl ?_
        refine t_seq ?_
        refine b0 ?_
        refine o1 rfl (det_assign rfl) rfl rfl trivial ?_
        refine be rfl ?_
        refine k_then ?_
        refine t_ret (k_thenR (?_))
        refine ret_tmp rfl rfl rfl (fun w1 hs => ?_)
        exact ⟨by unfold errC; grind, hs.keep⟩
      ·
        refine o1 rfl (det_move rfl) rfl rfl ⟨_, rfl, rfl⟩ ?_
        refine o1 rfl (det_gtr rfl rfl) rfl rfl ⟨_, rfl, rfl⟩ ?_
        refine o1 rfl (det_pickF rfl rfl) rfl rfl trivial ?_
        refine be rfl ?_
        refine k_then ?_
        refine t_condP decide_eq_true_iff rfl (fun hb => ?_) (fun hb => ?_)
        ·
          refine t_seq ?_
          refine b0 ?_
          refine o1 rfl (det_assign rfl) rfl rfl trivial ?_
          refine be rfl ?_
          refine k_then ?_
          refine t_ret (k_thenR (?_))
          refine ret_tmp rfl rfl rfl (fun w1 hs => ?_)
          exact ⟨by unfold errC; grind, hs.keep⟩
        ·
          refine t_skip ?_
          refine k_then ?_
          refine t_seq ?_
          refine b0 ?_
          refine o1 rfl (det_assign rfl) rfl rfl trivial ?_
          refine be rfl ?_
          refine k_then ?_
          refine t_ret ?_
          refine ret_tmp rfl rfl rfl (fun w1 hs => ?_)
          exact ⟨by unfold errC; grind, hs.keep⟩
end Go.Proofs.Cp

/-
  Walks through layers 36, 37 and 38 and their references.
-/
namespace Go.Proofs.Cp
open Go Go.Eng Go.Gt Go.Proofs.Gt Go.Sw Go.Qu Go.Ch
set_option maxRecDepth 4000
theorem long_ok {w : World} {F : Know} (hF : ∀ a v, F a = some v → w.cell? a = some v) {l : Ln} {A : Option Addr} {n c : Nat} {hs0 : List Pt} (hP : PK F A n hs0) (h8 : hs0.length = 8) {cl : Int} (hcl : 0 ≤ cl ∧ cl ≤ 7) (hper : 1 ≤ l.per ∧ l.per ≤ 1000) (hleft : 0 ≤ (atP hs0 cl.toNat).left ∧ (atP hs0 cl.toNat).left ≤ 1542) : Pure Try.prog 65 [.agg [.slice l.g.A l.g.n l.g.cap, .int .i64 l.g.cyc, .int .i64 l.per, .int .i64 l.sh, .slice A n c].toArray, .int .i64 cl] w (.int .i64 (longC l hs0 cl)) := by
  have hnl := hP.len
  have hlt : cl.toNat < hs0.length := by omega
  obtain ⟨A, rfl⟩ := hP.some hlt
  refine fn_pure (F := F) Try.func65 rfl Try.ntmps65 rfl hF ?_
  refine t_seq ?_
  refine b0 ?_
  refine om1 rfl (new_boxN rfl) rfl rfl trivial (fun p2 => ?_)
  refine o1 rfl (det_assign rfl) rfl rfl trivial ?_
  refine be rfl ?_
  refine k_then ?_
  refine t_seq ?_
  refine bD mixed ?_
  refine r_seg 11 11 [] [0, 1, 2, 3, 4, 5, 6, 7, 8, 9, 10] (by kernel_rfl) ?_
  refine s1 rfl (det_fieldAddr fld107_1 rfl) rfl rfl trivial rfl ?_
  refine s1 rfl (det_load1 t1_27 rfl rfl (.head _) rfl) rfl rfl trivial rfl ?_
  refine s1 rfl (det_move rfl) rfl rfl trivial rfl ?_
  first | (refine s1 rfl (det_indexAddr sl27 rfl rfl ?_) rfl rfl trivial rfl ?_; (· (first | decide | omega)))
  refine s1 rfl (det_fieldAddr fld57_1 rfl) rfl rfl trivial rfl ?_
  refine s1 rfl (det_loadK t1_3 rfl (hP.cell (i := cl) (k := cl.toNat) rfl hlt (j := 5) (u := .int .i64 (atP hs0 cl.toNat).left) (by rw [atP_get hlt]; rfl))) rfl rfl trivial rfl ?_
  refine s1 rfl (det_fieldAddr fld107_0 rfl) rfl rfl trivial rfl ?_
  refine s1 rfl (det_fieldAddr fld26_1 rfl) rfl rfl trivial rfl ?_
  refine s1 rfl (det_load1 t1_3 rfl rfl (.head _) rfl) rfl rfl trivial rfl ?_
  have hm : 0 ≤ (atP hs0 cl.toNat).left * l.per ∧ (atP hs0 cl.toNat).left * l.per ≤ 1542 * 1000 := ⟨Int.mul_nonneg hleft.1 (by omega), Int.mul_le_mul hleft.2 hper.2 (by omega) (by decide)⟩
  first | (refine s1 rfl (det_mulI rfl rfl ?_) rfl rfl trivial rfl ?_; (· omega)) | refine s1 rfl (det_mul rfl rfl) rfl rfl trivial rfl ?_
  refine s1 rfl (det_assign rfl) rfl rfl trivial rfl ?_
  refine sg_nil ?_
  refine be rfl ?_
  refine k_then ?_
  refine t_ret ?_
  refine ret_tmp rfl rfl rfl (fun w1 hs => ?_)
  exact ⟨rfl, hs.keep⟩
end Go.Proofs.Cp
