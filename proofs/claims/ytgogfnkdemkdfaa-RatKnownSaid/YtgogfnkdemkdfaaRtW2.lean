/-
  Walks through layer 2 and its reference.
-/
import Derived.Test.YtgogfnkdemkdfaaRtW1
namespace Go.Proofs.Rt
open Go Go.Eng Go.Rt
set_option maxRecDepth 4000

/-- rat.check. -/
theorem chk_ok {w : World} {F : Know} (hF : ∀ a v, F a = some v → w.cell? a = some v) {A : Option Addr} {n cap : Nat} {xs : Prs} (hX : PairsK F A n xs) (hlen : xs.length ≤ 4) : Pure Try.prog 38 [.slice A n cap] w (.int .i64 (if xs.all validE = true then 0 else 120)) := by
  refine fn_pure (F := F) Try.func38 rfl Try.ntmps38 rfl hF ?_
  refine t_seq ?_
  refine b0 ?_
  refine o1 rfl (det_assign rfl) rfl rfl trivial ?_
  refine be rfl ?_
  refine k_then ?_
  refine t_seq ?_
  refine t_seq ?_
  refine b0 ?_
  refine o1 rfl (det_move rfl) rfl rfl trivial ?_
  refine o1 rfl (det_lenS sl61 rfl) rfl rfl trivial ?_
  refine o1 rfl (det_move rfl) rfl rfl trivial ?_
  refine be rfl ?_
  refine k_then ?_
  refine t_block ?_
  refine t_whileM (σ := Nat) (fun s => [(7, .int .i64 (s : Int))]) (fun _ => _) (fun s => xs.length - s) (fun s => s ≤ xs.length ∧ (xs.take s).all validE = true) 0 (env0 := [(5, _), (6, _)]) ⟨Nat.zero_le _, rfl⟩ ⟨rfl, trivial⟩ ⟨rfl, rfl, trivial⟩ (.refl _) ?_
  rintro s ⟨hk, hall⟩
  refine t_seq ?_
  refine b0 ?_
  refine o1 rfl (det_lss rfl rfl) rfl rfl trivial ?_
  refine be rfl ?_
  refine k_then ?_
  refine t_seq ?_
  refine t_condP decide_eq_true_iff rfl (fun hb => ?_) (fun hb => ?_)
  ·
    have hlt : s < xs.length := by have := hX.len; omega
    obtain ⟨A, rfl⟩ := hX.some hlt
    have hnl := hX.len
    refine t_skip ?_
    refine k_then ?_
    refine t_seq ?_
    refine t_block ?_
    refine t_seq ?_
    refine b0 ?_
    first | (refine o1 rfl (det_indexAddr sl61 rfl rfl ?_) rfl rfl trivial ?_; (· (first | decide | omega)))
    refine o1 rfl (det_loadKN tN23 rfl rfl (hX.cells hlt)) rfl rfl trivial ?_
    refine om1 rfl (new_alloc z23) rfl rfl trivial (fun p4 => ?_)
    refine stN nofun rfl tN23 rfl rfl rfl .head rfl trivial rfl rfl ?_
    refine be rfl ?_
    refine k_then ?_
    refine t_seq ?_
    refine bD mixed ?_
    refine r_seg 24 24 [] [0, 1, 2, 3, 4, 5, 6, 7, 8, 9, 10, 11, 12, 13, 14, 15, 16, 17, 18, 19, 20, 21, 22, 23] (by kernel_rfl) ?_
    refine s1 rfl (det_fieldAddr fld23_1 rfl) rfl rfl trivial rfl ?_
    refine s1 rfl (det_load1 t1_3 rfl rfl (.head _) rfl) rfl rfl trivial rfl ?_
    refine s1 rfl (det_lss rfl rfl) rfl rfl trivial rfl ?_
    refine s2P decide_eq_true_iff rfl (det_move rfl) rfl rfl trivial rfl (fun hb => ?_) (fun hb => ?_)
    ·
      refine sn rfl rfl rfl ⟨_, rfl, .inl rfl⟩ ?_
      refine sn rfl rfl rfl ⟨_, rfl, .inl rfl⟩ ?_
      refine sn rfl rfl rfl ⟨_, rfl, .inl rfl⟩ ?_
      refine s1 rfl (det_pickT rfl rfl) rfl rfl trivial rfl ?_
      refine s1 rfl (det_move rfl) rfl rfl trivial rfl ?_
      refine sn rfl rfl rfl ⟨_, rfl, .inl rfl⟩ ?_
      refine sn rfl rfl rfl ⟨_, rfl, .inl rfl⟩ ?_
      refine sn rfl rfl rfl ⟨_, rfl, .inl rfl⟩ ?_
      refine s1 rfl (det_pickT rfl rfl) rfl rfl trivial rfl ?_
      refine s1 rfl (det_move rfl) rfl rfl trivial rfl ?_
      refine sn rfl rfl rfl ⟨_, rfl, .inl rfl⟩ ?_
      refine sn rfl rfl rfl ⟨_, rfl, .inl rfl⟩ ?_
      refine sn rfl rfl rfl ⟨_, rfl, .inl rfl⟩ ?_
      refine s1 rfl (det_pickT rfl rfl) rfl rfl trivial rfl ?_
      refine s1 rfl (det_move rfl) rfl rfl trivial rfl ?_
      refine sn rfl rfl rfl ⟨_, rfl, .inl rfl⟩ ?_
      refine sn rfl rfl rfl ⟨_, rfl, .inl rfl⟩ ?_
      refine sn rfl rfl rfl ⟨_, rfl, .inl rfl⟩ ?_
      refine sn rfl rfl rfl ⟨_, rfl, .inl rfl⟩ ?_
      refine s1 rfl (det_pickT rfl rfl) rfl rfl trivial rfl ?_
      refine sg_nil ?_
      refine be rfl ?_
      refine k_then ?_
      refine t_condT rfl ?_
      refine t_seq ?_
      refine b0 ?_
      refine o1 rfl (det_assign rfl) rfl rfl trivial ?_
      refine be rfl ?_
      refine k_then ?_
      refine t_ret (k_blkR (k_thenR (k_thenR (k_blkR (k_thenR (?_))))))
      refine ret_tmp rfl rfl rfl (fun w1 hs => ?_)
      have hv : validE xs[s] = false := by
        unfold validE; rw [decide_eq_false (by omega)]; rfl
      exact ⟨by rw [if_neg (all_not hlt hv)], hs.keep⟩
    ·
      refine s1 rfl (det_fieldAddr fld23_1 rfl) rfl rfl ⟨_, rfl, rfl⟩ rfl ?_
      refine s1 rfl (det_load1 t1_3 rfl rfl (.head _) rfl) rfl rfl ⟨_, rfl, rfl⟩ rfl ?_
      refine s1 rfl (det_gtr rfl rfl) rfl rfl ⟨_, rfl, rfl⟩ rfl ?_
      refine s1 rfl (det_pickF rfl rfl) rfl rfl trivial rfl ?_
      refine s2P decide_eq_true_iff rfl (det_move rfl) rfl rfl trivial rfl (fun hb => ?_) (fun hb => ?_)
      ·
        refine sn rfl rfl rfl ⟨_, rfl, .inl rfl⟩ ?_
        refine sn rfl rfl rfl ⟨_, rfl, .inl rfl⟩ ?_
        refine sn rfl rfl rfl ⟨_, rfl, .inl rfl⟩ ?_
        refine s1 rfl (det_pickT rfl rfl) rfl rfl trivial rfl ?_
        refine s1 rfl (det_move rfl) rfl rfl trivial rfl ?_
        refine sn rfl rfl rfl ⟨_, rfl, .inl rfl⟩ ?_
        refine sn rfl rfl rfl ⟨_, rfl, .inl rfl⟩ ?_
        refine sn rfl rfl rfl ⟨_, rfl, .inl rfl⟩ ?_
        refine s1 rfl (det_pickT rfl rfl) rfl rfl trivial rfl ?_
        refine s1 rfl (det_move rfl) rfl rfl trivial rfl ?_
        refine sn rfl rfl rfl ⟨_, rfl, .inl rfl⟩ ?_
        refine sn rfl rfl rfl ⟨_, rfl, .inl rfl⟩ ?_
        refine sn rfl rfl rfl ⟨_, rfl, .inl rfl⟩ ?_
        refine sn rfl rfl rfl ⟨_, rfl, .inl rfl⟩ ?_
        refine s1 rfl (det_pickT rfl rfl) rfl rfl trivial rfl ?_
        refine sg_nil ?_
        refine be rfl ?_
        refine k_then ?_
        refine t_condT rfl ?_
        refine t_seq ?_
        refine b0 ?_
        refine o1 rfl (det_assign rfl) rfl rfl trivial ?_
        refine be rfl ?_
        refine k_then ?_
        refine t_ret (k_blkR (k_thenR (k_thenR (k_blkR (k_thenR (?_))))))
        refine ret_tmp rfl rfl rfl (fun w1 hs => ?_)
        have hv : validE xs[s] = false := by
          unfold validE; rw [decide_eq_false (by omega)]; rfl
        exact ⟨by rw [if_neg (all_not hlt hv)], hs.keep⟩
      ·
        refine s1 rfl (det_fieldAddr fld23_0 rfl) rfl rfl ⟨_, rfl, rfl⟩ rfl ?_
        refine s1 rfl (det_load1 t1_3 rfl rfl (.head _) rfl) rfl rfl ⟨_, rfl, rfl⟩ rfl ?_
        refine s1 rfl (det_lss rfl rfl) rfl rfl ⟨_, rfl, rfl⟩ rfl ?_
        refine s1 rfl (det_pickF rfl rfl) rfl rfl trivial rfl ?_
        refine s2P decide_eq_true_iff rfl (det_move rfl) rfl rfl trivial rfl (fun hb => ?_) (fun hb => ?_)
        ·
          refine sn rfl rfl rfl ⟨_, rfl, .inl rfl⟩ ?_
          refine sn rfl rfl rfl ⟨_, rfl, .inl rfl⟩ ?_
          refine sn rfl rfl rfl ⟨_, rfl, .inl rfl⟩ ?_
          refine s1 rfl (det_pickT rfl rfl) rfl rfl trivial rfl ?_
          refine s1 rfl (det_move rfl) rfl rfl trivial rfl ?_
          refine sn rfl rfl rfl ⟨_, rfl, .inl rfl⟩ ?_
          refine sn rfl rfl rfl ⟨_, rfl, .inl rfl⟩ ?_
          refine sn rfl rfl rfl ⟨_, rfl, .inl rfl⟩ ?_
          refine sn rfl rfl rfl ⟨_, rfl, .inl rfl⟩ ?_
          refine s1 rfl (det_pickT rfl rfl) rfl rfl trivial rfl ?_
          refine sg_nil ?_
          refine be rfl ?_
          refine k_then ?_
          refine t_condT rfl ?_
          refine t_seq ?_
          refine b0 ?_
          refine o1 rfl (det_assign rfl) rfl rfl trivial ?_
          refine be rfl ?_
          refine k_then ?_
          refine t_ret (k_blkR (k_thenR (k_thenR (k_blkR (k_thenR (?_))))))
          refine ret_tmp rfl rfl rfl (fun w1 hs => ?_)
          have hv : validE xs[s] = false := by
            unfold validE; rw [decide_eq_false (by omega)]; rfl
          exact ⟨by rw [if_neg (all_not hlt hv)], hs.keep⟩
        ·
          refine s1 rfl (det_fieldAddr fld23_0 rfl) rfl rfl ⟨_, rfl, rfl⟩ rfl ?_
          refine s1 rfl (det_load1 t1_3 rfl rfl (.head _) rfl) rfl rfl ⟨_, rfl, rfl⟩ rfl ?_
          refine s1 rfl (det_gtr rfl rfl) rfl rfl ⟨_, rfl, rfl⟩ rfl ?_
          refine s1 rfl (det_pickF rfl rfl) rfl rfl trivial rfl ?_
          refine s2P decide_eq_true_iff rfl (det_move rfl) rfl rfl trivial rfl (fun hb => ?_) (fun hb => ?_)
          ·
            refine sn rfl rfl rfl ⟨_, rfl, .inl rfl⟩ ?_
            refine sn rfl rfl rfl ⟨_, rfl, .inl rfl⟩ ?_
            refine sn rfl rfl rfl ⟨_, rfl, .inl rfl⟩ ?_
            refine sn rfl rfl rfl ⟨_, rfl, .inl rfl⟩ ?_
            refine s1 rfl (det_pickT rfl rfl) rfl rfl trivial rfl ?_
            refine sg_nil ?_
            refine be rfl ?_
            refine k_then ?_
            refine t_condT rfl ?_
            refine t_seq ?_
            refine b0 ?_
            refine o1 rfl (det_assign rfl) rfl rfl trivial ?_
            refine be rfl ?_
            refine k_then ?_
            refine t_ret (k_blkR (k_thenR (k_thenR (k_blkR (k_thenR (?_))))))
            refine ret_tmp rfl rfl rfl (fun w1 hs => ?_)
            have hv : validE xs[s] = false := by
              unfold validE; rw [decide_eq_false (by omega)]; rfl
            exact ⟨by rw [if_neg (all_not hlt hv)], hs.keep⟩
          ·
            refine s1 rfl (det_loadN tN23 rfl rfl (.head _) rfl) rfl rfl ⟨_, rfl, rfl⟩ rfl ?_
            refine s1 rfl (det_loadN tN23 rfl rfl (.head _) rfl) rfl rfl ⟨_, rfl, rfl⟩ rfl ?_
            refine s1 rfl (det_call hb37 rfl rfl (fun w1 hs => red_ok hs.know (by omega) (by omega) (by omega))) rfl rfl ⟨_, rfl, rfl⟩ rfl ?_
            refine s1 rfl (det_neqS rfl rfl eqg23 (fun w => eq23 _ _ _ _ w)) rfl rfl ⟨_, rfl, rfl⟩ rfl ?_
            refine s1 rfl (det_pickF rfl rfl) rfl rfl trivial rfl ?_
            refine sg_nil ?_
            refine be rfl ?_
            refine k_then ?_
            refine t_condP Iff.rfl rfl (fun hb => ?_) (fun hb => ?_)
            ·
              have hv : validE xs[s] = false := by
                rw [red_self (by omega)] at hb
                unfold validE; simpa using fun _ _ _ _ => by simpa using hb
              refine t_seq ?_
              refine b0 ?_
              refine o1 rfl (det_assign rfl) rfl rfl trivial ?_
              refine be rfl ?_
              refine k_then ?_
              refine t_ret (k_blkR (k_thenR (k_thenR (k_blkR (k_thenR (?_))))))
              refine ret_tmp rfl rfl rfl (fun w1 hs => ?_)
              exact ⟨by rw [if_neg (all_not hlt hv)], hs.keep⟩
            ·
              have hv : validE xs[s] = true := by
                rw [red_self (by omega)] at hb
                unfold validE; rw [decide_eq_true (by omega)]; simpa using hb
              refine t_skip ?_
              refine k_blk ?_
              refine k_then ?_
              refine b0 ?_
              first | (refine o1 rfl (det_addI rfl rfl ?_) rfl rfl trivial ?_; (· omega)) | refine o1 rfl (det_add rfl rfl) rfl rfl trivial ?_
              refine o1 rfl (det_move rfl) rfl rfl trivial ?_
              refine be rfl ?_
              refine k_then ?_
              refine loop_back (s + 1) ⟨by omega, take_all hlt hall hv⟩ (by omega) ⟨rfl, rfl, rfl, trivial⟩ (.cons _ (.refl _))
  ·
    have hke : s = xs.length := by have := hX.len; omega
    rw [hke, List.take_length] at hall
    refine t_exit ?_
    refine k_thenE ?_
    refine k_thenE ?_
    refine k_blkE ?_
    refine k_then ?_
    refine t_seq ?_
    refine b0 ?_
    refine o1 rfl (det_assign rfl) rfl rfl trivial ?_
    refine be rfl ?_
    refine k_then ?_
    refine t_ret ?_
    refine ret_tmp rfl rfl rfl (fun w1 hs => ?_)
    exact ⟨by rw [if_pos hall], hs.keep⟩

end Go.Proofs.Rt
