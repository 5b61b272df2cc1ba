/-
  Walks through layers 36, 37 and 38 and their references.
-/
import Derived.Test.YtffocfffggfenaaCpC14
import Derived.Test.YtffocfffggfenaaEng27
namespace Go.Proofs.Cp
open Go Go.Eng Go.Gt Go.Proofs.Gt Go.Sw Go.Qu Go.Ch
set_option maxRecDepth 4000

theorem fewL_k {F : Know} {l : Ln} (hl : LnK F l) : LnK F (fewL l) := by
  have h := EntK.take hl (fewN l)
  have e : min (fewN l) l.g.n = fewN l := by unfold fewN; omega
  rw [e] at h
  exact h
theorem few_k {F : Know} {A : Option Addr} {n : Nat} {hs : List Pt} (h : PK F A n hs) : PK F A (min (n : Int) 12).toNat (hs.take 12) := by
  have h1 := h.take (min (n : Int) 12).toNat (by omega)
  have e : hs.take (min (n : Int) 12).toNat = hs.take 12 := by
    have hn := h.len
    rcases Nat.lt_or_ge n 12 with h2 | h2
    · rw [List.take_of_length_le (by omega), List.take_of_length_le (by omega)]
    · rw [show (min (n : Int) 12).toNat = 12 by omega]
  rw [e] at h1
  exact h1
/-- few. -/
theorem few_ok {w : World} {F : Know} (hF : ∀ a v, F a = some v → w.cell? a = some v) {l : Ln} (hl : LnK F l) {A : Option Addr} {n c : Nat} {hs0 : List Pt} (hP : PK F A n hs0) (hnc : n ≤ c) (hcm : c ≤ maxLen) (hec : l.g.n ≤ l.g.cap) : CallsF Try.prog 16 [.agg (lnv l).toArray, .slice A n c] w F (fun v F2 => ∃ A2 m2 c2, v = .tuple [.agg (lnv (fewL l)).toArray, .slice A2 m2 c2].toArray ∧ LnK F2 (fewL l) ∧ PK F2 A2 m2 (hs0.take 12) ∧ m2 ≤ c2 ∧ c2 ≤ maxLen) := by
  have hPm := few_k hP
  refine fn_fresh (F := F) Try.func16 rfl Try.ntmps16 rfl hF ?_
  refine t_seq ?_
  refine b0 ?_
  refine om1 rfl (new_boxN rfl) rfl rfl trivial (fun p2 => ?_)
  refine om1 rfl (new_alloc z26) rfl rfl trivial (fun p4 => ?_)
  refine o1 rfl (det_assign rfl) rfl rfl trivial ?_
  refine be rfl ?_
  refine k_then ?_
  refine t_seq ?_
  refine b0 ?_
  rcases Nat.eq_zero_or_pos ((min (n : Int) 12).toNat) with hm0 | hm0
  ·
    refine o1 rfl (det_fieldAddr fld26_0 rfl) rfl rfl trivial ?_
    refine o1 rfl (det_fieldAddr fld24_0 rfl) rfl rfl trivial ?_
    refine o1 rfl (det_load1 t1_22 rfl rfl (.tail _ (.head _)) rfl) rfl rfl trivial ?_
    refine o1 rfl (det_fieldAddr fld26_0 rfl) rfl rfl trivial ?_
    refine o1 rfl (det_fieldAddr fld24_0 rfl) rfl rfl trivial ?_
    refine o1 rfl (det_load1 t1_22 rfl rfl (.tail _ (.head _)) rfl) rfl rfl trivial ?_
    refine o1 rfl (det_lenS sl22 rfl) rfl rfl trivial ?_
    refine o1 rfl (det_min2 rfl rfl) rfl rfl trivial ?_
    first | (refine o1 rfl (det_sliceTo sl22 rfl rfl ?_) rfl rfl trivial ?_; (· omega))
    refine o1 rfl (det_fieldAddr fld26_0 rfl) rfl rfl trivial ?_
    refine o1 rfl (det_fieldAddr fld24_0 rfl) rfl rfl trivial ?_
    refine st1 nofun rfl t1_22 rfl rfl rfl (.tail .head) rfl trivial rfl ?_
    refine be rfl ?_
    refine k_then ?_
    refine t_seq ?_
    refine bD mixed ?_
    refine r_seg 10 8 [1] [0, 1, 2, 3, 4, 5, 6, 7] (by kernel_rfl) ?_
    refine s1 rfl (det_loadN tN26 rfl rfl (.tail _ (.head _)) rfl) rfl rfl trivial rfl ?_
    refine sm1 rfl (new_buildSlice rfl (fun w => bsl27_0_ w)) rfl rfl trivial rfl (fun p18 => ?_)
    refine s1 rfl (det_move rfl) rfl rfl trivial rfl ?_
    refine s1 rfl (det_move rfl) rfl rfl trivial rfl ?_
    refine s1 rfl (det_lenS sl27 rfl) rfl rfl trivial rfl ?_
    refine s1 rfl (det_min2 rfl rfl) rfl rfl trivial rfl ?_
    first | (refine s1 rfl (det_sliceTo sl27 rfl rfl ?_) rfl rfl trivial rfl ?_; (· omega))
    refine s1 rfl (det_appZ hm0 ap27 rfl rfl) rfl rfl trivial rfl ?_
    refine sg_nil ?_
    refine stN (fun _ => by kernel_rfl) rfl tN26 rfl rfl rfl (.tail .head) rfl trivial rfl rfl ?_
    refine r_seg 10 10 [] [9] (by kernel_rfl) ?_
    refine s1 rfl (det_assign rfl) rfl rfl trivial rfl ?_
    refine sg_nil ?_
    refine be rfl ?_
    refine k_then ?_
    refine t_ret ?_
    refine ret_any (vs := [_, _]) rfl rfl ⟨(.cellN tN26 rfl rfl (.tail _ (.head _)) rfl), (.tmp rfl), trivial⟩ rfl (fun w1 hs => ?_)
    exact end_fresh hs fun F2 h1 _ h3 => ⟨_, 0, 0, rfl, (fewL_k hl).mono h1, by have e : hs0.take 12 = [] := List.eq_nil_of_length_eq_zero (by rw [← hPm.len]; exact hm0); rw [e]; exact rowsK_of ptv_len (by decide) (fun j u h => by cases h) rfl, by omega, by decide⟩
  ·
    refine o1 rfl (det_fieldAddr fld26_0 rfl) rfl rfl trivial ?_
    refine o1 rfl (det_fieldAddr fld24_0 rfl) rfl rfl trivial ?_
    refine o1 rfl (det_load1 t1_22 rfl rfl (.tail _ (.head _)) rfl) rfl rfl trivial ?_
    refine o1 rfl (det_fieldAddr fld26_0 rfl) rfl rfl trivial ?_
    refine o1 rfl (det_fieldAddr fld24_0 rfl) rfl rfl trivial ?_
    refine o1 rfl (det_load1 t1_22 rfl rfl (.tail _ (.head _)) rfl) rfl rfl trivial ?_
    refine o1 rfl (det_lenS sl22 rfl) rfl rfl trivial ?_
    refine o1 rfl (det_min2 rfl rfl) rfl rfl trivial ?_
    first | (refine o1 rfl (det_sliceTo sl22 rfl rfl ?_) rfl rfl trivial ?_; (· omega))
    refine o1 rfl (det_fieldAddr fld26_0 rfl) rfl rfl trivial ?_
    refine o1 rfl (det_fieldAddr fld24_0 rfl) rfl rfl trivial ?_
    refine st1 nofun rfl t1_22 rfl rfl rfl (.tail .head) rfl trivial rfl ?_
    refine be rfl ?_
    refine k_then ?_
    refine t_seq ?_
    refine bD mixed ?_
    refine r_seg 10 8 [1, 7] [0, 1, 2, 3, 4, 5, 6, 7] (by kernel_rfl) ?_
    refine s1 rfl (det_loadN tN26 rfl rfl (.tail _ (.head _)) rfl) rfl rfl trivial rfl ?_
    refine sm1 rfl (new_buildSlice rfl (fun w => bsl27_0_ w)) rfl rfl trivial rfl (fun p18 => ?_)
    refine s1 rfl (det_move rfl) rfl rfl trivial rfl ?_
    refine s1 rfl (det_move rfl) rfl rfl trivial rfl ?_
    refine s1 rfl (det_lenS sl27 rfl) rfl rfl trivial rfl ?_
    refine s1 rfl (det_min2 rfl rfl) rfl rfl trivial rfl ?_
    first | (refine s1 rfl (det_sliceTo sl27 rfl rfl ?_) rfl rfl trivial rfl ?_; (· omega))
    refine sm rfl (new_app0 (m := (min (n : Int) 12).toNat) (news := (rowsV ptv (hs0.take 12))) ap27 rfl rfl (by rw [rowsV_len ptv_len, hPm.len]) (by omega) (hPm.flat ptv_len (by decide)) (by omega) (by simp only [maxLen]; omega)) rfl rfl trivial rfl (fun p24 v24 ob24 hS24 => ?_)
    obtain ⟨B24, cap24, rfl, hb24, hc24, -⟩ := hS24.slice
    refine sg_nil ?_
    refine stN (fun _ => by kernel_rfl) rfl tN26 rfl rfl rfl (.tail (.tail .head)) rfl trivial rfl rfl ?_
    refine r_seg 10 10 [] [9] (by kernel_rfl) ?_
    refine s1 rfl (det_assign rfl) rfl rfl trivial rfl ?_
    refine sg_nil ?_
    refine be rfl ?_
    refine k_then ?_
    refine t_ret ?_
    refine ret_any (vs := [_, _]) rfl rfl ⟨(.cellN tN26 rfl rfl (.tail _ (.tail _ (.head _))) rfl), (.tmp rfl), trivial⟩ rfl (fun w1 hs => ?_)
    exact end_fresh hs fun F2 h1 _ h3 => ⟨_, _, _, rfl, (fewL_k hl).mono h1, by obtain ⟨A8, c8, h0, _, _, hR⟩ := hS24.rows ptv_len (by decide) (fun p cs t fr k hm => h3 p cs t fr k (by simp at hm ⊢; simp [hm])); cases h0; exact hR, hb24, hc24⟩

/-- want. -/
theorem want_ok {w : World} {F : Know} (hF : ∀ a v, F a = some v → w.cell? a = some v) {l : Ln} (hl : LnK F l) {A : Option Addr} {n c : Nat} {hs0 : List Pt} (hP : PK F A n hs0) {t : Int} : Pure Try.prog 23 [.agg (lnv l).toArray, .slice A n c, .int .i64 t] w (.int .i64 (errC l hs0 t)) := by
  refine fn_pure (F := F) Try.func23 rfl Try.ntmps23 rfl hF ?_
  refine t_seq ?_
  refine b0 ?_
  refine om1 rfl (new_boxN rfl) rfl rfl trivial (fun p3 => ?_)
  refine o1 rfl (det_assign rfl) rfl rfl trivial ?_
  refine be rfl ?_
  refine k_then ?_
  refine t_seq ?_
  refine t_seq ?_
  refine b0 ?_
  refine o1 rfl (det_loadN tN26 rfl rfl (.head _) rfl) rfl rfl trivial ?_
  refine o1 rfl (det_call hb18 rfl rfl (fun w1 hs => rline_ok hs.know hl)) rfl rfl trivial ?_
  refine o1 rfl (det_not rfl) rfl rfl trivial ?_
  refine be rfl ?_
  refine k_then ?_
  refine t_condP not_iff_false rfl (fun hb => ?_) (fun hb => ?_)
  ·
    refine t_seq ?_
    refine b0 ?_
    refine o1 rfl (det_assign rfl) rfl rfl trivial ?_
    refine be rfl ?_
    refine k_then ?_
    refine t_ret (k_thenR (?_))
    refine ret_tmp rfl rfl rfl (fun w1 hs => ?_)
    exact ⟨by unfold errC; grind, hs.keep⟩
  ·
    refine t_skip ?_
    refine k_then ?_
    refine t_seq ?_
    refine t_seq ?_
    refine b0 ?_
    refine o1 rfl (det_move rfl) rfl rfl trivial ?_
    refine o1 rfl (det_call hb20 rfl rfl (fun w1 hs => rheads_ok hs.know hP)) rfl rfl trivial ?_
    refine o1 rfl (det_not rfl) rfl rfl trivial ?_
    refine be rfl ?_
    refine k_then ?_
    refine t_condP not_iff_false rfl (fun hb => ?_) (fun hb => ?_)
    ·
      refine t_seq ?_
      refine b0 ?_
      refine o1 rfl (det_assign rfl) rfl rfl trivial ?_
      refine be rfl ?_
      refine k_then ?_
      refine t_ret (k_thenR (?_))
      refine ret_tmp rfl rfl rfl (fun w1 hs => ?_)
      exact ⟨by unfold errC; grind, hs.keep⟩
    ·
      refine t_skip ?_
      refine k_then ?_
      refine t_seq ?_
      refine t_seq ?_
      refine b0 ?_
      refine o1 rfl (det_move rfl) rfl rfl trivial ?_
      refine o1 rfl (det_lss rfl rfl) rfl rfl trivial ?_
      refine o2P decide_eq_true_iff rfl (det_move rfl) rfl rfl trivial (fun hb => ?_) (fun hb => ?_)
      ·
        refine on rfl rfl rfl ⟨_, rfl, .inl rfl⟩ ?_
        refine on rfl rfl rfl ⟨_, rfl, .inl rfl⟩ ?_
        refine o1 rfl (det_pickT rfl rfl) rfl rfl trivial ?_
        refine be rfl ?_
        refine k_then ?_
        refine t_condT rfl ?_
        refine t_seq ?_
        refine b0 ?_
        refine o1 rfl (det_assign rfl) rfl rfl trivial ?_
        refine be rfl ?_
        refine k_then ?_
        refine t_ret (k_thenR (?_))
        refine ret_tmp rfl rfl rfl (fun w1 hs => ?_)
        exact ⟨by unfold errC; grind, hs.keep⟩
      ·
        refine o1 rfl (det_move rfl) rfl rfl ⟨_, rfl, rfl⟩ ?_
        refine o1 rfl (det_gtr rfl rfl) rfl rfl ⟨_, rfl, rfl⟩ ?_
        refine o1 rfl (det_pickF rfl rfl) rfl rfl trivial ?_
        refine be rfl ?_
        refine k_then ?_
        refine t_condP decide_eq_true_iff rfl (fun hb => ?_) (fun hb => ?_)
        ·
          refine t_seq ?_
          refine b0 ?_
          refine o1 rfl (det_assign rfl) rfl rfl trivial ?_
          refine be rfl ?_
          refine k_then ?_
          refine t_ret (k_thenR (?_))
          refine ret_tmp rfl rfl rfl (fun w1 hs => ?_)
          exact ⟨by unfold errC; grind, hs.keep⟩
        ·
          refine t_skip ?_
          refine k_then ?_
          refine t_seq ?_
          refine b0 ?_
          refine o1 rfl (det_assign rfl) rfl rfl trivial ?_
          refine be rfl ?_
          refine k_then ?_
          refine t_ret ?_
          refine ret_tmp rfl rfl rfl (fun w1 hs => ?_)
          exact ⟨by unfold errC; grind, hs.keep⟩

end Go.Proofs.Cp
