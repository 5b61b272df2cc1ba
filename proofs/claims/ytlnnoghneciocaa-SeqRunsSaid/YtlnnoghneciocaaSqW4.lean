/-
  Walks through layer 39 and its reference.
-/
import Derived.Test.YtlnnoghneciocaaSqW3
namespace Go.Proofs.Sq
open Go Go.Eng Go.Sq
set_option maxRecDepth 4000

/-- Next. -/
theorem next_ok {w : World} {F : Know} (hF : ∀ a v, F a = some v → w.cell? a = some v) {A : Option Addr} {n c : Nat} {l : List Ct} (hP : CK F A n l) (hnb : n ≤ 65536) (hnc : n ≤ c) (hcm : c ≤ maxLen) {t : Int} {l2 : List Ct} {q er : Int} (he : nextL l t = ((l2, q), er)) : CallsF Try.prog 18 [.slice A n c, .int .i64 t] w noK (fun v F2 => ∃ A1 n1 c1, v = .tuple [.slice A1 n1 c1, .int .i64 q, .int .i64 er].toArray ∧ n1 ≤ c1 ∧ c1 ≤ maxLen ∧ CK F2 A1 n1 l2) := by
  refine fn_fresh (F := F) Try.func18 rfl Try.ntmps18 rfl hF ?_
  refine t_seq ?_
  refine b0 ?_
  refine om1 rfl (new_box1 rfl rfl) rfl rfl trivial (fun p3 => ?_)
  refine o1 rfl (det_assign rfl) rfl rfl trivial ?_
  refine o1 rfl (det_assign rfl) rfl rfl trivial ?_
  refine o1 rfl (det_assign rfl) rfl rfl trivial ?_
  refine be rfl ?_
  refine k_then ?_
  refine t_seq ?_
  refine t_seq ?_
  refine b0 ?_
  refine o1 rfl (det_move rfl) rfl rfl trivial ?_
  refine o1 rfl (det_call hb19 rfl rfl (fun w1 hs => check_ok hs.know hP)) rfl rfl trivial ?_
  refine o1 rfl (det_assign rfl) rfl rfl trivial ?_
  refine be rfl ?_
  refine k_then ?_
  refine t_seq ?_
  refine b0 ?_
  refine o1 rfl (det_move rfl) rfl rfl trivial ?_
  refine o1 rfl (det_neq rfl rfl) rfl rfl trivial ?_
  refine be rfl ?_
  refine k_then ?_
  refine t_condP bne_iff_ne rfl (fun hb => ?_) (fun hb => ?_)
  ·
    have hno : okL l = false := by grind
    refine t_seq ?_
    refine b0 ?_
    refine o1 rfl (det_move rfl) rfl rfl trivial ?_
    refine o1 rfl (det_assign rfl) rfl rfl trivial ?_
    refine o1 rfl (det_assign rfl) rfl rfl trivial ?_
    refine o1 rfl (det_assign rfl) rfl rfl trivial ?_
    refine be rfl ?_
    refine k_then ?_
    refine t_ret (k_thenR (?_))
    refine ret_tmp3 rfl rfl rfl rfl rfl (fun w1 hs => ?_)
    rw [next_bad hno] at he; cases he
    exact end_fresh hs fun F2 h1 _ h3 => ⟨none, 0, 0, by rw [hno]; rfl, Nat.le_refl _, Nat.zero_le _, RowsK.nil⟩
  ·
    have hokl : okL l = true := by grind
    refine t_skip ?_
    refine k_then ?_
    refine t_seq ?_
    refine t_seq ?_
    refine b0 ?_
    refine o1 rfl (det_load1 t1_3 rfl rfl (.head _) rfl) rfl rfl trivial ?_
    refine o1 rfl (det_call hb27 rfl rfl (fun w1 hs => in_ok hs.know)) rfl rfl trivial ?_
    refine o1 rfl (det_not rfl) rfl rfl trivial ?_
    refine be rfl ?_
    refine k_then ?_
    refine t_condP not_iff_false rfl (fun hb => ?_) (fun hb => ?_)
    ·
      skip
      refine t_seq ?_
      refine b0 ?_
      refine o1 rfl (det_assign rfl) rfl rfl trivial ?_
      refine o1 rfl (det_assign rfl) rfl rfl trivial ?_
      refine o1 rfl (det_assign rfl) rfl rfl trivial ?_
      refine be rfl ?_
      refine k_then ?_
      refine t_ret (k_thenR (?_))
      refine ret_tmp3 rfl rfl rfl rfl rfl (fun w1 hs => ?_)
      rw [next_arg hokl (by simpa using hb)] at he; cases he
      exact end_fresh hs fun F2 h1 _ h3 => ⟨none, 0, 0, rfl, Nat.le_refl _, Nat.zero_le _, RowsK.nil⟩
    ·
      have ht : 1 ≤ t ∧ t ≤ 4095 := by simpa using hb
      refine t_skip ?_
      refine k_then ?_
      refine t_seq ?_
      refine b0 ?_
      refine o1 rfl (det_move rfl) rfl rfl trivial ?_
      refine tk_freeze (pre := []) rfl (fun F1 hF1 hN1 hK1 => ?_)
      have h0 : F1 ⟨p3, 0, none⟩ = some (.int .i64 t) := hK1 0 _ rfl
      replace hP := hP.mono hF1
      refine o1 rfl (det_makeFunc rfl rfl) rfl rfl trivial ?_
      refine o1 rfl (det_call hb29 rfl rfl (fun w1 hs => where_ok hs.know hP hnb h0)) rfl rfl trivial ?_
      refine o1 rfl (det_assign rfl) rfl rfl trivial ?_
      refine be rfl ?_
      refine k_then ?_
      refine t_seq ?_
      refine b0 ?_
      refine o1 rfl (det_loadK t1_3 rfl h0) rfl rfl trivial ?_
      refine o1 rfl (det_build rfl (fun w => bld50_0 _ w)) rfl rfl trivial ?_
      refine om1 rfl (new_alloc z50) rfl rfl trivial (fun p9 => ?_)
      refine stN nofun rfl tN50 rfl rfl rfl .head rfl trivial rfl rfl ?_
      refine be rfl ?_
      refine k_then ?_
      refine t_seq ?_
      refine b0 ?_
      have hle := fstI_le l t
      obtain ⟨i, hi⟩ : ∃ i, fstI l t = i := ⟨_, rfl⟩
      rw [hi] at hle ⊢
      refine o1 rfl (det_move rfl) rfl rfl trivial ?_
      refine o1 rfl (det_move rfl) rfl rfl trivial ?_
      refine o1 rfl (det_sliceLo i sl46 rfl rfl rfl (by have := hP.len; omega) hnc) rfl rfl trivial ?_
      refine o1 rfl (det_assign rfl) rfl rfl trivial ?_
      refine be rfl ?_
      refine k_then ?_
      refine t_seq ?_
      refine t_seq ?_
      refine bD mixed ?_
      refine r_seg 13 13 [] [0, 1, 2, 3, 4, 5, 6, 7, 8, 9, 10, 11, 12] (by kernel_rfl) ?_
      refine s1 rfl (det_move rfl) rfl rfl trivial rfl ?_
      refine s1 rfl (det_move rfl) rfl rfl trivial rfl ?_
      refine s1 rfl (det_lenS sl46 rfl) rfl rfl trivial rfl ?_
      refine s1 rfl (det_lss rfl rfl) rfl rfl trivial rfl ?_
      refine s2P decide_eq_true_iff rfl (det_move rfl) rfl rfl trivial rfl (fun hb => ?_) (fun hb => ?_)
      ·
        have hlt : i < l.length := by have := hP.len; omega
        obtain ⟨A, rfl⟩ := hP.some hlt
        refine s1 rfl (det_move rfl) rfl rfl ⟨_, rfl, rfl⟩ rfl ?_
        refine s1 rfl (det_move rfl) rfl rfl ⟨_, rfl, rfl⟩ rfl ?_
        first | (refine s1 rfl (det_indexAddr sl46 rfl rfl ?_) rfl rfl ⟨_, rfl, rfl⟩ rfl ?_; (· (first | decide | omega)))
        refine s1 rfl (det_fieldAddr fld50_0 rfl) rfl rfl ⟨_, rfl, rfl⟩ rfl ?_
        refine s1 rfl (det_loadK t1_3 rfl (hP.cell (i := (i : Int)) (k := i) (j := 0) (u := .int .i64 l[i].st) (Int.toNat_natCast _) hlt rfl)) rfl rfl ⟨_, rfl, rfl⟩ rfl ?_
        refine s1 rfl (det_loadK t1_3 rfl h0) rfl rfl ⟨_, rfl, rfl⟩ rfl ?_
        refine s1 rfl (det_eql rfl rfl) rfl rfl ⟨_, rfl, rfl⟩ rfl ?_
        refine s1 rfl (det_pickT rfl rfl) rfl rfl trivial rfl ?_
        refine sg_nil ?_
        refine be rfl ?_
        refine k_then ?_
        refine t_condP beq_iff_eq rfl (fun hb => ?_) (fun hb => ?_)
        ·
          have hst : l[i].st = t := hb
          have hat := atC_get hlt
          skip --note:known
          refine bD mixed ?_
          refine r_bar 10 8 [] [0, 1, 2, 3, 4, 5, 6, 7] _ (by kernel_rfl) (.cons _ (.refl _)) ?_
          refine s1 rfl (det_move rfl) rfl rfl trivial rfl ?_
          refine s1 rfl (det_move rfl) rfl rfl trivial rfl ?_
          first | (refine s1 rfl (det_indexAddr sl46 rfl rfl ?_) rfl rfl trivial rfl ?_; (· (first | decide | omega)))
          refine s1 rfl (det_loadKN tN50 rfl (ctv_len l[i]) (hP.cells (i := (i : Int)) (k := i) (Int.toNat_natCast _) hlt (ctv_len _))) rfl rfl trivial rfl ?_
          refine s1 rfl (det_move rfl) rfl rfl trivial rfl ?_
          refine s1 rfl (det_move rfl) rfl rfl trivial rfl ?_
          first | (refine s1 rfl (det_addI rfl rfl ?_) rfl rfl trivial rfl ?_; (· omega)) | refine s1 rfl (det_add rfl rfl) rfl rfl trivial rfl ?_
          refine s1 rfl (det_sliceLo (i + 1) sl46 rfl rfl (by omega) (by have := hP.len; omega) hnc) rfl rfl trivial rfl ?_
          refine sg_nil ⟨?_, ?_⟩
          rotate_left
          ·
            exact bar_stN rfl tN50 rfl rfl rfl .head rfl trivial rfl rfl (.head _) (.cons _ (.refl _))
          refine stN (fun _ => by kernel_rfl) rfl tN50 rfl rfl rfl .head rfl trivial rfl rfl ?_
          refine r_seg 10 10 [] [9] (by kernel_rfl) ?_
          refine s1 rfl (det_assign rfl) rfl rfl trivial rfl ?_
          refine sg_nil ?_
          refine be rfl ?_
          refine k_then ?_
          refine t_seq ?_
          refine b0 ?_
          refine o1 rfl (det_fieldAddr fld50_1 rfl) rfl rfl trivial ?_
          refine o1 rfl (det_load1 t1_3 rfl rfl (.head _) rfl) rfl rfl trivial ?_
          refine o1 rfl (det_assign rfl) rfl rfl trivial ?_
          refine be rfl ?_
          refine k_then ?_
          refine t_seq ?_
          refine b0 ?_
          refine o1 rfl (det_move rfl) rfl rfl trivial ?_
          refine o1 rfl (det_call hb26 rfl rfl (fun w1 hs => after_ok hs.know (by have hob := ok_bd hokl hlt; rw [hat] at hob; omega))) rfl rfl trivial ?_
          refine o1 rfl (det_fieldAddr fld50_1 rfl) rfl rfl trivial ?_
          refine st1 nofun rfl t1_3 rfl rfl rfl .head rfl trivial rfl ?_
          refine be rfl ?_
          refine k_then ?_
          refine t_seq ?_
          refine bD mixed ?_
          refine r_late 9 8 (by kernel_rfl) ?_
          refine r_seg 13 8 [5, 6] [0, 1, 2, 3, 4, 5, 6, 7] (by kernel_rfl) ?_
          have hnl := hP.len
          refine s1 rfl (det_move rfl) rfl rfl trivial rfl ?_
          refine s1 rfl (det_move rfl) rfl rfl trivial rfl ?_
          refine s1 rfl (det_move rfl) rfl rfl trivial rfl ?_
          refine s1 rfl (det_slice3 sl46 rfl rfl rfl (by have := hP.len; omega)) rfl rfl trivial rfl ?_
          refine s1 rfl (det_loadN tN50 rfl rfl (.head _) rfl) rfl rfl trivial rfl ?_
          refine sm1 rfl (new_buildSlice rfl (fun w => bsl46_1_0 _ _ w)) rfl rfl trivial rfl (fun p62 => ?_)
          refine smN (V := fun p v ob => SlO 50 2 v (i + 1) (rowsV ctv (l.take i) ++ ctv ⟨l[i].st, aft l[i].nx 1⟩) [(p, ob)]) [_] (needC (.head _) rfl need0) rfl (fun F2 hF2 hN => ?_) rfl rfl trivial rfl (fun p63 v63 ob63 hS63 => ?_)
          ·
            exact (new_appK (xs := rowsV ctv (l.take i)) (news := ctv ⟨l[i].st, aft l[i].nx 1⟩) (n := i) (m := 1) ap46 rfl rfl (by rw [rowsV_len ctv_len, List.length_take]; congr 1; omega) rfl (by decide) (fun w hs j u hj => by obtain ⟨b, hb, h⟩ := (hP.take i (by omega)).flat ctv_len (by decide) j u hj; exact ⟨b, hb, hs.know _ _ (hF2 _ _ h)⟩) (fun w hs j u hj => heldC hs (hN _ (.head _)) j u hj) (by omega) (by simp only [maxLen]; omega))
          refine s1 rfl (det_move rfl) rfl rfl trivial rfl ?_
          refine sg_nil ?_
          refine oAppH (b := [_]) (post := [_, _]) (m := (n - (i + 1))) (news := rowsV ctv (l.drop (i + 1))) (fun _ => by kernel_rfl) rfl ap46 rfl rfl rfl trivial hS63 (by rw [rowsV_len ctv_len, List.length_drop, ← hP.len]) (fun w hs j u hj => by obtain ⟨b, hb, h⟩ := (hP.from (i + 1) (by omega) hnc).flat ctv_len (by decide) j u hj; exact ⟨b, hb, hs.know _ _ h⟩) (rowsC_one _) (by omega) (by simp only [maxLen]; omega) (fun A8 c8 b8 hS8 => ?_)
          have hS9 : SlO 50 2 (.slice A8 (i + 1 + (n - (i + 1))) c8) (i + 1 + (n - (i + 1))) (rowsV ctv (l.take i ++ ⟨l[i].st, aft l[i].nx 1⟩ :: l.drop (i + 1))) b8 := by
            rw [rowsV_app, show rowsV ctv (⟨l[i].st, aft l[i].nx 1⟩ :: l.drop (i + 1)) = ctv ⟨l[i].st, aft l[i].nx 1⟩ ++ rowsV ctv (l.drop (i + 1)) from rfl, ← List.append_assoc]; exact hS8
          refine r_seg 13 13 [] [9, 10, 11, 12] (by kernel_rfl) ?_
          refine s1 rfl (det_move rfl) rfl rfl trivial rfl ?_
          refine s1 rfl (det_assign rfl) rfl rfl trivial rfl ?_
          refine s1 rfl (det_assign rfl) rfl rfl trivial rfl ?_
          refine s1 rfl (det_assign rfl) rfl rfl trivial rfl ?_
          refine sg_nil ?_
          refine be rfl ?_
          refine np ?_
          refine k_then ?_
          refine t_ret ?_
          refine ret_tmp3 rfl rfl rfl rfl rfl (fun w1 hs => ?_)
          have hk := next_known hokl ht (by rw [hi]; exact hlt) (by rw [hi, hat]; exact hst)
          rw [hk, hi, hat] at he; cases he
          rw [hst] at hS9
          exact end_fresh hs fun F2 h1 _ h3 => by
            obtain ⟨g1, g2, g3⟩ := SlO.ck hS9 (fun p cs t fr k hm => h3 p cs t fr k (.tail _ (.tail _ hm))) rfl
            exact ⟨_, _, _, rfl, g1, g2, g3⟩
        ·
          have hnk : ¬ (fstI l t < l.length ∧ (atC l (fstI l t)).st = t) := by rw [hi]; rintro ⟨h5, h6⟩; rw [atC_get h5] at h6; exact hb h6
          refine t_seq ?_
          refine b0 ?_
          refine o1 rfl (det_move rfl) rfl rfl trivial ?_
          refine o1 rfl (det_lenS sl46 rfl) rfl rfl trivial ?_
          refine o1 rfl (det_eql rfl rfl) rfl rfl trivial ?_
          refine be rfl ?_
          refine k_then ?_
          refine t_condP beq_iff_eq rfl (fun hb => ?_) (fun hb => ?_)
          ·
            have hl12 : l.length = 12 := by have := hP.len; omega
            refine t_seq ?_
            refine b0 ?_
            refine o1 rfl (det_assign rfl) rfl rfl trivial ?_
            refine o1 rfl (det_assign rfl) rfl rfl trivial ?_
            refine o1 rfl (det_assign rfl) rfl rfl trivial ?_
            refine be rfl ?_
            refine k_then ?_
            refine t_ret (k_thenR (?_))
            refine ret_tmp3 rfl rfl rfl rfl rfl (fun w1 hs => ?_)
            rw [next_full hokl ht hnk hl12] at he; cases he
            exact end_fresh hs fun F2 h1 _ h3 => ⟨none, 0, 0, rfl, Nat.le_refl _, Nat.zero_le _, RowsK.nil⟩
          ·
            have hl12 : l.length ≠ 12 := by have := hP.len; omega
            refine t_skip ?_
            refine k_then ?_
            refine t_seq ?_
            refine b0 ?_
            refine o1 rfl (det_fieldAddr fld50_1 rfl) rfl rfl trivial ?_
            refine o1 rfl (det_load1 t1_3 rfl rfl (.head _) rfl) rfl rfl trivial ?_
            refine o1 rfl (det_assign rfl) rfl rfl trivial ?_
            refine be rfl ?_
            refine k_then ?_
            refine t_seq ?_
            refine b0 ?_
            refine o1 rfl (det_move rfl) rfl rfl trivial ?_
            refine o1 rfl (det_call hb26 rfl rfl (fun w1 hs => after_ok hs.know (by decide))) rfl rfl trivial ?_
            refine o1 rfl (det_fieldAddr fld50_1 rfl) rfl rfl trivial ?_
            refine st1 nofun rfl t1_3 rfl rfl rfl .head rfl trivial rfl ?_
            refine be rfl ?_
            refine k_then ?_
            refine t_seq ?_
            refine bD mixed ?_
            refine r_late 9 8 (by kernel_rfl) ?_
            refine r_seg 13 8 [5, 6] [0, 1, 2, 3, 4, 5, 6, 7] (by kernel_rfl) ?_
            have hnl := hP.len
            refine s1 rfl (det_move rfl) rfl rfl trivial rfl ?_
            refine s1 rfl (det_move rfl) rfl rfl trivial rfl ?_
            refine s1 rfl (det_move rfl) rfl rfl trivial rfl ?_
            refine s1 rfl (det_slice3 sl46 rfl rfl rfl (by have := hP.len; omega)) rfl rfl trivial rfl ?_
            refine s1 rfl (det_loadN tN50 rfl rfl (.head _) rfl) rfl rfl trivial rfl ?_
            refine sm1 rfl (new_buildSlice rfl (fun w => bsl46_1_0 _ _ w)) rfl rfl trivial rfl (fun p62 => ?_)
            refine smN (V := fun p v ob => SlO 50 2 v (i + 1) (rowsV ctv (l.take i) ++ ctv ⟨t, aft 0 1⟩) [(p, ob)]) [_] (needC (.head _) rfl need0) rfl (fun F2 hF2 hN => ?_) rfl rfl trivial rfl (fun p63 v63 ob63 hS63 => ?_)
            ·
              exact (new_appK (xs := rowsV ctv (l.take i)) (news := ctv ⟨t, aft 0 1⟩) (n := i) (m := 1) ap46 rfl rfl (by rw [rowsV_len ctv_len, List.length_take]; congr 1; omega) rfl (by decide) (fun w hs j u hj => by obtain ⟨b, hb, h⟩ := (hP.take i (by omega)).flat ctv_len (by decide) j u hj; exact ⟨b, hb, hs.know _ _ (hF2 _ _ h)⟩) (fun w hs j u hj => heldC hs (hN _ (.head _)) j u hj) (by omega) (by simp only [maxLen]; omega))
            refine s1 rfl (det_move rfl) rfl rfl trivial rfl ?_
            refine sg_nil ?_
            refine oAppH (b := [_]) (post := [_, _]) (m := (n - i)) (news := rowsV ctv (l.drop i)) (fun _ => by kernel_rfl) rfl ap46 rfl rfl rfl trivial hS63 (by rw [rowsV_len ctv_len, List.length_drop, ← hP.len]) (fun w hs j u hj => by obtain ⟨b, hb, h⟩ := (hP.from i (by omega) hnc).flat ctv_len (by decide) j u hj; exact ⟨b, hb, hs.know _ _ h⟩) (rowsC_one _) (by omega) (by simp only [maxLen]; omega) (fun A8 c8 b8 hS8 => ?_)
            have hS9 : SlO 50 2 (.slice A8 (i + 1 + (n - i)) c8) (i + 1 + (n - i)) (rowsV ctv (l.take i ++ ⟨t, aft 0 1⟩ :: l.drop i)) b8 := by
              rw [rowsV_app, show rowsV ctv (⟨t, aft 0 1⟩ :: l.drop i) = ctv ⟨t, aft 0 1⟩ ++ rowsV ctv (l.drop i) from rfl, ← List.append_assoc]; exact hS8
            refine r_seg 13 13 [] [9, 10, 11, 12] (by kernel_rfl) ?_
            refine s1 rfl (det_move rfl) rfl rfl trivial rfl ?_
            refine s1 rfl (det_assign rfl) rfl rfl trivial rfl ?_
            refine s1 rfl (det_assign rfl) rfl rfl trivial rfl ?_
            refine s1 rfl (det_assign rfl) rfl rfl trivial rfl ?_
            refine sg_nil ?_
            refine be rfl ?_
            refine np ?_
            refine k_then ?_
            refine t_ret ?_
            refine ret_tmp3 rfl rfl rfl rfl rfl (fun w1 hs => ?_)
            have ha1 : aft 0 1 = 1 := rfl
            rw [ha1] at hS9
            rw [next_new hokl ht hnk hl12, hi] at he; cases he
            exact end_fresh hs fun F2 h1 _ h3 => by
              obtain ⟨g1, g2, g3⟩ := SlO.ck hS9 (fun p cs t fr k hm => h3 p cs t fr k (.tail _ (.tail _ hm))) rfl
              exact ⟨_, _, _, rfl, g1, g2, g3⟩
      ·
        have hnk : ¬ (fstI l t < l.length ∧ (atC l (fstI l t)).st = t) := by rw [hi]; rintro ⟨h5, h6⟩; have := hP.len; omega
        refine sn rfl rfl rfl ⟨_, rfl, .inl rfl⟩ ?_
        refine sn rfl rfl rfl ⟨_, rfl, .inl rfl⟩ ?_
        refine sn rfl rfl rfl ⟨_, rfl, .inl rfl⟩ ?_
        refine sn rfl rfl rfl ⟨_, rfl, .inl rfl⟩ ?_
        refine sn rfl rfl rfl ⟨_, rfl, .inl rfl⟩ ?_
        refine sn rfl rfl rfl ⟨_, rfl, .inl rfl⟩ ?_
        refine sn rfl rfl rfl ⟨_, rfl, .inl rfl⟩ ?_
        refine s1 rfl (det_pickF rfl rfl) rfl rfl trivial rfl ?_
        refine sg_nil ?_
        refine be rfl ?_
        refine k_then ?_
        refine t_condF rfl ?_
        refine t_seq ?_
        refine b0 ?_
        refine o1 rfl (det_move rfl) rfl rfl trivial ?_
        refine o1 rfl (det_lenS sl46 rfl) rfl rfl trivial ?_
        refine o1 rfl (det_eql rfl rfl) rfl rfl trivial ?_
        refine be rfl ?_
        refine k_then ?_
        refine t_condP beq_iff_eq rfl (fun hb => ?_) (fun hb => ?_)
        ·
          have hl12 : l.length = 12 := by have := hP.len; omega
          refine t_seq ?_
          refine b0 ?_
          refine o1 rfl (det_assign rfl) rfl rfl trivial ?_
          refine o1 rfl (det_assign rfl) rfl rfl trivial ?_
          refine o1 rfl (det_assign rfl) rfl rfl trivial ?_
          refine be rfl ?_
          refine k_then ?_
          refine t_ret (k_thenR (?_))
          refine ret_tmp3 rfl rfl rfl rfl rfl (fun w1 hs => ?_)
          rw [next_full hokl ht hnk hl12] at he; cases he
          exact end_fresh hs fun F2 h1 _ h3 => ⟨none, 0, 0, rfl, Nat.le_refl _, Nat.zero_le _, RowsK.nil⟩
        ·
          have hl12 : l.length ≠ 12 := by have := hP.len; omega
          refine t_skip ?_
          refine k_then ?_
          refine t_seq ?_
          refine b0 ?_
          refine o1 rfl (det_fieldAddr fld50_1 rfl) rfl rfl trivial ?_
          refine o1 rfl (det_load1 t1_3 rfl rfl (.head _) rfl) rfl rfl trivial ?_
          refine o1 rfl (det_assign rfl) rfl rfl trivial ?_
          refine be rfl ?_
          refine k_then ?_
          refine t_seq ?_
          refine b0 ?_
          refine o1 rfl (det_move rfl) rfl rfl trivial ?_
          refine o1 rfl (det_call hb26 rfl rfl (fun w1 hs => after_ok hs.know (by decide))) rfl rfl trivial ?_
          refine o1 rfl (det_fieldAddr fld50_1 rfl) rfl rfl trivial ?_
          refine st1 nofun rfl t1_3 rfl rfl rfl .head rfl trivial rfl ?_
          refine be rfl ?_
          refine k_then ?_
          refine t_seq ?_
          refine bD mixed ?_
          refine r_late 9 8 (by kernel_rfl) ?_
          refine r_seg 13 8 [5, 6] [0, 1, 2, 3, 4, 5, 6, 7] (by kernel_rfl) ?_
          have hnl := hP.len
          refine s1 rfl (det_move rfl) rfl rfl trivial rfl ?_
          refine s1 rfl (det_move rfl) rfl rfl trivial rfl ?_
          refine s1 rfl (det_move rfl) rfl rfl trivial rfl ?_
          refine s1 rfl (det_slice3 sl46 rfl rfl rfl (by have := hP.len; omega)) rfl rfl trivial rfl ?_
          refine s1 rfl (det_loadN tN50 rfl rfl (.head _) rfl) rfl rfl trivial rfl ?_
          refine sm1 rfl (new_buildSlice rfl (fun w => bsl46_1_0 _ _ w)) rfl rfl trivial rfl (fun p62 => ?_)
          refine smN (V := fun p v ob => SlO 50 2 v (i + 1) (rowsV ctv (l.take i) ++ ctv ⟨t, aft 0 1⟩) [(p, ob)]) [_] (needC (.head _) rfl need0) rfl (fun F2 hF2 hN => ?_) rfl rfl trivial rfl (fun p63 v63 ob63 hS63 => ?_)
          ·
            exact (new_appK (xs := rowsV ctv (l.take i)) (news := ctv ⟨t, aft 0 1⟩) (n := i) (m := 1) ap46 rfl rfl (by rw [rowsV_len ctv_len, List.length_take]; congr 1; omega) rfl (by decide) (fun w hs j u hj => by obtain ⟨b, hb, h⟩ := (hP.take i (by omega)).flat ctv_len (by decide) j u hj; exact ⟨b, hb, hs.know _ _ (hF2 _ _ h)⟩) (fun w hs j u hj => heldC hs (hN _ (.head _)) j u hj) (by omega) (by simp only [maxLen]; omega))
          refine s1 rfl (det_move rfl) rfl rfl trivial rfl ?_
          refine sg_nil ?_
          refine oAppH (b := [_]) (post := [_, _]) (m := (n - i)) (news := rowsV ctv (l.drop i)) (fun _ => by kernel_rfl) rfl ap46 rfl rfl rfl trivial hS63 (by rw [rowsV_len ctv_len, List.length_drop, ← hP.len]) (fun w hs j u hj => by obtain ⟨b, hb, h⟩ := (hP.from i (by omega) hnc).flat ctv_len (by decide) j u hj; exact ⟨b, hb, hs.know _ _ h⟩) (rowsC_one _) (by omega) (by simp only [maxLen]; omega) (fun A8 c8 b8 hS8 => ?_)
          have hS9 : SlO 50 2 (.slice A8 (i + 1 + (n - i)) c8) (i + 1 + (n - i)) (rowsV ctv (l.take i ++ ⟨t, aft 0 1⟩ :: l.drop i)) b8 := by
            rw [rowsV_app, show rowsV ctv (⟨t, aft 0 1⟩ :: l.drop i) = ctv ⟨t, aft 0 1⟩ ++ rowsV ctv (l.drop i) from rfl, ← List.append_assoc]; exact hS8
          refine r_seg 13 13 [] [9, 10, 11, 12] (by kernel_rfl) ?_
          refine s1 rfl (det_move rfl) rfl rfl trivial rfl ?_
          refine s1 rfl (det_assign rfl) rfl rfl trivial rfl ?_
          refine s1 rfl (det_assign rfl) rfl rfl trivial rfl ?_
          refine s1 rfl (det_assign rfl) rfl rfl trivial rfl ?_
          refine sg_nil ?_
          refine be rfl ?_
          refine np ?_
          refine k_then ?_
          refine t_ret ?_
          refine ret_tmp3 rfl rfl rfl rfl rfl (fun w1 hs => ?_)
          have ha1 : aft 0 1 = 1 := rfl
          rw [ha1] at hS9
          rw [next_new hokl ht hnk hl12, hi] at he; cases he
          exact end_fresh hs fun F2 h1 _ h3 => by
            obtain ⟨g1, g2, g3⟩ := SlO.ck hS9 (fun p cs t fr k hm => h3 p cs t fr k (.tail _ (.tail _ hm))) rfl
            exact ⟨_, _, _, rfl, g1, g2, g3⟩

end Go.Proofs.Sq
