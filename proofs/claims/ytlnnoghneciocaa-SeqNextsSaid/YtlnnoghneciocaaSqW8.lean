/-
  Walks through layer 39 and its reference.
-/
import Derived.Test.YtlnnoghneciocaaSqW7
namespace Go.Proofs.Sq
open Go Go.Eng Go.Sq
set_option maxRecDepth 4000

/-- The reference's Next. -/
theorem rnext_ok {w : World} {F : Know} (hF : ∀ a v, F a = some v → w.cell? a = some v) {A : Option Addr} {n c : Nat} {l : List Ct} (hP : CK F A n l) (hnb : n ≤ 65536) {t : Int} {l2 : List Ct} {q er : Int} (he : nextL l t = ((l2, q), er)) : CallsF Try.prog 22 [.slice A n c, .int .i64 t] w noK (fun v F2 => ∃ A1 n1 c1, v = .tuple [.slice A1 n1 c1, .int .i64 q, .int .i64 er].toArray ∧ n1 ≤ c1 ∧ c1 ≤ maxLen ∧ CK F2 A1 n1 l2) := by
  refine fn_fresh (F := F) Try.func22 rfl Try.ntmps22 rfl hF ?_
  refine t_seq ?_
  refine b0 ?_
  refine o1 rfl (det_assign rfl) rfl rfl trivial ?_
  refine o1 rfl (det_assign rfl) rfl rfl trivial ?_
  refine o1 rfl (det_assign rfl) rfl rfl trivial ?_
  refine be rfl ?_
  refine k_then ?_
  refine t_seq ?_
  refine t_seq ?_
  refine b0 ?_
  refine o1 rfl (det_move rfl) rfl rfl trivial ?_
  refine o1 rfl (det_call hb21 rfl rfl (fun w1 hs => right_ok hs.know hP hnb)) rfl rfl trivial ?_
  refine o1 rfl (det_not rfl) rfl rfl trivial ?_
  refine be rfl ?_
  refine k_then ?_
  refine t_condP not_iff_false rfl (fun hb => ?_) (fun hb => ?_)
  ·
    have hno : okL l = false := by simpa using hb
    refine t_seq ?_
    refine b0 ?_
    refine o1 rfl (det_assign rfl) rfl rfl trivial ?_
    refine o1 rfl (det_assign rfl) rfl rfl trivial ?_
    refine o1 rfl (det_assign rfl) rfl rfl trivial ?_
    refine be rfl ?_
    refine k_then ?_
    refine t_ret (k_thenR (?_))
    refine ret_tmp3 rfl rfl rfl rfl rfl (fun w1 hs => ?_)
    rw [next_bad hno] at he; cases he
    exact end_fresh hs fun F2 h1 _ h3 => ⟨none, 0, 0, rfl, Nat.le_refl _, Nat.zero_le _, RowsK.nil⟩
  ·
    have hokl : okL l = true := by simpa using hb
    refine t_skip ?_
    refine k_then ?_
    refine t_seq ?_
    refine t_seq ?_
    refine t_merge (env0 := [(0, _), (1, _), (4, _), (5, _), (6, _)]) ⟨rfl, rfl, rfl, rfl, rfl, trivial⟩ 19 (.bool (decide (¬ (1 ≤ t ∧ t ≤ 4095)))) ?_ (fun hK => ?_)
    ·
      refine k_then ?_
      refine t_condP decide_eq_true_iff rfl (fun hb => ?_) (fun hb => ?_)
      ·
        have hta : ¬ (1 ≤ t ∧ t ≤ 4095) := by simpa using hb
        refine t_seq ?_
        refine b0 ?_
        refine o1 rfl (det_assign rfl) rfl rfl trivial ?_
        refine o1 rfl (det_assign rfl) rfl rfl trivial ?_
        refine o1 rfl (det_assign rfl) rfl rfl trivial ?_
        refine be rfl ?_
        refine k_then ?_
        refine t_ret (k_thenR (?_))
        refine ret_tmp3 rfl rfl rfl rfl rfl (fun w1 hs => ?_)
        rw [next_arg hokl hta] at he; cases he
        exact end_fresh hs fun F2 h1 _ h3 => ⟨none, 0, 0, rfl, Nat.le_refl _, Nat.zero_le _, RowsK.nil⟩
      ·
        have ht : 1 ≤ t ∧ t ≤ 4095 := by simpa using hb
        refine t_skip ?_
        refine k_then ?_
        refine t_seq ?_
        refine b0 ?_
        refine o1 rfl (det_assign rfl) rfl rfl trivial ?_
        refine be rfl ?_
        refine k_then ?_
        refine t_seq ?_
        refine b0 ?_
        refine o1 rfl (det_assign rfl) rfl rfl trivial ?_
        refine o1 rfl (det_assign rfl) rfl rfl trivial ?_
        refine be rfl ?_
        refine k_then ?_
        refine t_seq ?_
        refine t_seq ?_
        refine b0 ?_
        refine o1 rfl (det_assign rfl) rfl rfl trivial ?_
        refine be rfl ?_
        refine k_then ?_
        refine t_block ?_
        refine t_whileM (σ := NSt) (fun s => [(7, .slice s.A s.n s.c), (8, .int .i64 s.q), (9, .bool s.dn), (10, .int .i64 s.i)]) (fun s => s.b) (fun s => l.length - s.i) (fun s => NOk l t s) ⟨0, 0, 0, none, [], [], 0, false⟩ (env0 := [(0, _), (1, _), (4, _), (5, _), (6, _)]) (NOk.zero l t) ⟨rfl, rfl, rfl, rfl, trivial⟩ ⟨rfl, rfl, rfl, rfl, rfl, trivial⟩ (.refl _) ?_
        rintro s hN
        have hsl := hN.i
        have hnl := hP.len
        have hxl := hN.I.len hN.i
        have hnx := hN.n
        have hl12 := (okL_iff.1 hokl).1
        refine t_seq ?_
        refine t_seq ?_
        refine b0 ?_
        refine o1 rfl (det_move rfl) rfl rfl trivial ?_
        refine o1 rfl (det_move rfl) rfl rfl trivial ?_
        refine o1 rfl (det_lenS sl46 rfl) rfl rfl trivial ?_
        refine o1 rfl (det_lss rfl rfl) rfl rfl trivial ?_
        refine be rfl ?_
        refine k_then ?_
        refine t_condP decide_eq_true_iff rfl (fun hb => ?_) (fun hb => ?_)
        ·
          have hlt : s.i < l.length := by omega
          obtain ⟨A, rfl⟩ := hP.some hlt
          have hat := (atC_get hlt).symm
          have hob := ok_bd hokl hlt
          rw [← hat] at hob
          refine t_skip ?_
          refine k_then ?_
          refine t_seq ?_
          refine t_block ?_
          refine t_seq ?_
          refine t_seq ?_
          refine b0 ?_
          refine o1 rfl (det_move rfl) rfl rfl trivial ?_
          refine o1 rfl (det_move rfl) rfl rfl trivial ?_
          first | (refine o1 rfl (det_indexAddr sl46 rfl rfl ?_) rfl rfl trivial ?_; (· (first | decide | omega)))
          refine o1 rfl (det_fieldAddr fld50_0 rfl) rfl rfl trivial ?_
          refine o1 rfl (det_loadK t1_3 rfl (hP.cell (i := (s.i : Int)) (k := s.i) (j := 0) (u := .int .i64 l[s.i].st) (Int.toNat_natCast s.i) hlt rfl)) rfl rfl trivial ?_
          refine o1 rfl (det_move rfl) rfl rfl trivial ?_
          refine o1 rfl (det_eql rfl rfl) rfl rfl trivial ?_
          refine be rfl ?_
          refine k_then ?_
          refine t_condP beq_iff_eq rfl (fun hb => ?_) (fun hb => ?_)
          ·
            have hst : l[s.i].st = t := hb
            refine t_seq ?_
            refine b0 ?_
            refine o1 rfl (det_move rfl) rfl rfl trivial ?_
            refine o1 rfl (det_move rfl) rfl rfl trivial ?_
            first | (refine o1 rfl (det_indexAddr sl46 rfl rfl ?_) rfl rfl trivial ?_; (· (first | decide | omega)))
            refine o1 rfl (det_fieldAddr fld50_1 rfl) rfl rfl trivial ?_
            refine o1 rfl (det_loadK t1_3 rfl (hP.cell (i := (s.i : Int)) (k := s.i) (j := 1) (u := .int .i64 l[s.i].nx) (Int.toNat_natCast s.i) hlt rfl)) rfl rfl trivial ?_
            refine o1 rfl (det_assign rfl) rfl rfl trivial ?_
            refine be rfl ?_
            refine k_then ?_
            refine t_seq ?_
            refine b0 ?_
            refine o1 rfl (det_move rfl) rfl rfl trivial ?_
            refine o1 rfl (det_move rfl) rfl rfl trivial ?_
            refine o1 rfl (det_move rfl) rfl rfl trivial ?_
            refine o1 rfl (det_call hb13 rfl rfl (fun w1 hs => raft_ok hs.know (by omega))) rfl rfl trivial ?_
            refine o1 rfl (det_build rfl (fun w => bld50_0_1 _ _ w)) rfl rfl trivial ?_
            refine om1 rfl (new_buildSlice rfl (fun w => bsl46_1_0 _ _ w)) rfl rfl trivial (fun p43 => ?_)
            refine oAppS (pre := [_]) (b := _) (m := 1) (news := ctv ⟨t, aft l[s.i].nx 1⟩) nofun rfl ap46 rfl rfl rfl trivial hN.S rfl (fun w hs j u hj => hs.cellO (.head _) hj) (ctv_one _) (by omega) (by simp only [maxLen]; omega) (fun A9 c9 b9 hS9 => ?_)
            rw [← rows1] at hS9
            refine o1 rfl (det_assign rfl) rfl rfl trivial ?_
            refine be rfl ?_
            refine k_then ?_
            refine t_seq ?_
            refine b0 ?_
            refine o1 rfl (det_assign rfl) rfl rfl trivial ?_
            refine be rfl ?_
            refine k_then ?_
            refine t_exit ?_
            refine k_thenE ?_
            refine k_blkE ?_
            refine k_then ?_
            refine b0 ?_
            refine o1 rfl (det_move rfl) rfl rfl trivial ?_
            first | (refine o1 rfl (det_addI rfl rfl ?_) rfl rfl trivial ?_; (· omega)) | refine o1 rfl (det_add rfl rfl) rfl rfl trivial ?_
            refine o1 rfl (det_assign rfl) rfl rfl trivial ?_
            refine be rfl ?_
            refine k_then ?_
            refine loop_back ⟨s.i + 1, s.n + 1, c9, A9, b9, s.xs ++ [⟨t, aft l[s.i].nx 1⟩], l[s.i].nx, true⟩ ⟨by show s.i + 1 ≤ _; omega, hS9, by simp [hN.n], by have := hN.I.hit hokl hlt (by rw [← hat]; exact hst); rw [← hat] at this; exact this⟩ (by simp only; omega) ⟨rfl, rfl, rfl, rfl, rfl, rfl, rfl, rfl, rfl, trivial⟩ (.cons _ (.refl _))
          ·
            have hst : l[s.i].st ≠ t := hb
            refine t_skip ?_
            refine k_then ?_
            refine t_seq ?_
            refine t_seq ?_
            refine b0 ?_
            refine o1 rfl (det_move rfl) rfl rfl trivial ?_
            refine o1 rfl (det_not rfl) rfl rfl trivial ?_
            refine o2P not_iff_false rfl (det_move rfl) rfl rfl trivial (fun hb => ?_) (fun hb => ?_)
            ·
              have hdn : s.dn = false := by simpa using hb
              refine o1 rfl (det_move rfl) rfl rfl ⟨_, rfl, rfl⟩ ?_
              refine o1 rfl (det_move rfl) rfl rfl ⟨_, rfl, rfl⟩ ?_
              first | (refine o1 rfl (det_indexAddr sl46 rfl rfl ?_) rfl rfl ⟨_, rfl, rfl⟩ ?_; (· (first | decide | omega)))
              refine o1 rfl (det_fieldAddr fld50_0 rfl) rfl rfl ⟨_, rfl, rfl⟩ ?_
              refine o1 rfl (det_loadK t1_3 rfl (hP.cell (i := (s.i : Int)) (k := s.i) (j := 0) (u := .int .i64 l[s.i].st) (Int.toNat_natCast s.i) hlt rfl)) rfl rfl ⟨_, rfl, rfl⟩ ?_
              refine o1 rfl (det_move rfl) rfl rfl ⟨_, rfl, rfl⟩ ?_
              refine o1 rfl (det_gtr rfl rfl) rfl rfl ⟨_, rfl, rfl⟩ ?_
              refine o1 rfl (det_pickT rfl rfl) rfl rfl trivial ?_
              refine be rfl ?_
              refine k_then ?_
              refine t_condP decide_eq_true_iff rfl (fun hb => ?_) (fun hb => ?_)
              ·
                skip --note:ins
                refine t_seq ?_
                refine b0 ?_
                refine o1 rfl (det_move rfl) rfl rfl trivial ?_
                refine o1 rfl (det_move rfl) rfl rfl trivial ?_
                refine o1 rfl (det_build rfl (fun w => bld50_0_1 _ _ w)) rfl rfl trivial ?_
                refine om1 rfl (new_buildSlice rfl (fun w => bsl46_1_0 _ _ w)) rfl rfl trivial (fun p59 => ?_)
                refine oAppS (pre := [_]) (b := _) (m := 1) (news := ctv ⟨t, 1⟩) nofun rfl ap46 rfl rfl rfl trivial hN.S rfl (fun w hs j u hj => hs.cellO (.head _) hj) (ctv_one _) (by omega) (by simp only [maxLen]; omega) (fun A8 c8 b8 hS8 => ?_)
                rw [← rows1] at hS8
                refine o1 rfl (det_assign rfl) rfl rfl trivial ?_
                refine be rfl ?_
                refine k_then ?_
                refine b0 ?_
                refine o1 rfl (det_assign rfl) rfl rfl trivial ?_
                refine be rfl ?_
                refine k_then ?_
                refine b0 ?_
                refine o1 rfl (det_move rfl) rfl rfl trivial ?_
                refine o1 rfl (det_move rfl) rfl rfl trivial ?_
                refine o1 rfl (det_move rfl) rfl rfl trivial ?_
                first | (refine o1 rfl (det_indexAddr sl46 rfl rfl ?_) rfl rfl trivial ?_; (· (first | decide | omega)))
                refine o1 rfl (det_loadKN tN50 rfl (ctv_len l[s.i]) (hP.cells (i := (s.i : Int)) (k := s.i) (Int.toNat_natCast s.i) hlt (ctv_len _))) rfl rfl trivial ?_
                refine om1 rfl (new_buildSlice rfl (fun w => bsl46_1_0 _ _ w)) rfl rfl trivial (fun p66 => ?_)
                refine oAppS (pre := [_, _]) (b := _) (m := 1) (news := ctv l[s.i]) nofun rfl ap46 rfl rfl rfl trivial hS8 rfl (fun w hs j u hj => hs.cellO (.head _) hj) (ctv_one _) (by omega) (by simp only [maxLen]; omega) (fun A9 c9 b9 hS9 => ?_)
                rw [← rows1] at hS9
                refine o1 rfl (det_assign rfl) rfl rfl trivial ?_
                refine be rfl ?_
                refine k_blk ?_
                refine k_then ?_
                refine b0 ?_
                refine o1 rfl (det_move rfl) rfl rfl trivial ?_
                first | (refine o1 rfl (det_addI rfl rfl ?_) rfl rfl trivial ?_; (· omega)) | refine o1 rfl (det_add rfl rfl) rfl rfl trivial ?_
                refine o1 rfl (det_assign rfl) rfl rfl trivial ?_
                refine be rfl ?_
                refine k_then ?_
                refine loop_back ⟨s.i + 1, s.n + 1 + 1, c9, A9, b9, s.xs ++ [⟨t, 1⟩] ++ [l[s.i]], s.q, true⟩ ⟨by show s.i + 1 ≤ _; omega, hS9, by simp [hN.n], by have h5 := hN.I; rw [hdn] at h5; have := h5.ins hokl hlt (by rw [← hat]; omega); rw [← hat] at this; exact this⟩ (by simp only; omega) ⟨rfl, rfl, rfl, rfl, rfl, rfl, rfl, rfl, rfl, trivial⟩ (.cons _ (.cons _ (.refl _)))
              ·
                skip
                refine t_skip ?_
                refine k_then ?_
                refine b0 ?_
                refine o1 rfl (det_move rfl) rfl rfl trivial ?_
                refine o1 rfl (det_move rfl) rfl rfl trivial ?_
                refine o1 rfl (det_move rfl) rfl rfl trivial ?_
                first | (refine o1 rfl (det_indexAddr sl46 rfl rfl ?_) rfl rfl trivial ?_; (· (first | decide | omega)))
                refine o1 rfl (det_loadKN tN50 rfl (ctv_len l[s.i]) (hP.cells (i := (s.i : Int)) (k := s.i) (Int.toNat_natCast s.i) hlt (ctv_len _))) rfl rfl trivial ?_
                refine om1 rfl (new_buildSlice rfl (fun w => bsl46_1_0 _ _ w)) rfl rfl trivial (fun p66 => ?_)
                refine oAppS (pre := [_]) (b := _) (m := 1) (news := ctv l[s.i]) nofun rfl ap46 rfl rfl rfl trivial hN.S rfl (fun w hs j u hj => hs.cellO (.head _) hj) (ctv_one _) (by omega) (by simp only [maxLen]; omega) (fun A9 c9 b9 hS9 => ?_)
                rw [← rows1] at hS9
                refine o1 rfl (det_assign rfl) rfl rfl trivial ?_
                refine be rfl ?_
                refine k_blk ?_
                refine k_then ?_
                refine b0 ?_
                refine o1 rfl (det_move rfl) rfl rfl trivial ?_
                first | (refine o1 rfl (det_addI rfl rfl ?_) rfl rfl trivial ?_; (· omega)) | refine o1 rfl (det_add rfl rfl) rfl rfl trivial ?_
                refine o1 rfl (det_assign rfl) rfl rfl trivial ?_
                refine be rfl ?_
                refine k_then ?_
                refine loop_back ⟨s.i + 1, s.n + 1, c9, A9, b9, s.xs ++ [l[s.i]], s.q, s.dn⟩ ⟨by show s.i + 1 ≤ _; omega, hS9, by simp [hN.n], by have := hN.I.pass hlt (by rw [← hat]; exact hst) (fun _ => by rw [← hat]; omega); rw [← hat] at this; exact this⟩ (by simp only; omega) ⟨rfl, rfl, rfl, rfl, rfl, rfl, rfl, rfl, rfl, trivial⟩ (.cons _ (.refl _))
            ·
              have hdn : s.dn = true := by simpa using hb
              refine on rfl rfl rfl ⟨_, rfl, .inl rfl⟩ ?_
              refine on rfl rfl rfl ⟨_, rfl, .inl rfl⟩ ?_
              refine on rfl rfl rfl ⟨_, rfl, .inl rfl⟩ ?_
              refine on rfl rfl rfl ⟨_, rfl, .inl rfl⟩ ?_
              refine on rfl rfl rfl ⟨_, rfl, .inl rfl⟩ ?_
              refine on rfl rfl rfl ⟨_, rfl, .inl rfl⟩ ?_
              refine on rfl rfl rfl ⟨_, rfl, .inl rfl⟩ ?_
              refine o1 rfl (det_pickF rfl rfl) rfl rfl trivial ?_
              refine be rfl ?_
              refine k_then ?_
              refine t_condF rfl ?_
              refine t_skip ?_
              refine k_then ?_
              refine b0 ?_
              refine o1 rfl (det_move rfl) rfl rfl trivial ?_
              refine o1 rfl (det_move rfl) rfl rfl trivial ?_
              refine o1 rfl (det_move rfl) rfl rfl trivial ?_
              first | (refine o1 rfl (det_indexAddr sl46 rfl rfl ?_) rfl rfl trivial ?_; (· (first | decide | omega)))
              refine o1 rfl (det_loadKN tN50 rfl (ctv_len l[s.i]) (hP.cells (i := (s.i : Int)) (k := s.i) (Int.toNat_natCast s.i) hlt (ctv_len _))) rfl rfl trivial ?_
              refine om1 rfl (new_buildSlice rfl (fun w => bsl46_1_0 _ _ w)) rfl rfl trivial (fun p66 => ?_)
              refine oAppS (pre := [_]) (b := _) (m := 1) (news := ctv l[s.i]) nofun rfl ap46 rfl rfl rfl trivial hN.S rfl (fun w hs j u hj => hs.cellO (.head _) hj) (ctv_one _) (by omega) (by simp only [maxLen]; omega) (fun A9 c9 b9 hS9 => ?_)
              rw [← rows1] at hS9
              refine o1 rfl (det_assign rfl) rfl rfl trivial ?_
              refine be rfl ?_
              refine k_blk ?_
              refine k_then ?_
              refine b0 ?_
              refine o1 rfl (det_move rfl) rfl rfl trivial ?_
              first | (refine o1 rfl (det_addI rfl rfl ?_) rfl rfl trivial ?_; (· omega)) | refine o1 rfl (det_add rfl rfl) rfl rfl trivial ?_
              refine o1 rfl (det_assign rfl) rfl rfl trivial ?_
              refine be rfl ?_
              refine k_then ?_
              refine loop_back ⟨s.i + 1, s.n + 1, c9, A9, b9, s.xs ++ [l[s.i]], s.q, s.dn⟩ ⟨by show s.i + 1 ≤ _; omega, hS9, by simp [hN.n], by have := hN.I.pass hlt (by rw [← hat]; exact hst) (fun h => by rw [hdn] at h; cases h); rw [← hat] at this; exact this⟩ (by simp only; omega) ⟨rfl, rfl, rfl, rfl, rfl, rfl, rfl, rfl, rfl, trivial⟩ (.cons _ (.refl _))
        ·
          have hse : s.i = l.length := by omega
          have hI := hN.I
          rw [hse] at hI
          refine t_exit ?_
          refine k_thenE ?_
          refine k_thenE ?_
          refine k_blkE ?_
          refine k_then ?_
          refine t_seq ?_
          refine t_seq ?_
          refine b0 ?_
          refine o1 rfl (det_move rfl) rfl rfl trivial ?_
          refine o1 rfl (det_not rfl) rfl rfl trivial ?_
          refine be rfl ?_
          refine k_then ?_
          refine t_condP not_iff_false rfl (fun hb => ?_) (fun hb => ?_)
          ·
            have hdn : s.dn = false := by simpa using hb
            rw [hdn] at hI
            have hfd := hI.miss
            have hfl : (fullL l t).length = s.n + 1 := by rw [← hfd.1]; simp [hN.n] --note:miss
            refine b0 ?_
            refine o1 rfl (det_move rfl) rfl rfl trivial ?_
            refine o1 rfl (det_move rfl) rfl rfl trivial ?_
            refine o1 rfl (det_build rfl (fun w => bld50_0_1 _ _ w)) rfl rfl trivial ?_
            refine om1 rfl (new_buildSlice rfl (fun w => bsl46_1_0 _ _ w)) rfl rfl trivial (fun p73 => ?_)
            refine oAppS (pre := [_]) (b := _) (m := 1) (news := ctv ⟨t, 1⟩) nofun rfl ap46 rfl rfl rfl trivial hN.S rfl (fun w hs j u hj => hs.cellO (.head _) hj) (ctv_one _) (by omega) (by simp only [maxLen]; omega) (fun A9 c9 b9 hS9 => ?_)
            rw [← rows1] at hS9
            refine o1 rfl (det_assign rfl) rfl rfl trivial ?_
            refine be rfl ?_
            refine k_then ?_
            refine t_seq ?_
            refine t_seq ?_
            refine b0 ?_
            refine o1 rfl (det_move rfl) rfl rfl trivial ?_
            refine o1 rfl (det_lenS sl46 rfl) rfl rfl trivial ?_
            refine o1 rfl (det_gtr rfl rfl) rfl rfl trivial ?_
            refine be rfl ?_
            refine k_then ?_
            refine t_condP decide_eq_true_iff rfl (fun hb => ?_) (fun hb => ?_)
            ·
              refine t_seq ?_
              refine b0 ?_
              refine o1 rfl (det_assign rfl) rfl rfl trivial ?_
              refine o1 rfl (det_assign rfl) rfl rfl trivial ?_
              refine o1 rfl (det_assign rfl) rfl rfl trivial ?_
              refine be rfl ?_
              refine k_then ?_
              refine t_ret (k_thenR (?_))
              refine ret_tmp3 rfl rfl rfl rfl rfl (fun w1 hs => ?_)
              rw [full_next hokl ht, if_pos (by omega)] at he; cases he
              exact end_fresh hs fun F2 h1 _ h3 => ⟨none, 0, 0, rfl, Nat.le_refl _, Nat.zero_le _, RowsK.nil⟩
            ·
              refine t_skip ?_
              refine k_then ?_
              refine t_seq ?_
              refine b0 ?_
              refine o1 rfl (det_move rfl) rfl rfl trivial ?_
              refine o1 rfl (det_move rfl) rfl rfl trivial ?_
              refine o1 rfl (det_assign rfl) rfl rfl trivial ?_
              refine o1 rfl (det_assign rfl) rfl rfl trivial ?_
              refine o1 rfl (det_assign rfl) rfl rfl trivial ?_
              refine be rfl ?_
              refine k_then ?_
              refine t_ret ?_
              refine ret_tmp3 rfl rfl rfl rfl rfl (fun w1 hs => ?_)
              rw [full_next hokl ht, if_neg (by omega), ← hfd.1, ← hfd.2] at he; cases he
              exact end_fresh hs fun F2 h1 _ h3 => by
                obtain ⟨g1, g2, g3⟩ := SlO.ck hS9 (fun p cs tt fr k hm => h3 p cs tt fr k (.tail _ hm)) rfl
                exact ⟨_, _, _, rfl, g1, g2, g3⟩
          ·
            have hdn : s.dn = true := by simpa using hb
            rw [hdn] at hI
            have hfd := hI.done
            have hfl : (fullL l t).length = s.n := by rw [← hfd.1]; simp [hN.n]
            refine t_skip ?_
            refine k_then ?_
            refine t_seq ?_
            refine t_seq ?_
            refine b0 ?_
            refine o1 rfl (det_move rfl) rfl rfl trivial ?_
            refine o1 rfl (det_lenS sl46 rfl) rfl rfl trivial ?_
            refine o1 rfl (det_gtr rfl rfl) rfl rfl trivial ?_
            refine be rfl ?_
            refine k_then ?_
            refine t_condP decide_eq_true_iff rfl (fun hb => ?_) (fun hb => ?_)
            ·
              refine t_seq ?_
              refine b0 ?_
              refine o1 rfl (det_assign rfl) rfl rfl trivial ?_
              refine o1 rfl (det_assign rfl) rfl rfl trivial ?_
              refine o1 rfl (det_assign rfl) rfl rfl trivial ?_
              refine be rfl ?_
              refine k_then ?_
              refine t_ret (k_thenR (?_))
              refine ret_tmp3 rfl rfl rfl rfl rfl (fun w1 hs => ?_)
              rw [full_next hokl ht, if_pos (by omega)] at he; cases he
              exact end_fresh hs fun F2 h1 _ h3 => ⟨none, 0, 0, rfl, Nat.le_refl _, Nat.zero_le _, RowsK.nil⟩
            ·
              refine t_skip ?_
              refine k_then ?_
              refine t_seq ?_
              refine b0 ?_
              refine o1 rfl (det_move rfl) rfl rfl trivial ?_
              refine o1 rfl (det_move rfl) rfl rfl trivial ?_
              refine o1 rfl (det_assign rfl) rfl rfl trivial ?_
              refine o1 rfl (det_assign rfl) rfl rfl trivial ?_
              refine o1 rfl (det_assign rfl) rfl rfl trivial ?_
              refine be rfl ?_
              refine k_then ?_
              refine t_ret ?_
              refine ret_tmp3 rfl rfl rfl rfl rfl (fun w1 hs => ?_)
              rw [full_next hokl ht, if_neg (by omega), ← hfd.1, ← hfd.2] at he; cases he
              exact end_fresh hs fun F2 h1 _ h3 => by
                obtain ⟨g1, g2, g3⟩ := SlO.ck hN.S (fun p cs tt fr k hm => h3 p cs tt fr k hm) rfl
                exact ⟨_, _, _, rfl, g1, g2, g3⟩
    ·
      refine b0 ?_
      refine o1 rfl (det_move rfl) rfl rfl trivial ?_
      refine o1 rfl (det_lss rfl rfl) rfl rfl trivial ?_
      refine o2P decide_eq_true_iff rfl (det_move rfl) rfl rfl trivial (fun hb => ?_) (fun hb => ?_)
      ·
        refine on rfl rfl rfl ⟨_, rfl, .inl rfl⟩ ?_
        refine on rfl rfl rfl ⟨_, rfl, .inl rfl⟩ ?_
        refine o1 rfl (det_pickT rfl rfl) rfl rfl trivial ?_
        refine be rfl ?_
        refine tk_drop ?_ (.refl _) hK
        exact ⟨(mb rfl (by grind)), rfl, rfl, rfl, rfl, rfl, trivial⟩
      ·
        refine o1 rfl (det_move rfl) rfl rfl ⟨_, rfl, rfl⟩ ?_
        refine o1 rfl (det_gtr rfl rfl) rfl rfl ⟨_, rfl, rfl⟩ ?_
        refine o1 rfl (det_pickF rfl rfl) rfl rfl trivial ?_
        refine be rfl ?_
        refine tk_drop ?_ (.refl _) hK
        exact ⟨(mb rfl (by grind)), rfl, rfl, rfl, rfl, rfl, trivial⟩

end Go.Proofs.Sq
