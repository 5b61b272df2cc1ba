/-
  Walks through layers 36, 37 and 38 and their references.
-/
import Derived.Test.YtffocfffggfenaaCpL5
namespace Go.Proofs.Cp
open Go Go.Eng Go.Gt Go.Proofs.Gt Go.Sw Go.Qu Go.Ch
set_option maxRecDepth 4000

/-- heads. -/
theorem heads_n {w : World} {F : Know} (hF : ∀ a v, F a = some v → w.cell? a = some v) {A : Option Addr} {n c : Nat} {ps : List Pt} (hP : PK F A n ps) (hnb : n ≤ 100000) (hcl : ∀ p ∈ ps, 0 ≤ p.it.cl ∧ p.it.cl ≤ 7) : CallsN Try.prog 32 [.slice A n c] w (fun v bs => ∃ q : Nat, v = .slice (some ⟨q, 0, none⟩) 8 8 ∧ bs = [(q, .cells (rowsV ptv (headsL ps)).toArray 57 (0, 0))]) := by
  refine fn_new (F := F) Try.func32 rfl Try.ntmps32 rfl hF ?_
  refine t_seq ?_
  refine b0 ?_
  refine o1 rfl (det_assign rfl) rfl rfl trivial ?_
  refine be rfl ?_
  refine k_then ?_
  refine t_seq ?_
  refine b0 ?_
  refine om1 rfl (new_makeSlice mk27 rfl rfl (by omega) (by omega) (by omega) (by omega)) rfl rfl trivial (fun p6 => ?_)
  refine o1 rfl (det_assign rfl) rfl rfl trivial ?_
  refine be rfl ?_
  refine k_then ?_
  refine t_seq ?_
  refine t_seq ?_
  refine b0 ?_
  refine o1 rfl (det_move rfl) rfl rfl trivial ?_
  refine o1 rfl (det_lenS sl27 rfl) rfl rfl trivial ?_
  refine o1 rfl (det_move rfl) rfl rfl trivial ?_
  refine be rfl ?_
  refine k_then ?_
  refine t_block ?_
  refine t_whileM (σ := Nat) (fun s => [(9, .int .i64 (s : Int))]) (fun s => [(p6, .cells (rowsV ptv (headK ps s)).toArray 57 (0, 0))]) (fun s => n - s) (fun s => s ≤ n) 0 (env0 := [(2, _), (3, _), (7, _), (8, _)]) (Nat.zero_le _) ⟨rfl, trivial⟩ ⟨rfl, rfl, rfl, rfl, trivial⟩ (.refl _) ?_
  rintro s hsn
  refine t_seq ?_
  refine b0 ?_
  refine o1 rfl (det_lss rfl rfl) rfl rfl trivial ?_
  refine be rfl ?_
  refine k_then ?_
  refine t_seq ?_
  refine t_condP decide_eq_true_iff rfl (fun hb => ?_) (fun hb => ?_)
  ·
    have hlt : s < ps.length := by have := hP.len; omega
    obtain ⟨A, rfl⟩ := hP.some hlt
    refine t_skip ?_
    refine k_then ?_
    refine t_seq ?_
    refine t_block ?_
    refine t_seq ?_
    refine b0 ?_
    first | (refine o1 rfl (det_indexAddr sl27 rfl rfl ?_) rfl rfl trivial ?_; (· (first | decide | omega)))
    refine o1 rfl (det_loadKN tN57 rfl (ptv_len ps[s]) (hP.cells (i := (s : Int)) (k := s) (Int.toNat_natCast s) hlt (ptv_len _))) rfl rfl trivial ?_
    refine om1 rfl (new_alloc z57) rfl rfl trivial (fun p5 => ?_)
    refine stN nofun rfl tN57 rfl rfl rfl .head rfl trivial rfl rfl ?_
    refine be rfl ?_
    refine k_then ?_
    refine b0 ?_
    have hr := hcl ps[s] (List.getElem_mem hlt)
    have hk8 : ps[s].it.cl.toNat < (headK ps s).length := by rw [headK_len]; omega
    have hset : setV (ps[s].it.cl.toNat * 7) (ptv ps[s]) (rowsV ptv (headK ps s)) some = some (rowsV ptv (headK ps (s + 1))) := by
      have h1 := setV_splice (off := ps[s].it.cl.toNat * 7) (vs := ptv ps[s]) (l := rowsV ptv (headK ps s)) some (by rw [ptv_len, rowsV_len ptv_len, headK_len]; omega)
      rw [h1, headK_succ hlt]
      have h2 := splice_rows ptv_len hk8 ps[s] []
      rw [List.append_nil, List.append_nil] at h2
      rw [h2]
    refine o1 rfl (det_move rfl) rfl rfl trivial ?_
    refine o1 rfl (det_fieldAddr fld57_0 rfl) rfl rfl trivial ?_
    refine o1 rfl (det_fieldAddr fld55_2 rfl) rfl rfl trivial ?_
    refine o1 rfl (det_load1 t1_3 rfl rfl (.head _) rfl) rfl rfl trivial ?_
    refine o1 rfl (det_loadN tN57 rfl rfl (.head _) rfl) rfl rfl trivial ?_
    first | (refine o1 rfl (det_indexAddr sl27 rfl rfl ?_) rfl rfl trivial ?_; (· (first | decide | omega)))
    refine stN nofun rfl tN57 rfl (by rw [add_mk, Nat.zero_add]) rfl (.tail .head) hset trivial rfl rfl ?_
    refine be rfl ?_
    refine k_blk ?_
    refine k_then ?_
    refine b0 ?_
    first | (refine o1 rfl (det_addI rfl rfl ?_) rfl rfl trivial ?_; (· omega)) | refine o1 rfl (det_add rfl rfl) rfl rfl trivial ?_
    refine o1 rfl (det_move rfl) rfl rfl trivial ?_
    refine be rfl ?_
    refine k_then ?_
    refine loop_back (s + 1) (by omega) (by omega) ⟨rfl, rfl, rfl, rfl, rfl, trivial⟩ (.cons _ (.refl _))
  ·
    have hse : ps.length ≤ s := by have := hP.len; omega
    rw [headK_all hse] at *
    refine t_exit ?_
    refine k_thenE ?_
    refine k_thenE ?_
    refine k_blkE ?_
    refine k_then ?_
    refine t_seq ?_
    refine b0 ?_
    refine o1 rfl (det_move rfl) rfl rfl trivial ?_
    refine o1 rfl (det_assign rfl) rfl rfl trivial ?_
    refine be rfl ?_
    refine k_then ?_
    refine t_ret ?_
    refine ret_tmp rfl rfl rfl (fun w1 hs => ?_)
    exact end_new hs (bs := [_]) (.refl _) ⟨_, rfl, rfl⟩

set_option maxHeartbeats 4000000
/-- ChooseKnown. -/
theorem cknown_ok {w : World} {F : Know} (hF : ∀ a v, F a = some v → w.cell? a = some v)  : Pure Try.prog 10 [] w (.bool true) := by
  refine fn_pure (F := F) Try.func10 rfl Try.ntmps10 rfl hF ?_
  refine t_seq ?_
  refine b0 ?_
  refine o1 rfl (det_assign rfl) rfl rfl trivial ?_
  refine be rfl ?_
  refine k_then ?_
  refine t_seq ?_
  refine t_seq ?_
  refine b0 ?_
  refine o1 rfl (det_call hb15 rfl rfl (fun w1 hs => wakes_ok hs.know)) rfl rfl trivial ?_
  refine o1 rfl (det_not rfl) rfl rfl trivial ?_
  refine be rfl ?_
  refine k_then ?_
  refine t_condP not_iff_false rfl (fun hb => ?_) (fun hb => ?_)
  · exfalso; simp at hb
  refine t_skip ?_
  refine k_then ?_
  refine t_seq ?_
  refine b0 ?_
  refine oF nofun rfl hb30 rfl rfl rfl trivial (fun w1 hs => (half_ok hs.know).any) (fun v1 F1 hF1 hNF1 ⟨A1, k1, n1, hv1, hl1⟩ => ?_)
  subst hv1
  refine om1 rfl (new_alloc z26) rfl rfl trivial (fun p1 => ?_)
  refine stN nofun rfl tN26 rfl rfl rfl .head rfl trivial rfl rfl ?_
  refine be rfl ?_
  refine k_then ?_
  refine t_seq ?_
  refine b0 ?_
  refine o1 rfl (det_call hb31 rfl rfl (fun w1 hs => frame_ok hs.know)) rfl rfl trivial ?_
  refine o1 rfl (det_call hb31 rfl rfl (fun w1 hs => frame_ok hs.know)) rfl rfl trivial ?_
  refine o1 rfl (det_call hb31 rfl rfl (fun w1 hs => frame_ok hs.know)) rfl rfl trivial ?_
  refine om1 rfl (new_alloc z57) rfl rfl trivial (fun p2 => ?_)
  refine om1 rfl (new_alloc z57) rfl rfl trivial (fun p3 => ?_)
  refine om1 rfl (new_alloc z57) rfl rfl trivial (fun p4 => ?_)
  refine stN nofun rfl tN57 rfl rfl rfl (.tail (.tail .head)) rfl trivial rfl rfl ?_
  refine stN nofun rfl tN57 rfl rfl rfl (.tail .head) rfl trivial rfl rfl ?_
  refine stN nofun rfl tN57 rfl rfl rfl .head rfl trivial rfl rfl ?_
  refine be rfl ?_
  refine k_then ?_
  refine t_seq ?_
  refine bD mixed ?_
  refine r_segF 11 11 [3] [(4, Go.Eng.Told F1 (fun v F2 => ∃ q : Nat, v = .slice (some ⟨q, 0, none⟩) 8 8 ∧ PK F2 (some ⟨q, 0, none⟩) 8 (headsL [frameP 2 200, frameP 6 300])))] [0, 1, 2, 3, 4, 5, 6, 7, 8, 9, 10] (by kernel_rfl) ?_
  refine s1 rfl (det_loadN tN26 rfl rfl (.tail _ (.tail _ (.tail _ (.head _)))) rfl) rfl rfl trivial rfl ?_
  refine s1 rfl (det_loadN tN57 rfl rfl (.tail _ (.tail _ (.head _))) rfl) rfl rfl trivial rfl ?_
  refine s1 rfl (det_loadN tN57 rfl rfl (.tail _ (.head _)) rfl) rfl rfl trivial rfl ?_
  refine sm1 rfl (new_buildSlice rfl (fun w => bsl27_2_0_1 _ _ _ _ _ _ _ _ _ _ _ _ _ _ w)) rfl rfl trivial rfl (fun p57 => ?_)
  refine sM [_] (needC (.head _) rfl need0) rfl (fun F2 hF2 hN => mem_call hF2 hb32 rfl rfl (fun w1 hs => (heads_ok hs.know (own_rows (ps := [frameP 2 200, frameP 6 300]) (hN _ (.head _))) (by decide) (by decide)).any)) rfl rfl trivial rfl (fun v58 hv58 => ?_)
  obtain ⟨_, q_58, rfl, -⟩ := hv58
  refine s1N [_] (needC (.head _) rfl need0) rfl (fun F2 hF2 hN => det_call hb26 rfl rfl (fun w1 hs => (by obtain ⟨q9, hq, h9⟩ := hN _ (.head _); cases hq; exact when_at hs.know (lnK_mono hl1 hF2) h9 (by decide) (t := 750) (x := 750) (y := 0) (by kernel_rfl)))) rfl rfl trivial rfl ?_
  refine s1 rfl (det_move rfl) rfl rfl trivial rfl ?_
  refine s1 rfl (det_extract rfl rfl) rfl rfl trivial rfl ?_
  refine s1 rfl (det_extract rfl rfl) rfl rfl trivial rfl ?_
  refine s1 rfl (det_assign rfl) rfl rfl trivial rfl ?_
  refine s1 rfl (det_assign rfl) rfl rfl trivial rfl ?_
  refine sg_nil ?_
  rintro F_5_11 hF_5_11 hN_5_11 ⟨hR58, -⟩
  obtain ⟨q58, hq58, hP58⟩ := hR58
  cases hq58
  replace hl1 := lnK_mono hl1 hF_5_11
  refine be rfl ?_
  refine k_then ?_
  refine t_seq ?_
  refine bD mixed ?_
  refine r_segF 10 10 [2] [(3, Go.Eng.Told F_5_11 (fun v F2 => ∃ q : Nat, v = .slice (some ⟨q, 0, none⟩) 8 8 ∧ PK F2 (some ⟨q, 0, none⟩) 8 (headsL [frameP 6 300])))] [0, 1, 2, 3, 4, 5, 6, 7, 8, 9] (by kernel_rfl) ?_
  refine s1 rfl (det_loadN tN26 rfl rfl (.tail _ (.tail _ (.tail _ (.tail _ (.head _))))) rfl) rfl rfl trivial rfl ?_
  refine s1 rfl (det_loadN tN57 rfl rfl (.tail _ (.tail _ (.head _))) rfl) rfl rfl trivial rfl ?_
  refine sm1 rfl (new_buildSlice rfl (fun w => bsl27_1_0 _ _ _ _ _ _ _ w)) rfl rfl trivial rfl (fun p65 => ?_)
  refine sM [_] (needC (.head _) rfl need0) rfl (fun F2 hF2 hN => mem_call hF2 hb32 rfl rfl (fun w1 hs => (heads_ok hs.know (own_rows (ps := [frameP 6 300]) (hN _ (.head _))) (by decide) (by decide)).any)) rfl rfl trivial rfl (fun v66 hv66 => ?_)
  obtain ⟨_, q_66, rfl, -⟩ := hv66
  refine s1N [_] (needC (.head _) rfl need0) rfl (fun F2 hF2 hN => det_call hb26 rfl rfl (fun w1 hs => (by obtain ⟨q9, hq, h9⟩ := hN _ (.head _); cases hq; exact when_at hs.know (lnK_mono hl1 hF2) h9 (by decide) (t := 750) (x := 2000) (y := 0) (by kernel_rfl)))) rfl rfl trivial rfl ?_
  refine s1 rfl (det_move rfl) rfl rfl trivial rfl ?_
  refine s1 rfl (det_extract rfl rfl) rfl rfl trivial rfl ?_
  refine s1 rfl (det_extract rfl rfl) rfl rfl trivial rfl ?_
  refine s1 rfl (det_assign rfl) rfl rfl trivial rfl ?_
  refine s1 rfl (det_assign rfl) rfl rfl trivial rfl ?_
  refine sg_nil ?_
  rintro F_6_10 hF_6_10 hN_6_10 ⟨hR66, -⟩
  obtain ⟨q66, hq66, hP66⟩ := hR66
  cases hq66
  replace hl1 := lnK_mono hl1 hF_6_10
  refine be rfl ?_
  refine k_then ?_
  refine t_seq ?_
  refine bD mixed ?_
  refine r_segF 10 10 [2] [(3, Go.Eng.Told F_6_10 (fun v F2 => ∃ q : Nat, v = .slice (some ⟨q, 0, none⟩) 8 8 ∧ PK F2 (some ⟨q, 0, none⟩) 8 (headsL [frameP 7 100])))] [0, 1, 2, 3, 4, 5, 6, 7, 8, 9] (by kernel_rfl) ?_
  refine s1 rfl (det_loadN tN26 rfl rfl (.tail _ (.tail _ (.tail _ (.tail _ (.tail _ (.head _)))))) rfl) rfl rfl trivial rfl ?_
  refine s1 rfl (det_loadN tN57 rfl rfl (.tail _ (.tail _ (.head _))) rfl) rfl rfl trivial rfl ?_
  refine sm1 rfl (new_buildSlice rfl (fun w => bsl27_1_0 _ _ _ _ _ _ _ w)) rfl rfl trivial rfl (fun p73 => ?_)
  refine sM [_] (needC (.head _) rfl need0) rfl (fun F2 hF2 hN => mem_call hF2 hb32 rfl rfl (fun w1 hs => (heads_ok hs.know (own_rows (ps := [frameP 7 100]) (hN _ (.head _))) (by decide) (by decide)).any)) rfl rfl trivial rfl (fun v74 hv74 => ?_)
  obtain ⟨_, q_74, rfl, -⟩ := hv74
  refine s1N [_] (needC (.head _) rfl need0) rfl (fun F2 hF2 hN => det_call hb22 rfl rfl (fun w1 hs => (by obtain ⟨q9, hq, h9⟩ := hN _ (.head _); cases hq; exact start_at hs.know (lnK_mono hl1 hF2) h9 (by decide) (t := 1500) (x := 7) (y := 0) (by kernel_rfl)))) rfl rfl trivial rfl ?_
  refine s1 rfl (det_move rfl) rfl rfl trivial rfl ?_
  refine s1 rfl (det_extract rfl rfl) rfl rfl trivial rfl ?_
  refine s1 rfl (det_extract rfl rfl) rfl rfl trivial rfl ?_
  refine s1 rfl (det_assign rfl) rfl rfl trivial rfl ?_
  refine s1 rfl (det_assign rfl) rfl rfl trivial rfl ?_
  refine sg_nil ?_
  rintro F_7_10 hF_7_10 hN_7_10 ⟨hR74, -⟩
  obtain ⟨q74, hq74, hP74⟩ := hR74
  cases hq74
  replace hl1 := lnK_mono hl1 hF_7_10
  refine be rfl ?_
  refine k_then ?_
  refine t_seq ?_
  refine bD mixed ?_
  refine r_segF 10 10 [2] [(3, Go.Eng.Told F_7_10 (fun v F2 => ∃ q : Nat, v = .slice (some ⟨q, 0, none⟩) 8 8 ∧ PK F2 (some ⟨q, 0, none⟩) 8 (headsL [frameP 7 100])))] [0, 1, 2, 3, 4, 5, 6, 7, 8, 9] (by kernel_rfl) ?_
  refine s1 rfl (det_loadN tN26 rfl rfl (.tail _ (.tail _ (.tail _ (.tail _ (.tail _ (.tail _ (.head _))))))) rfl) rfl rfl trivial rfl ?_
  refine s1 rfl (det_loadN tN57 rfl rfl (.tail _ (.tail _ (.tail _ (.head _)))) rfl) rfl rfl trivial rfl ?_
  refine sm1 rfl (new_buildSlice rfl (fun w => bsl27_1_0 _ _ _ _ _ _ _ w)) rfl rfl trivial rfl (fun p81 => ?_)
  refine sM [_] (needC (.head _) rfl need0) rfl (fun F2 hF2 hN => mem_call hF2 hb32 rfl rfl (fun w1 hs => (heads_ok hs.know (own_rows (ps := [frameP 7 100]) (hN _ (.head _))) (by decide) (by decide)).any)) rfl rfl trivial rfl (fun v82 hv82 => ?_)
  obtain ⟨_, q_82, rfl, -⟩ := hv82
  refine s1N [_] (needC (.head _) rfl need0) rfl (fun F2 hF2 hN => det_call hb26 rfl rfl (fun w1 hs => (by obtain ⟨q9, hq, h9⟩ := hN _ (.head _); cases hq; exact when_at hs.know (lnK_mono hl1 hF2) h9 (by decide) (t := 950) (x := 950) (y := 0) (by kernel_rfl)))) rfl rfl trivial rfl ?_
  refine s1 rfl (det_move rfl) rfl rfl trivial rfl ?_
  refine s1 rfl (det_extract rfl rfl) rfl rfl trivial rfl ?_
  refine s1 rfl (det_extract rfl rfl) rfl rfl trivial rfl ?_
  refine s1 rfl (det_assign rfl) rfl rfl trivial rfl ?_
  refine s1 rfl (det_assign rfl) rfl rfl trivial rfl ?_
  refine sg_nil ?_
  rintro F_8_10 hF_8_10 hN_8_10 ⟨hR82, -⟩
  obtain ⟨q82, hq82, hP82⟩ := hR82
  cases hq82
  replace hl1 := lnK_mono hl1 hF_8_10
  refine be rfl ?_
  refine k_then ?_
  refine t_seq ?_
  refine b0 ?_
  refine o1 rfl (det_build rfl (fun w => bld55_2_3 _ _ w)) rfl rfl trivial ?_
  refine o1 rfl (det_build rfl (fun w => bld57_0_1_2 _ _ _ _ _ _ _ w)) rfl rfl trivial ?_
  refine om1 rfl (new_alloc z57) rfl rfl trivial (fun p13 => ?_)
  refine stN nofun rfl tN57 rfl rfl rfl .head rfl trivial rfl rfl ?_
  refine be rfl ?_
  refine k_then ?_
  refine t_seq ?_
  refine bD mixed ?_
  refine r_segF 11 11 [3] [(4, Go.Eng.Told F_8_10 (fun v F2 => ∃ q : Nat, v = .slice (some ⟨q, 0, none⟩) 8 8 ∧ PK F2 (some ⟨q, 0, none⟩) 8 (headsL [frameP 2 200, ⟨⟨0, 0, 0, 200, 0⟩, 160, true⟩])))] [0, 1, 2, 3, 4, 5, 6, 7, 8, 9, 10] (by kernel_rfl) ?_
  refine s1 rfl (det_loadN tN26 rfl rfl (.tail _ (.tail _ (.tail _ (.tail _ (.tail _ (.tail _ (.tail _ (.tail _ (.head _))))))))) rfl) rfl rfl trivial rfl ?_
  refine s1 rfl (det_loadN tN57 rfl rfl (.tail _ (.tail _ (.tail _ (.tail _ (.tail _ (.tail _ (.tail _ (.head _)))))))) rfl) rfl rfl trivial rfl ?_
  refine s1 rfl (det_loadN tN57 rfl rfl (.head _) rfl) rfl rfl trivial rfl ?_
  refine sm1 rfl (new_buildSlice rfl (fun w => bsl27_2_0_1 _ _ _ _ _ _ _ _ _ _ _ _ _ _ w)) rfl rfl trivial rfl (fun p92 => ?_)
  refine sM [_] (needC (.head _) rfl need0) rfl (fun F2 hF2 hN => mem_call hF2 hb32 rfl rfl (fun w1 hs => (heads_ok hs.know (own_rows (ps := [frameP 2 200, ⟨⟨0, 0, 0, 200, 0⟩, 160, true⟩]) (hN _ (.head _))) (by decide) (by decide)).any)) rfl rfl trivial rfl (fun v93 hv93 => ?_)
  obtain ⟨_, q_93, rfl, -⟩ := hv93
  refine s1N [_] (needC (.head _) rfl need0) rfl (fun F2 hF2 hN => det_call hb21 rfl rfl (fun w1 hs => (by obtain ⟨q9, hq, h9⟩ := hN _ (.head _); cases hq; exact may_at hs.know (lnK_mono hl1 hF2) h9 (by decide) (cl := 2) (t := 0) (x := false) (y := 0) (by kernel_rfl)))) rfl rfl trivial rfl ?_
  refine s1 rfl (det_move rfl) rfl rfl trivial rfl ?_
  refine s1 rfl (det_extract rfl rfl) rfl rfl trivial rfl ?_
  refine s1 rfl (det_extract rfl rfl) rfl rfl trivial rfl ?_
  refine s1 rfl (det_assign rfl) rfl rfl trivial rfl ?_
  refine s1 rfl (det_assign rfl) rfl rfl trivial rfl ?_
  refine sg_nil ?_
  rintro F_10_11 hF_10_11 hN_10_11 ⟨hR93, -⟩
  obtain ⟨q93, hq93, hP93⟩ := hR93
  cases hq93
  replace hl1 := lnK_mono hl1 hF_10_11
  refine be rfl ?_
  refine k_then ?_
  refine t_seq ?_
  refine bD mixed ?_
  refine r_segF 11 11 [3] [(4, Go.Eng.Told F_10_11 (fun v F2 => ∃ q : Nat, v = .slice (some ⟨q, 0, none⟩) 8 8 ∧ PK F2 (some ⟨q, 0, none⟩) 8 (headsL [frameP 2 200, ⟨⟨0, 0, 0, 200, 0⟩, 160, true⟩])))] [0, 1, 2, 3, 4, 5, 6, 7, 8, 9, 10] (by kernel_rfl) ?_
  refine s1 rfl (det_loadN tN26 rfl rfl (.tail _ (.tail _ (.tail _ (.tail _ (.tail _ (.tail _ (.tail _ (.tail _ (.tail _ (.head _)))))))))) rfl) rfl rfl trivial rfl ?_
  refine s1 rfl (det_loadN tN57 rfl rfl (.tail _ (.tail _ (.tail _ (.tail _ (.tail _ (.tail _ (.tail _ (.tail _ (.head _))))))))) rfl) rfl rfl trivial rfl ?_
  refine s1 rfl (det_loadN tN57 rfl rfl (.tail _ (.head _)) rfl) rfl rfl trivial rfl ?_
  refine sm1 rfl (new_buildSlice rfl (fun w => bsl27_2_0_1 _ _ _ _ _ _ _ _ _ _ _ _ _ _ w)) rfl rfl trivial rfl (fun p101 => ?_)
  refine sM [_] (needC (.head _) rfl need0) rfl (fun F2 hF2 hN => mem_call hF2 hb32 rfl rfl (fun w1 hs => (heads_ok hs.know (own_rows (ps := [frameP 2 200, ⟨⟨0, 0, 0, 200, 0⟩, 160, true⟩]) (hN _ (.head _))) (by decide) (by decide)).any)) rfl rfl trivial rfl (fun v102 hv102 => ?_)
  obtain ⟨_, q_102, rfl, -⟩ := hv102
  refine s1N [_] (needC (.head _) rfl need0) rfl (fun F2 hF2 hN => det_call hb22 rfl rfl (fun w1 hs => (by obtain ⟨q9, hq, h9⟩ := hN _ (.head _); cases hq; exact start_at hs.know (lnK_mono hl1 hF2) h9 (by decide) (t := 0) (x := 0) (y := 0) (by kernel_rfl)))) rfl rfl trivial rfl ?_
  refine s1 rfl (det_move rfl) rfl rfl trivial rfl ?_
  refine s1 rfl (det_extract rfl rfl) rfl rfl trivial rfl ?_
  refine s1 rfl (det_extract rfl rfl) rfl rfl trivial rfl ?_
  refine s1 rfl (det_assign rfl) rfl rfl trivial rfl ?_
  refine s1 rfl (det_assign rfl) rfl rfl trivial rfl ?_
  refine sg_nil ?_
  rintro F_11_11 hF_11_11 hN_11_11 ⟨hR102, -⟩
  obtain ⟨q102, hq102, hP102⟩ := hR102
  cases hq102
  replace hl1 := lnK_mono hl1 hF_11_11
  refine be rfl ?_
  refine k_then ?_
  refine t_seq ?_
  refine bD mixed ?_
  refine r_segF 12 12 [2] [(3, Go.Eng.Told F_11_11 (fun v F2 => ∃ q : Nat, v = .slice (some ⟨q, 0, none⟩) 8 8 ∧ PK F2 (some ⟨q, 0, none⟩) 8 (headsL [frameP 6 300])))] [0, 1, 2, 3, 4, 5, 6, 7, 8, 9, 10, 11] (by kernel_rfl) ?_
  refine s1 rfl (det_loadN tN26 rfl rfl (.tail _ (.tail _ (.tail _ (.tail _ (.tail _ (.tail _ (.tail _ (.tail _ (.tail _ (.tail _ (.head _))))))))))) rfl) rfl rfl trivial rfl ?_
  refine s1 rfl (det_loadN tN57 rfl rfl (.tail _ (.tail _ (.tail _ (.tail _ (.tail _ (.tail _ (.tail _ (.tail _ (.head _))))))))) rfl) rfl rfl trivial rfl ?_
  refine sm1 rfl (new_buildSlice rfl (fun w => bsl27_1_0 _ _ _ _ _ _ _ w)) rfl rfl trivial rfl (fun p109 => ?_)
  refine sM [_] (needC (.head _) rfl need0) rfl (fun F2 hF2 hN => mem_call hF2 hb32 rfl rfl (fun w1 hs => (heads_ok hs.know (own_rows (ps := [frameP 6 300]) (hN _ (.head _))) (by decide) (by decide)).any)) rfl rfl trivial rfl (fun v110 hv110 => ?_)
  obtain ⟨_, q_110, rfl, -⟩ := hv110
  refine s1N [_] (needC (.head _) rfl need0) rfl (fun F2 hF2 hN => det_call hb28 rfl rfl (fun w1 hs => (by obtain ⟨q9, hq, h9⟩ := hN _ (.head _); cases hq; exact pre_at hs.know (lnK_mono hl1 hF2) h9 (by decide) (o := 500) (b := 0) (t := 10) (x := 88) (y := 460) (z := 0) (by kernel_rfl)))) rfl rfl trivial rfl ?_
  refine s1 rfl (det_move rfl) rfl rfl trivial rfl ?_
  refine s1 rfl (det_extract rfl rfl) rfl rfl trivial rfl ?_
  refine s1 rfl (det_extract rfl rfl) rfl rfl trivial rfl ?_
  refine s1 rfl (det_extract rfl rfl) rfl rfl trivial rfl ?_
  refine s1 rfl (det_assign rfl) rfl rfl trivial rfl ?_
  refine s1 rfl (det_assign rfl) rfl rfl trivial rfl ?_
  refine s1 rfl (det_assign rfl) rfl rfl trivial rfl ?_
  refine sg_nil ?_
  rintro F_12_12 hF_12_12 hN_12_12 ⟨hR110, -⟩
  obtain ⟨q110, hq110, hP110⟩ := hR110
  cases hq110
  replace hl1 := lnK_mono hl1 hF_12_12
  refine be rfl ?_
  refine k_then ?_
  refine t_seq ?_
  refine bD mixed ?_
  refine r_segF 12 12 [2] [(3, Go.Eng.Told F_12_12 (fun v F2 => ∃ q : Nat, v = .slice (some ⟨q, 0, none⟩) 8 8 ∧ PK F2 (some ⟨q, 0, none⟩) 8 (headsL [frameP 6 300])))] [0, 1, 2, 3, 4, 5, 6, 7, 8, 9, 10, 11] (by kernel_rfl) ?_
  refine s1 rfl (det_loadN tN26 rfl rfl (.tail _ (.tail _ (.tail _ (.tail _ (.tail _ (.tail _ (.tail _ (.tail _ (.tail _ (.tail _ (.tail _ (.head _)))))))))))) rfl) rfl rfl trivial rfl ?_
  refine s1 rfl (det_loadN tN57 rfl rfl (.tail _ (.tail _ (.tail _ (.tail _ (.tail _ (.tail _ (.tail _ (.tail _ (.tail _ (.head _)))))))))) rfl) rfl rfl trivial rfl ?_
  refine sm1 rfl (new_buildSlice rfl (fun w => bsl27_1_0 _ _ _ _ _ _ _ w)) rfl rfl trivial rfl (fun p118 => ?_)
  refine sM [_] (needC (.head _) rfl need0) rfl (fun F2 hF2 hN => mem_call hF2 hb32 rfl rfl (fun w1 hs => (heads_ok hs.know (own_rows (ps := [frameP 6 300]) (hN _ (.head _))) (by decide) (by decide)).any)) rfl rfl trivial rfl (fun v119 hv119 => ?_)
  obtain ⟨_, q_119, rfl, -⟩ := hv119
  refine s1N [_] (needC (.head _) rfl need0) rfl (fun F2 hF2 hN => det_call hb28 rfl rfl (fun w1 hs => (by obtain ⟨q9, hq, h9⟩ := hN _ (.head _); cases hq; exact pre_at hs.know (lnK_mono hl1 hF2) h9 (by decide) (o := 500) (b := 0) (t := 400) (x := 424) (y := 124) (z := 0) (by kernel_rfl)))) rfl rfl trivial rfl ?_
  refine s1 rfl (det_move rfl) rfl rfl trivial rfl ?_
  refine s1 rfl (det_extract rfl rfl) rfl rfl trivial rfl ?_
  refine s1 rfl (det_extract rfl rfl) rfl rfl trivial rfl ?_
  refine s1 rfl (det_extract rfl rfl) rfl rfl trivial rfl ?_
  refine s1 rfl (det_assign rfl) rfl rfl trivial rfl ?_
  refine s1 rfl (det_assign rfl) rfl rfl trivial rfl ?_
  refine s1 rfl (det_assign rfl) rfl rfl trivial rfl ?_
  refine sg_nil ?_
  rintro F_13_12 hF_13_12 hN_13_12 ⟨hR119, -⟩
  obtain ⟨q119, hq119, hP119⟩ := hR119
  cases hq119
  replace hl1 := lnK_mono hl1 hF_13_12
  refine be rfl ?_
  refine k_then ?_
  refine t_seq ?_
  refine bD mixed ?_
  refine r_segF 12 12 [2] [(3, Go.Eng.Told F_13_12 (fun v F2 => ∃ q : Nat, v = .slice (some ⟨q, 0, none⟩) 8 8 ∧ PK F2 (some ⟨q, 0, none⟩) 8 (headsL [frameP 6 300])))] [0, 1, 2, 3, 4, 5, 6, 7, 8, 9, 10, 11] (by kernel_rfl) ?_
  refine s1 rfl (det_loadN tN26 rfl rfl (.tail _ (.tail _ (.tail _ (.tail _ (.tail _ (.tail _ (.tail _ (.tail _ (.tail _ (.tail _ (.tail _ (.tail _ (.head _))))))))))))) rfl) rfl rfl trivial rfl ?_
  refine s1 rfl (det_loadN tN57 rfl rfl (.tail _ (.tail _ (.tail _ (.tail _ (.tail _ (.tail _ (.tail _ (.tail _ (.tail _ (.tail _ (.head _))))))))))) rfl) rfl rfl trivial rfl ?_
  refine sm1 rfl (new_buildSlice rfl (fun w => bsl27_1_0 _ _ _ _ _ _ _ w)) rfl rfl trivial rfl (fun p127 => ?_)
  refine sM [_] (needC (.head _) rfl need0) rfl (fun F2 hF2 hN => mem_call hF2 hb32 rfl rfl (fun w1 hs => (heads_ok hs.know (own_rows (ps := [frameP 6 300]) (hN _ (.head _))) (by decide) (by decide)).any)) rfl rfl trivial rfl (fun v128 hv128 => ?_)
  obtain ⟨_, q_128, rfl, -⟩ := hv128
  refine s1N [_] (needC (.head _) rfl need0) rfl (fun F2 hF2 hN => det_call hb28 rfl rfl (fun w1 hs => (by obtain ⟨q9, hq, h9⟩ := hN _ (.head _); cases hq; exact pre_at hs.know (lnK_mono hl1 hF2) h9 (by decide) (o := 500) (b := 0) (t := 440) (x := 0) (y := 0) (z := 4) (by kernel_rfl)))) rfl rfl trivial rfl ?_
  refine s1 rfl (det_move rfl) rfl rfl trivial rfl ?_
  refine s1 rfl (det_extract rfl rfl) rfl rfl trivial rfl ?_
  refine s1 rfl (det_extract rfl rfl) rfl rfl trivial rfl ?_
  refine s1 rfl (det_extract rfl rfl) rfl rfl trivial rfl ?_
  refine s1 rfl (det_assign rfl) rfl rfl trivial rfl ?_
  refine s1 rfl (det_assign rfl) rfl rfl trivial rfl ?_
  refine s1 rfl (det_assign rfl) rfl rfl trivial rfl ?_
  refine sg_nil ?_
  rintro F_14_12 hF_14_12 hN_14_12 ⟨hR128, -⟩
  obtain ⟨q128, hq128, hP128⟩ := hR128
  cases hq128
  replace hl1 := lnK_mono hl1 hF_14_12
  refine be rfl ?_
  refine k_then ?_
  refine t_seq ?_
  refine bD mixed ?_
  refine r_segF 12 12 [2] [(3, Go.Eng.Told F_14_12 (fun v F2 => ∃ q : Nat, v = .slice (some ⟨q, 0, none⟩) 8 8 ∧ PK F2 (some ⟨q, 0, none⟩) 8 (headsL [frameP 6 300])))] [0, 1, 2, 3, 4, 5, 6, 7, 8, 9, 10, 11] (by kernel_rfl) ?_
  refine s1 rfl (det_loadN tN26 rfl rfl (.tail _ (.tail _ (.tail _ (.tail _ (.tail _ (.tail _ (.tail _ (.tail _ (.tail _ (.tail _ (.tail _ (.tail _ (.tail _ (.head _)))))))))))))) rfl) rfl rfl trivial rfl ?_
  refine s1 rfl (det_loadN tN57 rfl rfl (.tail _ (.tail _ (.tail _ (.tail _ (.tail _ (.tail _ (.tail _ (.tail _ (.tail _ (.tail _ (.tail _ (.head _)))))))))))) rfl) rfl rfl trivial rfl ?_
  refine sm1 rfl (new_buildSlice rfl (fun w => bsl27_1_0 _ _ _ _ _ _ _ w)) rfl rfl trivial rfl (fun p136 => ?_)
  refine sM [_] (needC (.head _) rfl need0) rfl (fun F2 hF2 hN => mem_call hF2 hb32 rfl rfl (fun w1 hs => (heads_ok hs.know (own_rows (ps := [frameP 6 300]) (hN _ (.head _))) (by decide) (by decide)).any)) rfl rfl trivial rfl (fun v137 hv137 => ?_)
  obtain ⟨_, q_137, rfl, -⟩ := hv137
  refine s1N [_] (needC (.head _) rfl need0) rfl (fun F2 hF2 hN => det_call hb28 rfl rfl (fun w1 hs => (by obtain ⟨q9, hq, h9⟩ := hN _ (.head _); cases hq; exact pre_at hs.know (lnK_mono hl1 hF2) h9 (by decide) (o := 900) (b := 0) (t := 700) (x := 0) (y := 0) (z := 4) (by kernel_rfl)))) rfl rfl trivial rfl ?_
  refine s1 rfl (det_move rfl) rfl rfl trivial rfl ?_
  refine s1 rfl (det_extract rfl rfl) rfl rfl trivial rfl ?_
  refine s1 rfl (det_extract rfl rfl) rfl rfl trivial rfl ?_
  refine s1 rfl (det_extract rfl rfl) rfl rfl trivial rfl ?_
  refine s1 rfl (det_assign rfl) rfl rfl trivial rfl ?_
  refine s1 rfl (det_assign rfl) rfl rfl trivial rfl ?_
  refine s1 rfl (det_assign rfl) rfl rfl trivial rfl ?_
  refine sg_nil ?_
  rintro F_15_12 hF_15_12 hN_15_12 ⟨hR137, -⟩
  obtain ⟨q137, hq137, hP137⟩ := hR137
  cases hq137
  replace hl1 := lnK_mono hl1 hF_15_12
  refine be rfl ?_
  refine k_then ?_
  refine t_seq ?_
  refine bD mixed ?_
  refine r_segF 12 12 [2] [(3, Go.Eng.Told F_15_12 (fun v F2 => ∃ q : Nat, v = .slice (some ⟨q, 0, none⟩) 8 8 ∧ PK F2 (some ⟨q, 0, none⟩) 8 (headsL [frameP 6 300])))] [0, 1, 2, 3, 4, 5, 6, 7, 8, 9, 10, 11] (by kernel_rfl) ?_
  refine s1 rfl (det_loadN tN26 rfl rfl (.tail _ (.tail _ (.tail _ (.tail _ (.tail _ (.tail _ (.tail _ (.tail _ (.tail _ (.tail _ (.tail _ (.tail _ (.tail _ (.tail _ (.head _))))))))))))))) rfl) rfl rfl trivial rfl ?_
  refine s1 rfl (det_loadN tN57 rfl rfl (.tail _ (.tail _ (.tail _ (.tail _ (.tail _ (.tail _ (.tail _ (.tail _ (.tail _ (.tail _ (.tail _ (.tail _ (.head _))))))))))))) rfl) rfl rfl trivial rfl ?_
  refine sm1 rfl (new_buildSlice rfl (fun w => bsl27_1_0 _ _ _ _ _ _ _ w)) rfl rfl trivial rfl (fun p145 => ?_)
  refine sM [_] (needC (.head _) rfl need0) rfl (fun F2 hF2 hN => mem_call hF2 hb32 rfl rfl (fun w1 hs => (heads_ok hs.know (own_rows (ps := [frameP 6 300]) (hN _ (.head _))) (by decide) (by decide)).any)) rfl rfl trivial rfl (fun v146 hv146 => ?_)
  obtain ⟨_, q_146, rfl, -⟩ := hv146
  refine s1N [_] (needC (.head _) rfl need0) rfl (fun F2 hF2 hN => det_call hb28 rfl rfl (fun w1 hs => (by obtain ⟨q9, hq, h9⟩ := hN _ (.head _); cases hq; exact pre_at hs.know (lnK_mono hl1 hF2) h9 (by decide) (o := 500) (b := 0) (t := 501) (x := 0) (y := 0) (z := 2) (by kernel_rfl)))) rfl rfl trivial rfl ?_
  refine s1 rfl (det_move rfl) rfl rfl trivial rfl ?_
  refine s1 rfl (det_extract rfl rfl) rfl rfl trivial rfl ?_
  refine s1 rfl (det_extract rfl rfl) rfl rfl trivial rfl ?_
  refine s1 rfl (det_extract rfl rfl) rfl rfl trivial rfl ?_
  refine s1 rfl (det_assign rfl) rfl rfl trivial rfl ?_
  refine s1 rfl (det_assign rfl) rfl rfl trivial rfl ?_
  refine s1 rfl (det_assign rfl) rfl rfl trivial rfl ?_
  refine sg_nil ?_
  rintro F_16_12 hF_16_12 hN_16_12 ⟨hR146, -⟩
  obtain ⟨q146, hq146, hP146⟩ := hR146
  cases hq146
  replace hl1 := lnK_mono hl1 hF_16_12
  refine be rfl ?_
  refine k_then ?_
  refine t_seq ?_
  refine bD mixed ?_
  refine r_segF 12 12 [2] [(3, Go.Eng.Told F_16_12 (fun v F2 => ∃ q : Nat, v = .slice (some ⟨q, 0, none⟩) 8 8 ∧ PK F2 (some ⟨q, 0, none⟩) 8 (headsL [frameP 6 300])))] [0, 1, 2, 3, 4, 5, 6, 7, 8, 9, 10, 11] (by kernel_rfl) ?_
  refine s1 rfl (det_loadN tN26 rfl rfl (.tail _ (.tail _ (.tail _ (.tail _ (.tail _ (.tail _ (.tail _ (.tail _ (.tail _ (.tail _ (.tail _ (.tail _ (.tail _ (.tail _ (.tail _ (.head _)))))))))))))))) rfl) rfl rfl trivial rfl ?_
  refine s1 rfl (det_loadN tN57 rfl rfl (.tail _ (.tail _ (.tail _ (.tail _ (.tail _ (.tail _ (.tail _ (.tail _ (.tail _ (.tail _ (.tail _ (.tail _ (.tail _ (.head _)))))))))))))) rfl) rfl rfl trivial rfl ?_
  refine sm1 rfl (new_buildSlice rfl (fun w => bsl27_1_0 _ _ _ _ _ _ _ w)) rfl rfl trivial rfl (fun p154 => ?_)
  refine sM [_] (needC (.head _) rfl need0) rfl (fun F2 hF2 hN => mem_call hF2 hb32 rfl rfl (fun w1 hs => (heads_ok hs.know (own_rows (ps := [frameP 6 300]) (hN _ (.head _))) (by decide) (by decide)).any)) rfl rfl trivial rfl (fun v155 hv155 => ?_)
  obtain ⟨_, q_155, rfl, -⟩ := hv155
  refine s1N [_] (needC (.head _) rfl need0) rfl (fun F2 hF2 hN => det_call hb28 rfl rfl (fun w1 hs => (by obtain ⟨q9, hq, h9⟩ := hN _ (.head _); cases hq; exact pre_at hs.know (lnK_mono hl1 hF2) h9 (by decide) (o := 127) (b := 0) (t := 0) (x := 0) (y := 0) (z := 4) (by kernel_rfl)))) rfl rfl trivial rfl ?_
  refine s1 rfl (det_move rfl) rfl rfl trivial rfl ?_
  refine s1 rfl (det_extract rfl rfl) rfl rfl trivial rfl ?_
  refine s1 rfl (det_extract rfl rfl) rfl rfl trivial rfl ?_
  refine s1 rfl (det_extract rfl rfl) rfl rfl trivial rfl ?_
  refine s1 rfl (det_assign rfl) rfl rfl trivial rfl ?_
  refine s1 rfl (det_assign rfl) rfl rfl trivial rfl ?_
  refine s1 rfl (det_assign rfl) rfl rfl trivial rfl ?_
  refine sg_nil ?_
  rintro F_17_12 hF_17_12 hN_17_12 ⟨hR155, -⟩
  obtain ⟨q155, hq155, hP155⟩ := hR155
  cases hq155
  replace hl1 := lnK_mono hl1 hF_17_12
  refine be rfl ?_
  refine k_then ?_
  refine t_seq ?_
  refine bD mixed ?_
  refine r_segF 10 10 [2] [(3, Go.Eng.Told F_17_12 (fun v F2 => ∃ q : Nat, v = .slice (some ⟨q, 0, none⟩) 8 8 ∧ PK F2 (some ⟨q, 0, none⟩) 8 (headsL [frameP 2 200])))] [0, 1, 2, 3, 4, 5, 6, 7, 8, 9] (by kernel_rfl) ?_
  refine s1 rfl (det_loadN tN26 rfl rfl (.tail _ (.tail _ (.tail _ (.tail _ (.tail _ (.tail _ (.tail _ (.tail _ (.tail _ (.tail _ (.tail _ (.tail _ (.tail _ (.tail _ (.tail _ (.tail _ (.head _))))))))))))))))) rfl) rfl rfl trivial rfl ?_
  refine s1 rfl (det_loadN tN57 rfl rfl (.tail _ (.tail _ (.tail _ (.tail _ (.tail _ (.tail _ (.tail _ (.tail _ (.tail _ (.tail _ (.tail _ (.tail _ (.tail _ (.tail _ (.tail _ (.head _)))))))))))))))) rfl) rfl rfl trivial rfl ?_
  refine sm1 rfl (new_buildSlice rfl (fun w => bsl27_1_0 _ _ _ _ _ _ _ w)) rfl rfl trivial rfl (fun p163 => ?_)
  refine sM [_] (needC (.head _) rfl need0) rfl (fun F2 hF2 hN => mem_call hF2 hb32 rfl rfl (fun w1 hs => (heads_ok hs.know (own_rows (ps := [frameP 2 200]) (hN _ (.head _))) (by decide) (by decide)).any)) rfl rfl trivial rfl (fun v164 hv164 => ?_)
  obtain ⟨_, q_164, rfl, -⟩ := hv164
  refine s1N [_] (needC (.head _) rfl need0) rfl (fun F2 hF2 hN => det_call hb21 rfl rfl (fun w1 hs => (by obtain ⟨q9, hq, h9⟩ := hN _ (.head _); cases hq; exact may_at hs.know (lnK_mono hl1 hF2) h9 (by decide) (cl := 8) (t := 0) (x := false) (y := 2) (by kernel_rfl)))) rfl rfl trivial rfl ?_
  refine s1 rfl (det_move rfl) rfl rfl trivial rfl ?_
  refine s1 rfl (det_extract rfl rfl) rfl rfl trivial rfl ?_
  refine s1 rfl (det_extract rfl rfl) rfl rfl trivial rfl ?_
  refine s1 rfl (det_assign rfl) rfl rfl trivial rfl ?_
  refine s1 rfl (det_assign rfl) rfl rfl trivial rfl ?_
  refine sg_nil ?_
  rintro F_18_10 hF_18_10 hN_18_10 ⟨hR164, -⟩
  obtain ⟨q164, hq164, hP164⟩ := hR164
  cases hq164
  replace hl1 := lnK_mono hl1 hF_18_10
  refine be rfl ?_
  refine k_then ?_
  refine t_seq ?_
  refine bD mixed ?_
  refine r_segF 10 10 [2] [(3, Go.Eng.Told F_18_10 (fun v F2 => ∃ q : Nat, v = .slice (some ⟨q, 0, none⟩) 8 8 ∧ PK F2 (some ⟨q, 0, none⟩) 8 (headsL [frameP 2 200])))] [0, 1, 2, 3, 4, 5, 6, 7, 8, 9] (by kernel_rfl) ?_
  refine s1 rfl (det_loadN tN26 rfl rfl (.tail _ (.tail _ (.tail _ (.tail _ (.tail _ (.tail _ (.tail _ (.tail _ (.tail _ (.tail _ (.tail _ (.tail _ (.tail _ (.tail _ (.tail _ (.tail _ (.tail _ (.head _)))))))))))))))))) rfl) rfl rfl trivial rfl ?_
  refine s1 rfl (det_loadN tN57 rfl rfl (.tail _ (.tail _ (.tail _ (.tail _ (.tail _ (.tail _ (.tail _ (.tail _ (.tail _ (.tail _ (.tail _ (.tail _ (.tail _ (.tail _ (.tail _ (.tail _ (.head _))))))))))))))))) rfl) rfl rfl trivial rfl ?_
  refine sm1 rfl (new_buildSlice rfl (fun w => bsl27_1_0 _ _ _ _ _ _ _ w)) rfl rfl trivial rfl (fun p171 => ?_)
  refine sM [_] (needC (.head _) rfl need0) rfl (fun F2 hF2 hN => mem_call hF2 hb32 rfl rfl (fun w1 hs => (heads_ok hs.know (own_rows (ps := [frameP 2 200]) (hN _ (.head _))) (by decide) (by decide)).any)) rfl rfl trivial rfl (fun v172 hv172 => ?_)
  obtain ⟨_, q_172, rfl, -⟩ := hv172
  refine s1N [_] (needC (.head _) rfl need0) rfl (fun F2 hF2 hN => det_call hb22 rfl rfl (fun w1 hs => (by obtain ⟨q9, hq, h9⟩ := hN _ (.head _); cases hq; exact start_at hs.know (lnK_mono hl1 hF2) h9 (by decide) (t := 549755813889) (x := 0) (y := 2) (by kernel_rfl)))) rfl rfl trivial rfl ?_
  refine s1 rfl (det_move rfl) rfl rfl trivial rfl ?_
  refine s1 rfl (det_extract rfl rfl) rfl rfl trivial rfl ?_
  refine s1 rfl (det_extract rfl rfl) rfl rfl trivial rfl ?_
  refine s1 rfl (det_assign rfl) rfl rfl trivial rfl ?_
  refine s1 rfl (det_assign rfl) rfl rfl trivial rfl ?_
  refine sg_nil ?_
  rintro F_19_10 hF_19_10 hN_19_10 ⟨hR172, -⟩
  obtain ⟨q172, hq172, hP172⟩ := hR172
  cases hq172
  replace hl1 := lnK_mono hl1 hF_19_10
  refine be rfl ?_
  refine k_then ?_
  refine t_seq ?_
  refine b0 ?_
  refine o1 rfl (det_loadN tN26 rfl rfl (.tail _ (.tail _ (.tail _ (.tail _ (.tail _ (.tail _ (.tail _ (.tail _ (.tail _ (.tail _ (.tail _ (.tail _ (.tail _ (.tail _ (.tail _ (.tail _ (.tail _ (.tail _ (.head _))))))))))))))))))) rfl) rfl rfl trivial ?_
  refine om1 rfl (new_alloc z26) rfl rfl trivial (fun p40 => ?_)
  refine stN nofun rfl tN26 rfl rfl rfl .head rfl trivial rfl rfl ?_
  refine be rfl ?_
  refine k_then ?_
  refine t_seq ?_
  refine b0 ?_
  refine o1 rfl (det_fieldAddr fld26_2 rfl) rfl rfl trivial ?_
  refine st1 nofun rfl t1_3 rfl rfl rfl .head rfl trivial rfl ?_
  refine be rfl ?_
  refine k_then ?_
  refine t_seq ?_
  refine bD mixed ?_
  refine r_segF 10 10 [2] [(3, Go.Eng.Told F_19_10 (fun v F2 => ∃ q : Nat, v = .slice (some ⟨q, 0, none⟩) 8 8 ∧ PK F2 (some ⟨q, 0, none⟩) 8 (headsL [frameP 2 84])))] [0, 1, 2, 3, 4, 5, 6, 7, 8, 9] (by kernel_rfl) ?_
  refine s1 rfl (det_loadN tN26 rfl rfl (.head _) rfl) rfl rfl trivial rfl ?_
  refine s1 rfl (det_call hb31 rfl rfl (fun w1 hs => frame_ok hs.know)) rfl rfl trivial rfl ?_
  refine sm1 rfl (new_buildSlice rfl (fun w => bsl27_1_0 _ _ _ _ _ _ _ w)) rfl rfl trivial rfl (fun p181 => ?_)
  refine sM [_] (needC (.head _) rfl need0) rfl (fun F2 hF2 hN => mem_call hF2 hb32 rfl rfl (fun w1 hs => (heads_ok hs.know (own_rows (ps := [frameP 2 84]) (hN _ (.head _))) (by decide) (by decide)).any)) rfl rfl trivial rfl (fun v182 hv182 => ?_)
  obtain ⟨_, q_182, rfl, -⟩ := hv182
  refine s1N [_] (needC (.head _) rfl need0) rfl (fun F2 hF2 hN => det_call hb22 rfl rfl (fun w1 hs => (by obtain ⟨q9, hq, h9⟩ := hN _ (.head _); cases hq; exact start_at hs.know (l := ⟨(halfL A1 n1 k1).g, 1, 100⟩) (lnK_mono hl1 hF2) h9 (by decide) (t := 900) (x := 0) (y := 4) (by kernel_rfl)))) rfl rfl trivial rfl ?_
  refine s1 rfl (det_move rfl) rfl rfl trivial rfl ?_
  refine s1 rfl (det_extract rfl rfl) rfl rfl trivial rfl ?_
  refine s1 rfl (det_extract rfl rfl) rfl rfl trivial rfl ?_
  refine s1 rfl (det_assign rfl) rfl rfl trivial rfl ?_
  refine s1 rfl (det_assign rfl) rfl rfl trivial rfl ?_
  refine sg_nil ?_
  rintro F_22_10 hF_22_10 hN_22_10 ⟨hR182, -⟩
  obtain ⟨q182, hq182, hP182⟩ := hR182
  cases hq182
  replace hl1 := lnK_mono hl1 hF_22_10
  refine be rfl ?_
  refine k_then ?_
  refine t_seq ?_
  refine bD mixed ?_
  refine r_segF 10 10 [2] [(3, Go.Eng.Told F_22_10 (fun v F2 => ∃ q : Nat, v = .slice (some ⟨q, 0, none⟩) 8 8 ∧ PK F2 (some ⟨q, 0, none⟩) 8 (headsL [frameP 2 100])))] [0, 1, 2, 3, 4, 5, 6, 7, 8, 9] (by kernel_rfl) ?_
  refine s1 rfl (det_loadN tN26 rfl rfl (.tail _ (.head _)) rfl) rfl rfl trivial rfl ?_
  refine s1 rfl (det_call hb31 rfl rfl (fun w1 hs => frame_ok hs.know)) rfl rfl trivial rfl ?_
  refine sm1 rfl (new_buildSlice rfl (fun w => bsl27_1_0 _ _ _ _ _ _ _ w)) rfl rfl trivial rfl (fun p189 => ?_)
  refine sM [_] (needC (.head _) rfl need0) rfl (fun F2 hF2 hN => mem_call hF2 hb32 rfl rfl (fun w1 hs => (heads_ok hs.know (own_rows (ps := [frameP 2 100]) (hN _ (.head _))) (by decide) (by decide)).any)) rfl rfl trivial rfl (fun v190 hv190 => ?_)
  obtain ⟨_, q_190, rfl, -⟩ := hv190
  refine s1N [_] (needC (.head _) rfl need0) rfl (fun F2 hF2 hN => det_call hb22 rfl rfl (fun w1 hs => (by obtain ⟨q9, hq, h9⟩ := hN _ (.head _); cases hq; exact start_at hs.know (l := ⟨(halfL A1 n1 k1).g, 1, 100⟩) (lnK_mono hl1 hF2) h9 (by decide) (t := 800) (x := 2) (y := 0) (by kernel_rfl)))) rfl rfl trivial rfl ?_
  refine s1 rfl (det_move rfl) rfl rfl trivial rfl ?_
  refine s1 rfl (det_extract rfl rfl) rfl rfl trivial rfl ?_
  refine s1 rfl (det_extract rfl rfl) rfl rfl trivial rfl ?_
  refine s1 rfl (det_assign rfl) rfl rfl trivial rfl ?_
  refine s1 rfl (det_assign rfl) rfl rfl trivial rfl ?_
  refine sg_nil ?_
  rintro F_23_10 hF_23_10 hN_23_10 ⟨hR190, -⟩
  obtain ⟨q190, hq190, hP190⟩ := hR190
  cases hq190
  replace hl1 := lnK_mono hl1 hF_23_10
  refine be rfl ?_
  refine k_then ?_
  refine t_seq ?_
  refine b0 ?_
  refine o1 rfl (det_loadN tN57 rfl rfl (.tail _ (.tail _ (.tail _ (.tail _ (.tail _ (.tail _ (.tail _ (.tail _ (.tail _ (.tail _ (.tail _ (.tail _ (.tail _ (.tail _ (.tail _ (.tail _ (.tail _ (.tail _ (.tail _ (.tail _ (.head _))))))))))))))))))))) rfl) rfl rfl trivial ?_
  refine o1 rfl (det_loadN tN57 rfl rfl (.tail _ (.tail _ (.tail _ (.tail _ (.tail _ (.tail _ (.tail _ (.tail _ (.tail _ (.tail _ (.tail _ (.tail _ (.tail _ (.head _)))))))))))))) rfl) rfl rfl trivial ?_
  refine om1 rfl (new_buildSlice rfl (fun w => bsl27_2_0_1 _ _ _ _ _ _ _ _ _ _ _ _ _ _ w)) rfl rfl trivial (fun p196 => ?_)
  refine tk_freeze (pre := []) rfl (fun Fx hFx hNx hKFx => ?_)
  replace hl1 := lnK_mono hl1 hFx
  refine oNL nofun rfl hb32 rfl rfl rfl trivial (fun w1 hs => heads_n hs.know (lit_rows (ps := [frameP 2 200, ⟨⟨0, 0, 0, 200, 0⟩, 160, true⟩]) hKFx rfl) (by decide) (by decide)) (fun v197 bs ⟨q197, hv197, hbs⟩ => ?_)
  subst hv197
  subst hbs
  refine o1 rfl (det_assign rfl) rfl rfl trivial ?_
  refine be rfl ?_
  refine k_then ?_
  refine t_seq ?_
  refine b0 ?_
  refine o1 rfl (det_move rfl) rfl rfl trivial ?_
  refine o1 rfl (det_fieldAddr fld57_0 rfl) rfl rfl trivial ?_
  refine o1 rfl (det_loadN tN55 rfl rfl (.tail _ (.tail _ (.tail _ (.tail _ (.tail _ (.tail _ (.tail _ (.tail _ (.tail _ (.tail _ (.tail _ (.tail _ (.tail _ (.tail _ (.tail _ (.tail _ (.tail _ (.tail _ (.tail _ (.tail _ (.head _))))))))))))))))))))) rfl) rfl rfl trivial ?_
  refine o1 rfl (det_build rfl (fun w => bld57_0_1_2 _ _ _ _ _ _ _ w)) rfl rfl trivial ?_
  first | (refine o1 rfl (det_indexAddr sl27 rfl rfl ?_) rfl rfl trivial ?_; (· (first | decide | omega)))
  refine stN nofun rfl tN57 rfl rfl rfl (.tail (.tail (.tail (.tail (.tail (.tail (.tail (.tail (.tail (.tail (.tail (.tail (.tail (.tail (.tail (.tail (.tail (.tail (.tail (.tail (.tail (.tail .head)))))))))))))))))))))) (cs' := rowsV ptv ((headsL [frameP 2 200, ⟨⟨0, 0, 0, 200, 0⟩, 160, true⟩]).set 2 ⟨⟨0, 0, 2, 200, 0⟩, 160, true⟩)) (by rfl) trivial rfl rfl ?_
  refine be rfl ?_
  refine k_then ?_
  refine t_seq ?_
  refine b0 ?_
  refine o1 rfl (det_move rfl) rfl rfl trivial ?_
  refine o1 rfl (det_eql rfl rfl) rfl rfl trivial ?_
  refine o2P beq_iff_eq rfl (det_move rfl) rfl rfl trivial (fun hb => ?_) (fun hb => ?_)
  rotate_left
  · exfalso; first | exact hb rfl | (simp at hb; done) | (revert hb; decide)
  refine o1 rfl (det_move rfl) rfl rfl ⟨_, rfl, rfl⟩ ?_
  refine o1 rfl (det_eql rfl rfl) rfl rfl ⟨_, rfl, rfl⟩ ?_
  refine o1 rfl (det_pickT rfl rfl) rfl rfl trivial ?_
  refine o2P beq_iff_eq rfl (det_move rfl) rfl rfl trivial (fun hb => ?_) (fun hb => ?_)
  rotate_left
  · exfalso; first | exact hb rfl | (simp at hb; done) | (revert hb; decide)
  refine o1 rfl (det_move rfl) rfl rfl ⟨_, rfl, rfl⟩ ?_
  refine o1 rfl (det_eql rfl rfl) rfl rfl ⟨_, rfl, rfl⟩ ?_
  refine o1 rfl (det_pickT rfl rfl) rfl rfl trivial ?_
  refine o2P beq_iff_eq rfl (det_move rfl) rfl rfl trivial (fun hb => ?_) (fun hb => ?_)
  rotate_left
  · exfalso; first | exact hb rfl | (simp at hb; done) | (revert hb; decide)
  refine o1 rfl (det_move rfl) rfl rfl ⟨_, rfl, rfl⟩ ?_
  refine o1 rfl (det_eql rfl rfl) rfl rfl ⟨_, rfl, rfl⟩ ?_
  refine o1 rfl (det_pickT rfl rfl) rfl rfl trivial ?_
  refine o2P beq_iff_eq rfl (det_move rfl) rfl rfl trivial (fun hb => ?_) (fun hb => ?_)
  rotate_left
  · exfalso; first | exact hb rfl | (simp at hb; done) | (revert hb; decide)
  refine o1 rfl (det_move rfl) rfl rfl ⟨_, rfl, rfl⟩ ?_
  refine o1 rfl (det_eql rfl rfl) rfl rfl ⟨_, rfl, rfl⟩ ?_
  refine o1 rfl (det_pickT rfl rfl) rfl rfl trivial ?_
  refine o2P beq_iff_eq rfl (det_move rfl) rfl rfl trivial (fun hb => ?_) (fun hb => ?_)
  rotate_left
  · exfalso; first | exact hb rfl | (simp at hb; done) | (revert hb; decide)
  refine o1 rfl (det_move rfl) rfl rfl ⟨_, rfl, rfl⟩ ?_
  refine o1 rfl (det_eql rfl rfl) rfl rfl ⟨_, rfl, rfl⟩ ?_
  refine o1 rfl (det_pickT rfl rfl) rfl rfl trivial ?_
  refine o2P beq_iff_eq rfl (det_move rfl) rfl rfl trivial (fun hb => ?_) (fun hb => ?_)
  rotate_left
  · exfalso; first | exact hb rfl | (simp at hb; done) | (revert hb; decide)
  refine o1 rfl (det_move rfl) rfl rfl ⟨_, rfl, rfl⟩ ?_
  refine o1 rfl (det_eql rfl rfl) rfl rfl ⟨_, rfl, rfl⟩ ?_
  refine o1 rfl (det_pickT rfl rfl) rfl rfl trivial ?_
  refine o2P beq_iff_eq rfl (det_move rfl) rfl rfl trivial (fun hb => ?_) (fun hb => ?_)
  rotate_left
  · exfalso; first | exact hb rfl | (simp at hb; done) | (revert hb; decide)
  refine o1 rfl (det_move rfl) rfl rfl ⟨_, rfl, rfl⟩ ?_
  refine o1 rfl (det_eql rfl rfl) rfl rfl ⟨_, rfl, rfl⟩ ?_
  refine o1 rfl (det_pickT rfl rfl) rfl rfl trivial ?_
  refine o2P beq_iff_eq rfl (det_move rfl) rfl rfl trivial (fun hb => ?_) (fun hb => ?_)
  rotate_left
  · exfalso; first | exact hb rfl | (simp at hb; done) | (revert hb; decide)
  refine o1 rfl (det_move rfl) rfl rfl ⟨_, rfl, rfl⟩ ?_
  refine o1 rfl (det_eql rfl rfl) rfl rfl ⟨_, rfl, rfl⟩ ?_
  refine o1 rfl (det_pickT rfl rfl) rfl rfl trivial ?_
  refine o1 rfl (det_assign rfl) rfl rfl trivial ?_
  refine be rfl ?_
  refine k_then ?_
  refine t_seq ?_
  refine b0 ?_
  refine tk_freeze (pre := [_, _, _, _, _, _, _, _, _, _, _, _, _, _, _, _, _, _, _, _, _, _]) rfl (fun Fy hFy hNy hKFy => ?_)
  refine o1 rfl (det_move rfl) rfl rfl trivial ?_
  refine o2P beq_iff_eq rfl (det_move rfl) rfl rfl trivial (fun hb => ?_) (fun hb => ?_)
  rotate_left
  · exfalso; first | exact hb rfl | (simp at hb; done) | (revert hb; decide)
  refine o1 rfl (det_move rfl) rfl rfl ⟨_, rfl, rfl⟩ ?_
  refine o1 rfl (det_eql rfl rfl) rfl rfl ⟨_, rfl, rfl⟩ ?_
  refine o1 rfl (det_pickT rfl rfl) rfl rfl trivial ?_
  refine o2P beq_iff_eq rfl (det_move rfl) rfl rfl trivial (fun hb => ?_) (fun hb => ?_)
  rotate_left
  · exfalso; first | exact hb rfl | (simp at hb; done) | (revert hb; decide)
  refine o1 rfl (det_move rfl) rfl rfl ⟨_, rfl, rfl⟩ ?_
  refine o1 rfl (det_eql rfl rfl) rfl rfl ⟨_, rfl, rfl⟩ ?_
  refine o1 rfl (det_pickT rfl rfl) rfl rfl trivial ?_
  refine o2P beq_iff_eq rfl (det_move rfl) rfl rfl trivial (fun hb => ?_) (fun hb => ?_)
  rotate_left
  · exfalso; first | exact hb rfl | (simp at hb; done) | (revert hb; decide)
  refine o1 rfl (det_move rfl) rfl rfl ⟨_, rfl, rfl⟩ ?_
  refine o1 rfl (det_eql rfl rfl) rfl rfl ⟨_, rfl, rfl⟩ ?_
  refine o1 rfl (det_pickT rfl rfl) rfl rfl trivial ?_
  refine o2P beq_iff_eq rfl (det_move rfl) rfl rfl trivial (fun hb => ?_) (fun hb => ?_)
  rotate_left
  · exfalso; first | exact hb rfl | (simp at hb; done) | (revert hb; decide)
  refine o1 rfl (det_move rfl) rfl rfl ⟨_, rfl, rfl⟩ ?_
  refine o1 rfl (det_eql rfl rfl) rfl rfl ⟨_, rfl, rfl⟩ ?_
  refine o1 rfl (det_pickT rfl rfl) rfl rfl trivial ?_
  refine o2P beq_iff_eq rfl (det_move rfl) rfl rfl trivial (fun hb => ?_) (fun hb => ?_)
  rotate_left
  · exfalso; first | exact hb rfl | (simp at hb; done) | (revert hb; decide)
  refine o1 rfl (det_move rfl) rfl rfl ⟨_, rfl, rfl⟩ ?_
  refine o1 rfl (det_not rfl) rfl rfl ⟨_, rfl, rfl⟩ ?_
  refine o1 rfl (det_pickT rfl rfl) rfl rfl trivial ?_
  refine o2P not_iff_false rfl (det_move rfl) rfl rfl trivial (fun hb => ?_) (fun hb => ?_)
  rotate_left
  · exfalso; first | exact hb rfl | (simp at hb; done) | (revert hb; decide)
  refine o1 rfl (det_move rfl) rfl rfl ⟨_, rfl, rfl⟩ ?_
  refine o1 rfl (det_eql rfl rfl) rfl rfl ⟨_, rfl, rfl⟩ ?_
  refine o1 rfl (det_pickT rfl rfl) rfl rfl trivial ?_
  refine o2P beq_iff_eq rfl (det_move rfl) rfl rfl trivial (fun hb => ?_) (fun hb => ?_)
  rotate_left
  · exfalso; first | exact hb rfl | (simp at hb; done) | (revert hb; decide)
  refine o1 rfl (det_move rfl) rfl rfl ⟨_, rfl, rfl⟩ ?_
  refine o1 rfl (det_eql rfl rfl) rfl rfl ⟨_, rfl, rfl⟩ ?_
  refine o1 rfl (det_pickT rfl rfl) rfl rfl trivial ?_
  refine o2P beq_iff_eq rfl (det_move rfl) rfl rfl trivial (fun hb => ?_) (fun hb => ?_)
  rotate_left
  · exfalso; first | exact hb rfl | (simp at hb; done) | (revert hb; decide)
  refine o1 rfl (det_move rfl) rfl rfl ⟨_, rfl, rfl⟩ ?_
  refine o1 rfl (det_eql rfl rfl) rfl rfl ⟨_, rfl, rfl⟩ ?_
  refine o1 rfl (det_pickT rfl rfl) rfl rfl trivial ?_
  refine o2P beq_iff_eq rfl (det_move rfl) rfl rfl trivial (fun hb => ?_) (fun hb => ?_)
  rotate_left
  · exfalso; first | exact hb rfl | (simp at hb; done) | (revert hb; decide)
  refine o1 rfl (det_move rfl) rfl rfl ⟨_, rfl, rfl⟩ ?_
  refine o1 rfl (det_eql rfl rfl) rfl rfl ⟨_, rfl, rfl⟩ ?_
  refine o1 rfl (det_pickT rfl rfl) rfl rfl trivial ?_
  refine o2P beq_iff_eq rfl (det_move rfl) rfl rfl trivial (fun hb => ?_) (fun hb => ?_)
  rotate_left
  · exfalso; first | exact hb rfl | (simp at hb; done) | (revert hb; decide)
  refine o1 rfl (det_move rfl) rfl rfl ⟨_, rfl, rfl⟩ ?_
  refine o1 rfl (det_eql rfl rfl) rfl rfl ⟨_, rfl, rfl⟩ ?_
  refine o1 rfl (det_pickT rfl rfl) rfl rfl trivial ?_
  refine o2P beq_iff_eq rfl (det_move rfl) rfl rfl trivial (fun hb => ?_) (fun hb => ?_)
  rotate_left
  · exfalso; first | exact hb rfl | (simp at hb; done) | (revert hb; decide)
  refine o1 rfl (det_move rfl) rfl rfl ⟨_, rfl, rfl⟩ ?_
  refine o1 rfl (det_eql rfl rfl) rfl rfl ⟨_, rfl, rfl⟩ ?_
  refine o1 rfl (det_pickT rfl rfl) rfl rfl trivial ?_
  refine o2P beq_iff_eq rfl (det_move rfl) rfl rfl trivial (fun hb => ?_) (fun hb => ?_)
  rotate_left
  · exfalso; first | exact hb rfl | (simp at hb; done) | (revert hb; decide)
  refine o1 rfl (det_move rfl) rfl rfl ⟨_, rfl, rfl⟩ ?_
  refine o1 rfl (det_eql rfl rfl) rfl rfl ⟨_, rfl, rfl⟩ ?_
  refine o1 rfl (det_pickT rfl rfl) rfl rfl trivial ?_
  refine o2P beq_iff_eq rfl (det_move rfl) rfl rfl trivial (fun hb => ?_) (fun hb => ?_)
  rotate_left
  · exfalso; first | exact hb rfl | (simp at hb; done) | (revert hb; decide)
  refine o1 rfl (det_move rfl) rfl rfl ⟨_, rfl, rfl⟩ ?_
  refine o1 rfl (det_eql rfl rfl) rfl rfl ⟨_, rfl, rfl⟩ ?_
  refine o1 rfl (det_pickT rfl rfl) rfl rfl trivial ?_
  refine o2P beq_iff_eq rfl (det_move rfl) rfl rfl trivial (fun hb => ?_) (fun hb => ?_)
  rotate_left
  · exfalso; first | exact hb rfl | (simp at hb; done) | (revert hb; decide)
  refine o1 rfl (det_move rfl) rfl rfl ⟨_, rfl, rfl⟩ ?_
  refine o1 rfl (det_eql rfl rfl) rfl rfl ⟨_, rfl, rfl⟩ ?_
  refine o1 rfl (det_pickT rfl rfl) rfl rfl trivial ?_
  refine o2P beq_iff_eq rfl (det_move rfl) rfl rfl trivial (fun hb => ?_) (fun hb => ?_)
  rotate_left
  · exfalso; first | exact hb rfl | (simp at hb; done) | (revert hb; decide)
  refine o1 rfl (det_move rfl) rfl rfl ⟨_, rfl, rfl⟩ ?_
  refine o1 rfl (det_eql rfl rfl) rfl rfl ⟨_, rfl, rfl⟩ ?_
  refine o1 rfl (det_pickT rfl rfl) rfl rfl trivial ?_
  refine o2P beq_iff_eq rfl (det_move rfl) rfl rfl trivial (fun hb => ?_) (fun hb => ?_)
  rotate_left
  · exfalso; first | exact hb rfl | (simp at hb; done) | (revert hb; decide)
  refine o1 rfl (det_move rfl) rfl rfl ⟨_, rfl, rfl⟩ ?_
  refine o1 rfl (det_eql rfl rfl) rfl rfl ⟨_, rfl, rfl⟩ ?_
  refine o1 rfl (det_pickT rfl rfl) rfl rfl trivial ?_
  refine o2P beq_iff_eq rfl (det_move rfl) rfl rfl trivial (fun hb => ?_) (fun hb => ?_)
  rotate_left
  · exfalso; first | exact hb rfl | (simp at hb; done) | (revert hb; decide)
  refine o1 rfl (det_move rfl) rfl rfl ⟨_, rfl, rfl⟩ ?_
  refine o1 rfl (det_eql rfl rfl) rfl rfl ⟨_, rfl, rfl⟩ ?_
  refine o1 rfl (det_pickT rfl rfl) rfl rfl trivial ?_
  refine o2P beq_iff_eq rfl (det_move rfl) rfl rfl trivial (fun hb => ?_) (fun hb => ?_)
  rotate_left
  · exfalso; first | exact hb rfl | (simp at hb; done) | (revert hb; decide)
  refine o1 rfl (det_move rfl) rfl rfl ⟨_, rfl, rfl⟩ ?_
  refine o1 rfl (det_eql rfl rfl) rfl rfl ⟨_, rfl, rfl⟩ ?_
  refine o1 rfl (det_pickT rfl rfl) rfl rfl trivial ?_
  refine o2P beq_iff_eq rfl (det_move rfl) rfl rfl trivial (fun hb => ?_) (fun hb => ?_)
  rotate_left
  · exfalso; first | exact hb rfl | (simp at hb; done) | (revert hb; decide)
  refine o1 rfl (det_move rfl) rfl rfl ⟨_, rfl, rfl⟩ ?_
  refine o1 rfl (det_call hb19 rfl rfl (fun w1 hs => cheads_at hs.know (lit_rows (ps := ((headsL [frameP 2 200, ⟨⟨0, 0, 0, 200, 0⟩, 160, true⟩]).set 2 ⟨⟨0, 0, 2, 200, 0⟩, 160, true⟩)) hKFy rfl) (by decide) (x := 470) (by kernel_rfl))) rfl rfl ⟨_, rfl, rfl⟩ ?_
  refine o1 rfl (det_eql rfl rfl) rfl rfl ⟨_, rfl, rfl⟩ ?_
  refine o1 rfl (det_pickT rfl rfl) rfl rfl trivial ?_
  refine o1 rfl (det_assign rfl) rfl rfl trivial ?_
  refine be rfl ?_
  refine k_then ?_
  refine t_ret ?_
  refine ret_tmp rfl rfl rfl (fun w1 hs => ?_)
  exact ⟨rfl, hs.keep⟩

end Go.Proofs.Cp
