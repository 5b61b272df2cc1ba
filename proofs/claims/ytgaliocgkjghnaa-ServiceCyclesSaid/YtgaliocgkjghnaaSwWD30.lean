/-
  Walks through layer 30 and its reference.
-/
import Derived.Test.YtgaliocgkjghnaaSwS8
import Derived.Test.YtgaliocgkjghnaaSvPlain8ToSvPlain9
import Derived.Test.YtgaliocgkjghnaaGtK2
namespace Go.Proofs.Sw
open Go Go.Eng Go.Gt Go.Proofs.Gt Go.Sw Go.Sv
set_option maxRecDepth 4000

/-- Draft.Gates. -/
theorem draft30_ok {w : World} {F : Know} (hF : ∀ a v, F a = some v → w.cell? a = some v) {A1 A2 : Option Addr} {n1 c1 n2 c2 : Nat} {ss ls : List Int} (h1 : IntsK F .u8 A1 n1 ss) (h2 : IntsK F .u8 A2 n2 ls) : CallsF Try.prog 33 [.agg [.slice A1 n1 c1, .slice A2 n2 c2].toArray] w noK (fun v F1 => ∃ A1 cap1, v = .agg (glv ⟨A1, ((Sv.draftE ss ls)).length, cap1, (Sv.draftE ss ls), sumL ((Sv.draftE ss ls))⟩).toArray ∧ ((Sv.draftE ss ls)).length ≤ cap1 ∧ GlK F1 ⟨A1, ((Sv.draftE ss ls)).length, cap1, (Sv.draftE ss ls), sumL ((Sv.draftE ss ls))⟩) := by
  have hb1 : bytesL ss := fun i h => h1.rng i h
  have hb2 : bytesL ls := fun i h => h2.rng i h
  refine fn_fresh (F := F) Try.func33 rfl Try.ntmps33 rfl hF ?_
  refine t_seq ?_
  refine b0 ?_
  refine om1 rfl (new_boxN rfl) rfl rfl trivial (fun p1 => ?_)
  refine om1 rfl (new_alloc z30) rfl rfl trivial (fun p2 => ?_)
  refine be rfl ?_
  refine k_then ?_
  refine t_seq ?_
  refine b0 ?_
  refine om1 rfl (new_alloc z30) rfl rfl trivial (fun p3 => ?_)
  refine be rfl ?_
  refine k_then ?_
  refine t_seq ?_
  refine t_seq ?_
  refine b0 ?_
  refine o1 rfl (det_assign rfl) rfl rfl trivial ?_
  refine be rfl ?_
  refine k_then ?_
  refine t_block ?_
  refine t_whileM (σ := Nat × (Option Addr × Nat) × Own) (fun s => [(4, .int .i64 (s.1 : Int))]) (fun s => (p3, .cells [.slice s.2.1.1 s.1 s.2.1.2, .int .i64 (sumL ((Sv.draftE ss ls).take s.1))].toArray 30 (0, 0)) :: (p2, .cells [.slice none 0 0, .int .i64 0].toArray 30 (0, 0)) :: (p1, .cells [.slice A1 n1 c1, .slice A2 n2 c2].toArray 64 (0, 0)) :: s.2.2) (fun s => (Sv.draftE ss ls).length - s.1) (fun s => s.1 ≤ (Sv.draftE ss ls).length ∧ SlO 100 2 (.slice s.2.1.1 s.1 s.2.1.2) s.1 (cellsE ((Sv.draftE ss ls).take s.1)) s.2.2) (0, (none, 0), []) (env0 := [(1, _), (2, _), (3, _)]) ⟨Nat.zero_le _, SlO.nil _ _⟩ ⟨rfl, trivial⟩ ⟨rfl, rfl, rfl, trivial⟩ (.refl _) ?_
  rintro s ⟨hk, hS⟩
  have hsb := sumL_abs (Sv.draft_big hb1 hb2) s.1 hk
  have hdl := Sv.draftE_len ss ls
  unfold Sv.draftN at hdl
  have hl1 := h1.len
  have hl2 := h2.len
  refine t_seq ?_
  refine t_seq ?_
  refine b0 ?_
  refine o1 rfl (det_move rfl) rfl rfl trivial ?_
  refine o1 rfl (det_fieldAddr fld64_0 rfl) rfl rfl trivial ?_
  refine o1 rfl (det_load1 t1_22 rfl rfl (.tail _ (.tail _ (.head _))) rfl) rfl rfl trivial ?_
  refine o1 rfl (det_lenS sl22 rfl) rfl rfl trivial ?_
  refine o1 rfl (det_min2 rfl rfl) rfl rfl trivial ?_
  refine o1 rfl (det_max2 rfl rfl) rfl rfl trivial ?_
  refine o1 rfl (det_lss rfl rfl) rfl rfl trivial ?_
  refine be rfl ?_
  refine k_then ?_
  refine t_condP decide_eq_true_iff rfl (fun hb => ?_) (fun hb => ?_)
  ·
    have hlt : s.1 < (Sv.draftE ss ls).length := by omega
    have hgt := Sv.draftE_get ss ls hlt
    have hok := Sv.draftE_ok hb1 hb2 s.1 hlt
    refine t_skip ?_
    refine k_then ?_
    refine t_seq ?_
    refine t_block ?_
    refine t_seq ?_
    refine b0 ?_
    refine o1 rfl (det_build rfl (fun w => bld100_0_1 _ _ w)) rfl rfl trivial ?_
    refine om1 rfl (new_alloc z100) rfl rfl trivial (fun p5 => ?_)
    refine stN nofun rfl tN100 rfl rfl rfl .head rfl trivial rfl rfl ?_
    refine be rfl ?_
    refine k_then ?_
    refine t_seq ?_
    refine t_seq ?_
    refine b0 ?_
    refine o1 rfl (det_move rfl) rfl rfl trivial ?_
    refine o1 rfl (det_fieldAddr fld64_0 rfl) rfl rfl trivial ?_
    refine o1 rfl (det_load1 t1_22 rfl rfl (.tail _ (.tail _ (.tail _ (.head _)))) rfl) rfl rfl trivial ?_
    refine o1 rfl (det_lenS sl22 rfl) rfl rfl trivial ?_
    refine o1 rfl (det_lss rfl rfl) rfl rfl trivial ?_
    refine be rfl ?_
    refine k_then ?_
    refine t_condP decide_eq_true_iff rfl (fun hb => ?_) (fun hb => ?_)
    ·
      have hs1 : ((s.1 : Int)).toNat < ss.length := by omega
      have hx : (Sv.draftE ss ls)[s.1].1 = maskT (ss[((s.1 : Int)).toNat] % 6) := by
        rw [hgt]; simp only; rw [if_pos (by omega), List.getD_eq_getElem?_getD, List.getElem?_eq_getElem (by omega)]; rfl
      have hbx := hb1 _ hs1
      obtain ⟨A1, rfl⟩ := h1.some hs1
      have hm6 : 0 ≤ ss[((s.1 : Int)).toNat] % 6 ∧ ss[((s.1 : Int)).toNat] % 6 < 6 := ⟨Int.emod_nonneg _ (by decide), Int.emod_lt_of_pos _ (by decide)⟩
      have hmg := maskT_get hm6
      have hmr := maskT_rng hm6
      refine b0 ?_
      refine om1 rfl (new_buildSlice rfl (fun w => bsl105_6_0_1_2_3_4_5 _ _ _ _ _ _ w)) rfl rfl trivial (fun p21 => ?_)
      refine o1 rfl (det_fieldAddr fld64_0 rfl) rfl rfl trivial ?_
      refine o1 rfl (det_load1 t1_22 rfl rfl (.tail _ (.tail _ (.tail _ (.tail _ (.head _))))) rfl) rfl rfl trivial ?_
      refine o1 rfl (det_move rfl) rfl rfl trivial ?_
      first | (refine o1 rfl (det_indexAddr sl22 rfl rfl ?_) rfl rfl trivial ?_; (· (first | decide | omega)))
      refine o1 rfl (det_loadK t1_5 rfl (h1.cell (by omega) hs1)) rfl rfl trivial ?_
      first | (refine o1 rfl (det_remP rfl rfl ?_) rfl rfl trivial ?_; (· omega)) | (refine o1 rfl (det_rem rfl rfl ?_) rfl rfl trivial ?_; (· (first | decide | omega)))
      first | (refine o1 rfl (det_indexAddr sl105 rfl rfl ?_) rfl rfl trivial ?_; (· (first | decide | omega)))
      refine o1 rfl (det_load1 t1_3 rfl (by rw [add_mk, Nat.zero_add, Nat.mul_one]) (.head _) hmg) rfl rfl trivial ?_
      refine o1 rfl (det_fieldAddr fld100_0 rfl) rfl rfl trivial ?_
      refine st1 nofun rfl t1_3 rfl rfl rfl (.tail .head) rfl trivial rfl ?_
      refine be rfl ?_
      refine k_then ?_
      refine t_seq ?_
      refine t_seq ?_
      refine b0 ?_
      refine o1 rfl (det_move rfl) rfl rfl trivial ?_
      refine o1 rfl (det_fieldAddr fld64_1 rfl) rfl rfl trivial ?_
      refine o1 rfl (det_load1 t1_22 rfl rfl (.tail _ (.tail _ (.tail _ (.tail _ (.head _))))) rfl) rfl rfl trivial ?_
      refine o1 rfl (det_lenS sl22 rfl) rfl rfl trivial ?_
      refine o1 rfl (det_lss rfl rfl) rfl rfl trivial ?_
      refine be rfl ?_
      refine k_then ?_
      refine t_condP decide_eq_true_iff rfl (fun hb => ?_) (fun hb => ?_)
      ·
        have hs2 : ((s.1 : Int)).toNat < ls.length := by omega
        have hy : (Sv.draftE ss ls)[s.1].2 = 1 + 4 * ls[((s.1 : Int)).toNat] := by
          rw [hgt]; simp only; rw [if_pos (by omega), List.getD_eq_getElem?_getD, List.getElem?_eq_getElem (by omega)]; rfl
        have hby := hb2 _ hs2
        obtain ⟨A2, rfl⟩ := h2.some hs2
        refine b0 ?_
        refine o1 rfl (det_fieldAddr fld64_1 rfl) rfl rfl trivial ?_
        refine o1 rfl (det_load1 t1_22 rfl rfl (.tail _ (.tail _ (.tail _ (.tail _ (.head _))))) rfl) rfl rfl trivial ?_
        refine o1 rfl (det_move rfl) rfl rfl trivial ?_
        first | (refine o1 rfl (det_indexAddr sl22 rfl rfl ?_) rfl rfl trivial ?_; (· (first | decide | omega)))
        refine o1 rfl (det_loadK t1_5 rfl (h2.cell (by omega) hs2)) rfl rfl trivial ?_
        first | (refine o1 rfl (det_convW Try.underlying5 Try.underlying3 rfl ?_) rfl rfl trivial ?_; (· exact IntWalk.i64_in _ (by omega))) | refine o1 rfl (det_conv Try.underlying5 Try.underlying3 rfl) rfl rfl trivial ?_
        first | (refine o1 rfl (det_mulI rfl rfl ?_) rfl rfl trivial ?_; (· omega)) | refine o1 rfl (det_mul rfl rfl) rfl rfl trivial ?_
        first | (refine o1 rfl (det_addI rfl rfl ?_) rfl rfl trivial ?_; (· omega)) | refine o1 rfl (det_add rfl rfl) rfl rfl trivial ?_
        refine o1 rfl (det_fieldAddr fld100_1 rfl) rfl rfl trivial ?_
        refine st1 nofun rfl t1_3 rfl rfl rfl (.tail .head) rfl trivial rfl ?_
        refine be rfl ?_
        refine k_then ?_
        refine t_seq ?_
        refine b0 ?_
        refine o1 rfl (det_fieldAddr fld30_0 rfl) rfl rfl trivial ?_
        refine o1 rfl (det_load1 t1_28 rfl rfl (.tail _ (.tail _ (.head _))) rfl) rfl rfl trivial ?_
        refine o1 rfl (det_loadN tN100 rfl rfl (.tail _ (.head _)) rfl) rfl rfl trivial ?_
        refine om1 rfl (new_buildSlice rfl (fun w => bsl28_1_0 _ _ w)) rfl rfl trivial (fun p48 => ?_)
        refine oAppS (pre := [_, _, _, _, _, _]) (b := s.2.2) (m := 1) (news := [.int .i64 _, .int .i64 _]) nofun rfl ap28 rfl rfl rfl trivial hS rfl (fun w1 hs j u hj => hs.cellO (.head _) hj) (by simp [Value.oneCell']) (by omega) (by simp only [maxLen]; omega) (fun A3 cp3 b3 hS3 => ?_)
        replace hS3 : SlO 100 2 (.slice A3 (s.1 + 1) cp3) (s.1 + 1) (cellsE ((Sv.draftE ss ls).take (s.1 + 1))) b3 := by
          rw [cellsE_succ _ _ hlt, hx, hy]; exact hS3
        refine o1 rfl (det_fieldAddr fld30_0 rfl) rfl rfl trivial ?_
        refine st1 nofun rfl t1_28 rfl rfl rfl (.tail (.tail (.tail .head))) rfl trivial rfl ?_
        refine be rfl ?_
        refine k_then ?_
        refine b0 ?_
        refine o1 rfl (det_fieldAddr fld30_1 rfl) rfl rfl trivial ?_
        refine o1 rfl (det_load1 t1_3 rfl rfl (.tail _ (.tail _ (.tail _ (.head _)))) rfl) rfl rfl trivial ?_
        refine o1 rfl (det_fieldAddr fld100_1 rfl) rfl rfl trivial ?_
        refine o1 rfl (det_load1 t1_3 rfl rfl (.tail _ (.tail _ (.head _))) rfl) rfl rfl trivial ?_
        first | (refine o1 rfl (det_addI rfl rfl ?_) rfl rfl trivial ?_; (· omega)) | refine o1 rfl (det_add rfl rfl) rfl rfl trivial ?_
        refine o1 rfl (det_fieldAddr fld30_1 rfl) rfl rfl trivial ?_
        refine st1 nofun rfl t1_3 rfl rfl rfl (.tail (.tail (.tail .head))) rfl trivial rfl ?_
        refine be rfl ?_
        refine k_blk ?_
        refine k_then ?_
        refine b0 ?_
        refine o1 rfl (det_move rfl) rfl rfl trivial ?_
        first | (refine o1 rfl (det_addI rfl rfl ?_) rfl rfl trivial ?_; (· omega)) | refine o1 rfl (det_add rfl rfl) rfl rfl trivial ?_
        refine o1 rfl (det_assign rfl) rfl rfl trivial ?_
        refine be rfl ?_
        refine k_then ?_
        rw [show sumL ((Sv.draftE ss ls).take s.1) + _ = sumL ((Sv.draftE ss ls).take (s.1 + 1)) from by rw [sumL_take_succ _ _ hlt, hy]]
        refine loop_back (s.1 + 1, (A3, cp3), b3) ⟨by simp only; omega, hS3⟩ (by simp only; omega) ⟨rfl, rfl, rfl, rfl, trivial⟩ (.cons _ (.cons _ (.cons _ (.refl _))))
      ·
        have hy : (Sv.draftE ss ls)[s.1].2 = 1 := by rw [hgt]; simp only; rw [if_neg (by omega)]
        refine t_skip ?_
        refine k_then ?_
        refine t_seq ?_
        refine b0 ?_
        refine o1 rfl (det_fieldAddr fld30_0 rfl) rfl rfl trivial ?_
        refine o1 rfl (det_load1 t1_28 rfl rfl (.tail _ (.tail _ (.head _))) rfl) rfl rfl trivial ?_
        refine o1 rfl (det_loadN tN100 rfl rfl (.tail _ (.head _)) rfl) rfl rfl trivial ?_
        refine om1 rfl (new_buildSlice rfl (fun w => bsl28_1_0 _ _ w)) rfl rfl trivial (fun p48 => ?_)
        refine oAppS (pre := [_, _, _, _, _, _]) (b := s.2.2) (m := 1) (news := [.int .i64 _, .int .i64 _]) nofun rfl ap28 rfl rfl rfl trivial hS rfl (fun w1 hs j u hj => hs.cellO (.head _) hj) (by simp [Value.oneCell']) (by omega) (by simp only [maxLen]; omega) (fun A3 cp3 b3 hS3 => ?_)
        replace hS3 : SlO 100 2 (.slice A3 (s.1 + 1) cp3) (s.1 + 1) (cellsE ((Sv.draftE ss ls).take (s.1 + 1))) b3 := by
          rw [cellsE_succ _ _ hlt, hx, hy]; exact hS3
        refine o1 rfl (det_fieldAddr fld30_0 rfl) rfl rfl trivial ?_
        refine st1 nofun rfl t1_28 rfl rfl rfl (.tail (.tail (.tail .head))) rfl trivial rfl ?_
        refine be rfl ?_
        refine k_then ?_
        refine b0 ?_
        refine o1 rfl (det_fieldAddr fld30_1 rfl) rfl rfl trivial ?_
        refine o1 rfl (det_load1 t1_3 rfl rfl (.tail _ (.tail _ (.tail _ (.head _)))) rfl) rfl rfl trivial ?_
        refine o1 rfl (det_fieldAddr fld100_1 rfl) rfl rfl trivial ?_
        refine o1 rfl (det_load1 t1_3 rfl rfl (.tail _ (.tail _ (.head _))) rfl) rfl rfl trivial ?_
        first | (refine o1 rfl (det_addI rfl rfl ?_) rfl rfl trivial ?_; (· omega)) | refine o1 rfl (det_add rfl rfl) rfl rfl trivial ?_
        refine o1 rfl (det_fieldAddr fld30_1 rfl) rfl rfl trivial ?_
        refine st1 nofun rfl t1_3 rfl rfl rfl (.tail (.tail (.tail .head))) rfl trivial rfl ?_
        refine be rfl ?_
        refine k_blk ?_
        refine k_then ?_
        refine b0 ?_
        refine o1 rfl (det_move rfl) rfl rfl trivial ?_
        first | (refine o1 rfl (det_addI rfl rfl ?_) rfl rfl trivial ?_; (· omega)) | refine o1 rfl (det_add rfl rfl) rfl rfl trivial ?_
        refine o1 rfl (det_assign rfl) rfl rfl trivial ?_
        refine be rfl ?_
        refine k_then ?_
        rw [show sumL ((Sv.draftE ss ls).take s.1) + _ = sumL ((Sv.draftE ss ls).take (s.1 + 1)) from by rw [sumL_take_succ _ _ hlt, hy]]
        refine loop_back (s.1 + 1, (A3, cp3), b3) ⟨by simp only; omega, hS3⟩ (by simp only; omega) ⟨rfl, rfl, rfl, rfl, trivial⟩ (.cons _ (.cons _ (.cons _ (.refl _))))
    ·
      have hx : (Sv.draftE ss ls)[s.1].1 = 127 := by rw [hgt]; simp only; rw [if_neg (by omega)]
      refine t_skip ?_
      refine k_then ?_
      refine t_seq ?_
      refine t_seq ?_
      refine b0 ?_
      refine o1 rfl (det_move rfl) rfl rfl trivial ?_
      refine o1 rfl (det_fieldAddr fld64_1 rfl) rfl rfl trivial ?_
      refine o1 rfl (det_load1 t1_22 rfl rfl (.tail _ (.tail _ (.tail _ (.head _)))) rfl) rfl rfl trivial ?_
      refine o1 rfl (det_lenS sl22 rfl) rfl rfl trivial ?_
      refine o1 rfl (det_lss rfl rfl) rfl rfl trivial ?_
      refine be rfl ?_
      refine k_then ?_
      refine t_condP decide_eq_true_iff rfl (fun hb => ?_) (fun hb => ?_)
      ·
        have hs2 : ((s.1 : Int)).toNat < ls.length := by omega
        have hy : (Sv.draftE ss ls)[s.1].2 = 1 + 4 * ls[((s.1 : Int)).toNat] := by
          rw [hgt]; simp only; rw [if_pos (by omega), List.getD_eq_getElem?_getD, List.getElem?_eq_getElem (by omega)]; rfl
        have hby := hb2 _ hs2
        obtain ⟨A2, rfl⟩ := h2.some hs2
        refine b0 ?_
        refine o1 rfl (det_fieldAddr fld64_1 rfl) rfl rfl trivial ?_
        refine o1 rfl (det_load1 t1_22 rfl rfl (.tail _ (.tail _ (.tail _ (.head _)))) rfl) rfl rfl trivial ?_
        refine o1 rfl (det_move rfl) rfl rfl trivial ?_
        first | (refine o1 rfl (det_indexAddr sl22 rfl rfl ?_) rfl rfl trivial ?_; (· (first | decide | omega)))
        refine o1 rfl (det_loadK t1_5 rfl (h2.cell (by omega) hs2)) rfl rfl trivial ?_
        first | (refine o1 rfl (det_convW Try.underlying5 Try.underlying3 rfl ?_) rfl rfl trivial ?_; (· exact IntWalk.i64_in _ (by omega))) | refine o1 rfl (det_conv Try.underlying5 Try.underlying3 rfl) rfl rfl trivial ?_
        first | (refine o1 rfl (det_mulI rfl rfl ?_) rfl rfl trivial ?_; (· omega)) | refine o1 rfl (det_mul rfl rfl) rfl rfl trivial ?_
        first | (refine o1 rfl (det_addI rfl rfl ?_) rfl rfl trivial ?_; (· omega)) | refine o1 rfl (det_add rfl rfl) rfl rfl trivial ?_
        refine o1 rfl (det_fieldAddr fld100_1 rfl) rfl rfl trivial ?_
        refine st1 nofun rfl t1_3 rfl rfl rfl .head rfl trivial rfl ?_
        refine be rfl ?_
        refine k_then ?_
        refine t_seq ?_
        refine b0 ?_
        refine o1 rfl (det_fieldAddr fld30_0 rfl) rfl rfl trivial ?_
        refine o1 rfl (det_load1 t1_28 rfl rfl (.tail _ (.head _)) rfl) rfl rfl trivial ?_
        refine o1 rfl (det_loadN tN100 rfl rfl (.head _) rfl) rfl rfl trivial ?_
        refine om1 rfl (new_buildSlice rfl (fun w => bsl28_1_0 _ _ w)) rfl rfl trivial (fun p48 => ?_)
        refine oAppS (pre := [_, _, _, _, _]) (b := s.2.2) (m := 1) (news := [.int .i64 _, .int .i64 _]) nofun rfl ap28 rfl rfl rfl trivial hS rfl (fun w1 hs j u hj => hs.cellO (.head _) hj) (by simp [Value.oneCell']) (by omega) (by simp only [maxLen]; omega) (fun A3 cp3 b3 hS3 => ?_)
        replace hS3 : SlO 100 2 (.slice A3 (s.1 + 1) cp3) (s.1 + 1) (cellsE ((Sv.draftE ss ls).take (s.1 + 1))) b3 := by
          rw [cellsE_succ _ _ hlt, hx, hy]; exact hS3
        refine o1 rfl (det_fieldAddr fld30_0 rfl) rfl rfl trivial ?_
        refine st1 nofun rfl t1_28 rfl rfl rfl (.tail (.tail .head)) rfl trivial rfl ?_
        refine be rfl ?_
        refine k_then ?_
        refine b0 ?_
        refine o1 rfl (det_fieldAddr fld30_1 rfl) rfl rfl trivial ?_
        refine o1 rfl (det_load1 t1_3 rfl rfl (.tail _ (.tail _ (.head _))) rfl) rfl rfl trivial ?_
        refine o1 rfl (det_fieldAddr fld100_1 rfl) rfl rfl trivial ?_
        refine o1 rfl (det_load1 t1_3 rfl rfl (.tail _ (.head _)) rfl) rfl rfl trivial ?_
        first | (refine o1 rfl (det_addI rfl rfl ?_) rfl rfl trivial ?_; (· omega)) | refine o1 rfl (det_add rfl rfl) rfl rfl trivial ?_
        refine o1 rfl (det_fieldAddr fld30_1 rfl) rfl rfl trivial ?_
        refine st1 nofun rfl t1_3 rfl rfl rfl (.tail (.tail .head)) rfl trivial rfl ?_
        refine be rfl ?_
        refine k_blk ?_
        refine k_then ?_
        refine b0 ?_
        refine o1 rfl (det_move rfl) rfl rfl trivial ?_
        first | (refine o1 rfl (det_addI rfl rfl ?_) rfl rfl trivial ?_; (· omega)) | refine o1 rfl (det_add rfl rfl) rfl rfl trivial ?_
        refine o1 rfl (det_assign rfl) rfl rfl trivial ?_
        refine be rfl ?_
        refine k_then ?_
        rw [show sumL ((Sv.draftE ss ls).take s.1) + _ = sumL ((Sv.draftE ss ls).take (s.1 + 1)) from by rw [sumL_take_succ _ _ hlt, hy]]
        refine loop_back (s.1 + 1, (A3, cp3), b3) ⟨by simp only; omega, hS3⟩ (by simp only; omega) ⟨rfl, rfl, rfl, rfl, trivial⟩ (.cons _ (.cons _ (.refl _)))
      ·
        have hy : (Sv.draftE ss ls)[s.1].2 = 1 := by rw [hgt]; simp only; rw [if_neg (by omega)]
        refine t_skip ?_
        refine k_then ?_
        refine t_seq ?_
        refine b0 ?_
        refine o1 rfl (det_fieldAddr fld30_0 rfl) rfl rfl trivial ?_
        refine o1 rfl (det_load1 t1_28 rfl rfl (.tail _ (.head _)) rfl) rfl rfl trivial ?_
        refine o1 rfl (det_loadN tN100 rfl rfl (.head _) rfl) rfl rfl trivial ?_
        refine om1 rfl (new_buildSlice rfl (fun w => bsl28_1_0 _ _ w)) rfl rfl trivial (fun p48 => ?_)
        refine oAppS (pre := [_, _, _, _, _]) (b := s.2.2) (m := 1) (news := [.int .i64 _, .int .i64 _]) nofun rfl ap28 rfl rfl rfl trivial hS rfl (fun w1 hs j u hj => hs.cellO (.head _) hj) (by simp [Value.oneCell']) (by omega) (by simp only [maxLen]; omega) (fun A3 cp3 b3 hS3 => ?_)
        replace hS3 : SlO 100 2 (.slice A3 (s.1 + 1) cp3) (s.1 + 1) (cellsE ((Sv.draftE ss ls).take (s.1 + 1))) b3 := by
          rw [cellsE_succ _ _ hlt, hx, hy]; exact hS3
        refine o1 rfl (det_fieldAddr fld30_0 rfl) rfl rfl trivial ?_
        refine st1 nofun rfl t1_28 rfl rfl rfl (.tail (.tail .head)) rfl trivial rfl ?_
        refine be rfl ?_
        refine k_then ?_
        refine b0 ?_
        refine o1 rfl (det_fieldAddr fld30_1 rfl) rfl rfl trivial ?_
        refine o1 rfl (det_load1 t1_3 rfl rfl (.tail _ (.tail _ (.head _))) rfl) rfl rfl trivial ?_
        refine o1 rfl (det_fieldAddr fld100_1 rfl) rfl rfl trivial ?_
        refine o1 rfl (det_load1 t1_3 rfl rfl (.tail _ (.head _)) rfl) rfl rfl trivial ?_
        first | (refine o1 rfl (det_addI rfl rfl ?_) rfl rfl trivial ?_; (· omega)) | refine o1 rfl (det_add rfl rfl) rfl rfl trivial ?_
        refine o1 rfl (det_fieldAddr fld30_1 rfl) rfl rfl trivial ?_
        refine st1 nofun rfl t1_3 rfl rfl rfl (.tail (.tail .head)) rfl trivial rfl ?_
        refine be rfl ?_
        refine k_blk ?_
        refine k_then ?_
        refine b0 ?_
        refine o1 rfl (det_move rfl) rfl rfl trivial ?_
        first | (refine o1 rfl (det_addI rfl rfl ?_) rfl rfl trivial ?_; (· omega)) | refine o1 rfl (det_add rfl rfl) rfl rfl trivial ?_
        refine o1 rfl (det_assign rfl) rfl rfl trivial ?_
        refine be rfl ?_
        refine k_then ?_
        rw [show sumL ((Sv.draftE ss ls).take s.1) + _ = sumL ((Sv.draftE ss ls).take (s.1 + 1)) from by rw [sumL_take_succ _ _ hlt, hy]]
        refine loop_back (s.1 + 1, (A3, cp3), b3) ⟨by simp only; omega, hS3⟩ (by simp only; omega) ⟨rfl, rfl, rfl, rfl, trivial⟩ (.cons _ (.cons _ (.refl _)))
  ·
    have hke : s.1 = (Sv.draftE ss ls).length := by omega
    rw [hke, List.take_length] at hS ⊢
    clear hb
    refine t_exit ?_
    refine k_thenE ?_
    refine k_thenE ?_
    refine k_blkE ?_
    refine k_then ?_
    refine t_seq ?_
    refine b0 ?_
    refine o1 rfl (det_loadN tN30 rfl rfl (.head _) rfl) rfl rfl trivial ?_
    refine stN nofun rfl tN30 rfl rfl rfl (.tail .head) rfl trivial rfl rfl ?_
    refine be rfl ?_
    refine k_then ?_
    refine t_ret ?_
    refine ret_any (vs := [_]) rfl rfl ⟨(.cellN tN30 rfl rfl (.tail _ (.head _)) rfl), trivial⟩ rfl (fun w1 hs => ?_)
    refine end_fresh hs fun F1 g1 g2 g3 => ?_
    obtain ⟨A1, cap1, hv, hcp, hE1⟩ := entK_of hS (Sv.draft_rng hb1 hb2) (F' := F1) fun p cs t fr k hm => g3 p cs t fr k (List.mem_cons_of_mem _ (List.mem_cons_of_mem _ (List.mem_cons_of_mem _ hm)))
    cases hv
    exact ⟨_, _, rfl, hcp, hE1⟩

end Go.Proofs.Sw
