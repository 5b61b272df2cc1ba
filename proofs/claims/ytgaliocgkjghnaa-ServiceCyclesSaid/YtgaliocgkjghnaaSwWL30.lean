/-
  Walks through layer 30 and its reference.
-/
import Derived.Test.YtgaliocgkjghnaaSwW6
import Derived.Test.YtgaliocgkjghnaaGtK2
namespace Go.Proofs.Sw
open Go Go.Eng Go.Gt Go.Proofs.Gt
set_option maxRecDepth 4000

/-- list. -/
theorem list_ok {w : World} {F : Know} (hF : ∀ a v, F a = some v → w.cell? a = some v) {A : Option Addr} {cap : Nat} {es : Ents} (hE : EntK F A es.length es) (hl : es.length ≤ 200) (hbd : ∀ (i : Nat) (h : i < es.length), -20000000 ≤ es[i].2 ∧ es[i].2 ≤ 20000000) : CallsF Try.prog 42 [.slice A (es.length * 2) cap] w noK (fun v F1 => ∃ A1 cap1, v = .agg [.slice A1 (es).length cap1, .int .i64 (sumL (es))].toArray ∧ (es).length ≤ cap1 ∧ EntK F1 A1 (es).length (es)) := by
  refine fn_fresh (F := F) Try.func42 rfl Try.ntmps42 rfl hF ?_
  refine t_seq ?_
  refine b0 ?_
  refine om1 rfl (new_alloc z30) rfl rfl trivial (fun p2 => ?_)
  refine be rfl ?_
  refine k_then ?_
  refine t_seq ?_
  refine b0 ?_
  refine om1 rfl (new_alloc z30) rfl rfl trivial (fun p3 => ?_)
  refine be rfl ?_
  refine k_then ?_
  refine t_seq ?_
  refine t_seq ?_
  refine b0 ?_
  refine o1 rfl (det_assign rfl) rfl rfl trivial ?_
  refine be rfl ?_
  refine k_then ?_
  refine t_block ?_
  refine t_whileM (σ := Nat × (Option Addr × Nat) × Own) (fun s => [(4, .int .i64 (2 * (s.1 : Int)))]) (fun s => (p3, .cells [.slice s.2.1.1 s.1 s.2.1.2, .int .i64 (sumL (es.take s.1))].toArray 30 (0, 0)) :: (p2, .cells [.slice none 0 0, .int .i64 0].toArray 30 (0, 0)) :: s.2.2) (fun s => es.length - s.1) (fun s => s.1 ≤ es.length ∧ SlO 100 2 (.slice s.2.1.1 s.1 s.2.1.2) s.1 (cellsE (es.take s.1)) s.2.2) (0, (none, 0), []) (env0 := [(0, _), (2, _), (3, _)]) ⟨Nat.zero_le _, SlO.nil _ _⟩ ⟨rfl, trivial⟩ ⟨rfl, rfl, rfl, trivial⟩ (.refl _) ?_
  rintro s ⟨hk, hS⟩
  have hsb := sumL_abs hbd s.1 hk
  refine t_seq ?_
  refine t_seq ?_
  refine b0 ?_
  refine o1 rfl (det_move rfl) rfl rfl trivial ?_
  first | (refine o1 rfl (det_addI rfl rfl ?_) rfl rfl trivial ?_; (· omega)) | refine o1 rfl (det_add rfl rfl) rfl rfl trivial ?_
  refine o1 rfl (det_move rfl) rfl rfl trivial ?_
  refine o1 rfl (det_lenS sl105 rfl) rfl rfl trivial ?_
  refine o1 rfl (det_lss rfl rfl) rfl rfl trivial ?_
  refine be rfl ?_
  refine k_then ?_
  refine t_condP decide_eq_true_iff rfl (fun hb => ?_) (fun hb => ?_)
  ·
    have hlt : s.1 < es.length := by omega
    have hbl := hbd s.1 hlt
    obtain ⟨A, rfl⟩ := hE.some hlt
    have hc0 : F (A.add ((2 * (s.1 : Int)).toNat * 1)) = some (.int .i64 es[s.1].1) := by
      obtain ⟨a, ha, h1, _⟩ := hE.at_ s.1 es[s.1] (List.getElem?_eq_getElem hlt)
      cases ha; rw [show (2 * (s.1 : Int)).toNat * 1 = s.1 * 2 by omega]; exact h1
    have hc1 : F (A.add ((2 * (s.1 : Int) + 1).toNat * 1)) = some (.int .i64 es[s.1].2) := by
      obtain ⟨a, ha, _, h1⟩ := hE.at_ s.1 es[s.1] (List.getElem?_eq_getElem hlt)
      cases ha; rw [show (2 * (s.1 : Int) + 1).toNat * 1 = s.1 * 2 + 1 by omega]; exact h1
    refine t_skip ?_
    refine k_then ?_
    refine t_seq ?_
    refine t_block ?_
    refine t_seq ?_
    refine bD mixed ?_
    refine r_seg 16 13 [12] [0, 1, 2, 3, 4, 5, 6, 7, 8, 9, 10, 11, 12] (by kernel_rfl) ?_
    refine s1 rfl (det_fieldAddr fld30_0 rfl) rfl rfl trivial rfl ?_
    refine s1 rfl (det_load1 t1_28 rfl rfl (.head _) rfl) rfl rfl trivial rfl ?_
    refine s1 rfl (det_move rfl) rfl rfl trivial rfl ?_
    refine s1 rfl (det_move rfl) rfl rfl trivial rfl ?_
    first | (refine s1 rfl (det_indexAddr sl105 rfl rfl ?_) rfl rfl trivial rfl ?_; (· (first | decide | omega)))
    refine s1 rfl (det_loadK t1_3 rfl hc0) rfl rfl trivial rfl ?_
    refine s1 rfl (det_move rfl) rfl rfl trivial rfl ?_
    refine s1 rfl (det_move rfl) rfl rfl trivial rfl ?_
    first | (refine s1 rfl (det_addI rfl rfl ?_) rfl rfl trivial rfl ?_; (· omega)) | refine s1 rfl (det_add rfl rfl) rfl rfl trivial rfl ?_
    first | (refine s1 rfl (det_indexAddr sl105 rfl rfl ?_) rfl rfl trivial rfl ?_; (· (first | decide | omega)))
    refine s1 rfl (det_loadK t1_3 rfl hc1) rfl rfl trivial rfl ?_
    refine s1 rfl (det_build rfl (fun w => bld100_0_1 _ _ w)) rfl rfl trivial rfl ?_
    refine sm1 rfl (new_buildSlice rfl (fun w => bsl28_1_0 _ _ w)) rfl rfl trivial rfl (fun p24 => ?_)
    refine sg_nil ?_
    refine oAppS (pre := [_, _, _]) (b := s.2.2) (m := 1) (news := [.int .i64 es[s.1].1, .int .i64 es[s.1].2]) (fun _ => by kernel_rfl) rfl ap28 rfl rfl rfl trivial hS rfl (fun w1 hs j u hj => hs.cellO (.head _) hj) (by simp [Value.oneCell']) (by omega) (by simp only [maxLen]; omega) (fun A1 cp1 b1 hS1 => ?_)
    rw [← cellsE_succ _ _ hlt] at hS1
    refine r_seg 16 15 [] [14] (by kernel_rfl) ?_
    refine s1 rfl (det_fieldAddr fld30_0 rfl) rfl rfl trivial rfl ?_
    refine sg_nil ?_
    refine st1 (fun _ => by kernel_rfl) rfl t1_28 rfl rfl rfl (.tail .head) rfl trivial rfl ?_
    refine be rfl ?_
    refine k_then ?_
    refine bD mixed ?_
    refine r_seg 10 9 [] [0, 1, 2, 3, 4, 5, 6, 7, 8] (by kernel_rfl) ?_
    refine s1 rfl (det_fieldAddr fld30_1 rfl) rfl rfl trivial rfl ?_
    refine s1 rfl (det_load1 t1_3 rfl rfl (.tail _ (.head _)) rfl) rfl rfl trivial rfl ?_
    refine s1 rfl (det_move rfl) rfl rfl trivial rfl ?_
    refine s1 rfl (det_move rfl) rfl rfl trivial rfl ?_
    first | (refine s1 rfl (det_addI rfl rfl ?_) rfl rfl trivial rfl ?_; (· omega)) | refine s1 rfl (det_add rfl rfl) rfl rfl trivial rfl ?_
    first | (refine s1 rfl (det_indexAddr sl105 rfl rfl ?_) rfl rfl trivial rfl ?_; (· (first | decide | omega)))
    refine s1 rfl (det_loadK t1_3 rfl hc1) rfl rfl trivial rfl ?_
    first | (refine s1 rfl (det_addI rfl rfl ?_) rfl rfl trivial rfl ?_; (· omega)) | refine s1 rfl (det_add rfl rfl) rfl rfl trivial rfl ?_
    refine s1 rfl (det_fieldAddr fld30_1 rfl) rfl rfl trivial rfl ?_
    refine sg_nil ?_
    refine st1 (fun _ => by kernel_rfl) rfl t1_3 rfl rfl rfl (.tail .head) rfl trivial rfl ?_
    refine be rfl ?_
    refine k_blk ?_
    refine k_then ?_
    refine b0 ?_
    refine o1 rfl (det_move rfl) rfl rfl trivial ?_
    first | (refine o1 rfl (det_addI rfl rfl ?_) rfl rfl trivial ?_; (· omega)) | refine o1 rfl (det_add rfl rfl) rfl rfl trivial ?_
    refine o1 rfl (det_assign rfl) rfl rfl trivial ?_
    refine be rfl ?_
    refine k_then ?_
    rw [← sumL_take_succ _ _ hlt]
    refine loop_back (s.1 + 1, (A1, cp1), b1) ⟨by simp only; omega, hS1⟩ (by simp only; omega) ⟨(by simp only [Int.natCast_add, Int.mul_add]; rfl), rfl, rfl, rfl, trivial⟩ (.cons _ (.refl _))
  ·
    have hke : s.1 = es.length := by omega
    rw [hke, List.take_length] at hS ⊢
    clear hb
    refine t_exit ?_
    refine k_thenE ?_
    refine k_thenE ?_
    refine k_blkE ?_
    refine k_then ?_
    refine t_seq ?_
    refine b0 ?_
    refine o1 rfl (det_loadN tN30 rfl rfl (.head _) rfl) rfl rfl trivial ?_
    refine stN nofun rfl tN30 rfl rfl rfl (.tail .head) rfl trivial rfl rfl ?_
    refine be rfl ?_
    refine k_then ?_
    refine t_ret ?_
    refine ret_any (vs := [_]) rfl rfl ⟨(.cellN tN30 rfl rfl (.tail _ (.head _)) rfl), trivial⟩ rfl (fun w1 hs => ?_)
    refine end_fresh hs fun F1 h1 h2 h3 => ?_
    obtain ⟨A1, cap1, hv, hcp, hE1⟩ := entK_of hS hE.rng (F' := F1) fun p cs t fr k hm => h3 p cs t fr k (List.mem_cons_of_mem _ (List.mem_cons_of_mem _ hm))
    cases hv
    exact ⟨_, _, rfl, hcp, hE1⟩

end Go.Proofs.Sw
