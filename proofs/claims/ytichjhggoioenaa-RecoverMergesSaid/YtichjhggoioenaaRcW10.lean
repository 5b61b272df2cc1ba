/-
  Walks through layer 40 and its reference.
-/
import Derived.Test.YtichjhggoioenaaRcW9
namespace Go.Proofs.Rc
open Go Go.Eng Go.Rc
set_option maxRecDepth 4000

/-- after. -/
theorem lafter_ok {w : World} {F : Know} (hF : ∀ a v, F a = some v → w.cell? a = some v) {A : Option Addr} {n c : Nat} {l : List Int} (hP : RowsK iv 1 F A n l) (hnb : n ≤ 1000) {r : Rc} (hok : okR r = true) (h0 : r.at_ = 0) (hl : ∀ x ∈ l, 0 ≤ x ∧ x ≤ 65535) : CallsF Try.prog 21 [.agg (rcv r).toArray, .slice A n c] w noK (fun v F2 => ∃ A1 n1 c1, v = .tuple [.agg (rcv (stK r l l.length).1).toArray, .slice A1 n1 c1].toArray ∧ RowsK bv 1 F2 A1 n1 (stK r l l.length).2) := by
  refine fn_fresh (F := F) Try.func21 rfl Try.ntmps21 rfl hF ?_
  refine t_seq ?_
  refine b0 ?_
  refine om1 rfl (new_boxN rfl) rfl rfl trivial (fun p2 => ?_)
  refine om1 rfl (new_alloc z24) rfl rfl trivial (fun p4 => ?_)
  refine o1 rfl (det_assign rfl) rfl rfl trivial ?_
  refine be rfl ?_
  refine k_then ?_
  refine t_seq ?_
  refine b0 ?_
  refine o1 rfl (det_assign rfl) rfl rfl trivial ?_
  refine be rfl ?_
  refine k_then ?_
  refine t_seq ?_
  refine t_seq ?_
  refine b0 ?_
  refine o1 rfl (det_move rfl) rfl rfl trivial ?_
  refine o1 rfl (det_lenS sl32 rfl) rfl rfl trivial ?_
  refine o1 rfl (det_move rfl) rfl rfl trivial ?_
  refine be rfl ?_
  refine k_then ?_
  refine t_block ?_
  refine t_whileM (σ := Nat × GS) (fun s => [(6, .slice s.2.A s.1 s.2.c), (14, .int .i64 s.1)]) (fun s => [(p4, .cells (rcv zR).toArray 24 (0, 0)), (p2, .cells (rcv (stK r l s.1).1).toArray 24 (0, 0))] ++ s.2.b) (fun s => l.length - s.1) (fun s => s.1 ≤ l.length ∧ SlO 4 1 (.slice s.2.A s.1 s.2.c) s.1 (rowsV bv (stK r l s.1).2) s.2.b) (0, ⟨none, 0, 0, []⟩) (env0 := [(2, _), (4, _), (12, _), (13, _)]) ⟨Nat.zero_le _, SlO.nil 4 1⟩ ⟨rfl, rfl, trivial⟩ ⟨rfl, rfl, rfl, rfl, trivial⟩ (.refl _) ?_
  rintro s ⟨hsl, hS⟩
  have hnl := hP.len
  refine t_seq ?_
  refine b0 ?_
  refine o1 rfl (det_lss rfl rfl) rfl rfl trivial ?_
  refine be rfl ?_
  refine k_then ?_
  refine t_seq ?_
  refine t_condP decide_eq_true_iff rfl (fun hb => ?_) (fun hb => ?_)
  ·
    have hlt : s.1 < l.length := by omega
    obtain ⟨A, rfl⟩ := hP.some hlt
    obtain ⟨g1, g2, g3⟩ := stK_ok hok h0 hl s.1 (by omega)
    have hx := hl (l.getD s.1 0) (by rw [getD_at hlt]; exact List.getElem_mem _)
    refine t_skip ?_
    refine k_then ?_
    refine t_seq ?_
    refine t_block ?_
    refine t_seq ?_
    refine b0 ?_
    first | (refine o1 rfl (det_indexAddr sl32 rfl rfl ?_) rfl rfl trivial ?_; (· (first | decide | omega)))
    refine o1 rfl (det_loadK t1_3 rfl (hP.cell1 (i := (s.1 : Int)) (k := s.1) (u := .int .i64 (l.getD s.1 0)) (Int.toNat_natCast s.1) hlt (by rw [getD_at hlt]; rfl))) rfl rfl trivial ?_
    refine o1 rfl (det_assign rfl) rfl rfl trivial ?_
    refine be rfl ?_
    refine k_then ?_
    refine t_seq ?_
    refine b0 ?_
    refine o1 rfl (det_loadN tN24 rfl rfl (.tail _ (.head _)) rfl) rfl rfl trivial ?_
    refine o1 rfl (det_move rfl) rfl rfl trivial ?_
    refine o1 rfl (det_call hb18 rfl rfl (fun w1 hs => accept_ok hs.know (okR_se g1) (r2 := (accR (stK r l s.1).1 (l.getD s.1 0) 0).1) (b := (accR (stK r l s.1).1 (l.getD s.1 0) 0).2) (acc_run g1 g2 hx))) rfl rfl trivial ?_
    refine o1 rfl (det_move rfl) rfl rfl trivial ?_
    refine o1 rfl (det_extract rfl rfl) rfl rfl trivial ?_
    refine o1 rfl (det_extract rfl rfl) rfl rfl trivial ?_
    refine o1 rfl (det_extract rfl rfl) rfl rfl trivial ?_
    refine om1 rfl (new_alloc z24) rfl rfl trivial (fun p9 => ?_)
    refine stN nofun rfl tN24 rfl rfl rfl .head rfl trivial rfl rfl ?_
    refine o1 rfl (det_assign rfl) rfl rfl trivial ?_
    refine o1 rfl (det_assign rfl) rfl rfl trivial ?_
    refine be rfl ?_
    refine k_then ?_
    refine t_seq ?_
    refine t_seq ?_
    refine b0 ?_
    refine o1 rfl (det_move rfl) rfl rfl trivial ?_
    refine o1 rfl (det_neq rfl rfl) rfl rfl trivial ?_
    refine be rfl ?_
    refine k_then ?_
    refine t_condP bne_iff_ne rfl (fun hb => ?_) (fun hb => ?_)
    · exfalso; exact hb rfl
    refine t_skip ?_
    refine k_then ?_
    refine bD mixed ?_
    refine r_bar 7 4 [3] [0, 1, 2, 3] _ (by kernel_rfl) (List.sublist_append_left [_, _, _] _) ?_
    refine s1 rfl (det_loadN tN24 rfl rfl (.head _) rfl) rfl rfl trivial rfl ?_
    refine s1 rfl (det_move rfl) rfl rfl trivial rfl ?_
    refine s1 rfl (det_move rfl) rfl rfl trivial rfl ?_
    refine sm1 rfl (new_buildSlice rfl (fun w => bsl65_1_0 _ w)) rfl rfl trivial rfl (fun p31 => ?_)
    refine sg_nil ⟨?_, ?_⟩
    rotate_left
    ·
      exact bar_app (pre := [_, _, _, _]) (b := _) (m := 1) (news := bv (accR (stK r l s.1).1 (l.getD s.1 0) 0).2) rfl ap65 rfl rfl trivial hS rfl (fun w hs j u hj => hs.cellO (.head _) hj) (bv_one _) (by omega) (by simp only [maxLen]; omega) (fun i hi => by have hi2 := hi; simp only [idsO, List.map_cons, List.map_append, List.mem_cons, List.mem_append] at hi2 ⊢; simp only [hi2, or_true]) (.refl _)
    refine oAppS (pre := [_, _, _, _]) (b := _) (m := 1) (news := bv (accR (stK r l s.1).1 (l.getD s.1 0) 0).2) (fun _ => by kernel_rfl) rfl ap65 rfl rfl rfl trivial hS rfl (fun w hs j u hj => hs.cellO (.head _) hj) (bv_one _) (by omega) (by simp only [maxLen]; omega) (fun A9 c9 b9 hS9 => ?_)
    rw [← rowsB1] at hS9
    refine stN (fun _ => by kernel_rfl) rfl tN24 rfl rfl rfl (.tail (.tail (.tail .head))) rfl trivial rfl rfl ?_
    refine r_seg 7 7 [] [6] (by kernel_rfl) ?_
    refine s1 rfl (det_assign rfl) rfl rfl trivial rfl ?_
    refine sg_nil ?_
    refine be rfl ?_
    refine k_blk ?_
    refine k_then ?_
    refine b0 ?_
    first | (refine o1 rfl (det_addI rfl rfl ?_) rfl rfl trivial ?_; (· omega)) | refine o1 rfl (det_add rfl rfl) rfl rfl trivial ?_
    refine o1 rfl (det_move rfl) rfl rfl trivial ?_
    refine be rfl ?_
    refine k_then ?_
    refine loop_back (s.1 + 1, ⟨A9, 0, c9, b9⟩) ⟨by show s.1 + 1 ≤ _; omega, hS9⟩ (by simp only; omega) ⟨rfl, rfl, rfl, rfl, rfl, rfl, trivial⟩ (.cons _ (.cons _ (.refl _)))
  ·
    have hse : s.1 = l.length := by omega
    rw [hse] at hS
    refine t_exit ?_
    refine k_thenE ?_
    refine k_thenE ?_
    refine k_blkE ?_
    refine k_then ?_
    refine t_seq ?_
    refine b0 ?_
    refine o1 rfl (det_loadN tN24 rfl rfl (.tail _ (.head _)) rfl) rfl rfl trivial ?_
    refine o1 rfl (det_move rfl) rfl rfl trivial ?_
    refine stN nofun rfl tN24 rfl rfl rfl .head rfl trivial rfl rfl ?_
    refine o1 rfl (det_assign rfl) rfl rfl trivial ?_
    refine be rfl ?_
    refine k_then ?_
    refine t_ret ?_
    refine ret_any (vs := [_, _]) rfl rfl ⟨(.cellN tN24 rfl rfl (.head _) rfl), (.tmp rfl), trivial⟩ rfl (fun w1 hs => ?_)
    exact end_fresh hs fun F2 h1 _ h3 => by
      obtain ⟨g1, g2, g3⟩ := SlO.bk hS (fun p cs t fr k hm => h3 p cs t fr k (.tail _ (.tail _ hm))) rfl
      exact ⟨_, _, _, by rw [hse]; rfl, g3⟩

end Go.Proofs.Rc
