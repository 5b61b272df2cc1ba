/-
  Walks through layers 36, 37 and 38 and their references.
-/
import Derived.Test.YtffocfffggfenaaCpW2
import Derived.Test.YtffocfffggfenaaGtPlain2ToChPlain
namespace Go.Proofs.Cp
open Go Go.Eng Go.Gt Go.Proofs.Gt
set_option maxRecDepth 4000

/-- At. -/
theorem at_ok {w : World} {F : Know} (hF : ∀ a v, F a = some v → w.cell? a = some v) {A : Option Addr} {n cap : Nat} {es : Ents} {cyc : Int} (hE : EntK F A n es) (hG : okG es cyc = true) (t : Int) : Pure Try.prog 113 [.agg [.slice A n cap, .int .i64 cyc].toArray, .int .i64 t] w (.tuple [.int .i64 ((loc es cyc t).1 : Int), .int .i64 (loc es cyc t).2].toArray) := by
  obtain ⟨hl1, hl2, hall0, hsum, hc9, hc1⟩ := okG_parts hG
  replace hc1 : 0 < cyc := by omega
  refine fn_pure (F := F) Try.func113 rfl Try.ntmps113 rfl hF ?_
  refine t_seq ?_
  refine b0 ?_
  refine om1 rfl (new_boxN rfl) rfl rfl trivial (fun p2 => ?_)
  refine o1 rfl (det_assign rfl) rfl rfl trivial ?_
  refine o1 rfl (det_assign rfl) rfl rfl trivial ?_
  refine be rfl ?_
  refine k_then ?_
  refine t_seq ?_
  refine b0 ?_
  refine o1 rfl (det_move rfl) rfl rfl trivial ?_
  refine o1 rfl (det_fieldAddr fld24_1 rfl) rfl rfl trivial ?_
  refine o1 rfl (det_load1 t1_3 rfl rfl (.head _) rfl) rfl rfl trivial ?_
  have htb := tmod_bounds t hc1
  have htc := tmod_cases t hc1
  have hq1 := Int.emod_nonneg t (show cyc ≠ 0 by omega)
  have hq2 := Int.emod_lt_of_pos t hc1
  first | (refine o1 rfl (det_remP rfl rfl ?_) rfl rfl trivial ?_; (· omega)) | (refine o1 rfl (det_rem rfl rfl ?_) rfl rfl trivial ?_; (· (first | decide | omega)))
  refine o1 rfl (det_assign rfl) rfl rfl trivial ?_
  refine be rfl ?_
  refine k_then ?_
  refine t_seq ?_
  refine t_seq ?_
  refine b0 ?_
  refine o1 rfl (det_move rfl) rfl rfl trivial ?_
  refine o1 rfl (det_lss rfl rfl) rfl rfl trivial ?_
  refine be rfl ?_
  refine k_then ?_
  refine t_condP decide_eq_true_iff rfl (fun hb => ?_) (fun hb => ?_)
  ·
    refine b0 ?_
    refine o1 rfl (det_move rfl) rfl rfl trivial ?_
    refine o1 rfl (det_fieldAddr fld24_1 rfl) rfl rfl trivial ?_
    refine o1 rfl (det_load1 t1_3 rfl rfl (.head _) rfl) rfl rfl trivial ?_
    first | (refine o1 rfl (det_addI rfl rfl ?_) rfl rfl trivial ?_; (· omega)) | refine o1 rfl (det_add rfl rfl) rfl rfl trivial ?_
    refine o1 rfl (det_assign rfl) rfl rfl trivial ?_
    refine be rfl ?_
    refine k_then ?_
    refine t_seq ?_
    refine b0 ?_
    refine o1 rfl (det_assign rfl) rfl rfl trivial ?_
    refine be rfl ?_
    refine k_then ?_
    refine t_seq ?_
    refine t_block ?_
    refine t_whileM (σ := Nat) (fun s => [(6, .int .i64 (t % cyc - sumL (es.take s))), (7, .int .i64 (s : Int))]) (fun _ => _) (fun s => es.length - s) (fun s => s ≤ es.length ∧ 0 ≤ t % cyc - sumL (es.take s) ∧ ∀ j (h : j < es.length), j < s → es[j].2 ≤ t % cyc - sumL (es.take j)) 0 (env0 := [(2, _), (4, _), (5, _)]) ⟨Nat.zero_le _, by rw [sumL_zero]; exact Int.sub_nonneg.2 hq1, fun j _ hj => absurd hj (Nat.not_lt_zero _)⟩ ⟨(by rw [sumL_zero, Int.sub_zero, ← htc.1 hb]; rfl), rfl, trivial⟩ ⟨rfl, rfl, rfl, trivial⟩ (.refl _) ?_
    rintro s ⟨hk, h0, hall⟩
    have hlt : s < es.length := locate_more (x := t % cyc) (by rw [hsum]; exact hq2) hk h0
    obtain ⟨A, rfl⟩ := hE.some hlt
    have hnl := hE.len
    obtain ⟨_, _, he1, he2⟩ := okE_get hall0 hlt
    have hst := sumL_take_le hall0 s
    refine t_seq ?_
    refine t_seq ?_
    refine b0 ?_
    refine o1 rfl (det_move rfl) rfl rfl trivial ?_
    refine o1 rfl (det_fieldAddr fld24_0 rfl) rfl rfl trivial ?_
    refine o1 rfl (det_load1 t1_22 rfl rfl (.head _) rfl) rfl rfl trivial ?_
    refine o1 rfl (det_move rfl) rfl rfl trivial ?_
    first | (refine o1 rfl (det_indexAddr sl22 rfl rfl ?_) rfl rfl trivial ?_; (· (first | decide | omega)))
    refine o1 rfl (det_fieldAddr fld59_1 rfl) rfl rfl trivial ?_
    refine o1 rfl (det_loadK t1_3 rfl (by have := hE.cells hlt 1 (by omega); rw [add_add] at this ⊢; simpa using this)) rfl rfl trivial ?_
    refine o1 rfl (det_geq rfl rfl) rfl rfl trivial ?_
    refine be rfl ?_
    refine k_then ?_
    refine t_condP decide_eq_true_iff rfl (fun hb => ?_) (fun hb => ?_)
    ·
      refine t_skip ?_
      refine k_then ?_
      refine t_block ?_
      refine t_seq ?_
      refine b0 ?_
      refine o1 rfl (det_move rfl) rfl rfl trivial ?_
      refine o1 rfl (det_fieldAddr fld24_0 rfl) rfl rfl trivial ?_
      refine o1 rfl (det_load1 t1_22 rfl rfl (.head _) rfl) rfl rfl trivial ?_
      refine o1 rfl (det_move rfl) rfl rfl trivial ?_
      first | (refine o1 rfl (det_indexAddr sl22 rfl rfl ?_) rfl rfl trivial ?_; (· (first | decide | omega)))
      refine o1 rfl (det_fieldAddr fld59_1 rfl) rfl rfl trivial ?_
      refine o1 rfl (det_loadK t1_3 rfl (by have := hE.cells hlt 1 (by omega); rw [add_add] at this ⊢; simpa using this)) rfl rfl trivial ?_
      first | (refine o1 rfl (det_subI rfl rfl ?_) rfl rfl trivial ?_; (· omega)) | refine o1 rfl (det_sub rfl rfl) rfl rfl trivial ?_
      refine o1 rfl (det_assign rfl) rfl rfl trivial ?_
      refine be rfl ?_
      refine k_then ?_
      refine b0 ?_
      refine o1 rfl (det_move rfl) rfl rfl trivial ?_
      first | (refine o1 rfl (det_addI rfl rfl ?_) rfl rfl trivial ?_; (· omega)) | refine o1 rfl (det_add rfl rfl) rfl rfl trivial ?_
      refine o1 rfl (det_assign rfl) rfl rfl trivial ?_
      refine be rfl ?_
      refine k_blk ?_
      refine k_then ?_
      refine loop_back (s + 1) ⟨by omega, by rw [sumL_take_succ _ _ hlt]; omega, locate_step hlt hb hall⟩ (by omega) ⟨(by rw [sumL_take_succ _ _ hlt, ← Int.sub_sub]; rfl), rfl, rfl, rfl, rfl, trivial⟩ (.refl _)
    ·
      refine t_exit ?_
      refine k_thenE ?_
      refine k_thenE ?_
      refine k_blkE ?_
      refine k_then ?_
      refine t_seq ?_
      refine b0 ?_
      refine o1 rfl (det_move rfl) rfl rfl trivial ?_
      refine o1 rfl (det_move rfl) rfl rfl trivial ?_
      refine o1 rfl (det_assign rfl) rfl rfl trivial ?_
      refine o1 rfl (det_assign rfl) rfl rfl trivial ?_
      refine be rfl ?_
      refine k_then ?_
      refine t_ret ?_
      refine ret_tmp2 rfl rfl rfl rfl (fun w1 hs => ?_)
      refine ⟨?_, hs.keep⟩
      rw [loc, locate_of hlt hall (by omega)]
  ·
    refine t_skip ?_
    refine k_then ?_
    refine t_seq ?_
    refine b0 ?_
    refine o1 rfl (det_assign rfl) rfl rfl trivial ?_
    refine be rfl ?_
    refine k_then ?_
    refine t_seq ?_
    refine t_block ?_
    refine t_whileM (σ := Nat) (fun s => [(6, .int .i64 (t % cyc - sumL (es.take s))), (7, .int .i64 (s : Int))]) (fun _ => _) (fun s => es.length - s) (fun s => s ≤ es.length ∧ 0 ≤ t % cyc - sumL (es.take s) ∧ ∀ j (h : j < es.length), j < s → es[j].2 ≤ t % cyc - sumL (es.take j)) 0 (env0 := [(2, _), (4, _), (5, _)]) ⟨Nat.zero_le _, by rw [sumL_zero]; exact Int.sub_nonneg.2 hq1, fun j _ hj => absurd hj (Nat.not_lt_zero _)⟩ ⟨(by rw [sumL_zero, Int.sub_zero, ← htc.2 (by omega)]; rfl), rfl, trivial⟩ ⟨rfl, rfl, rfl, trivial⟩ (.refl _) ?_
    rintro s ⟨hk, h0, hall⟩
    have hlt : s < es.length := locate_more (x := t % cyc) (by rw [hsum]; exact hq2) hk h0
    obtain ⟨A, rfl⟩ := hE.some hlt
    have hnl := hE.len
    obtain ⟨_, _, he1, he2⟩ := okE_get hall0 hlt
    have hst := sumL_take_le hall0 s
    refine t_seq ?_
    refine t_seq ?_
    refine b0 ?_
    refine o1 rfl (det_move rfl) rfl rfl trivial ?_
    refine o1 rfl (det_fieldAddr fld24_0 rfl) rfl rfl trivial ?_
    refine o1 rfl (det_load1 t1_22 rfl rfl (.head _) rfl) rfl rfl trivial ?_
    refine o1 rfl (det_move rfl) rfl rfl trivial ?_
    first | (refine o1 rfl (det_indexAddr sl22 rfl rfl ?_) rfl rfl trivial ?_; (· (first | decide | omega)))
    refine o1 rfl (det_fieldAddr fld59_1 rfl) rfl rfl trivial ?_
    refine o1 rfl (det_loadK t1_3 rfl (by have := hE.cells hlt 1 (by omega); rw [add_add] at this ⊢; simpa using this)) rfl rfl trivial ?_
    refine o1 rfl (det_geq rfl rfl) rfl rfl trivial ?_
    refine be rfl ?_
    refine k_then ?_
    refine t_condP decide_eq_true_iff rfl (fun hb => ?_) (fun hb => ?_)
    ·
      refine t_skip ?_
      refine k_then ?_
      refine t_block ?_
      refine t_seq ?_
      refine b0 ?_
      refine o1 rfl (det_move rfl) rfl rfl trivial ?_
      refine o1 rfl (det_fieldAddr fld24_0 rfl) rfl rfl trivial ?_
      refine o1 rfl (det_load1 t1_22 rfl rfl (.head _) rfl) rfl rfl trivial ?_
      refine o1 rfl (det_move rfl) rfl rfl trivial ?_
      first | (refine o1 rfl (det_indexAddr sl22 rfl rfl ?_) rfl rfl trivial ?_; (· (first | decide | omega)))
      refine o1 rfl (det_fieldAddr fld59_1 rfl) rfl rfl trivial ?_
      refine o1 rfl (det_loadK t1_3 rfl (by have := hE.cells hlt 1 (by omega); rw [add_add] at this ⊢; simpa using this)) rfl rfl trivial ?_
      first | (refine o1 rfl (det_subI rfl rfl ?_) rfl rfl trivial ?_; (· omega)) | refine o1 rfl (det_sub rfl rfl) rfl rfl trivial ?_
      refine o1 rfl (det_assign rfl) rfl rfl trivial ?_
      refine be rfl ?_
      refine k_then ?_
      refine b0 ?_
      refine o1 rfl (det_move rfl) rfl rfl trivial ?_
      first | (refine o1 rfl (det_addI rfl rfl ?_) rfl rfl trivial ?_; (· omega)) | refine o1 rfl (det_add rfl rfl) rfl rfl trivial ?_
      refine o1 rfl (det_assign rfl) rfl rfl trivial ?_
      refine be rfl ?_
      refine k_blk ?_
      refine k_then ?_
      refine loop_back (s + 1) ⟨by omega, by rw [sumL_take_succ _ _ hlt]; omega, locate_step hlt hb hall⟩ (by omega) ⟨(by rw [sumL_take_succ _ _ hlt, ← Int.sub_sub]; rfl), rfl, rfl, rfl, rfl, trivial⟩ (.refl _)
    ·
      refine t_exit ?_
      refine k_thenE ?_
      refine k_thenE ?_
      refine k_blkE ?_
      refine k_then ?_
      refine t_seq ?_
      refine b0 ?_
      refine o1 rfl (det_move rfl) rfl rfl trivial ?_
      refine o1 rfl (det_move rfl) rfl rfl trivial ?_
      refine o1 rfl (det_assign rfl) rfl rfl trivial ?_
      refine o1 rfl (det_assign rfl) rfl rfl trivial ?_
      refine be rfl ?_
      refine k_then ?_
      refine t_ret ?_
      refine ret_tmp2 rfl rfl rfl rfl (fun w1 hs => ?_)
      refine ⟨?_, hs.keep⟩
      rw [loc, locate_of hlt hall (by omega)]

end Go.Proofs.Cp
