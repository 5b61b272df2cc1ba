/-
  Walks through layer 40 and its reference.
-/
import Derived.Test.YtichjhggoioenaaRcW10
import Derived.Test.YtichjhggoioenaaRcPlain5
namespace Go.Proofs.Rc
open Go Go.Eng Go.Rc
set_option maxRecDepth 4000

/-- Draft.Recover. -/
theorem draft_ok {w : World} {F : Know} (hF : ∀ a v, F a = some v → w.cell? a = some v) {d : Df} (hr : Df.rng d) : Pure Try.prog 10 [.agg (dfv d).toArray] w (.agg (rcv (dfR d)).toArray) := by
  refine fn_pure (F := F) Try.func10 rfl Try.ntmps10 rfl hF ?_
  refine t_seq ?_
  refine b0 ?_
  refine om1 rfl (new_boxN rfl) rfl rfl trivial (fun p1 => ?_)
  refine om1 rfl (new_alloc z24) rfl rfl trivial (fun p2 => ?_)
  refine be rfl ?_
  refine k_then ?_
  refine t_seq ?_
  refine b0 ?_
  obtain ⟨hr1, hr2, hr3, hr4, hr5⟩ := hr
  have hll : lenD d ≤ 64 ∧ 1 ≤ lenD d := by unfold lenD; omega
  refine o1 rfl (det_fieldAddr fld28_0 rfl) rfl rfl trivial ?_
  refine o1 rfl (det_load1 t1_5 rfl rfl (.tail _ (.head _)) rfl) rfl rfl trivial ?_
  first | (refine o1 rfl (det_remP rfl rfl ?_) rfl rfl trivial ?_; (· omega)) | (refine o1 rfl (det_rem rfl rfl ?_) rfl rfl trivial ?_; (· (first | decide | omega)))
  first | (refine o1 rfl (det_convW Try.underlying5 Try.underlying3 rfl ?_) rfl rfl trivial ?_; (· exact IntWalk.i64_in _ (by omega))) | refine o1 rfl (det_conv Try.underlying5 Try.underlying3 rfl) rfl rfl trivial ?_
  first | (refine o1 rfl (det_addI rfl rfl ?_) rfl rfl trivial ?_; (· omega)) | refine o1 rfl (det_add rfl rfl) rfl rfl trivial ?_
  refine o1 rfl (det_fieldAddr fld28_1 rfl) rfl rfl trivial ?_
  refine o1 rfl (det_load1 t1_25 rfl rfl (.tail _ (.head _)) rfl) rfl rfl trivial ?_
  first | (refine o1 rfl (det_convW Try.underlying25 Try.underlying3 rfl ?_) rfl rfl trivial ?_; (· exact IntWalk.i64_in _ (by omega))) | refine o1 rfl (det_conv Try.underlying25 Try.underlying3 rfl) rfl rfl trivial ?_
  first | (refine o1 rfl (det_addI rfl rfl ?_) rfl rfl trivial ?_; (· omega)) | refine o1 rfl (det_add rfl rfl) rfl rfl trivial ?_
  refine o1 rfl (det_fieldAddr fld28_2 rfl) rfl rfl trivial ?_
  refine o1 rfl (det_load1 t1_4 rfl rfl (.tail _ (.head _)) rfl) rfl rfl trivial ?_
  refine o1 rfl (det_build rfl (fun w => bld24_0_1_2 _ _ _ w)) rfl rfl trivial ?_
  refine om1 rfl (new_alloc z24) rfl rfl trivial (fun p3 => ?_)
  refine stN nofun rfl tN24 rfl rfl rfl .head rfl trivial rfl rfl ?_
  refine be rfl ?_
  refine k_then ?_
  refine t_seq ?_
  refine t_seq ?_
  refine b0 ?_
  refine o1 rfl (det_fieldAddr fld28_2 rfl) rfl rfl trivial ?_
  refine o1 rfl (det_load1 t1_4 rfl rfl (.tail _ (.tail _ (.head _))) rfl) rfl rfl trivial ?_
  refine be rfl ?_
  refine k_then ?_
  refine t_condP Iff.rfl rfl (fun hb => ?_) (fun hb => ?_)
  ·
    have han : d.an = true := hb
    refine t_seq ?_
    refine b0 ?_
    refine o1 rfl (det_loadN tN24 rfl rfl (.head _) rfl) rfl rfl trivial ?_
    refine stN nofun rfl tN24 rfl rfl rfl (.tail .head) rfl trivial rfl rfl ?_
    refine be rfl ?_
    refine k_then ?_
    refine t_ret (k_thenR (?_))
    refine ret_any (vs := [_]) rfl rfl ⟨(.cellN tN24 rfl rfl (.tail _ (.head _)) rfl), trivial⟩ rfl (fun w1 hs => ?_)
    exact ⟨by unfold dfR; rw [if_pos han, han]; rfl, hs.keep⟩
  ·
    have han : d.an = false := by simpa using hb
    refine t_skip ?_
    refine k_then ?_
    refine t_seq ?_
    refine b0 ?_
    refine o1 rfl (det_fieldAddr fld28_3 rfl) rfl rfl trivial ?_
    refine o1 rfl (det_load1 t1_26 rfl rfl (.tail _ (.tail _ (.head _))) rfl) rfl rfl trivial ?_
    first | (refine o1 rfl (det_convW Try.underlying26 Try.underlying3 rfl ?_) rfl rfl trivial ?_; (· exact IntWalk.i64_in _ (by omega))) | refine o1 rfl (det_conv Try.underlying26 Try.underlying3 rfl) rfl rfl trivial ?_
    refine o1 rfl (det_fieldAddr fld24_3 rfl) rfl rfl trivial ?_
    refine st1 nofun rfl t1_3 rfl rfl rfl .head rfl trivial rfl ?_
    refine be rfl ?_
    refine k_then ?_
    refine t_seq ?_
    refine b0 ?_
    refine o1 rfl (det_fieldAddr fld28_4 rfl) rfl rfl trivial ?_
    refine o1 rfl (det_load1 t1_25 rfl rfl (.tail _ (.tail _ (.head _))) rfl) rfl rfl trivial ?_
    first | (refine o1 rfl (det_convW Try.underlying25 Try.underlying3 rfl ?_) rfl rfl trivial ?_; (· exact IntWalk.i64_in _ (by omega))) | refine o1 rfl (det_conv Try.underlying25 Try.underlying3 rfl) rfl rfl trivial ?_
    refine o1 rfl (det_fieldAddr fld24_4 rfl) rfl rfl trivial ?_
    refine st1 nofun rfl t1_3 rfl rfl rfl .head rfl trivial rfl ?_
    refine be rfl ?_
    refine k_then ?_
    refine t_seq ?_
    refine t_seq ?_
    refine b0 ?_
    refine o1 rfl (det_fieldAddr fld24_0 rfl) rfl rfl trivial ?_
    refine o1 rfl (det_load1 t1_3 rfl rfl (.head _) rfl) rfl rfl trivial ?_
    first | (refine o1 rfl (det_subI rfl rfl ?_) rfl rfl trivial ?_; (· omega)) | refine o1 rfl (det_sub rfl rfl) rfl rfl trivial ?_
    refine o1 rfl (det_assign rfl) rfl rfl trivial ?_
    refine be rfl ?_
    refine k_then ?_
    refine t_block ?_
    refine t_whileM (σ := Nat) (fun s => [(4, .int .i64 (1 + d.ln % 64 - 1 - (s : Int)))]) (fun s => [(p3, .cells (rcv (stD d s)).toArray 24 (0, 0)), (p2, .cells (rcv zR).toArray 24 (0, 0)), (p1, .cells (dfv d).toArray 28 (0, 0))]) (fun s => lenD d - s) (fun s => s ≤ lenD d) 0 (env0 := [(1, _), (2, _), (3, _)]) (Nat.zero_le _) ⟨(by show _ = some (Value.int IntKind.i64 (1 + d.ln % 64 - 1 - ((0 : Nat) : Int))); rw [show 1 + d.ln % 64 - 1 - ((0 : Nat) : Int) = 1 + d.ln % 64 - 1 by omega]; rfl), trivial⟩ ⟨rfl, rfl, rfl, trivial⟩ (by rw [han]; exact .refl _) ?_
    rintro s hsl
    refine t_seq ?_
    refine t_seq ?_
    refine b0 ?_
    refine o1 rfl (det_move rfl) rfl rfl trivial ?_
    refine o1 rfl (det_geq rfl rfl) rfl rfl trivial ?_
    refine be rfl ?_
    refine k_then ?_
    refine t_condP decide_eq_true_iff rfl (fun hb => ?_) (fun hb => ?_)
    ·
      obtain ⟨i, hi⟩ : ∃ i : Nat, 1 + d.ln % 64 - 1 - (s : Int) = i := ⟨(1 + d.ln % 64 - 1 - (s : Int)).toNat, by omega⟩
      rw [hi]
      have hil : lenD d - 1 - s = i := by unfold lenD at hsl ⊢; omega
      have hpw : 2 ^ s ≤ 2 ^ 63 := Nat.pow_le_pow_right (by decide) (by omega)
      have hsk := seenK_lt d.se (lenD d) s
      have hsk2 : seenK d.se (lenD d) s < 9223372036854775808 := by omega
      refine t_skip ?_
      refine k_then ?_
      refine t_seq ?_
      refine t_block ?_
      refine t_seq ?_
      refine b0 ?_
      refine o1 rfl (det_fieldAddr fld24_5 rfl) rfl rfl trivial ?_
      refine o1 rfl (det_load1 t1_22 rfl rfl (.head _) rfl) rfl rfl trivial ?_
      first | (refine o1 rfl (det_mulI rfl rfl ?_) rfl rfl trivial ?_; (· omega)) | refine o1 rfl (det_mul rfl rfl) rfl rfl trivial ?_
      refine o1 rfl (det_fieldAddr fld24_5 rfl) rfl rfl trivial ?_
      refine st1 nofun rfl t1_22 rfl rfl rfl .head rfl trivial rfl ?_
      refine be rfl ?_
      refine k_then ?_
      refine t_seq ?_
      refine t_merge (env0 := [(1, _), (2, _), (3, _), (4, _)]) ⟨rfl, rfl, rfl, rfl, trivial⟩ 46 (.bool (decide (i = 0 ∨ d.se.testBit i = true))) ?_ (fun hK => ?_)
      ·
        refine k_then ?_
        refine t_condP decide_eq_true_iff rfl (fun hb => ?_) (fun hb => ?_)
        ·
          have hbit : i = 0 ∨ d.se.testBit i = true := by grind
          refine b0 ?_
          refine o1 rfl (det_fieldAddr fld24_5 rfl) rfl rfl trivial ?_
          refine o1 rfl (det_load1 t1_22 rfl rfl (.head _) rfl) rfl rfl trivial ?_
          first | (refine o1 rfl (det_addI rfl rfl ?_) rfl rfl trivial ?_; (· omega)) | refine o1 rfl (det_add rfl rfl) rfl rfl trivial ?_
          refine o1 rfl (det_fieldAddr fld24_5 rfl) rfl rfl trivial ?_
          refine st1 nofun rfl t1_22 rfl rfl rfl .head rfl trivial rfl ?_
          refine be rfl ?_
          refine k_blk ?_
          refine k_then ?_
          refine b0 ?_
          refine o1 rfl (det_move rfl) rfl rfl trivial ?_
          first | (refine o1 rfl (det_subI rfl rfl ?_) rfl rfl trivial ?_; (· omega)) | refine o1 rfl (det_sub rfl rfl) rfl rfl trivial ?_
          refine o1 rfl (det_assign rfl) rfl rfl trivial ?_
          refine be rfl ?_
          refine k_then ?_
          rw [show (i : Int) - 1 = 1 + d.ln % 64 - 1 - ((s + 1 : Nat) : Int) by omega]
          rw [stD_set hsk2 hil hbit]
          refine loop_back (s + 1) (by unfold lenD at hsl ⊢; omega) (by unfold lenD at hsl ⊢; omega) ⟨rfl, rfl, rfl, rfl, trivial⟩ (.refl _)
        ·
          have hbit : ¬ (i = 0 ∨ d.se.testBit i = true) := by grind
          refine t_skip ?_
          refine k_blk ?_
          refine k_then ?_
          refine b0 ?_
          refine o1 rfl (det_move rfl) rfl rfl trivial ?_
          first | (refine o1 rfl (det_subI rfl rfl ?_) rfl rfl trivial ?_; (· omega)) | refine o1 rfl (det_sub rfl rfl) rfl rfl trivial ?_
          refine o1 rfl (det_assign rfl) rfl rfl trivial ?_
          refine be rfl ?_
          refine k_then ?_
          rw [show (i : Int) - 1 = 1 + d.ln % 64 - 1 - ((s + 1 : Nat) : Int) by omega]
          rw [stD_no hsk2 hil hbit]
          refine loop_back (s + 1) (by unfold lenD at hsl ⊢; omega) (by unfold lenD at hsl ⊢; omega) ⟨rfl, rfl, rfl, rfl, trivial⟩ (.refl _)
      ·
        refine b0 ?_
        refine o1 rfl (det_move rfl) rfl rfl trivial ?_
        refine o1 rfl (det_eql rfl rfl) rfl rfl trivial ?_
        refine o2P beq_iff_eq rfl (det_move rfl) rfl rfl trivial (fun hb => ?_) (fun hb => ?_)
        ·
          refine on rfl rfl rfl ⟨_, rfl, .inl rfl⟩ ?_
          refine on rfl rfl rfl ⟨_, rfl, .inl rfl⟩ ?_
          refine on rfl rfl rfl ⟨_, rfl, .inl rfl⟩ ?_
          refine on rfl rfl rfl ⟨_, rfl, .inl rfl⟩ ?_
          refine o1 rfl (det_pickT rfl rfl) rfl rfl trivial ?_
          refine be rfl ?_
          refine tk_drop ?_ (.refl _) hK
          exact ⟨(mb rfl (by grind)), rfl, rfl, rfl, rfl, trivial⟩
        ·
          refine o1 rfl (det_fieldAddr fld28_5 rfl) rfl rfl ⟨_, rfl, rfl⟩ ?_
          refine o1 rfl (det_load1 t1_22 rfl rfl (.tail _ (.tail _ (.head _))) rfl) rfl rfl ⟨_, rfl, rfl⟩ ?_
          refine o1 rfl (det_move rfl) rfl rfl ⟨_, rfl, rfl⟩ ?_
          refine o1 rfl (det_call hb23 rfl rfl (fun w1 hs => bit_ok hs.know hr5 (by omega))) rfl rfl ⟨_, rfl, rfl⟩ ?_
          refine o1 rfl (det_pickF rfl rfl) rfl rfl trivial ?_
          refine be rfl ?_
          refine tk_drop ?_ (.refl _) hK
          exact ⟨(mb rfl (by grind)), rfl, rfl, rfl, rfl, trivial⟩
    ·
      have hse2 : s = lenD d := by unfold lenD at hsl ⊢; omega
      refine t_exit ?_
      refine k_thenE ?_
      refine k_thenE ?_
      refine k_blkE ?_
      refine k_then ?_
      refine t_seq ?_
      refine b0 ?_
      refine o1 rfl (det_loadN tN24 rfl rfl (.head _) rfl) rfl rfl trivial ?_
      refine stN nofun rfl tN24 rfl rfl rfl (.tail .head) rfl trivial rfl rfl ?_
      refine be rfl ?_
      refine k_then ?_
      refine t_ret ?_
      refine ret_any (vs := [_]) rfl rfl ⟨(.cellN tN24 rfl rfl (.tail _ (.head _)) rfl), trivial⟩ rfl (fun w1 hs => ?_)
      exact ⟨by unfold dfR; rw [if_neg (by simp [han]), ← hse2]; rfl, hs.keep⟩

end Go.Proofs.Rc
