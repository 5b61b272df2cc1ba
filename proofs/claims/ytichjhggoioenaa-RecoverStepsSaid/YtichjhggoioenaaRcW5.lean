/-
  Walks through layer 40 and its reference.
-/
import Derived.Test.YtichjhggoioenaaRcW4
namespace Go.Proofs.Rc
open Go Go.Eng Go.Rc
set_option maxRecDepth 4000

/-- New. -/
theorem new_ok {w : World} {F : Know} (hF : ∀ a v, F a = some v → w.cell? a = some v) {l s : Int} : Pure Try.prog 16 [.int .i64 l, .int .i64 s] w (.tuple [.agg (rcv (if okR (anyR l s) then anyR l s else zR)).toArray, .int .i64 (if okR (anyR l s) then 0 else 2)].toArray) := by
  refine fn_pure (F := F) Try.func16 rfl Try.ntmps16 rfl hF ?_
  refine t_seq ?_
  refine b0 ?_
  refine om1 rfl (new_alloc z24) rfl rfl trivial (fun p4 => ?_)
  refine o1 rfl (det_assign rfl) rfl rfl trivial ?_
  refine be rfl ?_
  refine k_then ?_
  refine t_seq ?_
  refine b0 ?_
  refine o1 rfl (det_move rfl) rfl rfl trivial ?_
  refine o1 rfl (det_move rfl) rfl rfl trivial ?_
  refine o1 rfl (det_build rfl (fun w => bld24_0_1_2 _ _ _ w)) rfl rfl trivial ?_
  refine om1 rfl (new_alloc z24) rfl rfl trivial (fun p6 => ?_)
  refine stN nofun rfl tN24 rfl rfl rfl .head rfl trivial rfl rfl ?_
  refine be rfl ?_
  refine k_then ?_
  refine t_seq ?_
  refine t_seq ?_
  refine b0 ?_
  refine o1 rfl (det_loadN tN24 rfl rfl (.head _) rfl) rfl rfl trivial ?_
  refine o1 rfl (det_call hb13 rfl rfl (fun w1 hs => check_ok hs.know (r := anyR l s) (show (0 : Nat) < 18446744073709551616 by decide))) rfl rfl trivial ?_
  refine o1 rfl (det_neq rfl rfl) rfl rfl trivial ?_
  refine be rfl ?_
  refine k_then ?_
  refine t_condP bne_iff_ne rfl (fun hb => ?_) (fun hb => ?_)
  ·
    have hno : ¬ okR (anyR l s) = true := by grind
    refine t_seq ?_
    refine b0 ?_
    refine o1 rfl (det_build rfl (fun w => bld24_ w)) rfl rfl trivial ?_
    refine stN nofun rfl tN24 rfl rfl rfl (.tail .head) rfl trivial rfl rfl ?_
    refine o1 rfl (det_assign rfl) rfl rfl trivial ?_
    refine be rfl ?_
    refine k_then ?_
    refine t_ret (k_thenR (?_))
    refine ret_any (vs := [_, _]) rfl rfl ⟨(.cellN tN24 rfl rfl (.tail _ (.head _)) rfl), (.tmp rfl), trivial⟩ rfl (fun w1 hs => ?_)
    exact ⟨by rw [if_neg hno, if_neg hno]; rfl, hs.keep⟩
  ·
    have hok : okR (anyR l s) = true := by grind
    refine t_skip ?_
    refine k_then ?_
    refine t_seq ?_
    refine b0 ?_
    refine o1 rfl (det_loadN tN24 rfl rfl (.head _) rfl) rfl rfl trivial ?_
    refine stN nofun rfl tN24 rfl rfl rfl (.tail .head) rfl trivial rfl rfl ?_
    refine o1 rfl (det_assign rfl) rfl rfl trivial ?_
    refine be rfl ?_
    refine k_then ?_
    refine t_ret ?_
    refine ret_any (vs := [_, _]) rfl rfl ⟨(.cellN tN24 rfl rfl (.tail _ (.head _)) rfl), (.tmp rfl), trivial⟩ rfl (fun w1 hs => ?_)
    exact ⟨by rw [if_pos hok, if_pos hok]; rfl, hs.keep⟩

/-- Missing. -/
theorem missing_ok {w : World} {F : Know} (hF : ∀ a v, F a = some v → w.cell? a = some v) {r : Rc} (hse : r.se < 18446744073709551616) : CallsF Try.prog 11 [.agg (rcv r).toArray] w noK (fun v F2 => ∃ A1 n1 c1, v = .tuple [.slice A1 n1 c1, .int .i64 (if okR r then 0 else 500)].toArray ∧ RowsK iv 1 F2 A1 n1 (if okR r then missL r else [])) := by
  refine fn_fresh (F := F) Try.func11 rfl Try.ntmps11 rfl hF ?_
  refine t_seq ?_
  refine b0 ?_
  refine om1 rfl (new_boxN rfl) rfl rfl trivial (fun p1 => ?_)
  refine o1 rfl (det_assign rfl) rfl rfl trivial ?_
  refine o1 rfl (det_assign rfl) rfl rfl trivial ?_
  refine be rfl ?_
  refine k_then ?_
  refine t_seq ?_
  refine t_seq ?_
  refine b0 ?_
  refine o1 rfl (det_loadN tN24 rfl rfl (.head _) rfl) rfl rfl trivial ?_
  refine o1 rfl (det_call hb13 rfl rfl (fun w1 hs => check_ok hs.know hse)) rfl rfl trivial ?_
  refine o1 rfl (det_assign rfl) rfl rfl trivial ?_
  refine be rfl ?_
  refine k_then ?_
  refine t_seq ?_
  refine b0 ?_
  refine o1 rfl (det_move rfl) rfl rfl trivial ?_
  refine o1 rfl (det_neq rfl rfl) rfl rfl trivial ?_
  refine be rfl ?_
  refine k_then ?_
  refine t_condP bne_iff_ne rfl (fun hb => ?_) (fun hb => ?_)
  ·
    have hno : ¬ okR r = true := by grind
    refine t_seq ?_
    refine b0 ?_
    refine o1 rfl (det_move rfl) rfl rfl trivial ?_
    refine o1 rfl (det_assign rfl) rfl rfl trivial ?_
    refine o1 rfl (det_assign rfl) rfl rfl trivial ?_
    refine be rfl ?_
    refine k_then ?_
    refine t_ret (k_thenR (?_))
    refine ret_tmp2 rfl rfl rfl rfl (fun w1 hs => ?_)
    exact end_fresh hs fun F2 h1 _ h3 => ⟨none, 0, 0, by rw [if_neg hno], by rw [if_neg hno]; exact RowsK.nil⟩
  ·
    have hok : okR r = true := by grind
    have hln := okR_ln hok
    refine t_skip ?_
    refine k_then ?_
    refine t_seq ?_
    refine b0 ?_
    refine o1 rfl (det_assign rfl) rfl rfl trivial ?_
    refine be rfl ?_
    refine k_then ?_
    refine t_seq ?_
    refine t_seq ?_
    refine b0 ?_
    refine o1 rfl (det_fieldAddr fld24_0 rfl) rfl rfl trivial ?_
    refine o1 rfl (det_load1 t1_3 rfl rfl (.head _) rfl) rfl rfl trivial ?_
    first | (refine o1 rfl (det_subI rfl rfl ?_) rfl rfl trivial ?_; (· omega)) | refine o1 rfl (det_sub rfl rfl) rfl rfl trivial ?_
    refine o1 rfl (det_assign rfl) rfl rfl trivial ?_
    refine be rfl ?_
    refine k_then ?_
    refine t_block ?_
    refine t_whileM (σ := Nat × GS) (fun s => [(5, .slice s.2.A s.2.n s.2.c), (6, .int .i64 (r.ln - 1 - s.1))]) (fun s => [(p1, .cells (rcv r).toArray 24 (0, 0))] ++ s.2.b) (fun s => r.ln.toNat - 1 - s.1) (fun s => (s.1 : Int) ≤ r.ln - 1 ∧ GL s.2 (missK r s.1) ∧ (r.an = true → s.1 = 0) ∧ s.2.n ≤ s.1) (0, ⟨none, 0, 0, []⟩) (env0 := [(1, _), (2, _), (3, _)]) ⟨by show ((0 : Nat) : Int) ≤ _; omega, GL.zero, fun _ => rfl, Nat.le_refl _⟩ ⟨rfl, (by show _ = some (Value.int IntKind.i64 (r.ln - 1 - ((0 : Nat) : Int))); rw [show r.ln - 1 - ((0 : Nat) : Int) = r.ln - 1 by omega]; rfl), trivial⟩ ⟨rfl, rfl, rfl, trivial⟩ (.refl _) ?_
    rintro s ⟨hsl, hG, hany, hnl⟩
    refine t_seq ?_
    refine t_seq ?_
    refine t_merge (env0 := [(1, _), (2, _), (3, _), (5, _), (6, _)]) ⟨rfl, rfl, rfl, rfl, rfl, trivial⟩ 23 (.bool (decide (0 < r.ln - 1 - (s.1 : Int) ∧ r.an = false))) ?_ (fun hK => ?_)
    ·
      refine k_then ?_
      refine t_condP decide_eq_true_iff rfl (fun hb => ?_) (fun hb => ?_)
      ·
        have han : r.an = false := by grind
        have hi0 : 0 < r.ln - 1 - (s.1 : Int) := by grind
        have hla := (okR_an hok han).1
        obtain ⟨i, hi⟩ : ∃ i : Nat, r.ln - 1 - (s.1 : Int) = i := ⟨(r.ln - 1 - (s.1 : Int)).toNat, by omega⟩
        rw [hi]
        refine t_skip ?_
        refine k_then ?_
        refine t_seq ?_
        refine t_block ?_
        refine t_seq ?_
        refine b0 ?_
        refine o1 rfl (det_fieldAddr fld24_5 rfl) rfl rfl trivial ?_
        refine o1 rfl (det_load1 t1_22 rfl rfl (.head _) rfl) rfl rfl trivial ?_
        refine o1 rfl (det_move rfl) rfl rfl trivial ?_
        first | (refine o1 rfl (det_shr rfl rfl ?_) rfl rfl trivial ?_; (· (first | decide | omega)))
        rw [shr_bits r.se i (by omega)]
        refine o1 rfl (det_and rfl rfl) rfl rfl trivial ?_
        refine o1 rfl (det_eql rfl rfl) rfl rfl trivial ?_
        refine be rfl ?_
        refine k_then ?_
        refine t_condP beq_iff_eq rfl (fun hb => ?_) (fun hb => ?_)
        ·
          have hbit : r.se.testBit i = false := (and_bit hse).1 hb
          refine t_seq ?_
          refine b0 ?_
          refine o1 rfl (det_fieldAddr fld24_3 rfl) rfl rfl trivial ?_
          refine o1 rfl (det_load1 t1_3 rfl rfl (.head _) rfl) rfl rfl trivial ?_
          refine o1 rfl (det_move rfl) rfl rfl trivial ?_
          first | (refine o1 rfl (det_negI rfl ?_) rfl rfl trivial ?_; (· omega)) | refine o1 rfl (det_neg rfl) rfl rfl trivial ?_
          refine o1 rfl (det_call hb24 rfl rfl (fun w1 hs => aft_at hs.know hla)) rfl rfl trivial ?_
          refine o1 rfl (det_move rfl) rfl rfl trivial ?_
          refine o1 rfl (det_extract rfl rfl) rfl rfl trivial ?_
          refine o1 rfl (det_extract rfl rfl) rfl rfl trivial ?_
          refine o1 rfl (det_assign rfl) rfl rfl trivial ?_
          refine o1 rfl (det_assign rfl) rfl rfl trivial ?_
          refine be rfl ?_
          refine k_then ?_
          refine b0 ?_
          refine o1 rfl (det_move rfl) rfl rfl trivial ?_
          refine o1 rfl (det_move rfl) rfl rfl trivial ?_
          refine om1 rfl (new_buildSlice rfl (fun w => bsl32_1_0 _ w)) rfl rfl trivial (fun p42 => ?_)
          refine oAppS (pre := [_, _]) (b := _) (m := 1) (news := iv (aft r.la (-(i : Int)))) nofun rfl ap32 rfl rfl rfl trivial hG rfl (fun w hs j u hj => hs.cellO (.head _) hj) (iv_one _) (by omega) (by simp only [maxLen]; omega) (fun A9 c9 b9 hS9 => ?_)
          have hG9 : GL ⟨A9, s.2.n + 1, c9, b9⟩ (missK r (s.1 + 1)) := by show SlO 3 1 _ _ (rowsV iv (missK r (s.1 + 1))) _; rw [miss_add (by omega) hbit, rowsI1]; exact hS9
          refine o1 rfl (det_assign rfl) rfl rfl trivial ?_
          refine be rfl ?_
          refine k_blk ?_
          refine k_then ?_
          refine b0 ?_
          refine o1 rfl (det_move rfl) rfl rfl trivial ?_
          first | (refine o1 rfl (det_subI rfl rfl ?_) rfl rfl trivial ?_; (· omega)) | refine o1 rfl (det_sub rfl rfl) rfl rfl trivial ?_
          refine o1 rfl (det_assign rfl) rfl rfl trivial ?_
          refine be rfl ?_
          refine k_then ?_
          rw [show (i : Int) - 1 = r.ln - 1 - ((s.1 + 1 : Nat) : Int) by omega]
          refine loop_back (s.1 + 1, ⟨A9, s.2.n + 1, c9, b9⟩) ⟨by show ((s.1 + 1 : Nat) : Int) ≤ _; omega, hG9, (fun h => by rw [han] at h; cases h), by show s.2.n + 1 ≤ s.1 + 1; omega⟩ (by simp only; omega) ⟨rfl, rfl, rfl, rfl, rfl, trivial⟩ (.cons _ (.refl _))
        ·
          have hbit : r.se.testBit i = true := by cases h : r.se.testBit i with | true => rfl | false => exact absurd ((and_bit hse).2 h) hb
          refine t_skip ?_
          refine k_blk ?_
          refine k_then ?_
          refine b0 ?_
          refine o1 rfl (det_move rfl) rfl rfl trivial ?_
          first | (refine o1 rfl (det_subI rfl rfl ?_) rfl rfl trivial ?_; (· omega)) | refine o1 rfl (det_sub rfl rfl) rfl rfl trivial ?_
          refine o1 rfl (det_assign rfl) rfl rfl trivial ?_
          refine be rfl ?_
          refine k_then ?_
          rw [show (i : Int) - 1 = r.ln - 1 - ((s.1 + 1 : Nat) : Int) by omega]
          refine loop_back (s.1 + 1, s.2) ⟨by show ((s.1 + 1 : Nat) : Int) ≤ _; omega, by rw [miss_hit (by omega) hbit]; exact hG, (fun h => by rw [han] at h; cases h), by show s.2.n ≤ s.1 + 1; omega⟩ (by simp only; omega) ⟨rfl, rfl, rfl, rfl, rfl, trivial⟩ (.refl _)
      ·
        have hend : missK r s.1 = missL r := by
          unfold missL
          cases han : r.an with
          | true => rw [hany han]; rfl
          | false =>
            have : s.1 = r.ln.toNat - 1 := by grind
            rw [this]; rfl
        rw [hend] at hG
        refine t_exit ?_
        refine k_thenE ?_
        refine k_thenE ?_
        refine k_blkE ?_
        refine k_then ?_
        refine t_seq ?_
        refine b0 ?_
        refine o1 rfl (det_move rfl) rfl rfl trivial ?_
        refine o1 rfl (det_assign rfl) rfl rfl trivial ?_
        refine o1 rfl (det_assign rfl) rfl rfl trivial ?_
        refine be rfl ?_
        refine k_then ?_
        refine t_ret ?_
        refine ret_tmp2 rfl rfl rfl rfl (fun w1 hs => ?_)
        exact end_fresh hs fun F2 h1 _ h3 => by
          obtain ⟨g1, g2, g3⟩ := SlO.ik hG (fun p cs t fr k hm => h3 p cs t fr k (.tail _ hm)) rfl
          exact ⟨_, _, _, by rw [if_pos hok], by rw [if_pos hok]; exact g3⟩
    ·
      refine b0 ?_
      refine o1 rfl (det_move rfl) rfl rfl trivial ?_
      refine o1 rfl (det_gtr rfl rfl) rfl rfl trivial ?_
      refine o2P decide_eq_true_iff rfl (det_move rfl) rfl rfl trivial (fun hb => ?_) (fun hb => ?_)
      ·
        refine o1 rfl (det_fieldAddr fld24_2 rfl) rfl rfl ⟨_, rfl, rfl⟩ ?_
        refine o1 rfl (det_load1 t1_4 rfl rfl (.head _) rfl) rfl rfl ⟨_, rfl, rfl⟩ ?_
        refine o1 rfl (det_not rfl) rfl rfl ⟨_, rfl, rfl⟩ ?_
        refine o1 rfl (det_pickT rfl rfl) rfl rfl trivial ?_
        refine be rfl ?_
        refine tk_drop ?_ (.refl _) hK
        exact ⟨(mb rfl (by grind)), rfl, rfl, rfl, rfl, rfl, trivial⟩
      ·
        refine on rfl rfl rfl ⟨_, rfl, .inl rfl⟩ ?_
        refine on rfl rfl rfl ⟨_, rfl, .inl rfl⟩ ?_
        refine on rfl rfl rfl ⟨_, rfl, .inl rfl⟩ ?_
        refine o1 rfl (det_pickF rfl rfl) rfl rfl trivial ?_
        refine be rfl ?_
        refine tk_drop ?_ (.refl _) hK
        exact ⟨(mb rfl (by grind)), rfl, rfl, rfl, rfl, rfl, trivial⟩

end Go.Proofs.Rc
