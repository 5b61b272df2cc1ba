/-
  Walks through layers 27, 29 and 30 and their references.
-/
import Derived.Test.YtgaliocgkjghnaaSwW13
import Derived.Test.YtgaliocgkjghnaaSwPlain3
namespace Go.Proofs.Sw
open Go Go.Eng Go.Gt Go.Proofs.Gt Go.Sw
set_option maxRecDepth 4000

/-- Fits. -/
theorem fits29_ok {w : World} {F : Know} (hF : ∀ a v, F a = some v → w.cell? a = some v) {c : Ch} (hC : ChK F c) {cl t lg : Int} (hcl : -9223372036854775808 ≤ cl ∧ cl ≤ 9223372036854775807) : Pure Try.prog 25 [.agg (chv c).toArray, .int .i64 cl, .int .i64 t, .int .i64 lg] w (.tuple [.bool (fitsC c cl t lg).1, .int .i64 (fitsC c cl t lg).2].toArray) := by
  refine fn_pure (F := F) Try.func25 rfl Try.ntmps25 rfl hF ?_
  refine t_seq ?_
  refine b0 ?_
  refine om1 rfl (new_boxN rfl) rfl rfl trivial (fun p4 => ?_)
  refine om1 rfl (new_box1 rfl rfl) rfl rfl trivial (fun p5 => ?_)
  refine om1 rfl (new_alloc z4) rfl rfl trivial (fun p8 => ?_)
  refine om1 rfl (new_alloc z38) rfl rfl trivial (fun p9 => ?_)
  refine be rfl ?_
  refine k_then ?_
  refine t_seq ?_
  refine t_seq ?_
  refine b0 ?_
  refine o1 rfl (det_loadN tN34 rfl rfl (.tail _ (.tail _ (.tail _ (.head _)))) rfl) rfl rfl trivial ?_
  refine o1 rfl (det_call hb17 rfl rfl (fun w1 hs => check29_ok hs.know hC)) rfl rfl trivial ?_
  refine o1 rfl (det_assign rfl) rfl rfl trivial ?_
  refine be rfl ?_
  refine k_then ?_
  refine t_seq ?_
  refine b0 ?_
  refine o1 rfl (det_move rfl) rfl rfl trivial ?_
  refine o1 rfl (det_neq rfl rfl) rfl rfl trivial ?_
  refine be rfl ?_
  refine k_then ?_
  refine t_condP bne_iff_ne rfl (fun hb => ?_) (fun hb => ?_)
  ·
    have hc : okC c = false := by unfold checkC at hb; grind
    refine t_seq ?_
    refine b0 ?_
    refine o1 rfl (det_move rfl) rfl rfl trivial ?_
    refine st1 nofun rfl t1_4 rfl rfl rfl (.tail .head) rfl trivial rfl ?_
    refine st1 nofun rfl t1_38 rfl rfl rfl .head rfl trivial rfl ?_
    refine be rfl ?_
    refine k_then ?_
    refine t_ret (k_thenR (?_))
    refine ret_any (vs := [_, _]) rfl rfl ⟨(.cell1 t1_4 rfl rfl (.tail _ (.head _)) rfl), (.cell1 t1_38 rfl rfl (.head _) rfl), trivial⟩ rfl (fun w1 hs => ?_)
    exact ⟨by unfold fitsC checkC; rw [hc]; rfl, hs.keep⟩
  ·
    have hc : okC c = true := by unfold checkC at hb; grind
    have hO := okC_iff.1 hc
    have hcy := okG_cyc hO.op
    refine t_skip ?_
    refine k_then ?_
    refine t_seq ?_
    refine t_seq ?_
    refine t_merge (env0 := [(2, _), (3, _), (4, _), (5, _), (8, _), (9, _)]) ⟨rfl, rfl, rfl, rfl, rfl, rfl, trivial⟩ 40 (.bool (!argF c cl t lg)) ?_ (fun hK => ?_)
    ·
      refine k_then ?_
      refine t_condP Iff.rfl rfl (fun hb => ?_) (fun hb => ?_)
      ·
        have ha : argF c cl t lg = false := by simpa using hb
        refine t_seq ?_
        refine b0 ?_
        refine st1 nofun rfl t1_4 rfl rfl rfl (.tail .head) rfl trivial rfl ?_
        refine st1 nofun rfl t1_38 rfl rfl rfl .head rfl trivial rfl ?_
        refine be rfl ?_
        refine k_then ?_
        refine t_ret (k_thenR (?_))
        refine ret_any (vs := [_, _]) rfl rfl ⟨(.cell1 t1_4 rfl rfl (.tail _ (.head _)) rfl), (.cell1 t1_38 rfl rfl (.head _) rfl), trivial⟩ rfl (fun w1 hs => ?_)
        exact ⟨by unfold fitsC; rw [hc, ha]; rfl, hs.keep⟩
      ·
        have ha : argF c cl t lg = true := by simpa using hb
        obtain ⟨hat, hal⟩ : okTm t = true ∧ (0 ≤ cl ∧ cl ≤ 7 ∧ 0 ≤ lg ∧ lg ≤ 4 * c.op.cyc) := by unfold argF at ha; simpa using ha
        have htb := of_decide_eq_true (show decide _ = true from hat)
        refine t_skip ?_
        refine k_then ?_
        refine t_seq ?_
        refine t_seq ?_
        refine b0 ?_
        refine o1 rfl (det_loadN tN34 rfl rfl (.tail _ (.tail _ (.tail _ (.head _)))) rfl) rfl rfl trivial ?_
        refine o1 rfl (det_move rfl) rfl rfl trivial ?_
        refine o1 rfl (det_move rfl) rfl rfl trivial ?_
        refine o1 rfl (det_move rfl) rfl rfl trivial ?_
        first | (refine o1 rfl (det_addI rfl rfl ?_) rfl rfl trivial ?_; (· omega)) | refine o1 rfl (det_add rfl rfl) rfl rfl trivial ?_
        refine oF nofun rfl hb52 rfl rfl rfl trivial (fun w1 hs => (stretches_ok hs.know).any) (fun v F3 hF3 hNF3 ⟨q1, q2, q3, hv, h1, h2, h3⟩ => ?_)
        subst hv
        refine be rfl ?_
        refine k_then ?_
        refine t_block ?_
        refine t_rangeF2 (σ := Unit) (fun _ => [(p9, .cells [.int .i64 0].toArray 38 (0, 0)), (p8, .cells [.bool false].toArray 4 (0, 0)), (p5, .cells [.int .i64 cl].toArray 3 (0, 0)), (p4, .cells (chv c).toArray 34 (0, 0))]) (fun k _ => ∀ i, i < k → bitE ((stW c (t + lg) t).getD i 0) cl = true) (fun j _ => j = .ret ∧ fitB c cl t lg = false) () (fun k => [.int .i64 ((stW c (t + lg) t).getD k 0)]) (xs := (stW c (t + lg) t).map fun m => [Value.int .i64 m]) (env0 := [(5, _), (8, _), (9, _)]) rfl hb79 (stretch_gives (hC.mono hF3) hc htb.1 (by omega) h1 h2 h3) (fun k hk => by rw [List.getElem_map]; rw [List.length_map] at hk; simp [hk]) (fun _ => rfl) rfl (fun i hi => absurd hi (Nat.not_lt_zero i)) ⟨rfl, rfl, rfl, trivial⟩ (.refl _) ?_ ?_ ?_
        ·
          rintro W2 S2 l D r k s hr hk hI
          rw [List.length_map] at hk
          have hmr := stW_rng hO (e := t + lg) (x := t) hk
          refine b0 ?_
          refine o1 rfl (det_assign rfl) rfl rfl trivial ?_
          refine be rfl ?_
          refine k_then ?_
          refine k_begin (pre := [_, _, _, _]) hr.1 rfl ?_
          refine t_block ?_
          refine t_seq ?_
          refine b0 ?_
          refine o1 rfl (det_move rfl) rfl rfl trivial ?_
          refine o1 rfl (det_load1 t1_3 rfl rfl (.tail _ (.tail _ (.head _))) rfl) rfl rfl trivial ?_
          first | (refine o1 rfl (det_shr rfl rfl ?_) rfl rfl trivial ?_; (· (first | decide | omega)))
          refine o1 rfl (det_and rfl rfl) rfl rfl trivial ?_
          refine o1 rfl (det_eql rfl rfl) rfl rfl trivial ?_
          refine be rfl ?_
          refine k_then ?_
          refine t_condP beq_iff_eq rfl (fun hb => ?_) (fun hb => ?_)
          ·
            have hbit := (bitE_and hmr ⟨hal.1, hal.2.1⟩).1 hb
            refine t_seq ?_
            refine b0 ?_
            refine st1 nofun rfl t1_4 rfl rfl rfl (.tail .head) rfl trivial rfl ?_
            refine st1 nofun rfl t1_38 rfl rfl rfl .head rfl trivial rfl ?_
            refine be rfl ?_
            refine k_then ?_
            refine t_ret (k_blkR (?_))
            refine round_ret () ⟨rfl, fitB_false hk hbit⟩ (.refl _) rfl rfl
          ·
            have hbit : bitE ((stW c (t + lg) t).getD k 0) cl = true := by
              cases h : bitE ((stW c (t + lg) t).getD k 0) cl with
              | true => rfl
              | false => exact absurd ((bitE_and hmr ⟨hal.1, hal.2.1⟩).2 h) hb
            refine t_skip ?_
            refine k_blk ?_
            refine round_next () hr (fun i hi => by
                by_cases e : i = k
                · rw [e]; exact hbit
                · exact hI i (by omega)) (.refl _) rfl rfl
        ·
          rintro D s hI
          rw [List.length_map] at hI
          have hft := fitB_true hI
          refine k_blk ?_
          refine k_then ?_
          refine t_seq ?_
          refine b0 ?_
          refine st1 nofun rfl t1_4 rfl rfl rfl (.tail .head) rfl trivial rfl ?_
          refine st1 nofun rfl t1_38 rfl rfl rfl .head rfl trivial rfl ?_
          refine be rfl ?_
          refine k_then ?_
          refine t_ret ?_
          refine ret_mark (pre := [_, _, _, _]) (vs := [_, _]) rfl rfl ⟨(.cell1 t1_4 rfl rfl (.tail _ (.head _)) rfl), (.cell1 t1_38 rfl rfl (.head _) rfl), trivial⟩ rfl (fun w1 hs => ?_)
          exact ⟨by unfold fitsC; rw [hc, ha, hft]; rfl, hs.keep⟩
        ·
          rintro D j s ⟨hj, hfb⟩
          subst hj
          refine t_ret (k_blkR (k_thenR (?_)))
          refine ret_mark (pre := [_, _, _, _]) (vs := [_, _]) rfl rfl ⟨(.cell1 t1_4 rfl rfl (.tail _ (.head _)) rfl), (.cell1 t1_38 rfl rfl (.head _) rfl), trivial⟩ rfl (fun w1 hs => ?_)
          exact ⟨by unfold fitsC; rw [hc, ha, hfb]; rfl, hs.keep⟩
    ·
      refine b0 ?_
      refine o1 rfl (det_move rfl) rfl rfl trivial ?_
      refine om1 rfl (new_buildSlice rfl (fun w => bsl105_1_0 _ w)) rfl rfl trivial (fun p18 => ?_)
      refine tk_freeze (pre := []) rfl (fun F2 hF2 hNF2 hKF2 => ?_)
      have hX : IntsA F2 (some ⟨p18, 0, none⟩) 1 [t] := intsA_lit (xs := [t]) hKF2
      refine o1 rfl (det_call hb49 rfl rfl (fun w1 hs => times_ok hs.know hX (by decide))) rfl rfl trivial ?_
      refine o1 rfl (det_neq rfl rfl) rfl rfl trivial ?_
      refine o2P bne_iff_ne rfl (det_move rfl) rfl rfl trivial (fun hb => ?_) (fun hb => ?_)
      ·
        refine on rfl rfl rfl ⟨_, rfl, .inl rfl⟩ ?_
        refine on rfl rfl rfl ⟨_, rfl, .inl rfl⟩ ?_
        refine o1 rfl (det_pickT rfl rfl) rfl rfl trivial ?_
        refine o1 rfl (det_move rfl) rfl rfl trivial ?_
        refine on rfl rfl rfl ⟨_, rfl, .inl rfl⟩ ?_
        refine on rfl rfl rfl ⟨_, rfl, .inl rfl⟩ ?_
        refine o1 rfl (det_pickT rfl rfl) rfl rfl trivial ?_
        refine o1 rfl (det_move rfl) rfl rfl trivial ?_
        refine on rfl rfl rfl ⟨_, rfl, .inl rfl⟩ ?_
        refine on rfl rfl rfl ⟨_, rfl, .inl rfl⟩ ?_
        refine o1 rfl (det_pickT rfl rfl) rfl rfl trivial ?_
        refine o1 rfl (det_move rfl) rfl rfl trivial ?_
        refine on rfl rfl rfl ⟨_, rfl, .inl rfl⟩ ?_
        refine on rfl rfl rfl ⟨_, rfl, .inl rfl⟩ ?_
        refine on rfl rfl rfl ⟨_, rfl, .inl rfl⟩ ?_
        refine on rfl rfl rfl ⟨_, rfl, .inl rfl⟩ ?_
        refine on rfl rfl rfl ⟨_, rfl, .inl rfl⟩ ?_
        refine on rfl rfl rfl ⟨_, rfl, .inl rfl⟩ ?_
        refine o1 rfl (det_pickT rfl rfl) rfl rfl trivial ?_
        refine be rfl ?_
        refine tk_less (fun _ _ h => (hF2 _ _ h)) (tk_drop ?_ (.refl _) hK)
        exact ⟨(mb rfl (by simp only [List.all_cons, List.all_nil, Bool.and_true] at *; unfold argF; grind)), rfl, rfl, rfl, rfl, rfl, rfl, trivial⟩
      ·
        refine o1 rfl (det_load1 t1_3 rfl rfl (.tail _ (.tail _ (.head _))) rfl) rfl rfl ⟨_, rfl, rfl⟩ ?_
        refine o1 rfl (det_lss rfl rfl) rfl rfl ⟨_, rfl, rfl⟩ ?_
        refine o1 rfl (det_pickF rfl rfl) rfl rfl trivial ?_
        refine o2P decide_eq_true_iff rfl (det_move rfl) rfl rfl trivial (fun hb => ?_) (fun hb => ?_)
        ·
          refine on rfl rfl rfl ⟨_, rfl, .inl rfl⟩ ?_
          refine on rfl rfl rfl ⟨_, rfl, .inl rfl⟩ ?_
          refine o1 rfl (det_pickT rfl rfl) rfl rfl trivial ?_
          refine o1 rfl (det_move rfl) rfl rfl trivial ?_
          refine on rfl rfl rfl ⟨_, rfl, .inl rfl⟩ ?_
          refine on rfl rfl rfl ⟨_, rfl, .inl rfl⟩ ?_
          refine o1 rfl (det_pickT rfl rfl) rfl rfl trivial ?_
          refine o1 rfl (det_move rfl) rfl rfl trivial ?_
          refine on rfl rfl rfl ⟨_, rfl, .inl rfl⟩ ?_
          refine on rfl rfl rfl ⟨_, rfl, .inl rfl⟩ ?_
          refine on rfl rfl rfl ⟨_, rfl, .inl rfl⟩ ?_
          refine on rfl rfl rfl ⟨_, rfl, .inl rfl⟩ ?_
          refine on rfl rfl rfl ⟨_, rfl, .inl rfl⟩ ?_
          refine on rfl rfl rfl ⟨_, rfl, .inl rfl⟩ ?_
          refine o1 rfl (det_pickT rfl rfl) rfl rfl trivial ?_
          refine be rfl ?_
          refine tk_less (fun _ _ h => (hF2 _ _ h)) (tk_drop ?_ (.refl _) hK)
          exact ⟨(mb rfl (by simp only [List.all_cons, List.all_nil, Bool.and_true] at *; unfold argF; grind)), rfl, rfl, rfl, rfl, rfl, rfl, trivial⟩
        ·
          refine o1 rfl (det_load1 t1_3 rfl rfl (.tail _ (.tail _ (.head _))) rfl) rfl rfl ⟨_, rfl, rfl⟩ ?_
          refine o1 rfl (det_gtr rfl rfl) rfl rfl ⟨_, rfl, rfl⟩ ?_
          refine o1 rfl (det_pickF rfl rfl) rfl rfl trivial ?_
          refine o2P decide_eq_true_iff rfl (det_move rfl) rfl rfl trivial (fun hb => ?_) (fun hb => ?_)
          ·
            refine on rfl rfl rfl ⟨_, rfl, .inl rfl⟩ ?_
            refine on rfl rfl rfl ⟨_, rfl, .inl rfl⟩ ?_
            refine o1 rfl (det_pickT rfl rfl) rfl rfl trivial ?_
            refine o1 rfl (det_move rfl) rfl rfl trivial ?_
            refine on rfl rfl rfl ⟨_, rfl, .inl rfl⟩ ?_
            refine on rfl rfl rfl ⟨_, rfl, .inl rfl⟩ ?_
            refine on rfl rfl rfl ⟨_, rfl, .inl rfl⟩ ?_
            refine on rfl rfl rfl ⟨_, rfl, .inl rfl⟩ ?_
            refine on rfl rfl rfl ⟨_, rfl, .inl rfl⟩ ?_
            refine on rfl rfl rfl ⟨_, rfl, .inl rfl⟩ ?_
            refine o1 rfl (det_pickT rfl rfl) rfl rfl trivial ?_
            refine be rfl ?_
            refine tk_less (fun _ _ h => (hF2 _ _ h)) (tk_drop ?_ (.refl _) hK)
            exact ⟨(mb rfl (by simp only [List.all_cons, List.all_nil, Bool.and_true] at *; unfold argF; grind)), rfl, rfl, rfl, rfl, rfl, rfl, trivial⟩
          ·
            refine o1 rfl (det_move rfl) rfl rfl ⟨_, rfl, rfl⟩ ?_
            refine o1 rfl (det_lss rfl rfl) rfl rfl ⟨_, rfl, rfl⟩ ?_
            refine o1 rfl (det_pickF rfl rfl) rfl rfl trivial ?_
            refine o2P decide_eq_true_iff rfl (det_move rfl) rfl rfl trivial (fun hb => ?_) (fun hb => ?_)
            ·
              refine on rfl rfl rfl ⟨_, rfl, .inl rfl⟩ ?_
              refine on rfl rfl rfl ⟨_, rfl, .inl rfl⟩ ?_
              refine on rfl rfl rfl ⟨_, rfl, .inl rfl⟩ ?_
              refine on rfl rfl rfl ⟨_, rfl, .inl rfl⟩ ?_
              refine on rfl rfl rfl ⟨_, rfl, .inl rfl⟩ ?_
              refine on rfl rfl rfl ⟨_, rfl, .inl rfl⟩ ?_
              refine o1 rfl (det_pickT rfl rfl) rfl rfl trivial ?_
              refine be rfl ?_
              refine tk_less (fun _ _ h => (hF2 _ _ h)) (tk_drop ?_ (.refl _) hK)
              exact ⟨(mb rfl (by simp only [List.all_cons, List.all_nil, Bool.and_true] at *; unfold argF; grind)), rfl, rfl, rfl, rfl, rfl, rfl, trivial⟩
            ·
              refine o1 rfl (det_move rfl) rfl rfl ⟨_, rfl, rfl⟩ ?_
              refine o1 rfl (det_fieldAddr fld34_0 rfl) rfl rfl ⟨_, rfl, rfl⟩ ?_
              refine o1 rfl (det_fieldAddr fld30_1 rfl) rfl rfl ⟨_, rfl, rfl⟩ ?_
              refine o1 rfl (det_load1 t1_3 rfl rfl (.tail _ (.tail _ (.tail _ (.head _)))) rfl) rfl rfl ⟨_, rfl, rfl⟩ ?_
              first | (refine o1 rfl (det_mulI rfl rfl ?_) rfl rfl ⟨_, rfl, rfl⟩ ?_; (· omega)) | refine o1 rfl (det_mul rfl rfl) rfl rfl ⟨_, rfl, rfl⟩ ?_
              refine o1 rfl (det_gtr rfl rfl) rfl rfl ⟨_, rfl, rfl⟩ ?_
              refine o1 rfl (det_pickF rfl rfl) rfl rfl trivial ?_
              refine be rfl ?_
              refine tk_less (fun _ _ h => (hF2 _ _ h)) (tk_drop ?_ (.refl _) hK)
              exact ⟨(mb rfl (by simp only [List.all_cons, List.all_nil, Bool.and_true] at *; unfold argF; grind)), rfl, rfl, rfl, rfl, rfl, rfl, trivial⟩

/-- The reference's Fits. -/
theorem rfits29_ok {w : World} {F : Know} (hF : ∀ a v, F a = some v → w.cell? a = some v) {c : Ch} (hC : ChK F c) {cl t lg : Int} (hcl : -9223372036854775808 ≤ cl ∧ cl ≤ 9223372036854775807) : Pure Try.prog 26 [.agg (chv c).toArray, .int .i64 cl, .int .i64 t, .int .i64 lg] w (.tuple [.bool (fitsC c cl t lg).1, .int .i64 (fitsC c cl t lg).2].toArray) := by
  refine fn_pure (F := F) Try.func26 rfl Try.ntmps26 rfl hF ?_
  refine t_seq ?_
  refine b0 ?_
  refine om1 rfl (new_boxN rfl) rfl rfl trivial (fun p4 => ?_)
  refine o1 rfl (det_assign rfl) rfl rfl trivial ?_
  refine o1 rfl (det_assign rfl) rfl rfl trivial ?_
  refine be rfl ?_
  refine k_then ?_
  refine t_seq ?_
  refine t_seq ?_
  refine b0 ?_
  refine o1 rfl (det_loadN tN34 rfl rfl (.head _) rfl) rfl rfl trivial ?_
  refine o1 rfl (det_call hb51 rfl rfl (fun w1 hs => right29_ok hs.know hC)) rfl rfl trivial ?_
  refine o1 rfl (det_not rfl) rfl rfl trivial ?_
  refine be rfl ?_
  refine k_then ?_
  refine t_condP not_iff_false rfl (fun hb => ?_) (fun hb => ?_)
  ·
    have hc : okC c = false := by grind
    refine t_seq ?_
    refine b0 ?_
    refine o1 rfl (det_assign rfl) rfl rfl trivial ?_
    refine o1 rfl (det_assign rfl) rfl rfl trivial ?_
    refine be rfl ?_
    refine k_then ?_
    refine t_ret (k_thenR (?_))
    refine ret_tmp2 rfl rfl rfl rfl (fun w1 hs => ?_)
    exact ⟨by unfold fitsC; rw [hc]; rfl, hs.keep⟩
  ·
    have hc : okC c = true := by grind
    have hO := okC_iff.1 hc
    have hcy := okG_cyc hO.op
    refine t_skip ?_
    refine k_then ?_
    refine t_seq ?_
    refine t_seq ?_
    refine t_merge (env0 := [(1, _), (2, _), (3, _), (4, _), (8, _), (9, _)]) ⟨rfl, rfl, rfl, rfl, rfl, rfl, trivial⟩ 41 (.bool (!argF c cl t lg)) ?_ (fun hK => ?_)
    ·
      refine k_then ?_
      refine t_condP Iff.rfl rfl (fun hb => ?_) (fun hb => ?_)
      ·
        have ha : argF c cl t lg = false := by simpa using hb
        refine t_seq ?_
        refine b0 ?_
        refine o1 rfl (det_assign rfl) rfl rfl trivial ?_
        refine o1 rfl (det_assign rfl) rfl rfl trivial ?_
        refine be rfl ?_
        refine k_then ?_
        refine t_ret (k_thenR (?_))
        refine ret_tmp2 rfl rfl rfl rfl (fun w1 hs => ?_)
        exact ⟨by unfold fitsC; rw [hc, ha]; rfl, hs.keep⟩
      ·
        have ha : argF c cl t lg = true := by simpa using hb
        obtain ⟨hat, hal⟩ : okTm t = true ∧ (0 ≤ cl ∧ cl ≤ 7 ∧ 0 ≤ lg ∧ lg ≤ 4 * c.op.cyc) := by unfold argF at ha; simpa using ha
        have htb := of_decide_eq_true (show decide _ = true from hat)
        refine t_skip ?_
        refine k_then ?_
        refine t_seq ?_
        refine t_seq ?_
        refine b0 ?_
        refine o1 rfl (det_move rfl) rfl rfl trivial ?_
        refine o1 rfl (det_assign rfl) rfl rfl trivial ?_
        refine be rfl ?_
        refine k_then ?_
        refine t_block ?_
        refine t_whileM (σ := Int) (fun x => [(10, .int .i64 x)]) (fun _ => _) (fun x => (t + lg - x).toNat) (fun x => t ≤ x ∧ ∀ y, t ≤ y → y < x → bitE (atC c y) cl = true) t (env0 := [(1, _), (2, _), (3, _), (4, _)]) ⟨Int.le_refl _, fun y h1 h2 => by omega⟩ ⟨rfl, trivial⟩ ⟨rfl, rfl, rfl, rfl, trivial⟩ (.refl _) ?_
        rintro x ⟨htx, hI⟩
        refine t_seq ?_
        refine t_seq ?_
        refine b0 ?_
        refine o1 rfl (det_move rfl) rfl rfl trivial ?_
        refine o1 rfl (det_move rfl) rfl rfl trivial ?_
        refine o1 rfl (det_move rfl) rfl rfl trivial ?_
        first | (refine o1 rfl (det_addI rfl rfl ?_) rfl rfl trivial ?_; (· omega)) | refine o1 rfl (det_add rfl rfl) rfl rfl trivial ?_
        refine o1 rfl (det_lss rfl rfl) rfl rfl trivial ?_
        refine be rfl ?_
        refine k_then ?_
        refine t_condP decide_eq_true_iff rfl (fun hb => ?_) (fun hb => ?_)
        ·
          have hx : x < t + lg := hb
          refine t_skip ?_
          refine k_then ?_
          refine t_block ?_
          refine t_seq ?_
          refine bD mixed ?_
          refine r_allS true (by kernel_rfl) (fun w hs => ⟨hs.sub (.refl _), fun _ _ h => h⟩) (fun hW7 s_ => ?_)
          refine al_detP rfl (det_fieldAddr fld34_0 rfl) rfl rfl rfl rfl ?_
          refine al_detP rfl (det_loadN tN30 rfl rfl (.head _) rfl) rfl rfl rfl rfl ?_
          refine al_detP rfl (det_fieldAddr fld34_1 rfl) rfl rfl rfl rfl ?_
          refine al_detP rfl (det_load1 t1_3 rfl rfl (.head _) rfl) rfl rfl rfl rfl ?_
          refine al_detP rfl (det_move rfl) rfl rfl rfl rfl ?_
          refine al_detP rfl (det_move rfl) rfl rfl rfl rfl ?_
          first | (refine al_detP rfl (det_addI rfl rfl ?_) rfl rfl rfl rfl ?_; (· omega)) | refine al_detP rfl (det_add rfl rfl) rfl rfl rfl rfl ?_
          refine al_new rfl (new_alloc z30) rfl rfl rfl (fun cc h => by cases h) (fun w hs => hs.sub (.refl _)) (fun p11 => ?_)
          refine al_stN rfl tN30.size rfl rfl rfl rfl .head rfl rfl rfl (fun w hs => hs.sub (.cons _ (.refl _))) ?_
          refine al_detP rfl (det_assign rfl) rfl rfl rfl rfl ?_
          refine al_detP rfl (det_assign rfl) rfl rfl rfl rfl ?_
          refine al_end rfl (fun w hs => hs.sub (.cons _ (.refl _))) ?_
          refine k_then ?_
          refine t_seq ?_
          refine t_seq ?_
          refine t_merge (env0 := [(1, _), (2, _), (3, _), (4, _), (10, _), (11, _), (12, _), (13, _)]) ⟨rfl, rfl, rfl, rfl, rfl, rfl, rfl, rfl, trivial⟩ 62 (.bool (onAd c x)) ?_ (fun hK => ?_)
          ·
            refine k_then ?_
            refine t_condP Iff.rfl rfl (fun hb => ?_) (fun hb => ?_)
            ·
              have hon : onAd c x = true := hb
              --note:ad
              refine bD mixed ?_
              refine r_allS false (by kernel_rfl) (fun w hs => ⟨hs.sub (.cons _ (.refl _)), fun _ _ h => h⟩) (fun hW9 s_ => ?_)
              refine al_det rfl (det_fieldAddr fld34_3 rfl) rfl rfl rfl ?_
              refine al_det rfl (det_loadN tN30 rfl rfl (.head _) rfl) rfl rfl rfl ?_
              refine al_det rfl (det_fieldAddr fld34_4 rfl) rfl rfl rfl ?_
              refine al_det rfl (det_load1 t1_3 rfl rfl (.head _) rfl) rfl rfl rfl ?_
              refine al_stN rfl tN30.size rfl rfl rfl rfl .head rfl rfl rfl (fun w hs => hs.sub (.cons _ (.refl _))) ?_
              refine al_det rfl (det_assign rfl) rfl rfl rfl ?_
              refine al_end rfl (fun w hs => hs.sub (.cons _ (.refl _))) ?_
              refine k_then ?_
              refine t_seq ?_
              refine b0 ?_
              refine o1 rfl (det_loadN tN30 rfl rfl (.head _) rfl) rfl rfl trivial ?_
              refine o1 rfl (det_move rfl) rfl rfl trivial ?_
              refine o1 rfl (det_move rfl) rfl rfl trivial ?_
              have hgl : glC c x = c.ad := by unfold glC; rw [hon]; rfl
              have hbg : begC c x = c.wh := by unfold begC; rw [hon]; rfl
              have hen : endC c (t + lg) x = (t + lg) := by simp [endC, hon]
              have hG : okG (c.ad).es (c.ad).cyc = true := by rw [← hgl]; exact hO.gl x
              have hbs := hO.base
              have hwh := hO.wh
              obtain ⟨hi, hy, hms, hlg, hxn, hsame⟩ := ref_next hO hx hgl hbg hen
              have hyb := loc_bounds hG (x - c.wh)
              have hEl := (hC.ad).len
              obtain ⟨A, hA⟩ := EntK.some hC.ad hi
              have hE2 : EntK F (some A) (c.ad).n (c.ad).es := by have h0 := hC.ad; unfold GlK at h0; rwa [hA] at h0
              first | (refine o1 rfl (det_subI rfl rfl ?_) rfl rfl trivial ?_; (· omega)) | refine o1 rfl (det_sub rfl rfl) rfl rfl trivial ?_
              refine o1 rfl (det_call hb57 rfl rfl (fun w1 hs => at_ok hs.know hC.ad hG _)) rfl rfl trivial ?_
              refine o1 rfl (det_move rfl) rfl rfl trivial ?_
              refine o1 rfl (det_extract rfl rfl) rfl rfl trivial ?_
              refine o1 rfl (det_extract rfl rfl) rfl rfl trivial ?_
              refine o1 rfl (det_assign rfl) rfl rfl trivial ?_
              refine o1 rfl (det_assign rfl) rfl rfl trivial ?_
              refine be rfl ?_
              refine k_then ?_
              refine t_seq ?_
              refine t_seq ?_
              refine b0 ?_
              rw [hA]
              refine o1 rfl (det_fieldAddr fld30_0 rfl) rfl rfl trivial ?_
              refine o1 rfl (det_load1 t1_28 rfl rfl (.head _) rfl) rfl rfl trivial ?_
              refine o1 rfl (det_move rfl) rfl rfl trivial ?_
              first | (refine o1 rfl (det_indexAddr sl28 rfl rfl ?_) rfl rfl trivial ?_; (· (first | decide | omega)))
              refine o1 rfl (det_fieldAddr fld100_0 rfl) rfl rfl trivial ?_
              refine o1 rfl (det_loadK t1_3 rfl (by have := hE2.cells hi 0 (by omega); rw [add_add] at this ⊢; simpa using this)) rfl rfl trivial ?_
              refine o1 rfl (det_move rfl) rfl rfl trivial ?_
              refine o1 rfl (det_call hb58 rfl rfl (fun w1 hs => bit_ok hs.know _ _ ⟨hal.1, hal.2.1⟩)) rfl rfl trivial ?_
              refine o1 rfl (det_not rfl) rfl rfl trivial ?_
              refine be rfl ?_
              refine k_then ?_
              refine t_condP not_iff_false rfl (fun hb => ?_) (fun hb => ?_)
              ·
                have hmr := atC_rng hO x
                rw [bitE_tmod (by rw [hms]; exact hmr) ⟨hal.1, hal.2.1⟩, hms] at hb
                have hfb : fitB c cl t lg = false := by
                  cases h : fitB c cl t lg with
                  | false => rfl
                  | true => have := (fitB_iff hO).1 h x htx hx; rw [hb] at this; cases this
                refine t_seq ?_
                refine b0 ?_
                refine o1 rfl (det_assign rfl) rfl rfl trivial ?_
                refine o1 rfl (det_assign rfl) rfl rfl trivial ?_
                refine be rfl ?_
                refine k_then ?_
                refine t_ret (k_thenR (k_blkR (k_thenR (k_blkR (k_thenR (?_))))))
                refine ret_tmp2 rfl rfl rfl rfl (fun w1 hs => ?_)
                exact ⟨by unfold fitsC; rw [hc, ha, hfb]; rfl, hs.keep⟩
              ·
                have hmr := atC_rng hO x
                rw [bitE_tmod (by rw [hms]; exact hmr) ⟨hal.1, hal.2.1⟩, hms] at hb
                have hbit : bitE (atC c x) cl = true := by simpa using hb
                refine t_skip ?_
                refine k_then ?_
                refine b0 ?_
                refine o1 rfl (det_move rfl) rfl rfl trivial ?_
                refine o1 rfl (det_move rfl) rfl rfl trivial ?_
                refine o1 rfl (det_move rfl) rfl rfl trivial ?_
                first | (refine o1 rfl (det_subI rfl rfl ?_) rfl rfl trivial ?_; (· omega)) | refine o1 rfl (det_sub rfl rfl) rfl rfl trivial ?_
                refine o1 rfl (det_fieldAddr fld30_0 rfl) rfl rfl trivial ?_
                refine o1 rfl (det_load1 t1_28 rfl rfl (.head _) rfl) rfl rfl trivial ?_
                refine o1 rfl (det_move rfl) rfl rfl trivial ?_
                first | (refine o1 rfl (det_indexAddr sl28 rfl rfl ?_) rfl rfl trivial ?_; (· (first | decide | omega)))
                refine o1 rfl (det_fieldAddr fld100_1 rfl) rfl rfl trivial ?_
                refine o1 rfl (det_loadK t1_3 rfl (by have := hE2.cells hi 1 (by omega); rw [add_add] at this ⊢; simpa using this)) rfl rfl trivial ?_
                first | (refine o1 rfl (det_addI rfl rfl ?_) rfl rfl trivial ?_; (· omega)) | refine o1 rfl (det_add rfl rfl) rfl rfl trivial ?_
                refine o1 rfl (det_min2 rfl rfl) rfl rfl trivial ?_
                refine o1 rfl (det_assign rfl) rfl rfl trivial ?_
                refine be rfl ?_
                refine k_blk ?_
                refine k_then ?_
                refine loop_back (min (t + lg) (x - (loc (c.ad).es (c.ad).cyc (x - c.wh)).2 + (c.ad).es[(loc (c.ad).es (c.ad).cyc (x - c.wh)).1].2)) ⟨by omega, fun y k1 k2 => by
                    by_cases hy2 : y < x
                    · exact hI y k1 hy2
                    · rw [hsame y (by omega) k2]; exact hbit⟩ (by omega) ⟨rfl, rfl, rfl, rfl, rfl, trivial⟩ (.cons _ (.refl _))
            ·
              have hon : onAd c x = false := by simpa using hb
              refine t_seq ?_
              refine b0 ?_
              refine o1 rfl (det_fieldAddr fld34_2 rfl) rfl rfl trivial ?_
              refine o1 rfl (det_load1 t1_4 rfl rfl (.tail _ (.head _)) rfl) rfl rfl trivial ?_
              refine be rfl ?_
              refine k_then ?_
              refine t_condP Iff.rfl rfl (fun hb => ?_) (fun hb => ?_)
              ·
                have hpe : c.pe = true := hb
                --note:pe
                refine b0 ?_
                refine o1 rfl (det_move rfl) rfl rfl trivial ?_
                refine o1 rfl (det_fieldAddr fld34_4 rfl) rfl rfl trivial ?_
                refine o1 rfl (det_load1 t1_3 rfl rfl (.tail _ (.head _)) rfl) rfl rfl trivial ?_
                refine o1 rfl (det_min2 rfl rfl) rfl rfl trivial ?_
                refine o1 rfl (det_assign rfl) rfl rfl trivial ?_
                refine be rfl ?_
                refine k_then ?_
                refine t_seq ?_
                refine b0 ?_
                refine o1 rfl (det_loadN tN30 rfl rfl (.head _) rfl) rfl rfl trivial ?_
                refine o1 rfl (det_move rfl) rfl rfl trivial ?_
                refine o1 rfl (det_move rfl) rfl rfl trivial ?_
                have hgl : glC c x = c.op := by unfold glC; rw [hon]; rfl
                have hbg : begC c x = c.base := by unfold begC; rw [hon]; rfl
                have hen : endC c (t + lg) x = (min (t + lg) c.wh) := by simp [endC, hon, hpe]
                have hG : okG (c.op).es (c.op).cyc = true := by rw [← hgl]; exact hO.gl x
                have hbs := hO.base
                have hwh := hO.wh
                obtain ⟨hi, hy, hms, hlg, hxn, hsame⟩ := ref_next hO hx hgl hbg hen
                have hyb := loc_bounds hG (x - c.base)
                have hEl := (hC.op).len
                obtain ⟨A, hA⟩ := EntK.some hC.op hi
                have hE2 : EntK F (some A) (c.op).n (c.op).es := by have h0 := hC.op; unfold GlK at h0; rwa [hA] at h0
                first | (refine o1 rfl (det_subI rfl rfl ?_) rfl rfl trivial ?_; (· omega)) | refine o1 rfl (det_sub rfl rfl) rfl rfl trivial ?_
                refine o1 rfl (det_call hb57 rfl rfl (fun w1 hs => at_ok hs.know hC.op hG _)) rfl rfl trivial ?_
                refine o1 rfl (det_move rfl) rfl rfl trivial ?_
                refine o1 rfl (det_extract rfl rfl) rfl rfl trivial ?_
                refine o1 rfl (det_extract rfl rfl) rfl rfl trivial ?_
                refine o1 rfl (det_assign rfl) rfl rfl trivial ?_
                refine o1 rfl (det_assign rfl) rfl rfl trivial ?_
                refine be rfl ?_
                refine k_then ?_
                refine t_seq ?_
                refine t_seq ?_
                refine b0 ?_
                rw [hA]
                refine o1 rfl (det_fieldAddr fld30_0 rfl) rfl rfl trivial ?_
                refine o1 rfl (det_load1 t1_28 rfl rfl (.head _) rfl) rfl rfl trivial ?_
                refine o1 rfl (det_move rfl) rfl rfl trivial ?_
                first | (refine o1 rfl (det_indexAddr sl28 rfl rfl ?_) rfl rfl trivial ?_; (· (first | decide | omega)))
                refine o1 rfl (det_fieldAddr fld100_0 rfl) rfl rfl trivial ?_
                refine o1 rfl (det_loadK t1_3 rfl (by have := hE2.cells hi 0 (by omega); rw [add_add] at this ⊢; simpa using this)) rfl rfl trivial ?_
                refine o1 rfl (det_move rfl) rfl rfl trivial ?_
                refine o1 rfl (det_call hb58 rfl rfl (fun w1 hs => bit_ok hs.know _ _ ⟨hal.1, hal.2.1⟩)) rfl rfl trivial ?_
                refine o1 rfl (det_not rfl) rfl rfl trivial ?_
                refine be rfl ?_
                refine k_then ?_
                refine t_condP not_iff_false rfl (fun hb => ?_) (fun hb => ?_)
                ·
                  have hmr := atC_rng hO x
                  rw [bitE_tmod (by rw [hms]; exact hmr) ⟨hal.1, hal.2.1⟩, hms] at hb
                  have hfb : fitB c cl t lg = false := by
                    cases h : fitB c cl t lg with
                    | false => rfl
                    | true => have := (fitB_iff hO).1 h x htx hx; rw [hb] at this; cases this
                  refine t_seq ?_
                  refine b0 ?_
                  refine o1 rfl (det_assign rfl) rfl rfl trivial ?_
                  refine o1 rfl (det_assign rfl) rfl rfl trivial ?_
                  refine be rfl ?_
                  refine k_then ?_
                  refine t_ret (k_thenR (k_blkR (k_thenR (k_blkR (k_thenR (?_))))))
                  refine ret_tmp2 rfl rfl rfl rfl (fun w1 hs => ?_)
                  exact ⟨by unfold fitsC; rw [hc, ha, hfb]; rfl, hs.keep⟩
                ·
                  have hmr := atC_rng hO x
                  rw [bitE_tmod (by rw [hms]; exact hmr) ⟨hal.1, hal.2.1⟩, hms] at hb
                  have hbit : bitE (atC c x) cl = true := by simpa using hb
                  refine t_skip ?_
                  refine k_then ?_
                  refine b0 ?_
                  refine o1 rfl (det_move rfl) rfl rfl trivial ?_
                  refine o1 rfl (det_move rfl) rfl rfl trivial ?_
                  refine o1 rfl (det_move rfl) rfl rfl trivial ?_
                  first | (refine o1 rfl (det_subI rfl rfl ?_) rfl rfl trivial ?_; (· omega)) | refine o1 rfl (det_sub rfl rfl) rfl rfl trivial ?_
                  refine o1 rfl (det_fieldAddr fld30_0 rfl) rfl rfl trivial ?_
                  refine o1 rfl (det_load1 t1_28 rfl rfl (.head _) rfl) rfl rfl trivial ?_
                  refine o1 rfl (det_move rfl) rfl rfl trivial ?_
                  first | (refine o1 rfl (det_indexAddr sl28 rfl rfl ?_) rfl rfl trivial ?_; (· (first | decide | omega)))
                  refine o1 rfl (det_fieldAddr fld100_1 rfl) rfl rfl trivial ?_
                  refine o1 rfl (det_loadK t1_3 rfl (by have := hE2.cells hi 1 (by omega); rw [add_add] at this ⊢; simpa using this)) rfl rfl trivial ?_
                  first | (refine o1 rfl (det_addI rfl rfl ?_) rfl rfl trivial ?_; (· omega)) | refine o1 rfl (det_add rfl rfl) rfl rfl trivial ?_
                  refine o1 rfl (det_min2 rfl rfl) rfl rfl trivial ?_
                  refine o1 rfl (det_assign rfl) rfl rfl trivial ?_
                  refine be rfl ?_
                  refine k_blk ?_
                  refine k_then ?_
                  refine loop_back (min (min (t + lg) c.wh) (x - (loc (c.op).es (c.op).cyc (x - c.base)).2 + (c.op).es[(loc (c.op).es (c.op).cyc (x - c.base)).1].2)) ⟨by omega, fun y k1 k2 => by
                      by_cases hy2 : y < x
                      · exact hI y k1 hy2
                      · rw [hsame y (by omega) k2]; exact hbit⟩ (by omega) ⟨rfl, rfl, rfl, rfl, rfl, trivial⟩ (.cons _ (.refl _))
              ·
                have hpe : c.pe = false := by simpa using hb
                refine t_skip ?_
                refine k_then ?_
                refine t_seq ?_
                refine b0 ?_
                refine o1 rfl (det_loadN tN30 rfl rfl (.head _) rfl) rfl rfl trivial ?_
                refine o1 rfl (det_move rfl) rfl rfl trivial ?_
                refine o1 rfl (det_move rfl) rfl rfl trivial ?_
                have hgl : glC c x = c.op := by unfold glC; rw [hon]; rfl
                have hbg : begC c x = c.base := by unfold begC; rw [hon]; rfl
                have hen : endC c (t + lg) x = (t + lg) := by simp [endC, hon, hpe]
                have hG : okG (c.op).es (c.op).cyc = true := by rw [← hgl]; exact hO.gl x
                have hbs := hO.base
                have hwh := hO.wh
                obtain ⟨hi, hy, hms, hlg, hxn, hsame⟩ := ref_next hO hx hgl hbg hen
                have hyb := loc_bounds hG (x - c.base)
                have hEl := (hC.op).len
                obtain ⟨A, hA⟩ := EntK.some hC.op hi
                have hE2 : EntK F (some A) (c.op).n (c.op).es := by have h0 := hC.op; unfold GlK at h0; rwa [hA] at h0
                first | (refine o1 rfl (det_subI rfl rfl ?_) rfl rfl trivial ?_; (· omega)) | refine o1 rfl (det_sub rfl rfl) rfl rfl trivial ?_
                refine o1 rfl (det_call hb57 rfl rfl (fun w1 hs => at_ok hs.know hC.op hG _)) rfl rfl trivial ?_
                refine o1 rfl (det_move rfl) rfl rfl trivial ?_
                refine o1 rfl (det_extract rfl rfl) rfl rfl trivial ?_
                refine o1 rfl (det_extract rfl rfl) rfl rfl trivial ?_
                refine o1 rfl (det_assign rfl) rfl rfl trivial ?_
                refine o1 rfl (det_assign rfl) rfl rfl trivial ?_
                refine be rfl ?_
                refine k_then ?_
                refine t_seq ?_
                refine t_seq ?_
                refine b0 ?_
                rw [hA]
                refine o1 rfl (det_fieldAddr fld30_0 rfl) rfl rfl trivial ?_
                refine o1 rfl (det_load1 t1_28 rfl rfl (.head _) rfl) rfl rfl trivial ?_
                refine o1 rfl (det_move rfl) rfl rfl trivial ?_
                first | (refine o1 rfl (det_indexAddr sl28 rfl rfl ?_) rfl rfl trivial ?_; (· (first | decide | omega)))
                refine o1 rfl (det_fieldAddr fld100_0 rfl) rfl rfl trivial ?_
                refine o1 rfl (det_loadK t1_3 rfl (by have := hE2.cells hi 0 (by omega); rw [add_add] at this ⊢; simpa using this)) rfl rfl trivial ?_
                refine o1 rfl (det_move rfl) rfl rfl trivial ?_
                refine o1 rfl (det_call hb58 rfl rfl (fun w1 hs => bit_ok hs.know _ _ ⟨hal.1, hal.2.1⟩)) rfl rfl trivial ?_
                refine o1 rfl (det_not rfl) rfl rfl trivial ?_
                refine be rfl ?_
                refine k_then ?_
                refine t_condP not_iff_false rfl (fun hb => ?_) (fun hb => ?_)
                ·
                  have hmr := atC_rng hO x
                  rw [bitE_tmod (by rw [hms]; exact hmr) ⟨hal.1, hal.2.1⟩, hms] at hb
                  have hfb : fitB c cl t lg = false := by
                    cases h : fitB c cl t lg with
                    | false => rfl
                    | true => have := (fitB_iff hO).1 h x htx hx; rw [hb] at this; cases this
                  refine t_seq ?_
                  refine b0 ?_
                  refine o1 rfl (det_assign rfl) rfl rfl trivial ?_
                  refine o1 rfl (det_assign rfl) rfl rfl trivial ?_
                  refine be rfl ?_
                  refine k_then ?_
                  refine t_ret (k_thenR (k_blkR (k_thenR (k_blkR (k_thenR (?_))))))
                  refine ret_tmp2 rfl rfl rfl rfl (fun w1 hs => ?_)
                  exact ⟨by unfold fitsC; rw [hc, ha, hfb]; rfl, hs.keep⟩
                ·
                  have hmr := atC_rng hO x
                  rw [bitE_tmod (by rw [hms]; exact hmr) ⟨hal.1, hal.2.1⟩, hms] at hb
                  have hbit : bitE (atC c x) cl = true := by simpa using hb
                  refine t_skip ?_
                  refine k_then ?_
                  refine b0 ?_
                  refine o1 rfl (det_move rfl) rfl rfl trivial ?_
                  refine o1 rfl (det_move rfl) rfl rfl trivial ?_
                  refine o1 rfl (det_move rfl) rfl rfl trivial ?_
                  first | (refine o1 rfl (det_subI rfl rfl ?_) rfl rfl trivial ?_; (· omega)) | refine o1 rfl (det_sub rfl rfl) rfl rfl trivial ?_
                  refine o1 rfl (det_fieldAddr fld30_0 rfl) rfl rfl trivial ?_
                  refine o1 rfl (det_load1 t1_28 rfl rfl (.head _) rfl) rfl rfl trivial ?_
                  refine o1 rfl (det_move rfl) rfl rfl trivial ?_
                  first | (refine o1 rfl (det_indexAddr sl28 rfl rfl ?_) rfl rfl trivial ?_; (· (first | decide | omega)))
                  refine o1 rfl (det_fieldAddr fld100_1 rfl) rfl rfl trivial ?_
                  refine o1 rfl (det_loadK t1_3 rfl (by have := hE2.cells hi 1 (by omega); rw [add_add] at this ⊢; simpa using this)) rfl rfl trivial ?_
                  first | (refine o1 rfl (det_addI rfl rfl ?_) rfl rfl trivial ?_; (· omega)) | refine o1 rfl (det_add rfl rfl) rfl rfl trivial ?_
                  refine o1 rfl (det_min2 rfl rfl) rfl rfl trivial ?_
                  refine o1 rfl (det_assign rfl) rfl rfl trivial ?_
                  refine be rfl ?_
                  refine k_blk ?_
                  refine k_then ?_
                  refine loop_back (min (t + lg) (x - (loc (c.op).es (c.op).cyc (x - c.base)).2 + (c.op).es[(loc (c.op).es (c.op).cyc (x - c.base)).1].2)) ⟨by omega, fun y k1 k2 => by
                      by_cases hy2 : y < x
                      · exact hI y k1 hy2
                      · rw [hsame y (by omega) k2]; exact hbit⟩ (by omega) ⟨rfl, rfl, rfl, rfl, rfl, trivial⟩ (.cons _ (.refl _))
          ·
            refine b0 ?_
            refine o1 rfl (det_fieldAddr fld34_2 rfl) rfl rfl trivial ?_
            refine o1 rfl (det_load1 t1_4 rfl rfl (.tail _ (.head _)) rfl) rfl rfl trivial ?_
            refine o2P Iff.rfl rfl (det_move rfl) rfl rfl trivial (fun hb => ?_) (fun hb => ?_)
            ·
              refine o1 rfl (det_move rfl) rfl rfl ⟨_, rfl, rfl⟩ ?_
              refine o1 rfl (det_fieldAddr fld34_4 rfl) rfl rfl ⟨_, rfl, rfl⟩ ?_
              refine o1 rfl (det_load1 t1_3 rfl rfl (.tail _ (.head _)) rfl) rfl rfl ⟨_, rfl, rfl⟩ ?_
              refine o1 rfl (det_geq rfl rfl) rfl rfl ⟨_, rfl, rfl⟩ ?_
              refine o1 rfl (det_pickT rfl rfl) rfl rfl trivial ?_
              refine be rfl ?_
              refine tk_drop ?_ (.refl _) hK
              exact ⟨(mb rfl (by grind [onAd])), rfl, rfl, rfl, rfl, rfl, rfl, rfl, rfl, trivial⟩
            ·
              refine on rfl rfl rfl ⟨_, rfl, .inl rfl⟩ ?_
              refine on rfl rfl rfl ⟨_, rfl, .inl rfl⟩ ?_
              refine on rfl rfl rfl ⟨_, rfl, .inl rfl⟩ ?_
              refine on rfl rfl rfl ⟨_, rfl, .inl rfl⟩ ?_
              refine o1 rfl (det_pickF rfl rfl) rfl rfl trivial ?_
              refine be rfl ?_
              refine tk_drop ?_ (.refl _) hK
              exact ⟨(mb rfl (by grind [onAd])), rfl, rfl, rfl, rfl, rfl, rfl, rfl, rfl, trivial⟩
        ·
          have hft := (fitB_iff (cl := cl) (t := t) (lg := lg) hO).2 fun y h1 h2 => hI y h1 (by omega)
          refine t_exit ?_
          refine k_thenE ?_
          refine k_thenE ?_
          refine k_blkE ?_
          refine k_then ?_
          refine t_seq ?_
          refine b0 ?_
          refine o1 rfl (det_assign rfl) rfl rfl trivial ?_
          refine o1 rfl (det_assign rfl) rfl rfl trivial ?_
          refine be rfl ?_
          refine k_then ?_
          refine t_ret ?_
          refine ret_tmp2 rfl rfl rfl rfl (fun w1 hs => ?_)
          exact ⟨by unfold fitsC; rw [hc, ha, hft]; rfl, hs.keep⟩
    ·
      refine b0 ?_
      refine o1 rfl (det_move rfl) rfl rfl trivial ?_
      refine o1 rfl (det_lss rfl rfl) rfl rfl trivial ?_
      refine o2P decide_eq_true_iff rfl (det_move rfl) rfl rfl trivial (fun hb => ?_) (fun hb => ?_)
      ·
        refine on rfl rfl rfl ⟨_, rfl, .inl rfl⟩ ?_
        refine on rfl rfl rfl ⟨_, rfl, .inl rfl⟩ ?_
        refine o1 rfl (det_pickT rfl rfl) rfl rfl trivial ?_
        refine o1 rfl (det_move rfl) rfl rfl trivial ?_
        refine on rfl rfl rfl ⟨_, rfl, .inl rfl⟩ ?_
        refine on rfl rfl rfl ⟨_, rfl, .inl rfl⟩ ?_
        refine on rfl rfl rfl ⟨_, rfl, .inl rfl⟩ ?_
        refine o1 rfl (det_pickT rfl rfl) rfl rfl trivial ?_
        refine o1 rfl (det_move rfl) rfl rfl trivial ?_
        refine on rfl rfl rfl ⟨_, rfl, .inl rfl⟩ ?_
        refine on rfl rfl rfl ⟨_, rfl, .inl rfl⟩ ?_
        refine o1 rfl (det_pickT rfl rfl) rfl rfl trivial ?_
        refine o1 rfl (det_move rfl) rfl rfl trivial ?_
        refine on rfl rfl rfl ⟨_, rfl, .inl rfl⟩ ?_
        refine on rfl rfl rfl ⟨_, rfl, .inl rfl⟩ ?_
        refine on rfl rfl rfl ⟨_, rfl, .inl rfl⟩ ?_
        refine on rfl rfl rfl ⟨_, rfl, .inl rfl⟩ ?_
        refine on rfl rfl rfl ⟨_, rfl, .inl rfl⟩ ?_
        refine on rfl rfl rfl ⟨_, rfl, .inl rfl⟩ ?_
        refine o1 rfl (det_pickT rfl rfl) rfl rfl trivial ?_
        refine be rfl ?_
        refine tk_drop ?_ (.refl _) hK
        exact ⟨(mb rfl (by unfold argF; grind)), rfl, rfl, rfl, rfl, rfl, rfl, trivial⟩
      ·
        refine o1 rfl (det_move rfl) rfl rfl ⟨_, rfl, rfl⟩ ?_
        refine o1 rfl (det_gtr rfl rfl) rfl rfl ⟨_, rfl, rfl⟩ ?_
        refine o1 rfl (det_pickF rfl rfl) rfl rfl trivial ?_
        refine o2P decide_eq_true_iff rfl (det_move rfl) rfl rfl trivial (fun hb => ?_) (fun hb => ?_)
        ·
          refine on rfl rfl rfl ⟨_, rfl, .inl rfl⟩ ?_
          refine on rfl rfl rfl ⟨_, rfl, .inl rfl⟩ ?_
          refine on rfl rfl rfl ⟨_, rfl, .inl rfl⟩ ?_
          refine o1 rfl (det_pickT rfl rfl) rfl rfl trivial ?_
          refine o1 rfl (det_move rfl) rfl rfl trivial ?_
          refine on rfl rfl rfl ⟨_, rfl, .inl rfl⟩ ?_
          refine on rfl rfl rfl ⟨_, rfl, .inl rfl⟩ ?_
          refine o1 rfl (det_pickT rfl rfl) rfl rfl trivial ?_
          refine o1 rfl (det_move rfl) rfl rfl trivial ?_
          refine on rfl rfl rfl ⟨_, rfl, .inl rfl⟩ ?_
          refine on rfl rfl rfl ⟨_, rfl, .inl rfl⟩ ?_
          refine on rfl rfl rfl ⟨_, rfl, .inl rfl⟩ ?_
          refine on rfl rfl rfl ⟨_, rfl, .inl rfl⟩ ?_
          refine on rfl rfl rfl ⟨_, rfl, .inl rfl⟩ ?_
          refine on rfl rfl rfl ⟨_, rfl, .inl rfl⟩ ?_
          refine o1 rfl (det_pickT rfl rfl) rfl rfl trivial ?_
          refine be rfl ?_
          refine tk_drop ?_ (.refl _) hK
          exact ⟨(mb rfl (by unfold argF; grind)), rfl, rfl, rfl, rfl, rfl, rfl, trivial⟩
        ·
          refine o1 rfl (det_move rfl) rfl rfl ⟨_, rfl, rfl⟩ ?_
          refine o1 rfl (det_call hb53 rfl rfl (fun w1 hs => time_ok hs.know)) rfl rfl ⟨_, rfl, rfl⟩ ?_
          refine o1 rfl (det_not rfl) rfl rfl ⟨_, rfl, rfl⟩ ?_
          refine o1 rfl (det_pickF rfl rfl) rfl rfl trivial ?_
          refine o2P not_iff_false rfl (det_move rfl) rfl rfl trivial (fun hb => ?_) (fun hb => ?_)
          ·
            refine on rfl rfl rfl ⟨_, rfl, .inl rfl⟩ ?_
            refine on rfl rfl rfl ⟨_, rfl, .inl rfl⟩ ?_
            refine o1 rfl (det_pickT rfl rfl) rfl rfl trivial ?_
            refine o1 rfl (det_move rfl) rfl rfl trivial ?_
            refine on rfl rfl rfl ⟨_, rfl, .inl rfl⟩ ?_
            refine on rfl rfl rfl ⟨_, rfl, .inl rfl⟩ ?_
            refine on rfl rfl rfl ⟨_, rfl, .inl rfl⟩ ?_
            refine on rfl rfl rfl ⟨_, rfl, .inl rfl⟩ ?_
            refine on rfl rfl rfl ⟨_, rfl, .inl rfl⟩ ?_
            refine on rfl rfl rfl ⟨_, rfl, .inl rfl⟩ ?_
            refine o1 rfl (det_pickT rfl rfl) rfl rfl trivial ?_
            refine be rfl ?_
            refine tk_drop ?_ (.refl _) hK
            exact ⟨(mb rfl (by unfold argF; grind)), rfl, rfl, rfl, rfl, rfl, rfl, trivial⟩
          ·
            refine o1 rfl (det_move rfl) rfl rfl ⟨_, rfl, rfl⟩ ?_
            refine o1 rfl (det_lss rfl rfl) rfl rfl ⟨_, rfl, rfl⟩ ?_
            refine o1 rfl (det_pickF rfl rfl) rfl rfl trivial ?_
            refine o2P decide_eq_true_iff rfl (det_move rfl) rfl rfl trivial (fun hb => ?_) (fun hb => ?_)
            ·
              refine on rfl rfl rfl ⟨_, rfl, .inl rfl⟩ ?_
              refine on rfl rfl rfl ⟨_, rfl, .inl rfl⟩ ?_
              refine on rfl rfl rfl ⟨_, rfl, .inl rfl⟩ ?_
              refine on rfl rfl rfl ⟨_, rfl, .inl rfl⟩ ?_
              refine on rfl rfl rfl ⟨_, rfl, .inl rfl⟩ ?_
              refine on rfl rfl rfl ⟨_, rfl, .inl rfl⟩ ?_
              refine o1 rfl (det_pickT rfl rfl) rfl rfl trivial ?_
              refine be rfl ?_
              refine tk_drop ?_ (.refl _) hK
              exact ⟨(mb rfl (by unfold argF; grind)), rfl, rfl, rfl, rfl, rfl, rfl, trivial⟩
            ·
              refine o1 rfl (det_move rfl) rfl rfl ⟨_, rfl, rfl⟩ ?_
              refine o1 rfl (det_fieldAddr fld34_0 rfl) rfl rfl ⟨_, rfl, rfl⟩ ?_
              refine o1 rfl (det_fieldAddr fld30_1 rfl) rfl rfl ⟨_, rfl, rfl⟩ ?_
              refine o1 rfl (det_load1 t1_3 rfl rfl (.head _) rfl) rfl rfl ⟨_, rfl, rfl⟩ ?_
              first | (refine o1 rfl (det_mulI rfl rfl ?_) rfl rfl ⟨_, rfl, rfl⟩ ?_; (· omega)) | refine o1 rfl (det_mul rfl rfl) rfl rfl ⟨_, rfl, rfl⟩ ?_
              refine o1 rfl (det_gtr rfl rfl) rfl rfl ⟨_, rfl, rfl⟩ ?_
              refine o1 rfl (det_pickF rfl rfl) rfl rfl trivial ?_
              refine be rfl ?_
              refine tk_drop ?_ (.refl _) hK
              exact ⟨(mb rfl (by unfold argF; grind)), rfl, rfl, rfl, rfl, rfl, rfl, trivial⟩

end Go.Proofs.Sw
