/-
  Walks through layers 27, 29 and 30 and their references.
-/
import Derived.Test.YtgaliocgkjghnaaSwW9
namespace Go.Proofs.Sw
open Go Go.Eng Go.Gt Go.Proofs.Gt Go.Sw
set_option maxRecDepth 4000

/-- Right. -/
theorem right29_ok {w : World} {F : Know} (hF : ∀ a v, F a = some v → w.cell? a = some v) {c : Ch} (hC : ChK F c) : Pure Try.prog 51 [.agg (chv c).toArray] w (.bool (okC c)) := by
  refine fn_pure (F := F) Try.func51 rfl Try.ntmps51 rfl hF ?_
  refine t_seq ?_
  refine b0 ?_
  refine om1 rfl (new_boxN rfl) rfl rfl trivial (fun p1 => ?_)
  refine o1 rfl (det_assign rfl) rfl rfl trivial ?_
  refine be rfl ?_
  refine k_then ?_
  refine t_seq ?_
  refine t_seq ?_
  refine t_merge (env0 := [(1, _), (2, _)]) ⟨rfl, rfl, trivial⟩ 12 (.bool (!(okG c.op.es c.op.cyc && okTm c.base))) ?_ (fun hK => ?_)
  ·
    refine k_then ?_
    refine t_condP Iff.rfl rfl (fun hb => ?_) (fun hb => ?_)
    ·
      have hno : okC c = false := by unfold okC; grind
      refine t_seq ?_
      refine b0 ?_
      refine o1 rfl (det_assign rfl) rfl rfl trivial ?_
      refine be rfl ?_
      refine k_then ?_
      refine t_ret (k_thenR (?_))
      refine ret_tmp rfl rfl rfl (fun w1 hs => ?_)
      exact ⟨by rw [hno], hs.keep⟩
    ·
      have hpar : okG c.op.es c.op.cyc = true ∧ okTm c.base = true := by simpa using hb
      have hcy := okG_cyc hpar.1
      have hbs := of_decide_eq_true (show decide _ = true from hpar.2)
      refine t_skip ?_
      refine k_then ?_
      refine t_seq ?_
      refine t_seq ?_
      refine b0 ?_
      refine o1 rfl (det_fieldAddr fld34_2 rfl) rfl rfl trivial ?_
      refine o1 rfl (det_load1 t1_4 rfl rfl (.head _) rfl) rfl rfl trivial ?_
      refine o1 rfl (det_not rfl) rfl rfl trivial ?_
      refine be rfl ?_
      refine k_then ?_
      refine t_condP not_iff_false rfl (fun hb => ?_) (fun hb => ?_)
      ·
        have hpe : c.pe = false := hb
        refine t_seq ?_
        refine t_merge (env0 := [(1, _)]) ⟨rfl, trivial⟩ 2 (.bool (decide (c.ad.es = [] ∧ c.ad.cyc = 0 ∧ c.wh = 0))) ?_ (fun hK => ?_)
        ·
          refine k_then ?_
          refine t_ret (k_thenR (?_))
          refine ret_tmp rfl rfl rfl (fun w1 hs => ?_)
          exact ⟨by unfold okC; grind, hs.keep⟩
        ·
          refine b0 ?_
          refine o1 rfl (det_fieldAddr fld34_3 rfl) rfl rfl trivial ?_
          refine o1 rfl (det_fieldAddr fld30_0 rfl) rfl rfl trivial ?_
          refine o1 rfl (det_load1 t1_28 rfl rfl (.head _) rfl) rfl rfl trivial ?_
          refine o1 rfl (det_lenS sl28 rfl) rfl rfl trivial ?_
          refine o1 rfl (det_eql rfl rfl) rfl rfl trivial ?_
          refine o2P beq_iff_eq rfl (det_move rfl) rfl rfl trivial (fun hb => ?_) (fun hb => ?_)
          ·
            refine o1 rfl (det_fieldAddr fld34_3 rfl) rfl rfl ⟨_, rfl, rfl⟩ ?_
            refine o1 rfl (det_fieldAddr fld30_1 rfl) rfl rfl ⟨_, rfl, rfl⟩ ?_
            refine o1 rfl (det_load1 t1_3 rfl rfl (.head _) rfl) rfl rfl ⟨_, rfl, rfl⟩ ?_
            refine o1 rfl (det_eql rfl rfl) rfl rfl ⟨_, rfl, rfl⟩ ?_
            refine o1 rfl (det_pickT rfl rfl) rfl rfl trivial ?_
            refine o2P beq_iff_eq rfl (det_move rfl) rfl rfl trivial (fun hb => ?_) (fun hb => ?_)
            ·
              refine o1 rfl (det_fieldAddr fld34_4 rfl) rfl rfl ⟨_, rfl, rfl⟩ ?_
              refine o1 rfl (det_load1 t1_3 rfl rfl (.head _) rfl) rfl rfl ⟨_, rfl, rfl⟩ ?_
              refine o1 rfl (det_eql rfl rfl) rfl rfl ⟨_, rfl, rfl⟩ ?_
              refine o1 rfl (det_pickT rfl rfl) rfl rfl trivial ?_
              refine o1 rfl (det_assign rfl) rfl rfl trivial ?_
              refine be rfl ?_
              refine tk_drop ?_ (.refl _) hK
              exact ⟨(mb rfl (by have := hC.ad.len; have := List.length_eq_zero_iff (l := c.ad.es); grind)), rfl, trivial⟩
            ·
              refine on rfl rfl rfl ⟨_, rfl, .inl rfl⟩ ?_
              refine on rfl rfl rfl ⟨_, rfl, .inl rfl⟩ ?_
              refine on rfl rfl rfl ⟨_, rfl, .inl rfl⟩ ?_
              refine o1 rfl (det_pickF rfl rfl) rfl rfl trivial ?_
              refine o1 rfl (det_assign rfl) rfl rfl trivial ?_
              refine be rfl ?_
              refine tk_drop ?_ (.refl _) hK
              exact ⟨(mb rfl (by have := hC.ad.len; have := List.length_eq_zero_iff (l := c.ad.es); grind)), rfl, trivial⟩
          ·
            refine on rfl rfl rfl ⟨_, rfl, .inl rfl⟩ ?_
            refine on rfl rfl rfl ⟨_, rfl, .inl rfl⟩ ?_
            refine on rfl rfl rfl ⟨_, rfl, .inl rfl⟩ ?_
            refine on rfl rfl rfl ⟨_, rfl, .inl rfl⟩ ?_
            refine o1 rfl (det_pickF rfl rfl) rfl rfl trivial ?_
            refine o1 rfl (det_move rfl) rfl rfl trivial ?_
            refine on rfl rfl rfl ⟨_, rfl, .inl rfl⟩ ?_
            refine on rfl rfl rfl ⟨_, rfl, .inl rfl⟩ ?_
            refine on rfl rfl rfl ⟨_, rfl, .inl rfl⟩ ?_
            refine o1 rfl (det_pickF rfl rfl) rfl rfl trivial ?_
            refine o1 rfl (det_assign rfl) rfl rfl trivial ?_
            refine be rfl ?_
            refine tk_drop ?_ (.refl _) hK
            exact ⟨(mb rfl (by have := hC.ad.len; have := List.length_eq_zero_iff (l := c.ad.es); grind)), rfl, trivial⟩
      ·
        have hpe : c.pe = true := by simpa using hb
        refine t_skip ?_
        refine k_then ?_
        refine t_seq ?_
        refine t_merge (env0 := []) trivial 2 (.bool (okG c.ad.es c.ad.cyc && decide (-1099511627776 ≤ c.wh ∧ c.wh ≤ 2199023255552) && decide ((c.wh - c.base) % c.op.cyc = 0))) ?_ (fun hK => ?_)
        ·
          refine k_then ?_
          refine t_ret ?_
          refine ret_tmp rfl rfl rfl (fun w1 hs => ?_)
          exact ⟨by unfold okC; grind, hs.keep⟩
        ·
          refine b0 ?_
          refine o1 rfl (det_fieldAddr fld34_3 rfl) rfl rfl trivial ?_
          refine o1 rfl (det_loadN tN30 rfl rfl (.head _) rfl) rfl rfl trivial ?_
          refine o1 rfl (det_call hb55 rfl rfl (fun w1 hs => right_ok hs.know hC.ad)) rfl rfl trivial ?_
          refine o2P Iff.rfl rfl (det_move rfl) rfl rfl trivial (fun hb => ?_) (fun hb => ?_)
          ·
            refine o1 rfl (det_fieldAddr fld34_4 rfl) rfl rfl ⟨_, rfl, rfl⟩ ?_
            refine o1 rfl (det_load1 t1_3 rfl rfl (.head _) rfl) rfl rfl ⟨_, rfl, rfl⟩ ?_
            refine o1 rfl (det_geq rfl rfl) rfl rfl ⟨_, rfl, rfl⟩ ?_
            refine o1 rfl (det_pickT rfl rfl) rfl rfl trivial ?_
            refine o2P decide_eq_true_iff rfl (det_move rfl) rfl rfl trivial (fun hb => ?_) (fun hb => ?_)
            ·
              refine o1 rfl (det_fieldAddr fld34_4 rfl) rfl rfl ⟨_, rfl, rfl⟩ ?_
              refine o1 rfl (det_load1 t1_3 rfl rfl (.head _) rfl) rfl rfl ⟨_, rfl, rfl⟩ ?_
              refine o1 rfl (det_leq rfl rfl) rfl rfl ⟨_, rfl, rfl⟩ ?_
              refine o1 rfl (det_pickT rfl rfl) rfl rfl trivial ?_
              refine o2P decide_eq_true_iff rfl (det_move rfl) rfl rfl trivial (fun hb => ?_) (fun hb => ?_)
              ·
                refine o1 rfl (det_fieldAddr fld34_4 rfl) rfl rfl ⟨_, rfl, rfl⟩ ?_
                refine o1 rfl (det_load1 t1_3 rfl rfl (.head _) rfl) rfl rfl ⟨_, rfl, rfl⟩ ?_
                refine o1 rfl (det_fieldAddr fld34_1 rfl) rfl rfl ⟨_, rfl, rfl⟩ ?_
                refine o1 rfl (det_load1 t1_3 rfl rfl (.head _) rfl) rfl rfl ⟨_, rfl, rfl⟩ ?_
                first | (refine o1 rfl (det_subI rfl rfl ?_) rfl rfl ⟨_, rfl, rfl⟩ ?_; (· omega)) | refine o1 rfl (det_sub rfl rfl) rfl rfl ⟨_, rfl, rfl⟩ ?_
                refine o1 rfl (det_fieldAddr fld34_0 rfl) rfl rfl ⟨_, rfl, rfl⟩ ?_
                refine o1 rfl (det_fieldAddr fld30_1 rfl) rfl rfl ⟨_, rfl, rfl⟩ ?_
                refine o1 rfl (det_load1 t1_3 rfl rfl (.head _) rfl) rfl rfl ⟨_, rfl, rfl⟩ ?_
                refine o1 rfl (det_call hb78 rfl rfl (fun w1 hs => rmod_ok hs.know hcy (by omega))) rfl rfl ⟨_, rfl, rfl⟩ ?_
                refine o1 rfl (det_eql rfl rfl) rfl rfl ⟨_, rfl, rfl⟩ ?_
                refine o1 rfl (det_pickT rfl rfl) rfl rfl trivial ?_
                refine o1 rfl (det_assign rfl) rfl rfl trivial ?_
                refine be rfl ?_
                refine tk_drop ?_ (.refl _) hK
                exact ⟨(mb rfl (by grind)), trivial⟩
              ·
                refine on rfl rfl rfl ⟨_, rfl, .inl rfl⟩ ?_
                refine on rfl rfl rfl ⟨_, rfl, .inl rfl⟩ ?_
                refine on rfl rfl rfl ⟨_, rfl, .inl rfl⟩ ?_
                refine on rfl rfl rfl ⟨_, rfl, .inl rfl⟩ ?_
                refine on rfl rfl rfl ⟨_, rfl, .inl rfl⟩ ?_
                refine on rfl rfl rfl ⟨_, rfl, .inl rfl⟩ ?_
                refine on rfl rfl rfl ⟨_, rfl, .inl rfl⟩ ?_
                refine on rfl rfl rfl ⟨_, rfl, .inl rfl⟩ ?_
                refine on rfl rfl rfl ⟨_, rfl, .inl rfl⟩ ?_
                refine on rfl rfl rfl ⟨_, rfl, .inl rfl⟩ ?_
                refine o1 rfl (det_pickF rfl rfl) rfl rfl trivial ?_
                refine o1 rfl (det_assign rfl) rfl rfl trivial ?_
                refine be rfl ?_
                refine tk_drop ?_ (.refl _) hK
                exact ⟨(mb rfl (by grind)), trivial⟩
            ·
              refine on rfl rfl rfl ⟨_, rfl, .inl rfl⟩ ?_
              refine on rfl rfl rfl ⟨_, rfl, .inl rfl⟩ ?_
              refine on rfl rfl rfl ⟨_, rfl, .inl rfl⟩ ?_
              refine o1 rfl (det_pickF rfl rfl) rfl rfl trivial ?_
              refine o1 rfl (det_move rfl) rfl rfl trivial ?_
              refine on rfl rfl rfl ⟨_, rfl, .inl rfl⟩ ?_
              refine on rfl rfl rfl ⟨_, rfl, .inl rfl⟩ ?_
              refine on rfl rfl rfl ⟨_, rfl, .inl rfl⟩ ?_
              refine on rfl rfl rfl ⟨_, rfl, .inl rfl⟩ ?_
              refine on rfl rfl rfl ⟨_, rfl, .inl rfl⟩ ?_
              refine on rfl rfl rfl ⟨_, rfl, .inl rfl⟩ ?_
              refine on rfl rfl rfl ⟨_, rfl, .inl rfl⟩ ?_
              refine on rfl rfl rfl ⟨_, rfl, .inl rfl⟩ ?_
              refine on rfl rfl rfl ⟨_, rfl, .inl rfl⟩ ?_
              refine on rfl rfl rfl ⟨_, rfl, .inl rfl⟩ ?_
              refine o1 rfl (det_pickF rfl rfl) rfl rfl trivial ?_
              refine o1 rfl (det_assign rfl) rfl rfl trivial ?_
              refine be rfl ?_
              refine tk_drop ?_ (.refl _) hK
              exact ⟨(mb rfl (by grind)), trivial⟩
          ·
            refine on rfl rfl rfl ⟨_, rfl, .inl rfl⟩ ?_
            refine on rfl rfl rfl ⟨_, rfl, .inl rfl⟩ ?_
            refine on rfl rfl rfl ⟨_, rfl, .inl rfl⟩ ?_
            refine o1 rfl (det_pickF rfl rfl) rfl rfl trivial ?_
            refine o1 rfl (det_move rfl) rfl rfl trivial ?_
            refine on rfl rfl rfl ⟨_, rfl, .inl rfl⟩ ?_
            refine on rfl rfl rfl ⟨_, rfl, .inl rfl⟩ ?_
            refine on rfl rfl rfl ⟨_, rfl, .inl rfl⟩ ?_
            refine o1 rfl (det_pickF rfl rfl) rfl rfl trivial ?_
            refine o1 rfl (det_move rfl) rfl rfl trivial ?_
            refine on rfl rfl rfl ⟨_, rfl, .inl rfl⟩ ?_
            refine on rfl rfl rfl ⟨_, rfl, .inl rfl⟩ ?_
            refine on rfl rfl rfl ⟨_, rfl, .inl rfl⟩ ?_
            refine on rfl rfl rfl ⟨_, rfl, .inl rfl⟩ ?_
            refine on rfl rfl rfl ⟨_, rfl, .inl rfl⟩ ?_
            refine on rfl rfl rfl ⟨_, rfl, .inl rfl⟩ ?_
            refine on rfl rfl rfl ⟨_, rfl, .inl rfl⟩ ?_
            refine on rfl rfl rfl ⟨_, rfl, .inl rfl⟩ ?_
            refine on rfl rfl rfl ⟨_, rfl, .inl rfl⟩ ?_
            refine on rfl rfl rfl ⟨_, rfl, .inl rfl⟩ ?_
            refine o1 rfl (det_pickF rfl rfl) rfl rfl trivial ?_
            refine o1 rfl (det_assign rfl) rfl rfl trivial ?_
            refine be rfl ?_
            refine tk_drop ?_ (.refl _) hK
            exact ⟨(mb rfl (by grind)), trivial⟩
  ·
    refine b0 ?_
    refine o1 rfl (det_fieldAddr fld34_0 rfl) rfl rfl trivial ?_
    refine o1 rfl (det_loadN tN30 rfl rfl (.head _) rfl) rfl rfl trivial ?_
    refine o1 rfl (det_call hb55 rfl rfl (fun w1 hs => right_ok hs.know hC.op)) rfl rfl trivial ?_
    refine o1 rfl (det_not rfl) rfl rfl trivial ?_
    refine o2P not_iff_false rfl (det_move rfl) rfl rfl trivial (fun hb => ?_) (fun hb => ?_)
    ·
      refine on rfl rfl rfl ⟨_, rfl, .inl rfl⟩ ?_
      refine on rfl rfl rfl ⟨_, rfl, .inl rfl⟩ ?_
      refine on rfl rfl rfl ⟨_, rfl, .inl rfl⟩ ?_
      refine on rfl rfl rfl ⟨_, rfl, .inl rfl⟩ ?_
      refine o1 rfl (det_pickT rfl rfl) rfl rfl trivial ?_
      refine be rfl ?_
      refine tk_drop ?_ (.refl _) hK
      exact ⟨(mb rfl (by grind)), rfl, rfl, trivial⟩
    ·
      refine o1 rfl (det_fieldAddr fld34_1 rfl) rfl rfl ⟨_, rfl, rfl⟩ ?_
      refine o1 rfl (det_load1 t1_3 rfl rfl (.head _) rfl) rfl rfl ⟨_, rfl, rfl⟩ ?_
      refine o1 rfl (det_call hb53 rfl rfl (fun w1 hs => time_ok hs.know)) rfl rfl ⟨_, rfl, rfl⟩ ?_
      refine o1 rfl (det_not rfl) rfl rfl ⟨_, rfl, rfl⟩ ?_
      refine o1 rfl (det_pickF rfl rfl) rfl rfl trivial ?_
      refine be rfl ?_
      refine tk_drop ?_ (.refl _) hK
      exact ⟨(mb rfl (by grind)), rfl, rfl, trivial⟩

/-- The reference's Check. -/
theorem rcheck29_ok {w : World} {F : Know} (hF : ∀ a v, F a = some v → w.cell? a = some v) {c : Ch} (hC : ChK F c) : Pure Try.prog 18 [.agg (chv c).toArray] w (.int .i64 (checkC c)) := by
  refine fn_pure (F := F) Try.func18 rfl Try.ntmps18 rfl hF ?_
  refine t_seq ?_
  refine b0 ?_
  refine om1 rfl (new_boxN rfl) rfl rfl trivial (fun p1 => ?_)
  refine o1 rfl (det_assign rfl) rfl rfl trivial ?_
  refine be rfl ?_
  refine k_then ?_
  refine t_seq ?_
  refine t_seq ?_
  refine b0 ?_
  refine o1 rfl (det_loadN tN34 rfl rfl (.head _) rfl) rfl rfl trivial ?_
  refine o1 rfl (det_call hb51 rfl rfl (fun w1 hs => right29_ok hs.know hC)) rfl rfl trivial ?_
  refine be rfl ?_
  refine k_then ?_
  refine t_condP Iff.rfl rfl (fun hb => ?_) (fun hb => ?_)
  ·
    refine t_seq ?_
    refine b0 ?_
    refine o1 rfl (det_assign rfl) rfl rfl trivial ?_
    refine be rfl ?_
    refine k_then ?_
    refine t_ret (k_thenR (?_))
    refine ret_tmp rfl rfl rfl (fun w1 hs => ?_)
    exact ⟨by unfold checkC; grind, hs.keep⟩
  ·
    refine t_skip ?_
    refine k_then ?_
    refine t_seq ?_
    refine b0 ?_
    refine o1 rfl (det_assign rfl) rfl rfl trivial ?_
    refine be rfl ?_
    refine k_then ?_
    refine t_ret ?_
    refine ret_tmp rfl rfl rfl (fun w1 hs => ?_)
    exact ⟨by unfold checkC; grind, hs.keep⟩

/-- New. -/
theorem new29_ok {w : World} {F : Know} (hF : ∀ a v, F a = some v → w.cell? a = some v) {g : Gl} (hE : GlK F g) {t : Int} : Pure Try.prog 21 [.agg (glv g).toArray, .int .i64 t] w (.tuple [.agg (chv (newC g t).1).toArray, .int .i64 (newC g t).2].toArray) := by
  refine fn_pure (F := F) Try.func21 rfl Try.ntmps21 rfl hF ?_
  refine t_seq ?_
  refine b0 ?_
  refine om1 rfl (new_boxN rfl) rfl rfl trivial (fun p2 => ?_)
  refine om1 rfl (new_alloc z34) rfl rfl trivial (fun p4 => ?_)
  refine o1 rfl (det_assign rfl) rfl rfl trivial ?_
  refine be rfl ?_
  refine k_then ?_
  refine t_seq ?_
  refine t_seq ?_
  refine b0 ?_
  refine o1 rfl (det_loadN tN30 rfl rfl (.tail _ (.head _)) rfl) rfl rfl trivial ?_
  refine o1 rfl (det_call hb48 rfl rfl (fun w1 hs => check_ok hs.know hE)) rfl rfl trivial ?_
  refine o1 rfl (det_assign rfl) rfl rfl trivial ?_
  refine be rfl ?_
  refine k_then ?_
  refine t_seq ?_
  refine b0 ?_
  refine o1 rfl (det_move rfl) rfl rfl trivial ?_
  refine o1 rfl (det_neq rfl rfl) rfl rfl trivial ?_
  refine be rfl ?_
  refine k_then ?_
  refine t_condP bne_iff_ne rfl (fun hb => ?_) (fun hb => ?_)
  ·
    have hg : okG g.es g.cyc = false := by grind
    refine t_seq ?_
    refine b0 ?_
    refine o1 rfl (det_build rfl (fun w => bld34_ w)) rfl rfl trivial ?_
    refine o1 rfl (det_move rfl) rfl rfl trivial ?_
    refine stN nofun rfl tN34 rfl rfl rfl .head rfl trivial rfl rfl ?_
    refine o1 rfl (det_assign rfl) rfl rfl trivial ?_
    refine be rfl ?_
    refine k_then ?_
    refine t_ret (k_thenR (?_))
    refine ret_any (vs := [_, _]) rfl rfl ⟨(.cellN tN34 rfl rfl (.head _) rfl), (.tmp rfl), trivial⟩ rfl (fun w1 hs => ?_)
    exact ⟨by unfold newC; rw [hg]; rfl, hs.keep⟩
  ·
    have hg : okG g.es g.cyc = true := by grind
    refine t_skip ?_
    refine k_then ?_
    refine t_seq ?_
    refine t_seq ?_
    refine b0 ?_
    refine o1 rfl (det_move rfl) rfl rfl trivial ?_
    refine om1 rfl (new_buildSlice rfl (fun w => bsl105_1_0 _ w)) rfl rfl trivial (fun p15 => ?_)
    refine tk_freeze (pre := []) rfl (fun F2 hF2 hNF2 hKF2 => ?_)
    have hX : IntsA F2 (some ⟨p15, 0, none⟩) 1 [t] := intsA_lit (xs := [t]) hKF2
    refine o1 rfl (det_call hb49 rfl rfl (fun w1 hs => times_ok hs.know hX (by decide))) rfl rfl trivial ?_
    refine o1 rfl (det_assign rfl) rfl rfl trivial ?_
    refine be rfl ?_
    refine k_then ?_
    refine t_seq ?_
    refine b0 ?_
    refine o1 rfl (det_move rfl) rfl rfl trivial ?_
    refine o1 rfl (det_neq rfl rfl) rfl rfl trivial ?_
    refine be rfl ?_
    refine k_then ?_
    refine t_condP bne_iff_ne rfl (fun hb => ?_) (fun hb => ?_)
    ·
      have ht : okTm t = false := by simp only [List.all_cons, List.all_nil, Bool.and_true] at hb; grind
      refine t_seq ?_
      refine b0 ?_
      refine o1 rfl (det_build rfl (fun w => bld34_ w)) rfl rfl trivial ?_
      refine o1 rfl (det_move rfl) rfl rfl trivial ?_
      refine stN nofun rfl tN34 rfl rfl rfl .head rfl trivial rfl rfl ?_
      refine o1 rfl (det_assign rfl) rfl rfl trivial ?_
      refine be rfl ?_
      refine k_then ?_
      refine t_ret (k_thenR (?_))
      refine ret_any (vs := [_, _]) rfl rfl ⟨(.cellN tN34 rfl rfl (.head _) rfl), (.tmp rfl), trivial⟩ rfl (fun w1 hs => ?_)
      exact ⟨by unfold newC; rw [hg, ht]; simp only [List.all_cons, List.all_nil, Bool.and_true, ht]; rfl, hs.keep⟩
    ·
      have ht : okTm t = true := by simp only [List.all_cons, List.all_nil, Bool.and_true] at hb; grind
      refine t_skip ?_
      refine k_then ?_
      refine t_seq ?_
      refine b0 ?_
      refine o1 rfl (det_loadN tN30 rfl rfl (.tail _ (.head _)) rfl) rfl rfl trivial ?_
      refine o1 rfl (det_move rfl) rfl rfl trivial ?_
      refine o1 rfl (det_build rfl (fun w => bld34_0_1 _ _ _ _ _ w)) rfl rfl trivial ?_
      refine stN nofun rfl tN34 rfl rfl rfl .head rfl trivial rfl rfl ?_
      refine o1 rfl (det_assign rfl) rfl rfl trivial ?_
      refine be rfl ?_
      refine k_then ?_
      refine t_ret ?_
      refine ret_any (vs := [_, _]) rfl rfl ⟨(.cellN tN34 rfl rfl (.head _) rfl), (.tmp rfl), trivial⟩ rfl (fun w1 hs => ?_)
      exact ⟨by unfold newC; rw [hg, ht]; rfl, hs.keep⟩

/-- The reference's New. -/
theorem rnew29_ok {w : World} {F : Know} (hF : ∀ a v, F a = some v → w.cell? a = some v) {g : Gl} (hE : GlK F g) {t : Int} : Pure Try.prog 22 [.agg (glv g).toArray, .int .i64 t] w (.tuple [.agg (chv (newC g t).1).toArray, .int .i64 (newC g t).2].toArray) := by
  refine fn_pure (F := F) Try.func22 rfl Try.ntmps22 rfl hF ?_
  refine t_seq ?_
  refine b0 ?_
  refine om1 rfl (new_boxN rfl) rfl rfl trivial (fun p2 => ?_)
  refine om1 rfl (new_alloc z34) rfl rfl trivial (fun p4 => ?_)
  refine o1 rfl (det_assign rfl) rfl rfl trivial ?_
  refine be rfl ?_
  refine k_then ?_
  refine t_seq ?_
  refine t_seq ?_
  refine b0 ?_
  refine o1 rfl (det_loadN tN30 rfl rfl (.tail _ (.head _)) rfl) rfl rfl trivial ?_
  refine o1 rfl (det_call hb55 rfl rfl (fun w1 hs => right_ok hs.know hE)) rfl rfl trivial ?_
  refine o1 rfl (det_not rfl) rfl rfl trivial ?_
  refine be rfl ?_
  refine k_then ?_
  refine t_condP not_iff_false rfl (fun hb => ?_) (fun hb => ?_)
  ·
    have hg : okG g.es g.cyc = false := by grind
    refine t_seq ?_
    refine b0 ?_
    refine o1 rfl (det_build rfl (fun w => bld34_ w)) rfl rfl trivial ?_
    refine stN nofun rfl tN34 rfl rfl rfl .head rfl trivial rfl rfl ?_
    refine o1 rfl (det_assign rfl) rfl rfl trivial ?_
    refine be rfl ?_
    refine k_then ?_
    refine t_ret (k_thenR (?_))
    refine ret_any (vs := [_, _]) rfl rfl ⟨(.cellN tN34 rfl rfl (.head _) rfl), (.tmp rfl), trivial⟩ rfl (fun w1 hs => ?_)
    exact ⟨by unfold newC; rw [hg]; rfl, hs.keep⟩
  ·
    have hg : okG g.es g.cyc = true := by grind
    refine t_skip ?_
    refine k_then ?_
    refine t_seq ?_
    refine t_seq ?_
    refine b0 ?_
    refine o1 rfl (det_move rfl) rfl rfl trivial ?_
    refine o1 rfl (det_call hb53 rfl rfl (fun w1 hs => time_ok hs.know)) rfl rfl trivial ?_
    refine o1 rfl (det_not rfl) rfl rfl trivial ?_
    refine be rfl ?_
    refine k_then ?_
    refine t_condP not_iff_false rfl (fun hb => ?_) (fun hb => ?_)
    ·
      have ht : okTm t = false := by grind
      refine t_seq ?_
      refine b0 ?_
      refine o1 rfl (det_build rfl (fun w => bld34_ w)) rfl rfl trivial ?_
      refine stN nofun rfl tN34 rfl rfl rfl .head rfl trivial rfl rfl ?_
      refine o1 rfl (det_assign rfl) rfl rfl trivial ?_
      refine be rfl ?_
      refine k_then ?_
      refine t_ret (k_thenR (?_))
      refine ret_any (vs := [_, _]) rfl rfl ⟨(.cellN tN34 rfl rfl (.head _) rfl), (.tmp rfl), trivial⟩ rfl (fun w1 hs => ?_)
      exact ⟨by unfold newC; rw [hg, ht]; rfl, hs.keep⟩
    ·
      have ht : okTm t = true := by grind
      refine t_skip ?_
      refine k_then ?_
      refine t_seq ?_
      refine b0 ?_
      refine o1 rfl (det_loadN tN30 rfl rfl (.tail _ (.head _)) rfl) rfl rfl trivial ?_
      refine o1 rfl (det_move rfl) rfl rfl trivial ?_
      refine o1 rfl (det_build rfl (fun w => bld34_0_1 _ _ _ _ _ w)) rfl rfl trivial ?_
      refine stN nofun rfl tN34 rfl rfl rfl .head rfl trivial rfl rfl ?_
      refine o1 rfl (det_assign rfl) rfl rfl trivial ?_
      refine be rfl ?_
      refine k_then ?_
      refine t_ret ?_
      refine ret_any (vs := [_, _]) rfl rfl ⟨(.cellN tN34 rfl rfl (.head _) rfl), (.tmp rfl), trivial⟩ rfl (fun w1 hs => ?_)
      exact ⟨by unfold newC; rw [hg, ht]; rfl, hs.keep⟩

/-- advance. -/
theorem advance_on {w : World} {F : Know} (hF : ∀ a v, F a = some v → w.cell? a = some v) {p : Nat} {c : Ch} {now : Int} (haway : ∀ a v, F a = some v → a.block ∉ idsO ([(p, .cells (chv c).toArray 103 (0, 0))])) (hnd : (idsO ([(p, .cells (chv c).toArray 103 (0, 0))])).Nodup) (hown : ∀ y ∈ ([(p, .cells (chv c).toArray 103 (0, 0))] : Own), w.heap[y.1]? = some y.2) : CallsOn Try.prog 59 [.pointer (some ⟨p, 0, none⟩), .int .i64 now] w ([(p, .cells (chv c).toArray 103 (0, 0))]) (fun v cp1 => v = .tuple #[] ∧ cp1 = [(p, .cells (chv (laterC c now)).toArray 103 (0, 0))]) := by
  refine fn_on (F := F) Try.func59 rfl Try.ntmps59 rfl hF haway hnd hown ?_
  refine t_seq ?_
  refine t_merge (env0 := [(0, _)]) ⟨rfl, trivial⟩ 25 (.bool (c.pe && decide (c.wh ≤ now ∧ c.wh ≤ 1099511627776))) ?_ (fun hK => ?_)
  ·
    refine k_then ?_
    refine t_condP Iff.rfl rfl (fun hb => ?_) (fun hb => ?_)
    ·
      have hl : (c.pe && decide (c.wh ≤ now ∧ c.wh ≤ 1099511627776)) = true := hb
      refine bD mixed ?_
      refine r_seg 15 14 [] [0, 1, 2, 3, 4, 5, 6, 7, 8, 9, 10, 11, 12, 13] (by kernel_rfl) ?_
      refine s1 rfl (det_move rfl) rfl rfl trivial rfl ?_
      refine s1 rfl (det_move rfl) rfl rfl trivial rfl ?_
      refine s1 rfl (det_nilCheck rfl) rfl rfl trivial rfl ?_
      refine s1 rfl (det_fieldAddr fld103_0 rfl) rfl rfl trivial rfl ?_
      refine s1 rfl (det_fieldAddr fld34_3 rfl) rfl rfl trivial rfl ?_
      refine s1 rfl (det_loadN tN30 rfl rfl (.head _) rfl) rfl rfl trivial rfl ?_
      refine s1 rfl (det_move rfl) rfl rfl trivial rfl ?_
      refine s1 rfl (det_nilCheck rfl) rfl rfl trivial rfl ?_
      refine s1 rfl (det_fieldAddr fld103_0 rfl) rfl rfl trivial rfl ?_
      refine s1 rfl (det_fieldAddr fld34_4 rfl) rfl rfl trivial rfl ?_
      refine s1 rfl (det_load1 t1_3 rfl rfl (.head _) rfl) rfl rfl trivial rfl ?_
      refine s1 rfl (det_build rfl (fun w => bld34_0_1 _ _ _ _ _ w)) rfl rfl trivial rfl ?_
      refine s1 rfl (det_nilCheck rfl) rfl rfl trivial rfl ?_
      refine s1 rfl (det_fieldAddr fld103_0 rfl) rfl rfl trivial rfl ?_
      refine sg_nil ?_
      refine stN (fun _ => by kernel_rfl) rfl tN34 rfl rfl rfl .head rfl trivial rfl rfl ?_
      refine be rfl ?_
      refine end_none rfl rfl (fun w1 hs => ?_)
      refine end_on (bs := []) (cp' := [(p, .cells (chv (⟨c.ad, c.wh, false, g0, 0⟩ : Ch)).toArray 103 (0, 0))]) hs rfl ?_
      unfold laterC; rw [hl]; exact ⟨rfl, rfl⟩
    ·
      have hl : (c.pe && decide (c.wh ≤ now ∧ c.wh ≤ 1099511627776)) = false := by simpa using hb
      refine t_skip ?_
      refine end_none rfl rfl (fun w1 hs => ?_)
      refine end_on (bs := []) hs rfl ?_
      unfold laterC; rw [hl]; exact ⟨rfl, rfl⟩
  ·
    refine b0 ?_
    refine o1 rfl (det_move rfl) rfl rfl trivial ?_
    refine o1 rfl (det_nilCheck rfl) rfl rfl trivial ?_
    refine o1 rfl (det_fieldAddr fld103_0 rfl) rfl rfl trivial ?_
    refine o1 rfl (det_fieldAddr fld34_2 rfl) rfl rfl trivial ?_
    refine o1 rfl (det_load1 t1_4 rfl rfl (.head _) rfl) rfl rfl trivial ?_
    refine o2P Iff.rfl rfl (det_move rfl) rfl rfl trivial (fun hb => ?_) (fun hb => ?_)
    ·
      refine o1 rfl (det_move rfl) rfl rfl ⟨_, rfl, rfl⟩ ?_
      refine o1 rfl (det_move rfl) rfl rfl ⟨_, rfl, rfl⟩ ?_
      refine o1 rfl (det_nilCheck rfl) rfl rfl ⟨_, rfl, rfl⟩ ?_
      refine o1 rfl (det_fieldAddr fld103_0 rfl) rfl rfl ⟨_, rfl, rfl⟩ ?_
      refine o1 rfl (det_fieldAddr fld34_4 rfl) rfl rfl ⟨_, rfl, rfl⟩ ?_
      refine o1 rfl (det_load1 t1_3 rfl rfl (.head _) rfl) rfl rfl ⟨_, rfl, rfl⟩ ?_
      refine o1 rfl (det_geq rfl rfl) rfl rfl ⟨_, rfl, rfl⟩ ?_
      refine o1 rfl (det_pickT rfl rfl) rfl rfl trivial ?_
      refine o2P decide_eq_true_iff rfl (det_move rfl) rfl rfl trivial (fun hb => ?_) (fun hb => ?_)
      ·
        refine o1 rfl (det_move rfl) rfl rfl ⟨_, rfl, rfl⟩ ?_
        refine o1 rfl (det_nilCheck rfl) rfl rfl ⟨_, rfl, rfl⟩ ?_
        refine o1 rfl (det_fieldAddr fld103_0 rfl) rfl rfl ⟨_, rfl, rfl⟩ ?_
        refine o1 rfl (det_fieldAddr fld34_4 rfl) rfl rfl ⟨_, rfl, rfl⟩ ?_
        refine o1 rfl (det_load1 t1_3 rfl rfl (.head _) rfl) rfl rfl ⟨_, rfl, rfl⟩ ?_
        refine o1 rfl (det_leq rfl rfl) rfl rfl ⟨_, rfl, rfl⟩ ?_
        refine o1 rfl (det_pickT rfl rfl) rfl rfl trivial ?_
        refine be rfl ?_
        refine tk_drop ?_ (.refl _) hK
        exact ⟨(mb rfl (by grind)), rfl, trivial⟩
      ·
        refine on rfl rfl rfl ⟨_, rfl, .inl rfl⟩ ?_
        refine on rfl rfl rfl ⟨_, rfl, .inl rfl⟩ ?_
        refine on rfl rfl rfl ⟨_, rfl, .inl rfl⟩ ?_
        refine on rfl rfl rfl ⟨_, rfl, .inl rfl⟩ ?_
        refine on rfl rfl rfl ⟨_, rfl, .inl rfl⟩ ?_
        refine on rfl rfl rfl ⟨_, rfl, .inl rfl⟩ ?_
        refine o1 rfl (det_pickF rfl rfl) rfl rfl trivial ?_
        refine be rfl ?_
        refine tk_drop ?_ (.refl _) hK
        exact ⟨(mb rfl (by grind)), rfl, trivial⟩
    ·
      refine on rfl rfl rfl ⟨_, rfl, .inl rfl⟩ ?_
      refine on rfl rfl rfl ⟨_, rfl, .inl rfl⟩ ?_
      refine on rfl rfl rfl ⟨_, rfl, .inl rfl⟩ ?_
      refine on rfl rfl rfl ⟨_, rfl, .inl rfl⟩ ?_
      refine on rfl rfl rfl ⟨_, rfl, .inl rfl⟩ ?_
      refine on rfl rfl rfl ⟨_, rfl, .inl rfl⟩ ?_
      refine on rfl rfl rfl ⟨_, rfl, .inl rfl⟩ ?_
      refine o1 rfl (det_pickF rfl rfl) rfl rfl trivial ?_
      refine o1 rfl (det_move rfl) rfl rfl trivial ?_
      refine on rfl rfl rfl ⟨_, rfl, .inl rfl⟩ ?_
      refine on rfl rfl rfl ⟨_, rfl, .inl rfl⟩ ?_
      refine on rfl rfl rfl ⟨_, rfl, .inl rfl⟩ ?_
      refine on rfl rfl rfl ⟨_, rfl, .inl rfl⟩ ?_
      refine on rfl rfl rfl ⟨_, rfl, .inl rfl⟩ ?_
      refine on rfl rfl rfl ⟨_, rfl, .inl rfl⟩ ?_
      refine o1 rfl (det_pickF rfl rfl) rfl rfl trivial ?_
      refine be rfl ?_
      refine tk_drop ?_ (.refl _) hK
      exact ⟨(mb rfl (by grind)), rfl, trivial⟩

section
variable {c : Cx} {F : Know} {cp rest : Own} {w : World}
theorem sat_away (hs : Sat c F (cp ++ rest) w) : ∀ a v, F a = some v → a.block ∉ idsO cp := fun a v ha hm => hs.away a v ha (by rw [List.map_append]; exact List.mem_append_left _ hm)
theorem sat_nodup (hs : Sat c F (cp ++ rest) w) : (idsO cp).Nodup := by
  have h := hs.nodup
  rw [List.map_append, List.nodup_append] at h
  exact h.1
theorem sat_own (hs : Sat c F (cp ++ rest) w) : ∀ y ∈ cp, w.heap[y.1]? = some y.2 := fun y hy => hs.own y (List.mem_append_left _ hy)
end
/-- Advance. -/
theorem adv_ok {w : World} {F : Know} (hF : ∀ a v, F a = some v → w.cell? a = some v) {c : Ch} (hC : ChK F c) {now : Int} : Pure Try.prog 28 [.agg (chv c).toArray, .int .i64 now] w (.tuple [.agg (chv (advC c now).1).toArray, .int .i64 (advC c now).2].toArray) := by
  refine fn_pure (F := F) Try.func28 rfl Try.ntmps28 rfl hF ?_
  refine t_seq ?_
  refine b0 ?_
  refine om1 rfl (new_boxN rfl) rfl rfl trivial (fun p2 => ?_)
  refine om1 rfl (new_alloc z34) rfl rfl trivial (fun p4 => ?_)
  refine o1 rfl (det_assign rfl) rfl rfl trivial ?_
  refine be rfl ?_
  refine k_then ?_
  refine t_seq ?_
  refine t_seq ?_
  refine b0 ?_
  refine o1 rfl (det_loadN tN34 rfl rfl (.tail _ (.head _)) rfl) rfl rfl trivial ?_
  refine o1 rfl (det_call hb17 rfl rfl (fun w1 hs => check29_ok hs.know hC)) rfl rfl trivial ?_
  refine o1 rfl (det_assign rfl) rfl rfl trivial ?_
  refine be rfl ?_
  refine k_then ?_
  refine t_seq ?_
  refine b0 ?_
  refine o1 rfl (det_move rfl) rfl rfl trivial ?_
  refine o1 rfl (det_neq rfl rfl) rfl rfl trivial ?_
  refine be rfl ?_
  refine k_then ?_
  refine t_condP bne_iff_ne rfl (fun hb => ?_) (fun hb => ?_)
  ·
    have hc : okC c = false := by unfold checkC at hb; grind
    refine t_seq ?_
    refine b0 ?_
    refine o1 rfl (det_build rfl (fun w => bld34_ w)) rfl rfl trivial ?_
    refine o1 rfl (det_move rfl) rfl rfl trivial ?_
    refine stN nofun rfl tN34 rfl rfl rfl .head rfl trivial rfl rfl ?_
    refine o1 rfl (det_assign rfl) rfl rfl trivial ?_
    refine be rfl ?_
    refine k_then ?_
    refine t_ret (k_thenR (?_))
    refine ret_any (vs := [_, _]) rfl rfl ⟨(.cellN tN34 rfl rfl (.head _) rfl), (.tmp rfl), trivial⟩ rfl (fun w1 hs => ?_)
    exact ⟨by unfold advC checkC; rw [hc]; rfl, hs.keep⟩
  ·
    have hc : okC c = true := by unfold checkC at hb; grind
    refine t_skip ?_
    refine k_then ?_
    refine t_seq ?_
    refine t_seq ?_
    refine b0 ?_
    refine o1 rfl (det_move rfl) rfl rfl trivial ?_
    refine om1 rfl (new_buildSlice rfl (fun w => bsl105_1_0 _ w)) rfl rfl trivial (fun p16 => ?_)
    refine tk_freeze (pre := []) rfl (fun F2 hF2 hNF2 hKF2 => ?_)
    have hX : IntsA F2 (some ⟨p16, 0, none⟩) 1 [now] := intsA_lit (xs := [now]) hKF2
    refine o1 rfl (det_call hb49 rfl rfl (fun w1 hs => times_ok hs.know hX (by decide))) rfl rfl trivial ?_
    refine o1 rfl (det_assign rfl) rfl rfl trivial ?_
    refine be rfl ?_
    refine k_then ?_
    refine t_seq ?_
    refine b0 ?_
    refine o1 rfl (det_move rfl) rfl rfl trivial ?_
    refine o1 rfl (det_neq rfl rfl) rfl rfl trivial ?_
    refine be rfl ?_
    refine k_then ?_
    refine t_condP bne_iff_ne rfl (fun hb => ?_) (fun hb => ?_)
    ·
      have ht : okTm now = false := by simp only [List.all_cons, List.all_nil, Bool.and_true] at hb; grind
      refine t_seq ?_
      refine b0 ?_
      refine o1 rfl (det_build rfl (fun w => bld34_ w)) rfl rfl trivial ?_
      refine o1 rfl (det_move rfl) rfl rfl trivial ?_
      refine stN nofun rfl tN34 rfl rfl rfl .head rfl trivial rfl rfl ?_
      refine o1 rfl (det_assign rfl) rfl rfl trivial ?_
      refine be rfl ?_
      refine k_then ?_
      refine t_ret (k_thenR (?_))
      refine ret_any (vs := [_, _]) rfl rfl ⟨(.cellN tN34 rfl rfl (.head _) rfl), (.tmp rfl), trivial⟩ rfl (fun w1 hs => ?_)
      exact ⟨by unfold advC; rw [hc, ht]; simp only [List.all_cons, List.all_nil, Bool.and_true, ht]; rfl, hs.keep⟩
    ·
      have ht : okTm now = true := by simp only [List.all_cons, List.all_nil, Bool.and_true] at hb; grind
      refine t_skip ?_
      refine k_then ?_
      refine t_seq ?_
      refine b0 ?_
      refine o1 rfl (det_loadN tN34 rfl rfl (.tail _ (.head _)) rfl) rfl rfl trivial ?_
      refine o1 rfl (det_build rfl (fun w => bld103_0 _ _ _ _ _ _ _ _ _ _ _ w)) rfl rfl trivial ?_
      refine om1 rfl (new_boxN rfl) rfl rfl trivial (fun p24 => ?_)
      refine o1 rfl (det_assign rfl) rfl rfl trivial ?_
      refine be rfl ?_
      refine k_then ?_
      refine t_seq ?_
      refine b0 ?_
      refine o1 rfl (det_move rfl) rfl rfl trivial ?_
      refine o1 rfl (det_move rfl) rfl rfl trivial ?_
      refine oOn (cp := [_]) (rest := [_, _]) nofun rfl hb59 rfl rfl rfl trivial (fun w1 hs => (advance_on hs.know (sat_away hs) (sat_nodup hs) (sat_own hs))) (fun v cp1 hv hi1 => ?_)
      obtain ⟨rfl, rfl⟩ := hv
      refine be rfl ?_
      refine k_then ?_
      refine t_seq ?_
      refine b0 ?_
      refine o1 rfl (det_move rfl) rfl rfl trivial ?_
      refine o1 rfl (det_nilCheck rfl) rfl rfl trivial ?_
      refine o1 rfl (det_fieldAddr fld103_0 rfl) rfl rfl trivial ?_
      refine o1 rfl (det_loadN tN34 rfl rfl (.head _) rfl) rfl rfl trivial ?_
      refine stN nofun rfl tN34 rfl rfl rfl (.tail .head) rfl trivial rfl rfl ?_
      refine o1 rfl (det_assign rfl) rfl rfl trivial ?_
      refine be rfl ?_
      refine k_then ?_
      refine t_ret ?_
      refine ret_any (vs := [_, _]) rfl rfl ⟨(.cellN tN34 rfl rfl (.tail _ (.head _)) rfl), (.tmp rfl), trivial⟩ rfl (fun w1 hs => ?_)
      exact ⟨by unfold advC; rw [hc, ht]; rfl, hs.keep⟩

end Go.Proofs.Sw
