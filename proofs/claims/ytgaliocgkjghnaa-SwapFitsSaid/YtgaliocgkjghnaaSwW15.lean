/-
  Walks through layers 27, 29 and 30 and their references.
-/
import Derived.Test.YtgaliocgkjghnaaSwW14
import Derived.Test.YtgaliocgkjghnaaSwWD
import Derived.Test.YtgaliocgkjghnaaSwWL
namespace Go.Proofs.Sw
open Go Go.Eng Go.Gt Go.Proofs.Gt Go.Sw
set_option maxRecDepth 4000

/-- mask. -/
theorem hmask29_ok {w : World} {F : Know} (hF : ∀ a v, F a = some v → w.cell? a = some v) {c : Ch} (hC : ChK F c) {t : Int} : Pure Try.prog 30 [.agg (chv c).toArray, .int .i64 t] w (.int .i64 (if (maskC c t).2 = 0 then (maskC c t).1 else -1)) := by
  refine fn_pure (F := F) Try.func30 rfl Try.ntmps30 rfl hF ?_
  refine t_seq ?_
  refine b0 ?_
  refine om1 rfl (new_boxN rfl) rfl rfl trivial (fun p2 => ?_)
  refine o1 rfl (det_assign rfl) rfl rfl trivial ?_
  refine be rfl ?_
  refine k_then ?_
  refine t_seq ?_
  refine b0 ?_
  refine o1 rfl (det_loadN tN34 rfl rfl (.head _) rfl) rfl rfl trivial ?_
  refine o1 rfl (det_move rfl) rfl rfl trivial ?_
  refine o1 rfl (det_call hb19 rfl rfl (fun w1 hs => mask29_ok hs.know hC)) rfl rfl trivial ?_
  refine o1 rfl (det_move rfl) rfl rfl trivial ?_
  refine o1 rfl (det_extract rfl rfl) rfl rfl trivial ?_
  refine o1 rfl (det_extract rfl rfl) rfl rfl trivial ?_
  refine o1 rfl (det_assign rfl) rfl rfl trivial ?_
  refine o1 rfl (det_assign rfl) rfl rfl trivial ?_
  refine be rfl ?_
  refine k_then ?_
  refine t_seq ?_
  refine t_seq ?_
  refine b0 ?_
  refine o1 rfl (det_move rfl) rfl rfl trivial ?_
  refine o1 rfl (det_neq rfl rfl) rfl rfl trivial ?_
  refine be rfl ?_
  refine k_then ?_
  refine t_condP bne_iff_ne rfl (fun hb => ?_) (fun hb => ?_)
  ·
    refine t_seq ?_
    refine b0 ?_
    refine o1 rfl (det_assign rfl) rfl rfl trivial ?_
    refine be rfl ?_
    refine k_then ?_
    refine t_ret (k_thenR (?_))
    refine ret_tmp rfl rfl rfl (fun w1 hs => ?_)
    exact ⟨by rw [if_neg hb], hs.keep⟩
  ·
    refine t_skip ?_
    refine k_then ?_
    refine t_seq ?_
    refine b0 ?_
    refine o1 rfl (det_move rfl) rfl rfl trivial ?_
    refine o1 rfl (det_assign rfl) rfl rfl trivial ?_
    refine be rfl ?_
    refine k_then ?_
    refine t_ret ?_
    refine ret_tmp rfl rfl rfl (fun w1 hs => ?_)
    exact ⟨by rw [if_pos (by simpa using hb)], hs.keep⟩

/-- fits. -/
theorem hfits29_ok {w : World} {F : Know} (hF : ∀ a v, F a = some v → w.cell? a = some v) {c : Ch} (hC : ChK F c) {cl t lg : Int} (hcl : -9223372036854775808 ≤ cl ∧ cl ≤ 9223372036854775807) : Pure Try.prog 31 [.agg (chv c).toArray, .int .i64 cl, .int .i64 t, .int .i64 lg] w (.bool ((fitsC c cl t lg).1 && decide ((fitsC c cl t lg).2 = 0))) := by
  refine fn_pure (F := F) Try.func31 rfl Try.ntmps31 rfl hF ?_
  refine t_seq ?_
  refine b0 ?_
  refine om1 rfl (new_boxN rfl) rfl rfl trivial (fun p4 => ?_)
  refine o1 rfl (det_assign rfl) rfl rfl trivial ?_
  refine be rfl ?_
  refine k_then ?_
  refine t_seq ?_
  refine b0 ?_
  refine o1 rfl (det_loadN tN34 rfl rfl (.head _) rfl) rfl rfl trivial ?_
  refine o1 rfl (det_move rfl) rfl rfl trivial ?_
  refine o1 rfl (det_move rfl) rfl rfl trivial ?_
  refine o1 rfl (det_move rfl) rfl rfl trivial ?_
  refine o1 rfl (det_call hb25 rfl rfl (fun w1 hs => fits29_ok hs.know hC hcl)) rfl rfl trivial ?_
  refine o1 rfl (det_move rfl) rfl rfl trivial ?_
  refine o1 rfl (det_extract rfl rfl) rfl rfl trivial ?_
  refine o1 rfl (det_extract rfl rfl) rfl rfl trivial ?_
  refine o1 rfl (det_assign rfl) rfl rfl trivial ?_
  refine o1 rfl (det_assign rfl) rfl rfl trivial ?_
  refine be rfl ?_
  refine k_then ?_
  refine t_seq ?_
  refine b0 ?_
  refine o1 rfl (det_move rfl) rfl rfl trivial ?_
  refine o2P Iff.rfl rfl (det_move rfl) rfl rfl trivial (fun hb => ?_) (fun hb => ?_)
  ·
    refine o1 rfl (det_move rfl) rfl rfl ⟨_, rfl, rfl⟩ ?_
    refine o1 rfl (det_eql rfl rfl) rfl rfl ⟨_, rfl, rfl⟩ ?_
    refine o1 rfl (det_pickT rfl rfl) rfl rfl trivial ?_
    refine o1 rfl (det_assign rfl) rfl rfl trivial ?_
    refine be rfl ?_
    refine k_then ?_
    refine t_ret ?_
    refine ret_tmp rfl rfl rfl (fun w1 hs => ?_)
    exact ⟨by grind, hs.keep⟩
  ·
    refine on rfl rfl rfl ⟨_, rfl, .inl rfl⟩ ?_
    refine on rfl rfl rfl ⟨_, rfl, .inl rfl⟩ ?_
    refine o1 rfl (det_pickF rfl rfl) rfl rfl trivial ?_
    refine o1 rfl (det_assign rfl) rfl rfl trivial ?_
    refine be rfl ?_
    refine k_then ?_
    refine t_ret ?_
    refine ret_tmp rfl rfl rfl (fun w1 hs => ?_)
    exact ⟨by grind, hs.keep⟩

/-- Bend.of. -/
theorem bend_ok {w : World} {F : Know} (hF : ∀ a v, F a = some v → w.cell? a = some v) {wt N : Int} {g : Gl} {c : Ch} (hcap : g.n ≤ g.cap) (hw : 0 ≤ wt ∧ wt ≤ 255) (hwh : -1000000 ≤ c.wh ∧ c.wh ≤ 1000000) : Pure Try.prog 16 [.agg [.int .u8 wt, .int .i64 N, .slice g.A g.n g.cap, .int .i64 g.cyc].toArray, .agg (chv c).toArray] w (.agg (chv (bendC wt N ({ g with n := min 130 g.n, es := g.es.take 130 }) c)).toArray) := by
  refine fn_pure (F := F) Try.func16 rfl Try.ntmps16 rfl hF ?_
  refine t_seq ?_
  refine b0 ?_
  refine om1 rfl (new_boxN rfl) rfl rfl trivial (fun p2 => ?_)
  refine om1 rfl (new_boxN rfl) rfl rfl trivial (fun p3 => ?_)
  refine om1 rfl (new_alloc z34) rfl rfl trivial (fun p4 => ?_)
  refine be rfl ?_
  refine k_then ?_
  refine t_seq ?_
  refine b0 ?_
  refine o1 rfl (det_fieldAddr fld32_2 rfl) rfl rfl trivial ?_
  refine o1 rfl (det_loadN tN30 rfl rfl (.tail _ (.tail _ (.head _))) rfl) rfl rfl trivial ?_
  refine om1 rfl (new_alloc z30) rfl rfl trivial (fun p5 => ?_)
  refine stN nofun rfl tN30 rfl rfl rfl .head rfl trivial rfl rfl ?_
  refine be rfl ?_
  refine k_then ?_
  refine t_seq ?_
  refine b0 ?_
  refine o1 rfl (det_fieldAddr fld30_0 rfl) rfl rfl trivial ?_
  refine o1 rfl (det_load1 t1_28 rfl rfl (.head _) rfl) rfl rfl trivial ?_
  refine o1 rfl (det_fieldAddr fld30_0 rfl) rfl rfl trivial ?_
  refine o1 rfl (det_load1 t1_28 rfl rfl (.head _) rfl) rfl rfl trivial ?_
  refine o1 rfl (det_lenS sl28 rfl) rfl rfl trivial ?_
  refine o1 rfl (det_min2 rfl rfl) rfl rfl trivial ?_
  first | (refine o1 rfl (det_sliceTo sl28 rfl rfl ?_) rfl rfl trivial ?_; (· omega))
  rw [show (min (g.n : Int) 130).toNat = min 130 g.n by omega]
  refine o1 rfl (det_fieldAddr fld30_0 rfl) rfl rfl trivial ?_
  refine st1 nofun rfl t1_28 rfl rfl rfl .head rfl trivial rfl ?_
  refine be rfl ?_
  refine k_then ?_
  refine t_seq ?_
  refine t_seq ?_
  refine b0 ?_
  refine o1 rfl (det_fieldAddr fld32_0 rfl) rfl rfl trivial ?_
  refine o1 rfl (det_load1 t1_5 rfl rfl (.tail _ (.tail _ (.tail _ (.head _)))) rfl) rfl rfl trivial ?_
  first | (refine o1 rfl (det_remP rfl rfl ?_) rfl rfl trivial ?_; (· omega)) | (refine o1 rfl (det_rem rfl rfl ?_) rfl rfl trivial ?_; (· (first | decide | omega)))
  refine be rfl ?_
  refine k_then ?_
  refine t_block ?_
  refine t_seq ?_
  refine b0 ?_
  refine o1 rfl (det_eql rfl rfl) rfl rfl trivial ?_
  refine o1 rfl (det_assign rfl) rfl rfl trivial ?_
  refine be rfl ?_
  refine k_then ?_
  refine t_condP beq_iff_eq rfl (fun hb => ?_) (fun hb => ?_)
  ·
    have h0 : wt % 6 = 0 := by simpa using hb
    refine b0 ?_
    refine o1 rfl (det_loadN tN30 rfl rfl (.head _) rfl) rfl rfl trivial ?_
    refine o1 rfl (det_fieldAddr fld34_0 rfl) rfl rfl trivial ?_
    refine stN nofun rfl tN30 rfl rfl rfl (.tail (.tail .head)) rfl trivial rfl rfl ?_
    refine be rfl ?_
    refine k_blk ?_
    refine k_then ?_
    refine t_seq ?_
    refine b0 ?_
    refine o1 rfl (det_loadN tN34 rfl rfl (.tail _ (.tail _ (.head _))) rfl) rfl rfl trivial ?_
    refine stN nofun rfl tN34 rfl rfl rfl (.tail .head) rfl trivial rfl rfl ?_
    refine be rfl ?_
    refine k_then ?_
    refine t_ret ?_
    refine ret_any (vs := [_]) rfl rfl ⟨(.cellN tN34 rfl rfl (.tail _ (.head _)) rfl), trivial⟩ rfl (fun w1 hs => ?_)
    exact ⟨by unfold bendC; rw [if_pos h0]; rfl, hs.keep⟩
  ·
    have h0 : ¬ wt % 6 = 0 := by simpa using hb
    refine t_seq ?_
    refine b0 ?_
    refine o1 rfl (det_eql rfl rfl) rfl rfl trivial ?_
    refine o1 rfl (det_assign rfl) rfl rfl trivial ?_
    refine be rfl ?_
    refine k_then ?_
    refine t_condP beq_iff_eq rfl (fun hb => ?_) (fun hb => ?_)
    ·
      have h1 : wt % 6 = 1 := by simpa using hb
      refine b0 ?_
      refine o1 rfl (det_loadN tN30 rfl rfl (.head _) rfl) rfl rfl trivial ?_
      refine o1 rfl (det_fieldAddr fld34_3 rfl) rfl rfl trivial ?_
      refine stN nofun rfl tN30 rfl rfl rfl (.tail (.tail .head)) rfl trivial rfl rfl ?_
      refine be rfl ?_
      refine k_blk ?_
      refine k_then ?_
      refine t_seq ?_
      refine b0 ?_
      refine o1 rfl (det_loadN tN34 rfl rfl (.tail _ (.tail _ (.head _))) rfl) rfl rfl trivial ?_
      refine stN nofun rfl tN34 rfl rfl rfl (.tail .head) rfl trivial rfl rfl ?_
      refine be rfl ?_
      refine k_then ?_
      refine t_ret ?_
      refine ret_any (vs := [_]) rfl rfl ⟨(.cellN tN34 rfl rfl (.tail _ (.head _)) rfl), trivial⟩ rfl (fun w1 hs => ?_)
      exact ⟨by unfold bendC; rw [if_neg h0, if_pos h1]; rfl, hs.keep⟩
    ·
      have h1 : ¬ wt % 6 = 1 := by simpa using hb
      refine t_seq ?_
      refine b0 ?_
      refine o1 rfl (det_eql rfl rfl) rfl rfl trivial ?_
      refine o1 rfl (det_assign rfl) rfl rfl trivial ?_
      refine be rfl ?_
      refine k_then ?_
      refine t_condP beq_iff_eq rfl (fun hb => ?_) (fun hb => ?_)
      ·
        have h2 : wt % 6 = 2 := by simpa using hb
        refine b0 ?_
        refine o1 rfl (det_fieldAddr fld32_1 rfl) rfl rfl trivial ?_
        refine o1 rfl (det_load1 t1_3 rfl rfl (.tail _ (.tail _ (.tail _ (.head _)))) rfl) rfl rfl trivial ?_
        refine o1 rfl (det_fieldAddr fld34_1 rfl) rfl rfl trivial ?_
        refine st1 nofun rfl t1_3 rfl rfl rfl (.tail (.tail .head)) rfl trivial rfl ?_
        refine be rfl ?_
        refine k_blk ?_
        refine k_then ?_
        refine t_seq ?_
        refine b0 ?_
        refine o1 rfl (det_loadN tN34 rfl rfl (.tail _ (.tail _ (.head _))) rfl) rfl rfl trivial ?_
        refine stN nofun rfl tN34 rfl rfl rfl (.tail .head) rfl trivial rfl rfl ?_
        refine be rfl ?_
        refine k_then ?_
        refine t_ret ?_
        refine ret_any (vs := [_]) rfl rfl ⟨(.cellN tN34 rfl rfl (.tail _ (.head _)) rfl), trivial⟩ rfl (fun w1 hs => ?_)
        exact ⟨by unfold bendC; rw [if_neg h0, if_neg h1, if_pos h2]; rfl, hs.keep⟩
      ·
        have h2 : ¬ wt % 6 = 2 := by simpa using hb
        refine t_seq ?_
        refine b0 ?_
        refine o1 rfl (det_eql rfl rfl) rfl rfl trivial ?_
        refine o1 rfl (det_assign rfl) rfl rfl trivial ?_
        refine be rfl ?_
        refine k_then ?_
        refine t_condP beq_iff_eq rfl (fun hb => ?_) (fun hb => ?_)
        ·
          have h3 : wt % 6 = 3 := by simpa using hb
          refine b0 ?_
          refine o1 rfl (det_fieldAddr fld32_1 rfl) rfl rfl trivial ?_
          refine o1 rfl (det_load1 t1_3 rfl rfl (.tail _ (.tail _ (.tail _ (.head _)))) rfl) rfl rfl trivial ?_
          refine o1 rfl (det_fieldAddr fld34_4 rfl) rfl rfl trivial ?_
          refine st1 nofun rfl t1_3 rfl rfl rfl (.tail (.tail .head)) rfl trivial rfl ?_
          refine be rfl ?_
          refine k_blk ?_
          refine k_then ?_
          refine t_seq ?_
          refine b0 ?_
          refine o1 rfl (det_loadN tN34 rfl rfl (.tail _ (.tail _ (.head _))) rfl) rfl rfl trivial ?_
          refine stN nofun rfl tN34 rfl rfl rfl (.tail .head) rfl trivial rfl rfl ?_
          refine be rfl ?_
          refine k_then ?_
          refine t_ret ?_
          refine ret_any (vs := [_]) rfl rfl ⟨(.cellN tN34 rfl rfl (.tail _ (.head _)) rfl), trivial⟩ rfl (fun w1 hs => ?_)
          exact ⟨by unfold bendC; rw [if_neg h0, if_neg h1, if_neg h2, if_pos h3]; rfl, hs.keep⟩
        ·
          have h3 : ¬ wt % 6 = 3 := by simpa using hb
          refine t_seq ?_
          refine b0 ?_
          refine o1 rfl (det_eql rfl rfl) rfl rfl trivial ?_
          refine o1 rfl (det_assign rfl) rfl rfl trivial ?_
          refine be rfl ?_
          refine k_then ?_
          refine t_condP beq_iff_eq rfl (fun hb => ?_) (fun hb => ?_)
          ·
            have h4 : wt % 6 = 4 := by simpa using hb
            refine b0 ?_
            refine o1 rfl (det_fieldAddr fld34_2 rfl) rfl rfl trivial ?_
            refine o1 rfl (det_load1 t1_4 rfl rfl (.tail _ (.tail _ (.head _))) rfl) rfl rfl trivial ?_
            refine o1 rfl (det_not rfl) rfl rfl trivial ?_
            refine o1 rfl (det_fieldAddr fld34_2 rfl) rfl rfl trivial ?_
            refine st1 nofun rfl t1_4 rfl rfl rfl (.tail (.tail .head)) rfl trivial rfl ?_
            refine be rfl ?_
            refine k_blk ?_
            refine k_then ?_
            refine t_seq ?_
            refine b0 ?_
            refine o1 rfl (det_loadN tN34 rfl rfl (.tail _ (.tail _ (.head _))) rfl) rfl rfl trivial ?_
            refine stN nofun rfl tN34 rfl rfl rfl (.tail .head) rfl trivial rfl rfl ?_
            refine be rfl ?_
            refine k_then ?_
            refine t_ret ?_
            refine ret_any (vs := [_]) rfl rfl ⟨(.cellN tN34 rfl rfl (.tail _ (.head _)) rfl), trivial⟩ rfl (fun w1 hs => ?_)
            exact ⟨by unfold bendC; rw [if_neg h0, if_neg h1, if_neg h2, if_neg h3, if_pos h4]; rfl, hs.keep⟩
          ·
            have h4 : ¬ wt % 6 = 4 := by simpa using hb
            refine b0 ?_
            refine o1 rfl (det_fieldAddr fld34_4 rfl) rfl rfl trivial ?_
            refine o1 rfl (det_load1 t1_3 rfl rfl (.tail _ (.tail _ (.head _))) rfl) rfl rfl trivial ?_
            refine o1 rfl (det_fieldAddr fld32_1 rfl) rfl rfl trivial ?_
            refine o1 rfl (det_load1 t1_3 rfl rfl (.tail _ (.tail _ (.tail _ (.head _)))) rfl) rfl rfl trivial ?_
            first | (refine o1 rfl (det_remP rfl rfl ?_) rfl rfl trivial ?_; (· omega)) | (refine o1 rfl (det_rem rfl rfl ?_) rfl rfl trivial ?_; (· (first | decide | omega)))
            have h3m := tm3 N
            first | (refine o1 rfl (det_addI rfl rfl ?_) rfl rfl trivial ?_; (· omega)) | refine o1 rfl (det_add rfl rfl) rfl rfl trivial ?_
            refine o1 rfl (det_fieldAddr fld34_4 rfl) rfl rfl trivial ?_
            refine st1 nofun rfl t1_3 rfl rfl rfl (.tail (.tail .head)) rfl trivial rfl ?_
            refine be rfl ?_
            refine k_blk ?_
            refine k_then ?_
            refine t_seq ?_
            refine b0 ?_
            refine o1 rfl (det_loadN tN34 rfl rfl (.tail _ (.tail _ (.head _))) rfl) rfl rfl trivial ?_
            refine stN nofun rfl tN34 rfl rfl rfl (.tail .head) rfl trivial rfl rfl ?_
            refine be rfl ?_
            refine k_then ?_
            refine t_ret ?_
            refine ret_any (vs := [_]) rfl rfl ⟨(.cellN tN34 rfl rfl (.tail _ (.head _)) rfl), trivial⟩ rfl (fun w1 hs => ?_)
            exact ⟨by unfold bendC; rw [if_neg h0, if_neg h1, if_neg h2, if_neg h3, if_neg h4]; rfl, hs.keep⟩

/-- Draft.Change. -/
theorem change_ok {w : World} {F : Know} (hF : ∀ a v, F a = some v → w.cell? a = some v) {A1 A2 A3 A4 : Option Addr} {n1 n2 n3 n4 c1 c2 c3 c4 : Nat} {ss ls ss2 ls2 : List Int} {bs lt : Int} {pe : Bool} (h1 : IntsK F .u8 A1 n1 ss) (h2 : IntsK F .u8 A2 n2 ls) (h3 : IntsK F .u8 A3 n3 ss2) (h4 : IntsK F .u8 A4 n4 ls2) (hbs : -32768 ≤ bs ∧ bs ≤ 32767) (hlt : 0 ≤ lt ∧ lt ≤ 255) : CallsF Try.prog 15 [.agg [.slice A1 n1 c1, .slice A2 n2 c2, .slice A3 n3 c3, .slice A4 n4 c4, .int .i16 bs, .bool pe, .int .u8 lt].toArray] w F (fun v F1 => ∃ c, v = .agg (chv c).toArray ∧ ChK F1 c ∧ DrOk c ∧ c.pe = pe) := by
  refine fn_fresh (F := F) Try.func15 rfl Try.ntmps15 rfl hF ?_
  refine t_seq ?_
  refine b0 ?_
  refine om1 rfl (new_boxN rfl) rfl rfl trivial (fun p1 => ?_)
  refine om1 rfl (new_alloc z34) rfl rfl trivial (fun p2 => ?_)
  refine be rfl ?_
  refine k_then ?_
  refine t_seq ?_
  refine bD mixed ?_
  refine r_segF 9 8 [7] [(2, Go.Eng.Told F (fun v F1 => ∃ A1 cap1, v = .agg [.slice A1 (draftE ss ls).length cap1, .int .i64 (sumL (draftE ss ls))].toArray ∧ (draftE ss ls).length ≤ cap1 ∧ EntK F1 A1 (draftE ss ls).length (draftE ss ls)))] [0, 1, 2, 3, 4, 5, 6, 7] (by kernel_rfl) ?_
  refine s1 rfl (det_fieldAddr fld27_0 rfl) rfl rfl trivial rfl ?_
  refine s1 rfl (det_loadN tN24 rfl rfl (.tail _ (.head _)) rfl) rfl rfl trivial rfl ?_
  refine sM [] need0 rfl (fun F2 hF2 hN => mem_call hF2 hb27 rfl rfl (fun w1 hs => (draft_ok hs.know (h1.mono hF2) (h2.mono hF2)).any)) rfl rfl trivial rfl (fun v6 hv6 => ?_)
  obtain ⟨_, A5, cap5, rfl, -, -⟩ := hv6
  refine s1 rfl (det_fieldAddr fld27_2 rfl) rfl rfl trivial rfl ?_
  refine s1 rfl (det_load1 t1_25 rfl rfl (.tail _ (.head _)) rfl) rfl rfl trivial rfl ?_
  first | (refine s1 rfl (det_convW Try.underlying25 Try.underlying3 rfl ?_) rfl rfl trivial rfl ?_; (· exact IntWalk.i64_in _ (by omega))) | refine s1 rfl (det_conv Try.underlying25 Try.underlying3 rfl) rfl rfl trivial rfl ?_
  refine s1 rfl (det_build rfl (fun w => bld34_0_1 _ _ _ _ _ w)) rfl rfl trivial rfl ?_
  refine sm1 rfl (new_alloc z34) rfl rfl trivial rfl (fun p3 => ?_)
  refine sg_nil ?_
  rintro F_1_8 hF_1_8 hN_1_8 ⟨hR6, -⟩
  obtain ⟨A5q, cap5q, hv5, hcp5, hE5⟩ := hR6
  cases hv5
  refine stN (fun _ => by kernel_rfl) rfl tN34 rfl rfl rfl .head rfl trivial rfl rfl ?_
  refine be rfl ?_
  refine k_then ?_
  refine t_seq ?_
  refine t_seq ?_
  refine b0 ?_
  have hg1 := draft_good (fun i h => h1.rng i h) (fun i h => h2.rng i h)
  have hg2 := draft_good (fun i h => h3.rng i h) (fun i h => h4.rng i h)
  have hc1 := okG_cyc hg1
  have hc2 := okG_cyc hg2
  have hd1 := draft_cyc (fun i h => h1.rng i h) (fun i h => h2.rng i h)
  have hd2 := draft_cyc (fun i h => h3.rng i h) (fun i h => h4.rng i h)
  have hl1 := draftE_len ss ls
  have hl2 := draftE_len ss2 ls2
  unfold draftN at hl1 hl2
  refine o1 rfl (det_fieldAddr fld27_3 rfl) rfl rfl trivial ?_
  refine o1 rfl (det_load1 t1_4 rfl rfl (.tail _ (.tail _ (.head _))) rfl) rfl rfl trivial ?_
  refine be rfl ?_
  refine k_then ?_
  refine t_condP Iff.rfl rfl (fun hb => ?_) (fun hb => ?_)
  ·
    have hp : pe = true := hb
    refine t_seq ?_
    refine b0 ?_
    have hFF := hF_1_8
    refine o1 rfl (det_fieldAddr fld27_1 rfl) rfl rfl trivial ?_
    refine o1 rfl (det_loadN tN24 rfl rfl (.tail _ (.tail _ (.head _))) rfl) rfl rfl trivial ?_
    refine oF nofun rfl hb27 rfl rfl rfl trivial (fun w1 hs => (draft_ok hs.know (h3.mono hFF) (h4.mono hFF)).any) (fun v6 F3 hF3 hN3 ⟨A6, cap6, hv6, hcp6, hE6⟩ => ?_)
    subst hv6
    refine o1 rfl (det_fieldAddr fld34_2 rfl) rfl rfl trivial ?_
    refine st1 nofun rfl t1_4 rfl rfl rfl .head rfl trivial rfl ?_
    refine o1 rfl (det_fieldAddr fld34_3 rfl) rfl rfl trivial ?_
    refine stN nofun rfl tN30 rfl rfl rfl .head rfl trivial rfl rfl ?_
    refine be rfl ?_
    refine k_then ?_
    refine b0 ?_
    refine o1 rfl (det_fieldAddr fld34_1 rfl) rfl rfl trivial ?_
    refine o1 rfl (det_load1 t1_3 rfl rfl (.head _) rfl) rfl rfl trivial ?_
    refine o1 rfl (det_fieldAddr fld27_4 rfl) rfl rfl trivial ?_
    refine o1 rfl (det_load1 t1_5 rfl rfl (.tail _ (.tail _ (.head _))) rfl) rfl rfl trivial ?_
    first | (refine o1 rfl (det_convW Try.underlying5 Try.underlying3 rfl ?_) rfl rfl trivial ?_; (· exact IntWalk.i64_in _ (by omega))) | refine o1 rfl (det_conv Try.underlying5 Try.underlying3 rfl) rfl rfl trivial ?_
    first | (refine o1 rfl (det_subI rfl rfl ?_) rfl rfl trivial ?_; (· omega)) | refine o1 rfl (det_sub rfl rfl) rfl rfl trivial ?_
    refine o1 rfl (det_fieldAddr fld34_0 rfl) rfl rfl trivial ?_
    refine o1 rfl (det_fieldAddr fld30_1 rfl) rfl rfl trivial ?_
    refine o1 rfl (det_load1 t1_3 rfl rfl (.head _) rfl) rfl rfl trivial ?_
    have hml : -100 * sumL (draftE ss ls) ≤ (lt - 100) * sumL (draftE ss ls) ∧ (lt - 100) * sumL (draftE ss ls) ≤ 155 * sumL (draftE ss ls) := ⟨Int.mul_le_mul_of_nonneg_right (by omega) (by omega), Int.mul_le_mul_of_nonneg_right (by omega) (by omega)⟩
    first | (refine o1 rfl (det_mulI rfl rfl ?_) rfl rfl trivial ?_; (· omega)) | refine o1 rfl (det_mul rfl rfl) rfl rfl trivial ?_
    first | (refine o1 rfl (det_addI rfl rfl ?_) rfl rfl trivial ?_; (· omega)) | refine o1 rfl (det_add rfl rfl) rfl rfl trivial ?_
    refine o1 rfl (det_fieldAddr fld34_4 rfl) rfl rfl trivial ?_
    refine st1 nofun rfl t1_3 rfl rfl rfl .head rfl trivial rfl ?_
    refine be rfl ?_
    refine k_then ?_
    refine t_seq ?_
    refine b0 ?_
    refine o1 rfl (det_loadN tN34 rfl rfl (.head _) rfl) rfl rfl trivial ?_
    refine stN nofun rfl tN34 rfl rfl rfl (.tail .head) rfl trivial rfl rfl ?_
    refine be rfl ?_
    refine k_then ?_
    refine t_ret ?_
    refine ret_any (vs := [_]) rfl rfl ⟨(.cellN tN34 rfl rfl (.tail _ (.head _)) rfl), trivial⟩ rfl (fun w1 hs => ?_)
    exact end_fresh hs fun F2 g1 g2 g3 => by
      refine ⟨(⟨⟨A5, (draftE ss ls).length, cap5, draftE ss ls, sumL (draftE ss ls)⟩, bs, true, ⟨A6, (draftE ss2 ls2).length, cap6, draftE ss2 ls2, sumL (draftE ss2 ls2)⟩, bs + (lt - 100) * sumL (draftE ss ls)⟩ : Ch), rfl, ⟨hE5.mono fun a u ha => (hN_1_8 a u ha).elim (g1 a u) (g2 a u (hF3 a u ha)), hE6.mono fun a u ha => (hN3 a u ha).elim (fun h => (hN_1_8 a u h).elim (g1 a u) (g2 a u ha)) (g2 a u ha)⟩, ⟨okC_iff.2 ⟨hg1, ⟨by dsimp only; omega, by dsimp only; omega⟩, fun _ => hg2, ⟨by dsimp only; omega, by dsimp only; omega⟩, fun _ => by dsimp only; rw [Int.add_comm, Int.add_sub_cancel]; exact Int.mul_emod_left _ _, (fun h => by cases h)⟩, by dsimp only; omega, by dsimp only; omega, by dsimp only; omega, by dsimp only; omega, by dsimp only; omega, by dsimp only; omega⟩, by rw [hp]⟩
  ·
    have hp : pe = false := by simpa using hb
    refine t_skip ?_
    refine k_then ?_
    refine t_seq ?_
    refine b0 ?_
    refine o1 rfl (det_loadN tN34 rfl rfl (.head _) rfl) rfl rfl trivial ?_
    refine stN nofun rfl tN34 rfl rfl rfl (.tail .head) rfl trivial rfl rfl ?_
    refine be rfl ?_
    refine k_then ?_
    refine t_ret ?_
    refine ret_any (vs := [_]) rfl rfl ⟨(.cellN tN34 rfl rfl (.tail _ (.head _)) rfl), trivial⟩ rfl (fun w1 hs => ?_)
    exact end_fresh hs fun F2 g1 g2 g3 => by
      refine ⟨(⟨⟨A5, (draftE ss ls).length, cap5, draftE ss ls, sumL (draftE ss ls)⟩, bs, false, g0, 0⟩ : Ch), rfl, ⟨hE5.mono fun a u ha => (hN_1_8 a u ha).elim (g1 a u) (g2 a u ha), g0_k _⟩, ⟨okC_iff.2 ⟨hg1, ⟨by dsimp only; omega, by dsimp only; omega⟩, (fun h => by cases h), ⟨by dsimp only; omega, by dsimp only; omega⟩, (fun h => by cases h), fun _ => ⟨rfl, rfl, rfl⟩⟩, by dsimp only; omega, Nat.zero_le _, by dsimp only; omega, by dsimp only [g0]; omega, by dsimp only; omega, by dsimp only; omega⟩, by rw [hp]⟩

end Go.Proofs.Sw
