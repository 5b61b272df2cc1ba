/-
  Walks through layers 27, 29 and 30 and their references.
-/
import Derived.Test.YtgaliocgkjghnaaSwL0
import Derived.Test.YtgaliocgkjghnaaSwPlain4
namespace Go.Proofs.Sw
open Go Go.Eng Go.Gt Go.Proofs.Gt Go.Sw
set_option maxRecDepth 4000

/-- SwapKeeps. -/
theorem skeeps_ok {w : World} {F : Know} (hF : ∀ a v, F a = some v → w.cell? a = some v) {A1 A2 A3 A4 : Option Addr} {n1 n2 n3 n4 c1 c2 c3 c4 : Nat} {ss ls ss2 ls2 : List Int} {bs lt : Int} {pe : Bool} (h1 : IntsK F .u8 A1 n1 ss) (h2 : IntsK F .u8 A2 n2 ls) (h3 : IntsK F .u8 A3 n3 ss2) (h4 : IntsK F .u8 A4 n4 ls2) (hbs : -32768 ≤ bs ∧ bs ≤ 32767) (hlt : 0 ≤ lt ∧ lt ≤ 255) {A5 A6 : Option Addr} {n5 n6 c5 c6 : Nat} {ss3 ls3 : List Int} (h5 : IntsK F .u8 A5 n5 ss3) (h6 : IntsK F .u8 A6 n6 ls3) {nw bq tt : Int} (hnw : -32768 ≤ nw ∧ nw ≤ 32767) (hbq : -32768 ≤ bq ∧ bq ≤ 32767) (htt : 0 ≤ tt ∧ tt ≤ 65535) : Pure Try.prog 5 [.agg [.slice A1 n1 c1, .slice A2 n2 c2, .slice A3 n3 c3, .slice A4 n4 c4, .int .i16 bs, .bool pe, .int .u8 lt].toArray, .agg [.slice A5 n5 c5, .slice A6 n6 c6].toArray, .int .i16 nw, .int .i16 bq, .int .u16 tt] w (.bool true) := by
  refine fn_pure (F := F) Try.func5 rfl Try.ntmps5 rfl hF ?_
  refine t_seq ?_
  refine b0 ?_
  refine om1 rfl (new_boxN rfl) rfl rfl trivial (fun p5 => ?_)
  refine om1 rfl (new_boxN rfl) rfl rfl trivial (fun p6 => ?_)
  refine o1 rfl (det_assign rfl) rfl rfl trivial ?_
  refine be rfl ?_
  refine k_then ?_
  refine t_seq ?_
  refine t_seq ?_
  refine b0 ?_
  refine o1 rfl (det_call hb24 rfl rfl (fun w1 hs => works29_ok hs.know)) rfl rfl trivial ?_
  refine o1 rfl (det_not rfl) rfl rfl trivial ?_
  refine be rfl ?_
  refine k_then ?_
  refine t_condP not_iff_false rfl (fun hb => ?_) (fun hb => ?_)
  · exfalso; simp at hb
  refine t_skip ?_
  refine k_then ?_
  refine t_seq ?_
  refine bD mixed ?_
  refine r_segF 8 6 [4, 5] [(1, Go.Eng.Told F (fun v F1 => ∃ c, v = .agg (chv c).toArray ∧ ChK F1 c ∧ DrOk c ∧ c.pe = pe)), (3, Go.Eng.Told F (fun v F1 => ∃ A1 cap1, v = .agg [.slice A1 (draftE ss3 ls3).length cap1, .int .i64 (sumL (draftE ss3 ls3))].toArray ∧ (draftE ss3 ls3).length ≤ cap1 ∧ EntK F1 A1 (draftE ss3 ls3).length (draftE ss3 ls3)))] [0, 1, 2, 3, 4, 5] (by kernel_rfl) ?_
  refine s1 rfl (det_loadN tN27 rfl rfl (.tail _ (.head _)) rfl) rfl rfl trivial rfl ?_
  refine sM [] need0 rfl (fun F2 hF2 hN => mem_call hF2 hb15 rfl rfl (fun w1 hs => change_ok (F := F) (fun a v h => hs.know a v (hF2 a v h)) h1 h2 h3 h4 hbs hlt)) rfl rfl trivial rfl (fun v26 hv26 => ?_)
  obtain ⟨_, c_, rfl, -⟩ := hv26
  refine s1 rfl (det_loadN tN24 rfl rfl (.head _) rfl) rfl rfl trivial rfl ?_
  refine sM [] need0 rfl (fun F2 hF2 hN => mem_call hF2 hb27 rfl rfl (fun w1 hs => (draft_ok hs.know (h5.mono hF2) (h6.mono hF2)).any)) rfl rfl trivial rfl (fun v28 hv28 => ?_)
  obtain ⟨_, A7, cap7, rfl, -, -⟩ := hv28
  refine sm1 rfl (new_alloc z34) rfl rfl trivial rfl (fun p11 => ?_)
  refine sm1 rfl (new_alloc z30) rfl rfl trivial rfl (fun p12 => ?_)
  refine sg_nil ?_
  rintro F_3_6 hF_3_6 hN_3_6 ⟨hR28, hR26, -⟩
  obtain ⟨A7q, cap7q, hv7, hcp7, hE7⟩ := hR28
  cases hv7
  obtain ⟨c, hcc, hC, hD, hpe⟩ := hR26
  rw [agg_inj hcc]
  refine stN (fun _ => by kernel_rfl) rfl tN34 rfl rfl rfl (.tail .head) rfl trivial rfl rfl ?_
  refine stN (fun _ => by kernel_rfl) rfl tN30 rfl rfl rfl .head rfl trivial rfl rfl ?_
  refine be rfl ?_
  refine k_then ?_
  refine t_seq ?_
  refine b0 ?_
  have hO := okC_iff.1 hD.ok
  have hdw := hD.wh
  have hdc := hD.c1
  have hdb := hD.base
  have hA := later_ok hO nw
  have hgd : okG (draftE ss3 ls3) (sumL (draftE ss3 ls3)) = true := draft_good (fun i h => h5.rng i h) (fun i h => h6.rng i h)
  have hgc := draft_cyc (fun i h => h5.rng i h) (fun i h => h6.rng i h)
  have hgc1 := okG_cyc hgd
  have hGk : GlK F_3_6 (⟨A7, (draftE ss3 ls3).length, cap7, (draftE ss3 ls3), sumL (draftE ss3 ls3)⟩ : Gl) := hE7
  have hB := setB_ok (g := (⟨A7, (draftE ss3 ls3).length, cap7, (draftE ss3 ls3), sumL (draftE ss3 ls3)⟩ : Gl)) hA (now := nw) (base := bq) (by omega) hgd (by omega)
  obtain ⟨w1, w2, w3⟩ := setB_wh (now := nw) (base := bq) (g := (⟨A7, (draftE ss3 ls3).length, cap7, (draftE ss3 ls3), sumL (draftE ss3 ls3)⟩ : Gl)) hA
  have hlc := later_cyc hO hD.c1.2 hD.c2.2 nw
  have hlb := later_base (lo := -100000) (hi := 100000) (by omega) hD.wh nw
  have hon : 0 ≤ tt % (2 * sumL (draftE ss3 ls3)) ∧ tt % (2 * sumL (draftE ss3 ls3)) < 2 * sumL (draftE ss3 ls3) := ⟨Int.emod_nonneg _ (by omega), Int.emod_lt_of_pos _ (by omega)⟩
  refine o1 rfl (det_loadN tN34 rfl rfl (.tail _ (.head _)) rfl) rfl rfl trivial ?_
  refine o1 rfl (det_move rfl) rfl rfl trivial ?_
  first | (refine o1 rfl (det_convW Try.underlying25 Try.underlying3 rfl ?_) rfl rfl trivial ?_; (· exact IntWalk.i64_in _ (by omega))) | refine o1 rfl (det_conv Try.underlying25 Try.underlying3 rfl) rfl rfl trivial ?_
  refine o1 rfl (det_call hb28 rfl rfl (fun w1 hs => adv_at hs.know hC (adv_val hO (by omega)))) rfl rfl trivial ?_
  refine o1 rfl (det_move rfl) rfl rfl trivial ?_
  refine o1 rfl (det_extract rfl rfl) rfl rfl trivial ?_
  refine o1 rfl (det_extract rfl rfl) rfl rfl trivial ?_
  refine om1 rfl (new_alloc z34) rfl rfl trivial (fun p13 => ?_)
  refine stN nofun rfl tN34 rfl rfl rfl .head rfl trivial rfl rfl ?_
  refine o1 rfl (det_assign rfl) rfl rfl trivial ?_
  refine be rfl ?_
  refine k_then ?_
  refine t_seq ?_
  refine b0 ?_
  refine o1 rfl (det_loadN tN34 rfl rfl (.tail _ (.tail _ (.head _))) rfl) rfl rfl trivial ?_
  refine o1 rfl (det_move rfl) rfl rfl trivial ?_
  first | (refine o1 rfl (det_convW Try.underlying25 Try.underlying3 rfl ?_) rfl rfl trivial ?_; (· exact IntWalk.i64_in _ (by omega))) | refine o1 rfl (det_conv Try.underlying25 Try.underlying3 rfl) rfl rfl trivial ?_
  refine o1 rfl (det_loadN tN30 rfl rfl (.tail _ (.head _)) rfl) rfl rfl trivial ?_
  refine o1 rfl (det_move rfl) rfl rfl trivial ?_
  first | (refine o1 rfl (det_convW Try.underlying25 Try.underlying3 rfl ?_) rfl rfl trivial ?_; (· exact IntWalk.i64_in _ (by omega))) | refine o1 rfl (det_conv Try.underlying25 Try.underlying3 rfl) rfl rfl trivial ?_
  refine o1 rfl (det_call hb29 rfl rfl (fun w1 hs => set_at hs.know hC hGk (set_val hO (by omega) hgd (by omega)))) rfl rfl trivial ?_
  refine o1 rfl (det_move rfl) rfl rfl trivial ?_
  refine o1 rfl (det_extract rfl rfl) rfl rfl trivial ?_
  refine o1 rfl (det_extract rfl rfl) rfl rfl trivial ?_
  refine om1 rfl (new_alloc z34) rfl rfl trivial (fun p15 => ?_)
  refine stN nofun rfl tN34 rfl rfl rfl .head rfl trivial rfl rfl ?_
  refine o1 rfl (det_assign rfl) rfl rfl trivial ?_
  refine be rfl ?_
  refine k_then ?_
  refine t_seq ?_
  refine t_seq ?_
  refine b0 ?_
  refine o1 rfl (det_move rfl) rfl rfl trivial ?_
  refine o1 rfl (det_neq rfl rfl) rfl rfl trivial ?_
  refine o2P bne_iff_ne rfl (det_move rfl) rfl rfl trivial (fun hb => ?_) (fun hb => ?_)
  · exfalso; first | exact hb rfl | (simp at hb; done)
  refine o1 rfl (det_move rfl) rfl rfl ⟨_, rfl, rfl⟩ ?_
  refine o1 rfl (det_neq rfl rfl) rfl rfl ⟨_, rfl, rfl⟩ ?_
  refine o1 rfl (det_pickF rfl rfl) rfl rfl trivial ?_
  refine o2P bne_iff_ne rfl (det_move rfl) rfl rfl trivial (fun hb => ?_) (fun hb => ?_)
  · exfalso; first | exact hb rfl | (simp at hb; done)
  refine o1 rfl (det_loadN tN34 rfl rfl (.tail _ (.head _)) rfl) rfl rfl ⟨_, rfl, rfl⟩ ?_
  refine o1 rfl (det_call hb17 rfl rfl (fun w1 hs => check_at29 hs.know (later_k hC nw) (check_val hA))) rfl rfl ⟨_, rfl, rfl⟩ ?_
  refine o1 rfl (det_neq rfl rfl) rfl rfl ⟨_, rfl, rfl⟩ ?_
  refine o1 rfl (det_pickF rfl rfl) rfl rfl trivial ?_
  refine o2P bne_iff_ne rfl (det_move rfl) rfl rfl trivial (fun hb => ?_) (fun hb => ?_)
  · exfalso; first | exact hb rfl | (simp at hb; done)
  refine o1 rfl (det_loadN tN34 rfl rfl (.head _) rfl) rfl rfl ⟨_, rfl, rfl⟩ ?_
  refine o1 rfl (det_call hb17 rfl rfl (fun w1 hs => check_at29 hs.know (c := (setB (laterC c nw) nw (⟨A7, (draftE ss3 ls3).length, cap7, (draftE ss3 ls3), sumL (draftE ss3 ls3)⟩ : Gl) bq)) ⟨(later_k hC nw).op, hGk⟩ (check_val hB))) rfl rfl ⟨_, rfl, rfl⟩ ?_
  refine o1 rfl (det_neq rfl rfl) rfl rfl ⟨_, rfl, rfl⟩ ?_
  refine o1 rfl (det_pickF rfl rfl) rfl rfl trivial ?_
  refine o2P bne_iff_ne rfl (det_move rfl) rfl rfl trivial (fun hb => ?_) (fun hb => ?_)
  · exfalso; first | exact hb rfl | (simp at hb; done)
  refine o1 rfl (det_fieldAddr fld34_2 rfl) rfl rfl ⟨_, rfl, rfl⟩ ?_
  refine o1 rfl (det_load1 t1_4 rfl rfl (.head _) rfl) rfl rfl ⟨_, rfl, rfl⟩ ?_
  refine o1 rfl (det_not rfl) rfl rfl ⟨_, rfl, rfl⟩ ?_
  refine o1 rfl (det_pickF rfl rfl) rfl rfl trivial ?_
  refine be rfl ?_
  refine k_then ?_
  refine t_condP not_iff_false rfl (fun hb => ?_) (fun hb => ?_)
  · exfalso; first | exact hb rfl | cases hb
  refine t_skip ?_
  refine k_then ?_
  refine t_seq ?_
  refine b0 ?_
  refine o1 rfl (det_move rfl) rfl rfl trivial ?_
  first | (refine o1 rfl (det_convW Try.underlying25 Try.underlying3 rfl ?_) rfl rfl trivial ?_; (· exact IntWalk.i64_in _ (by omega))) | refine o1 rfl (det_conv Try.underlying25 Try.underlying3 rfl) rfl rfl trivial ?_
  refine o1 rfl (det_move rfl) rfl rfl trivial ?_
  first | (refine o1 rfl (det_convW Try.underlying25 Try.underlying3 rfl ?_) rfl rfl trivial ?_; (· exact IntWalk.i64_in _ (by omega))) | refine o1 rfl (det_conv Try.underlying25 Try.underlying3 rfl) rfl rfl trivial ?_
  refine o1 rfl (det_max2 rfl rfl) rfl rfl trivial ?_
  refine o1 rfl (det_assign rfl) rfl rfl trivial ?_
  refine be rfl ?_
  refine k_then ?_
  refine t_seq ?_
  refine b0 ?_
  refine o1 rfl (det_move rfl) rfl rfl trivial ?_
  first | (refine o1 rfl (det_convW Try.underlying25 Try.underlying3 rfl ?_) rfl rfl trivial ?_; (· exact IntWalk.i64_in _ (by omega))) | refine o1 rfl (det_conv Try.underlying25 Try.underlying3 rfl) rfl rfl trivial ?_
  refine o1 rfl (det_move rfl) rfl rfl trivial ?_
  first | (refine o1 rfl (det_convW Try.underlying53 Try.underlying3 rfl ?_) rfl rfl trivial ?_; (· exact IntWalk.i64_in _ (by omega))) | refine o1 rfl (det_conv Try.underlying53 Try.underlying3 rfl) rfl rfl trivial ?_
  first | (refine o1 rfl (det_addI rfl rfl ?_) rfl rfl trivial ?_; (· omega)) | refine o1 rfl (det_add rfl rfl) rfl rfl trivial ?_
  refine o1 rfl (det_assign rfl) rfl rfl trivial ?_
  refine be rfl ?_
  refine k_then ?_
  refine t_seq ?_
  refine t_merge (env0 := [(4, _), (10, _), (12, _), (13, _), (15, _), (17, _), (18, _)]) ⟨rfl, rfl, rfl, rfl, rfl, rfl, rfl, trivial⟩ 19 (.bool true) ?_ (fun hK => ?_)
  ·
    refine k_then ?_
    refine t_seq ?_
    refine t_seq ?_
    refine b0 ?_
    refine o1 rfl (det_move rfl) rfl rfl trivial ?_
    refine o1 rfl (det_fieldAddr fld34_4 rfl) rfl rfl trivial ?_
    refine o1 rfl (det_load1 t1_3 rfl rfl (.head _) rfl) rfl rfl trivial ?_
    refine o1 rfl (det_lss rfl rfl) rfl rfl trivial ?_
    refine be rfl ?_
    refine k_then ?_
    refine t_condP decide_eq_true_iff rfl (fun hb => ?_) (fun hb => ?_)
    ·
      have hbw : nw + tt < (setB (laterC c nw) nw (⟨A7, (draftE ss3 ls3).length, cap7, (draftE ss3 ls3), sumL (draftE ss3 ls3)⟩ : Gl) bq).wh := hb
      refine t_seq ?_
      refine b0 ?_
      refine o1 rfl (det_loadN tN34 rfl rfl (.tail _ (.head _)) rfl) rfl rfl trivial ?_
      refine om1 rfl (new_alloc z34) rfl rfl trivial (fun p20 => ?_)
      refine stN nofun rfl tN34 rfl rfl rfl .head rfl trivial rfl rfl ?_
      refine be rfl ?_
      refine k_then ?_
      refine t_seq ?_
      refine b0 ?_
      refine o1 rfl (det_build rfl (fun w => bld30_ w)) rfl rfl trivial ?_
      refine o1 rfl (det_fieldAddr fld34_2 rfl) rfl rfl trivial ?_
      refine st1 nofun rfl t1_4 rfl rfl rfl .head rfl trivial rfl ?_
      refine o1 rfl (det_fieldAddr fld34_3 rfl) rfl rfl trivial ?_
      refine stN nofun rfl tN30 rfl rfl rfl .head rfl trivial rfl rfl ?_
      refine o1 rfl (det_fieldAddr fld34_4 rfl) rfl rfl trivial ?_
      refine st1 nofun rfl t1_3 rfl rfl rfl .head rfl trivial rfl ?_
      refine be rfl ?_
      refine k_then ?_
      refine t_merge (env0 := [(4, _), (10, _), (12, _), (13, _), (15, _), (17, _)]) ⟨rfl, rfl, rfl, rfl, rfl, rfl, trivial⟩ 19 (.bool true) ?_ (fun hK => ?_)
      ·
        refine k_then ?_
        refine t_seq ?_
        refine b0 ?_
        refine o1 rfl (det_move rfl) rfl rfl trivial ?_
        first | (refine o1 rfl (det_convW Try.underlying53 Try.underlying3 rfl ?_) rfl rfl trivial ?_; (· exact IntWalk.i64_in _ (by omega))) | refine o1 rfl (det_conv Try.underlying53 Try.underlying3 rfl) rfl rfl trivial ?_
        refine o1 rfl (det_fieldAddr fld30_1 rfl) rfl rfl trivial ?_
        refine o1 rfl (det_load1 t1_3 rfl rfl (.tail _ (.tail _ (.tail _ (.head _)))) rfl) rfl rfl trivial ?_
        first | (refine o1 rfl (det_mulI rfl rfl ?_) rfl rfl trivial ?_; (· omega)) | refine o1 rfl (det_mul rfl rfl) rfl rfl trivial ?_
        first | (refine o1 rfl (det_remP rfl rfl ?_) rfl rfl trivial ?_; (· omega)) | (refine o1 rfl (det_rem rfl rfl ?_) rfl rfl trivial ?_; (· (first | decide | omega)))
        refine o1 rfl (det_assign rfl) rfl rfl trivial ?_
        refine be rfl ?_
        refine k_then ?_
        refine t_seq ?_
        refine b0 ?_
        refine o1 rfl (det_loadN tN30 rfl rfl (.tail _ (.tail _ (.tail _ (.head _)))) rfl) rfl rfl trivial ?_
        refine o1 rfl (det_build rfl (fun w => bld34_0 _ _ _ _ w)) rfl rfl trivial ?_
        refine om1 rfl (new_alloc z34) rfl rfl trivial (fun p22 => ?_)
        refine stN nofun rfl tN34 rfl rfl rfl .head rfl trivial rfl rfl ?_
        refine be rfl ?_
        refine k_then ?_
        refine t_seq ?_
        refine bD mixed ?_
        refine r_seg 42 42 [] [0, 1, 2, 3, 4, 5, 6, 7, 8, 9, 10, 11, 12, 13, 14, 15, 16, 17, 18, 19, 20, 21, 22, 23, 24, 25, 26, 27, 28, 29, 30, 31, 32, 33, 34, 35, 36, 37, 38, 39, 40, 41] (by kernel_rfl) ?_
        refine s1 rfl (det_move rfl) rfl rfl trivial rfl ?_
        refine s1 rfl (det_move rfl) rfl rfl trivial rfl ?_
        refine s1 rfl (det_fieldAddr fld34_4 rfl) rfl rfl ⟨_, rfl, rfl⟩ rfl ?_
        refine s1 rfl (det_load1 t1_3 rfl rfl (.tail _ (.tail _ (.head _))) rfl) rfl rfl ⟨_, rfl, rfl⟩ rfl ?_
        refine s1 rfl (det_move rfl) rfl rfl ⟨_, rfl, rfl⟩ rfl ?_
        refine s1 rfl (det_geq rfl rfl) rfl rfl ⟨_, rfl, rfl⟩ rfl ?_
        refine s1 rfl (det_pickT rfl rfl) rfl rfl trivial rfl ?_
        refine s2P decide_eq_true_iff rfl (det_move rfl) rfl rfl trivial rfl (fun hb => ?_) (fun hb => ?_)
        rotate_left
        · exfalso; exact hb w1
        refine s1 rfl (det_fieldAddr fld34_4 rfl) rfl rfl ⟨_, rfl, rfl⟩ rfl ?_
        refine s1 rfl (det_load1 t1_3 rfl rfl (.tail _ (.tail _ (.head _))) rfl) rfl rfl ⟨_, rfl, rfl⟩ rfl ?_
        refine s1 rfl (det_fieldAddr fld34_0 rfl) rfl rfl ⟨_, rfl, rfl⟩ rfl ?_
        refine s1 rfl (det_fieldAddr fld30_1 rfl) rfl rfl ⟨_, rfl, rfl⟩ rfl ?_
        refine s1 rfl (det_load1 t1_3 rfl rfl (.tail _ (.tail _ (.tail _ (.head _)))) rfl) rfl rfl ⟨_, rfl, rfl⟩ rfl ?_
        first | (refine s1 rfl (det_subI rfl rfl ?_) rfl rfl ⟨_, rfl, rfl⟩ rfl ?_; (· omega)) | refine s1 rfl (det_sub rfl rfl) rfl rfl ⟨_, rfl, rfl⟩ rfl ?_
        refine s1 rfl (det_move rfl) rfl rfl ⟨_, rfl, rfl⟩ rfl ?_
        refine s1 rfl (det_lss rfl rfl) rfl rfl ⟨_, rfl, rfl⟩ rfl ?_
        refine s1 rfl (det_pickT rfl rfl) rfl rfl trivial rfl ?_
        refine s2P decide_eq_true_iff rfl (det_move rfl) rfl rfl trivial rfl (fun hb => ?_) (fun hb => ?_)
        rotate_left
        · exfalso; exact hb w2
        refine s1 rfl (det_fieldAddr fld34_4 rfl) rfl rfl ⟨_, rfl, rfl⟩ rfl ?_
        refine s1 rfl (det_load1 t1_3 rfl rfl (.tail _ (.tail _ (.head _))) rfl) rfl rfl ⟨_, rfl, rfl⟩ rfl ?_
        refine s1 rfl (det_fieldAddr fld34_1 rfl) rfl rfl ⟨_, rfl, rfl⟩ rfl ?_
        refine s1 rfl (det_load1 t1_3 rfl rfl (.tail _ (.tail _ (.tail _ (.head _)))) rfl) rfl rfl ⟨_, rfl, rfl⟩ rfl ?_
        first | (refine s1 rfl (det_subI rfl rfl ?_) rfl rfl ⟨_, rfl, rfl⟩ rfl ?_; (· omega)) | refine s1 rfl (det_sub rfl rfl) rfl rfl ⟨_, rfl, rfl⟩ rfl ?_
        refine s1 rfl (det_fieldAddr fld34_0 rfl) rfl rfl ⟨_, rfl, rfl⟩ rfl ?_
        refine s1 rfl (det_fieldAddr fld30_1 rfl) rfl rfl ⟨_, rfl, rfl⟩ rfl ?_
        refine s1 rfl (det_load1 t1_3 rfl rfl (.tail _ (.tail _ (.tail _ (.head _)))) rfl) rfl rfl ⟨_, rfl, rfl⟩ rfl ?_
        first | (refine s1 rfl (det_remP rfl rfl ?_) rfl rfl ⟨_, rfl, rfl⟩ rfl ?_; (· omega)) | (refine s1 rfl (det_rem rfl rfl ?_) rfl rfl ⟨_, rfl, rfl⟩ rfl ?_; (· (first | decide | omega)))
        refine s1 rfl (det_eql rfl rfl) rfl rfl ⟨_, rfl, rfl⟩ rfl ?_
        refine s1 rfl (det_pickT rfl rfl) rfl rfl trivial rfl ?_
        refine s2P beq_iff_eq rfl (det_move rfl) rfl rfl trivial rfl (fun hb => ?_) (fun hb => ?_)
        rotate_left
        · exfalso; exact hb (tmod_zero (by omega) w3)
        refine s1 rfl (det_loadN tN34 rfl rfl (.tail _ (.tail _ (.head _))) rfl) rfl rfl ⟨_, rfl, rfl⟩ rfl ?_
        refine s1 rfl (det_fieldAddr fld34_4 rfl) rfl rfl ⟨_, rfl, rfl⟩ rfl ?_
        refine s1 rfl (det_load1 t1_3 rfl rfl (.tail _ (.tail _ (.head _))) rfl) rfl rfl ⟨_, rfl, rfl⟩ rfl ?_
        refine s1 rfl (det_move rfl) rfl rfl ⟨_, rfl, rfl⟩ rfl ?_
        first | (refine s1 rfl (det_addI rfl rfl ?_) rfl rfl ⟨_, rfl, rfl⟩ rfl ?_; (· omega)) | refine s1 rfl (det_add rfl rfl) rfl rfl ⟨_, rfl, rfl⟩ rfl ?_
        refine s1 rfl (det_call hb30 rfl rfl (fun w1 hs => hmask_at hs.know (c := (setB (laterC c nw) nw (⟨A7, (draftE ss3 ls3).length, cap7, (draftE ss3 ls3), sumL (draftE ss3 ls3)⟩ : Gl) bq)) ⟨(later_k hC nw).op, hGk⟩ (mask_val hB (by omega)))) rfl rfl ⟨_, rfl, rfl⟩ rfl ?_
        refine s1 rfl (det_loadN tN34 rfl rfl (.head _) rfl) rfl rfl ⟨_, rfl, rfl⟩ rfl ?_
        refine s1 rfl (det_move rfl) rfl rfl ⟨_, rfl, rfl⟩ rfl ?_
        refine s1 rfl (det_call hb30 rfl rfl (fun w1 hs => hmask_at hs.know (c := freshC (⟨A7, (draftE ss3 ls3).length, cap7, (draftE ss3 ls3), sumL (draftE ss3 ls3)⟩ : Gl)) ⟨hGk, g0_k _⟩ (mask_val (fresh_ok hgd) (by omega)))) rfl rfl ⟨_, rfl, rfl⟩ rfl ?_
        refine s1 rfl (det_eql rfl rfl) rfl rfl ⟨_, rfl, rfl⟩ rfl ?_
        refine s1 rfl (det_pickT rfl rfl) rfl rfl trivial rfl ?_
        refine s1 rfl (det_assign rfl) rfl rfl trivial rfl ?_
        refine sg_nil ?_
        refine be rfl ?_
        refine k_then ?_
        refine t_ret ?_
        refine ret_tmp rfl rfl rfl (fun w1 hs => ?_)
        exact ⟨by rw [setB_from hon.1, fresh_at]; simp, hs.keep⟩
      ·
        refine bD mixed ?_
        refine r_seg 11 11 [] [0, 1, 2, 3, 4, 5, 6, 7, 8, 9, 10] (by kernel_rfl) ?_
        refine s1 rfl (det_move rfl) rfl rfl trivial rfl ?_
        refine s1 rfl (det_move rfl) rfl rfl trivial rfl ?_
        refine s1 rfl (det_loadN tN34 rfl rfl (.tail _ (.head _)) rfl) rfl rfl ⟨_, rfl, rfl⟩ rfl ?_
        refine s1 rfl (det_move rfl) rfl rfl ⟨_, rfl, rfl⟩ rfl ?_
        refine s1 rfl (det_call hb30 rfl rfl (fun w1 hs => hmask_at hs.know (c := (setB (laterC c nw) nw (⟨A7, (draftE ss3 ls3).length, cap7, (draftE ss3 ls3), sumL (draftE ss3 ls3)⟩ : Gl) bq)) ⟨(later_k hC nw).op, hGk⟩ (mask_val hB (by omega)))) rfl rfl ⟨_, rfl, rfl⟩ rfl ?_
        refine s1 rfl (det_loadN tN34 rfl rfl (.head _) rfl) rfl rfl ⟨_, rfl, rfl⟩ rfl ?_
        refine s1 rfl (det_move rfl) rfl rfl ⟨_, rfl, rfl⟩ rfl ?_
        refine s1 rfl (det_call hb30 rfl rfl (fun w1 hs => hmask_at hs.know (c := bareC (laterC c nw)) ⟨(later_k hC nw).op, g0_k _⟩ (mask_val (bare_ok hA) (by omega)))) rfl rfl ⟨_, rfl, rfl⟩ rfl ?_
        refine s1 rfl (det_eql rfl rfl) rfl rfl ⟨_, rfl, rfl⟩ rfl ?_
        refine s1 rfl (det_pickT rfl rfl) rfl rfl trivial rfl ?_
        refine s1 rfl (det_assign rfl) rfl rfl trivial rfl ?_
        refine sg_nil ?_
        refine be rfl ?_
        refine tk_drop ?_ (.refl _) hK
        exact ⟨(mb rfl (by rw [setB_before hbw, bare_at]; simp)), rfl, rfl, rfl, rfl, rfl, rfl, trivial⟩
    ·
      skip
      refine t_skip ?_
      refine k_then ?_
      refine t_seq ?_
      refine b0 ?_
      refine o1 rfl (det_move rfl) rfl rfl trivial ?_
      first | (refine o1 rfl (det_convW Try.underlying53 Try.underlying3 rfl ?_) rfl rfl trivial ?_; (· exact IntWalk.i64_in _ (by omega))) | refine o1 rfl (det_conv Try.underlying53 Try.underlying3 rfl) rfl rfl trivial ?_
      refine o1 rfl (det_fieldAddr fld30_1 rfl) rfl rfl trivial ?_
      refine o1 rfl (det_load1 t1_3 rfl rfl (.tail _ (.tail _ (.head _))) rfl) rfl rfl trivial ?_
      first | (refine o1 rfl (det_mulI rfl rfl ?_) rfl rfl trivial ?_; (· omega)) | refine o1 rfl (det_mul rfl rfl) rfl rfl trivial ?_
      first | (refine o1 rfl (det_remP rfl rfl ?_) rfl rfl trivial ?_; (· omega)) | (refine o1 rfl (det_rem rfl rfl ?_) rfl rfl trivial ?_; (· (first | decide | omega)))
      refine o1 rfl (det_assign rfl) rfl rfl trivial ?_
      refine be rfl ?_
      refine k_then ?_
      refine t_seq ?_
      refine b0 ?_
      refine o1 rfl (det_loadN tN30 rfl rfl (.tail _ (.tail _ (.head _))) rfl) rfl rfl trivial ?_
      refine o1 rfl (det_build rfl (fun w => bld34_0 _ _ _ _ w)) rfl rfl trivial ?_
      refine om1 rfl (new_alloc z34) rfl rfl trivial (fun p22 => ?_)
      refine stN nofun rfl tN34 rfl rfl rfl .head rfl trivial rfl rfl ?_
      refine be rfl ?_
      refine k_then ?_
      refine t_seq ?_
      refine bD mixed ?_
      refine r_seg 42 42 [] [0, 1, 2, 3, 4, 5, 6, 7, 8, 9, 10, 11, 12, 13, 14, 15, 16, 17, 18, 19, 20, 21, 22, 23, 24, 25, 26, 27, 28, 29, 30, 31, 32, 33, 34, 35, 36, 37, 38, 39, 40, 41] (by kernel_rfl) ?_
      refine s1 rfl (det_move rfl) rfl rfl trivial rfl ?_
      refine s1 rfl (det_move rfl) rfl rfl trivial rfl ?_
      refine s1 rfl (det_fieldAddr fld34_4 rfl) rfl rfl ⟨_, rfl, rfl⟩ rfl ?_
      refine s1 rfl (det_load1 t1_3 rfl rfl (.tail _ (.head _)) rfl) rfl rfl ⟨_, rfl, rfl⟩ rfl ?_
      refine s1 rfl (det_move rfl) rfl rfl ⟨_, rfl, rfl⟩ rfl ?_
      refine s1 rfl (det_geq rfl rfl) rfl rfl ⟨_, rfl, rfl⟩ rfl ?_
      refine s1 rfl (det_pickT rfl rfl) rfl rfl trivial rfl ?_
      refine s2P decide_eq_true_iff rfl (det_move rfl) rfl rfl trivial rfl (fun hb => ?_) (fun hb => ?_)
      rotate_left
      · exfalso; exact hb w1
      refine s1 rfl (det_fieldAddr fld34_4 rfl) rfl rfl ⟨_, rfl, rfl⟩ rfl ?_
      refine s1 rfl (det_load1 t1_3 rfl rfl (.tail _ (.head _)) rfl) rfl rfl ⟨_, rfl, rfl⟩ rfl ?_
      refine s1 rfl (det_fieldAddr fld34_0 rfl) rfl rfl ⟨_, rfl, rfl⟩ rfl ?_
      refine s1 rfl (det_fieldAddr fld30_1 rfl) rfl rfl ⟨_, rfl, rfl⟩ rfl ?_
      refine s1 rfl (det_load1 t1_3 rfl rfl (.tail _ (.tail _ (.head _))) rfl) rfl rfl ⟨_, rfl, rfl⟩ rfl ?_
      first | (refine s1 rfl (det_subI rfl rfl ?_) rfl rfl ⟨_, rfl, rfl⟩ rfl ?_; (· omega)) | refine s1 rfl (det_sub rfl rfl) rfl rfl ⟨_, rfl, rfl⟩ rfl ?_
      refine s1 rfl (det_move rfl) rfl rfl ⟨_, rfl, rfl⟩ rfl ?_
      refine s1 rfl (det_lss rfl rfl) rfl rfl ⟨_, rfl, rfl⟩ rfl ?_
      refine s1 rfl (det_pickT rfl rfl) rfl rfl trivial rfl ?_
      refine s2P decide_eq_true_iff rfl (det_move rfl) rfl rfl trivial rfl (fun hb => ?_) (fun hb => ?_)
      rotate_left
      · exfalso; exact hb w2
      refine s1 rfl (det_fieldAddr fld34_4 rfl) rfl rfl ⟨_, rfl, rfl⟩ rfl ?_
      refine s1 rfl (det_load1 t1_3 rfl rfl (.tail _ (.head _)) rfl) rfl rfl ⟨_, rfl, rfl⟩ rfl ?_
      refine s1 rfl (det_fieldAddr fld34_1 rfl) rfl rfl ⟨_, rfl, rfl⟩ rfl ?_
      refine s1 rfl (det_load1 t1_3 rfl rfl (.tail _ (.tail _ (.head _))) rfl) rfl rfl ⟨_, rfl, rfl⟩ rfl ?_
      first | (refine s1 rfl (det_subI rfl rfl ?_) rfl rfl ⟨_, rfl, rfl⟩ rfl ?_; (· omega)) | refine s1 rfl (det_sub rfl rfl) rfl rfl ⟨_, rfl, rfl⟩ rfl ?_
      refine s1 rfl (det_fieldAddr fld34_0 rfl) rfl rfl ⟨_, rfl, rfl⟩ rfl ?_
      refine s1 rfl (det_fieldAddr fld30_1 rfl) rfl rfl ⟨_, rfl, rfl⟩ rfl ?_
      refine s1 rfl (det_load1 t1_3 rfl rfl (.tail _ (.tail _ (.head _))) rfl) rfl rfl ⟨_, rfl, rfl⟩ rfl ?_
      first | (refine s1 rfl (det_remP rfl rfl ?_) rfl rfl ⟨_, rfl, rfl⟩ rfl ?_; (· omega)) | (refine s1 rfl (det_rem rfl rfl ?_) rfl rfl ⟨_, rfl, rfl⟩ rfl ?_; (· (first | decide | omega)))
      refine s1 rfl (det_eql rfl rfl) rfl rfl ⟨_, rfl, rfl⟩ rfl ?_
      refine s1 rfl (det_pickT rfl rfl) rfl rfl trivial rfl ?_
      refine s2P beq_iff_eq rfl (det_move rfl) rfl rfl trivial rfl (fun hb => ?_) (fun hb => ?_)
      rotate_left
      · exfalso; exact hb (tmod_zero (by omega) w3)
      refine s1 rfl (det_loadN tN34 rfl rfl (.tail _ (.head _)) rfl) rfl rfl ⟨_, rfl, rfl⟩ rfl ?_
      refine s1 rfl (det_fieldAddr fld34_4 rfl) rfl rfl ⟨_, rfl, rfl⟩ rfl ?_
      refine s1 rfl (det_load1 t1_3 rfl rfl (.tail _ (.head _)) rfl) rfl rfl ⟨_, rfl, rfl⟩ rfl ?_
      refine s1 rfl (det_move rfl) rfl rfl ⟨_, rfl, rfl⟩ rfl ?_
      first | (refine s1 rfl (det_addI rfl rfl ?_) rfl rfl ⟨_, rfl, rfl⟩ rfl ?_; (· omega)) | refine s1 rfl (det_add rfl rfl) rfl rfl ⟨_, rfl, rfl⟩ rfl ?_
      refine s1 rfl (det_call hb30 rfl rfl (fun w1 hs => hmask_at hs.know (c := (setB (laterC c nw) nw (⟨A7, (draftE ss3 ls3).length, cap7, (draftE ss3 ls3), sumL (draftE ss3 ls3)⟩ : Gl) bq)) ⟨(later_k hC nw).op, hGk⟩ (mask_val hB (by omega)))) rfl rfl ⟨_, rfl, rfl⟩ rfl ?_
      refine s1 rfl (det_loadN tN34 rfl rfl (.head _) rfl) rfl rfl ⟨_, rfl, rfl⟩ rfl ?_
      refine s1 rfl (det_move rfl) rfl rfl ⟨_, rfl, rfl⟩ rfl ?_
      refine s1 rfl (det_call hb30 rfl rfl (fun w1 hs => hmask_at hs.know (c := freshC (⟨A7, (draftE ss3 ls3).length, cap7, (draftE ss3 ls3), sumL (draftE ss3 ls3)⟩ : Gl)) ⟨hGk, g0_k _⟩ (mask_val (fresh_ok hgd) (by omega)))) rfl rfl ⟨_, rfl, rfl⟩ rfl ?_
      refine s1 rfl (det_eql rfl rfl) rfl rfl ⟨_, rfl, rfl⟩ rfl ?_
      refine s1 rfl (det_pickT rfl rfl) rfl rfl trivial rfl ?_
      refine s1 rfl (det_assign rfl) rfl rfl trivial rfl ?_
      refine sg_nil ?_
      refine be rfl ?_
      refine k_then ?_
      refine t_ret ?_
      refine ret_tmp rfl rfl rfl (fun w1 hs => ?_)
      exact ⟨by rw [setB_from hon.1, fresh_at]; simp, hs.keep⟩
  ·
    refine bD mixed ?_
    refine r_seg 14 14 [] [0, 1, 2, 3, 4, 5, 6, 7, 8, 9, 10, 11, 12, 13] (by kernel_rfl) ?_
    refine s1 rfl (det_loadN tN34 rfl rfl (.tail _ (.head _)) rfl) rfl rfl trivial rfl ?_
    refine s1 rfl (det_move rfl) rfl rfl trivial rfl ?_
    refine s1 rfl (det_call hb30 rfl rfl (fun w1 hs => hmask_at hs.know (later_k hC nw) (mask_val hA (by omega)))) rfl rfl trivial rfl ?_
    refine s1 rfl (det_loadN tN34 rfl rfl (.tail _ (.tail _ (.tail _ (.head _)))) rfl) rfl rfl trivial rfl ?_
    refine s1 rfl (det_move rfl) rfl rfl trivial rfl ?_
    refine s1 rfl (det_call hb30 rfl rfl (fun w1 hs => hmask_at hs.know hC (mask_val hO (by omega)))) rfl rfl trivial rfl ?_
    refine s1 rfl (det_eql rfl rfl) rfl rfl trivial rfl ?_
    refine s2P beq_iff_eq rfl (det_move rfl) rfl rfl trivial rfl (fun hb => ?_) (fun hb => ?_)
    rotate_left
    · exfalso; exact hb (later_at nw (by omega))
    refine s1 rfl (det_loadN tN34 rfl rfl (.tail _ (.tail _ (.tail _ (.head _)))) rfl) rfl rfl ⟨_, rfl, rfl⟩ rfl ?_
    refine s1 rfl (det_move rfl) rfl rfl ⟨_, rfl, rfl⟩ rfl ?_
    refine s1 rfl (det_call hb30 rfl rfl (fun w1 hs => hmask_at hs.know hC (mask_val hO (by omega)))) rfl rfl ⟨_, rfl, rfl⟩ rfl ?_
    refine s1 rfl (det_geq rfl rfl) rfl rfl ⟨_, rfl, rfl⟩ rfl ?_
    refine s1 rfl (det_pickT rfl rfl) rfl rfl trivial rfl ?_
    refine s1 rfl (det_assign rfl) rfl rfl trivial rfl ?_
    refine sg_nil ?_
    refine be rfl ?_
    refine tk_drop ?_ (.refl _) hK
    exact ⟨(mb rfl (by have := atC_rng hO (nw + tt); simp; omega)), rfl, rfl, rfl, rfl, rfl, rfl, rfl, trivial⟩

end Go.Proofs.Sw
