/-
  Walks through layers 27, 29 and 30 and their references.
-/
import Derived.Test.YtgaliocgkjghnaaSwL0
namespace Go.Proofs.Sw
open Go Go.Eng Go.Gt Go.Proofs.Gt Go.Sw
set_option maxRecDepth 4000

/-- SwapChecks. -/
theorem schecks_ok {w : World} {F : Know} (hF : ∀ a v, F a = some v → w.cell? a = some v) {A1 A2 A3 A4 : Option Addr} {n1 n2 n3 n4 c1 c2 c3 c4 : Nat} {ss ls ss2 ls2 : List Int} {bs lt : Int} {pe : Bool} (h1 : IntsK F .u8 A1 n1 ss) (h2 : IntsK F .u8 A2 n2 ls) (h3 : IntsK F .u8 A3 n3 ss2) (h4 : IntsK F .u8 A4 n4 ls2) (hbs : -32768 ≤ bs ∧ bs ≤ 32767) (hlt : 0 ≤ lt ∧ lt ≤ 255) {wt N : Int} {g : Gl} (hg : GlK F g) (hcap : g.n ≤ g.cap) (hw : 0 ≤ wt ∧ wt ≤ 255) {t : Int} : Pure Try.prog 3 [.agg [.slice A1 n1 c1, .slice A2 n2 c2, .slice A3 n3 c3, .slice A4 n4 c4, .int .i16 bs, .bool pe, .int .u8 lt].toArray, .agg [.int .u8 wt, .int .i64 N, .slice g.A g.n g.cap, .int .i64 g.cyc].toArray, .int .i64 t] w (.bool true) := by
  refine fn_pure (F := F) Try.func3 rfl Try.ntmps3 rfl hF ?_
  refine t_seq ?_
  refine b0 ?_
  refine om1 rfl (new_boxN rfl) rfl rfl trivial (fun p3 => ?_)
  refine om1 rfl (new_boxN rfl) rfl rfl trivial (fun p4 => ?_)
  refine o1 rfl (det_assign rfl) rfl rfl trivial ?_
  refine be rfl ?_
  refine k_then ?_
  refine t_seq ?_
  refine b0 ?_
  refine o1 rfl (det_loadN tN27 rfl rfl (.tail _ (.head _)) rfl) rfl rfl trivial ?_
  refine oF nofun rfl hb15 rfl rfl rfl trivial (fun w1 hs => change_ok hs.know h1 h2 h3 h4 hbs hlt) (fun v21 F1 hF1 hN1 ⟨c, hv, hC, hD, hpe⟩ => ?_)
  subst hv
  have hgk : GlK F1 { g with n := min 130 g.n, es := g.es.take 130 } := GlK.takeK (EntK.mono hg hF1) 130
  have hdw := hD.wh
  have hbn := bend_n (what := wt) (N := N) (g := { g with n := min 130 g.n, es := g.es.take 130 }) (c := c) (by dsimp only; omega) (by have := hD.n1; omega) (by have := hD.n2; omega)
  have hbk := bend_k (what := wt) (N := N) hgk hC
  refine om1 rfl (new_alloc z34) rfl rfl trivial (fun p7 => ?_)
  refine stN nofun rfl tN34 rfl rfl rfl .head rfl trivial rfl rfl ?_
  refine be rfl ?_
  refine k_then ?_
  refine t_seq ?_
  refine t_seq ?_
  refine bD mixed ?_
  refine r_seg 6 6 [] [0, 1, 2, 3, 4, 5] (by kernel_rfl) ?_
  refine s1 rfl (det_loadN tN34 rfl rfl (.head _) rfl) rfl rfl trivial rfl ?_
  refine s1 rfl (det_loadN tN32 rfl rfl (.tail _ (.head _)) rfl) rfl rfl trivial rfl ?_
  refine s1 rfl (det_loadN tN34 rfl rfl (.head _) rfl) rfl rfl trivial rfl ?_
  refine s1 rfl (det_call hb16 rfl rfl (fun w1 hs => bend_ok hs.know hcap hw (by omega))) rfl rfl trivial rfl ?_
  refine s1 rfl (det_build rfl (fun w => bld37_0_1 _ _ _ _ _ _ _ _ _ _ _ _ _ _ _ _ _ _ _ _ _ _ w)) rfl rfl trivial rfl ?_
  refine s1 rfl (det_move rfl) rfl rfl trivial rfl ?_
  refine sg_nil ?_
  refine be rfl ?_
  refine k_then ?_
  refine t_block ?_
  refine t_whileM (σ := Nat) (fun s => [(27, .int .i64 s)]) (fun _ => _) (fun s => 2 - s) (fun s => s ≤ 2) 0 (env0 := [(2, _), (7, _), (26, _)]) (Nat.zero_le _) ⟨rfl, trivial⟩ ⟨rfl, rfl, rfl, trivial⟩ (.refl _) ?_
  intro s hsl
  refine t_seq ?_
  refine b0 ?_
  refine o1 rfl (det_lss rfl rfl) rfl rfl trivial ?_
  refine be rfl ?_
  refine k_then ?_
  refine t_seq ?_
  refine t_condP decide_eq_true_iff rfl (fun hb => ?_) (fun hb => ?_)
  ·
    have hlt2 : s < 2 := by omega
    obtain ⟨y, hcut, hy, hyn⟩ : ∃ y : Ch, cutV ((s : Int).toNat * 7) 7 (chv c ++ chv (bendC wt N { g with n := min 130 g.n, es := g.es.take 130 } c)) = some (chv y) ∧ ChK F1 y ∧ (y.op.n ≤ 130 ∧ y.ad.n ≤ 130) := by
      have h6 : s = 0 ∨ s = 1 := by omega
      rcases h6 with rfl | rfl
      · exact ⟨c, rfl, hC, by have := hD.n1; omega, by have := hD.n2; omega⟩
      · exact ⟨(bendC wt N { g with n := min 130 g.n, es := g.es.take 130 } c), rfl, hbk, hbn⟩
    refine t_skip ?_
    refine k_then ?_
    refine t_seq ?_
    refine t_block ?_
    refine t_seq ?_
    refine b0 ?_
    refine o1 rfl (det_indexN ar37 tN34 rfl rfl (by omega) hcut) rfl rfl trivial ?_
    refine om1 rfl (new_alloc z34) rfl rfl trivial (fun p9 => ?_)
    refine stN nofun rfl tN34 rfl rfl rfl .head rfl trivial rfl rfl ?_
    refine be rfl ?_
    refine k_then ?_
    refine t_seq ?_
    refine t_seq ?_
    refine bD mixed ?_
    refine r_seg 5 5 [] [0, 1, 2, 3, 4] (by kernel_rfl) ?_
    refine s1 rfl (det_loadN tN34 rfl rfl (.head _) rfl) rfl rfl trivial rfl ?_
    refine s1 rfl (det_call hb17 rfl rfl (fun w1 hs => check29_ok hs.know hy)) rfl rfl trivial rfl ?_
    refine s1 rfl (det_loadN tN34 rfl rfl (.head _) rfl) rfl rfl trivial rfl ?_
    refine s1 rfl (det_call hb18 rfl rfl (fun w1 hs => rcheck29_ok hs.know hy)) rfl rfl trivial rfl ?_
    refine s1 rfl (det_neq rfl rfl) rfl rfl trivial rfl ?_
    refine sg_nil ?_
    refine be rfl ?_
    refine k_then ?_
    refine t_condP bne_iff_ne rfl (fun hb => ?_) (fun hb => ?_)
    · exfalso; first | exact hb rfl | (simp at hb; done)
    refine t_skip ?_
    refine k_then ?_
    refine t_seq ?_
    refine b0 ?_
    refine o1 rfl (det_move rfl) rfl rfl trivial ?_
    refine o1 rfl (det_move rfl) rfl rfl trivial ?_
    first | (refine o1 rfl (det_remP rfl rfl ?_) rfl rfl trivial ?_; (· omega)) | (refine o1 rfl (det_rem rfl rfl ?_) rfl rfl trivial ?_; (· (first | decide | omega)))
    refine o1 rfl (det_fieldAddr fld34_4 rfl) rfl rfl trivial ?_
    refine o1 rfl (det_load1 t1_3 rfl rfl (.tail _ (.head _)) rfl) rfl rfl trivial ?_
    refine o1 rfl (det_move rfl) rfl rfl trivial ?_
    first | (refine o1 rfl (det_remP rfl rfl ?_) rfl rfl trivial ?_; (· omega)) | (refine o1 rfl (det_rem rfl rfl ?_) rfl rfl trivial ?_; (· (first | decide | omega)))
    have htm := tmK t (k := 5) (by decide)
    first | (refine o1 rfl (det_addI rfl rfl ?_) rfl rfl trivial ?_; (· omega)) | refine o1 rfl (det_add rfl rfl) rfl rfl trivial ?_
    refine o1 rfl (det_build rfl (fun w => bld40_0_1_2 _ _ _ w)) rfl rfl trivial ?_
    refine o1 rfl (det_move rfl) rfl rfl trivial ?_
    refine be rfl ?_
    refine k_then ?_
    refine t_block ?_
    refine t_whileM (σ := Nat) (fun q => [(44, .int .i64 q)]) (fun _ => _) (fun q => 3 - q) (fun q => q ≤ 3) 0 (env0 := [(2, _), (7, _), (9, _), (26, _), (27, _), (43, _)]) (Nat.zero_le _) ⟨rfl, trivial⟩ ⟨rfl, rfl, rfl, rfl, rfl, rfl, trivial⟩ (.refl _) ?_
    intro q hql
    refine t_seq ?_
    refine b0 ?_
    refine o1 rfl (det_lss rfl rfl) rfl rfl trivial ?_
    refine be rfl ?_
    refine k_then ?_
    refine t_seq ?_
    refine t_condP decide_eq_true_iff rfl (fun hb => ?_) (fun hb => ?_)
    ·
      obtain ⟨x, hx⟩ : ∃ x : Int, nthV [Value.int .i64 t, .int .i64 (t.tmod 2000), .int .i64 (c.wh + t.tmod 5)] (q : Int).toNat = some (.int .i64 x) := by
        have h6 : q = 0 ∨ q = 1 ∨ q = 2 := by omega
        rcases h6 with rfl | rfl | rfl <;> exact ⟨_, rfl⟩
      refine t_skip ?_
      refine k_then ?_
      refine t_seq ?_
      refine t_block ?_
      refine t_seq ?_
      refine b0 ?_
      refine o1 rfl (det_index1 ar40 t1_3 rfl rfl (by omega) hx) rfl rfl trivial ?_
      refine o1 rfl (det_assign rfl) rfl rfl trivial ?_
      refine be rfl ?_
      refine k_then ?_
      refine t_seq ?_
      refine b0 ?_
      refine o1 rfl (det_loadN tN34 rfl rfl (.head _) rfl) rfl rfl trivial ?_
      refine o1 rfl (det_move rfl) rfl rfl trivial ?_
      refine o1 rfl (det_call hb19 rfl rfl (fun w1 hs => mask29_ok hs.know hy)) rfl rfl trivial ?_
      refine o1 rfl (det_move rfl) rfl rfl trivial ?_
      refine o1 rfl (det_extract rfl rfl) rfl rfl trivial ?_
      refine o1 rfl (det_extract rfl rfl) rfl rfl trivial ?_
      refine o1 rfl (det_assign rfl) rfl rfl trivial ?_
      refine o1 rfl (det_assign rfl) rfl rfl trivial ?_
      refine be rfl ?_
      refine k_then ?_
      refine t_seq ?_
      refine b0 ?_
      refine o1 rfl (det_loadN tN34 rfl rfl (.head _) rfl) rfl rfl trivial ?_
      refine o1 rfl (det_move rfl) rfl rfl trivial ?_
      refine o1 rfl (det_call hb20 rfl rfl (fun w1 hs => rmask29_ok hs.know hy)) rfl rfl trivial ?_
      refine o1 rfl (det_move rfl) rfl rfl trivial ?_
      refine o1 rfl (det_extract rfl rfl) rfl rfl trivial ?_
      refine o1 rfl (det_extract rfl rfl) rfl rfl trivial ?_
      refine o1 rfl (det_assign rfl) rfl rfl trivial ?_
      refine o1 rfl (det_assign rfl) rfl rfl trivial ?_
      refine be rfl ?_
      refine k_then ?_
      refine t_seq ?_
      refine b0 ?_
      refine o1 rfl (det_fieldAddr fld34_0 rfl) rfl rfl trivial ?_
      refine o1 rfl (det_loadN tN30 rfl rfl (.head _) rfl) rfl rfl trivial ?_
      refine o1 rfl (det_move rfl) rfl rfl trivial ?_
      refine o1 rfl (det_call hb21 rfl rfl (fun w1 hs => new29_ok hs.know hy.op)) rfl rfl trivial ?_
      refine o1 rfl (det_move rfl) rfl rfl trivial ?_
      refine o1 rfl (det_extract rfl rfl) rfl rfl trivial ?_
      refine o1 rfl (det_extract rfl rfl) rfl rfl trivial ?_
      refine om1 rfl (new_alloc z34) rfl rfl trivial (fun p16 => ?_)
      refine stN nofun rfl tN34 rfl rfl rfl .head rfl trivial rfl rfl ?_
      refine o1 rfl (det_assign rfl) rfl rfl trivial ?_
      refine be rfl ?_
      refine k_then ?_
      refine t_seq ?_
      refine b0 ?_
      refine o1 rfl (det_fieldAddr fld34_0 rfl) rfl rfl trivial ?_
      refine o1 rfl (det_loadN tN30 rfl rfl (.tail _ (.head _)) rfl) rfl rfl trivial ?_
      refine o1 rfl (det_move rfl) rfl rfl trivial ?_
      refine o1 rfl (det_call hb22 rfl rfl (fun w1 hs => rnew29_ok hs.know hy.op)) rfl rfl trivial ?_
      refine o1 rfl (det_move rfl) rfl rfl trivial ?_
      refine o1 rfl (det_extract rfl rfl) rfl rfl trivial ?_
      refine o1 rfl (det_extract rfl rfl) rfl rfl trivial ?_
      refine om1 rfl (new_alloc z34) rfl rfl trivial (fun p18 => ?_)
      refine stN nofun rfl tN34 rfl rfl rfl .head rfl trivial rfl rfl ?_
      refine o1 rfl (det_assign rfl) rfl rfl trivial ?_
      refine be rfl ?_
      refine k_then ?_
      refine t_seq ?_
      refine b0 ?_
      refine o1 rfl (det_move rfl) rfl rfl trivial ?_
      refine o1 rfl (det_move rfl) rfl rfl trivial ?_
      refine o1 rfl (det_neq rfl rfl) rfl rfl trivial ?_
      refine o2P bne_iff_ne rfl (det_move rfl) rfl rfl trivial (fun hb => ?_) (fun hb => ?_)
      · exfalso; first | exact hb rfl | (simp at hb; done)
      refine o1 rfl (det_move rfl) rfl rfl ⟨_, rfl, rfl⟩ ?_
      refine o1 rfl (det_move rfl) rfl rfl ⟨_, rfl, rfl⟩ ?_
      refine o1 rfl (det_neq rfl rfl) rfl rfl ⟨_, rfl, rfl⟩ ?_
      refine o1 rfl (det_pickF rfl rfl) rfl rfl trivial ?_
      refine o2P bne_iff_ne rfl (det_move rfl) rfl rfl trivial (fun hb => ?_) (fun hb => ?_)
      · exfalso; first | exact hb rfl | (simp at hb; done)
      refine o1 rfl (det_move rfl) rfl rfl ⟨_, rfl, rfl⟩ ?_
      refine o1 rfl (det_move rfl) rfl rfl ⟨_, rfl, rfl⟩ ?_
      refine o1 rfl (det_neq rfl rfl) rfl rfl ⟨_, rfl, rfl⟩ ?_
      refine o1 rfl (det_pickF rfl rfl) rfl rfl trivial ?_
      refine o2P bne_iff_ne rfl (det_move rfl) rfl rfl trivial (fun hb => ?_) (fun hb => ?_)
      · exfalso; first | exact hb rfl | (simp at hb; done)
      refine o1 rfl (det_loadN tN34 rfl rfl (.tail _ (.head _)) rfl) rfl rfl ⟨_, rfl, rfl⟩ ?_
      refine o1 rfl (det_loadN tN34 rfl rfl (.head _) rfl) rfl rfl ⟨_, rfl, rfl⟩ ?_
      refine o1 rfl (det_call hb23 rfl rfl (fun w1 hs => Same_at hs.know (new_k hy.op) (new_k hy.op) (new_n hyn.1).1 (new_n hyn.1).2 (sameC_refl _))) rfl rfl ⟨_, rfl, rfl⟩ ?_
      refine o1 rfl (det_not rfl) rfl rfl ⟨_, rfl, rfl⟩ ?_
      refine o1 rfl (det_pickF rfl rfl) rfl rfl trivial ?_
      refine be rfl ?_
      refine k_then ?_
      refine t_condP not_iff_false rfl (fun hb => ?_) (fun hb => ?_)
      · exfalso; first | exact hb rfl | (simp at hb; done)
      refine t_skip ?_
      refine k_blk ?_
      refine k_then ?_
      refine b0 ?_
      first | (refine o1 rfl (det_addI rfl rfl ?_) rfl rfl trivial ?_; (· omega)) | refine o1 rfl (det_add rfl rfl) rfl rfl trivial ?_
      refine o1 rfl (det_move rfl) rfl rfl trivial ?_
      refine be rfl ?_
      refine k_then ?_
      refine loop_back (q + 1) (by omega) (by omega) ⟨rfl, rfl, rfl, rfl, rfl, rfl, rfl, trivial⟩ (.cons _ (.cons _ (.refl _)))
    ·
      skip
      refine t_exit ?_
      refine k_thenE ?_
      refine k_thenE ?_
      refine k_blkE ?_
      refine k_blk ?_
      refine k_then ?_
      refine b0 ?_
      first | (refine o1 rfl (det_addI rfl rfl ?_) rfl rfl trivial ?_; (· omega)) | refine o1 rfl (det_add rfl rfl) rfl rfl trivial ?_
      refine o1 rfl (det_move rfl) rfl rfl trivial ?_
      refine be rfl ?_
      refine k_then ?_
      refine loop_back (s + 1) (by omega) (by omega) ⟨rfl, rfl, rfl, rfl, trivial⟩ (.cons _ (.refl _))
  ·
    skip
    refine t_exit ?_
    refine k_thenE ?_
    refine k_thenE ?_
    refine k_blkE ?_
    refine k_then ?_
    refine t_seq ?_
    refine b0 ?_
    refine o1 rfl (det_call hb24 rfl rfl (fun w1 hs => works29_ok hs.know)) rfl rfl trivial ?_
    refine o1 rfl (det_assign rfl) rfl rfl trivial ?_
    refine be rfl ?_
    refine k_then ?_
    refine t_ret ?_
    refine ret_tmp rfl rfl rfl (fun w1 hs => ?_)
    exact ⟨rfl, hs.keep⟩

/-- SwapFits. -/
theorem sfits_ok {w : World} {F : Know} (hF : ∀ a v, F a = some v → w.cell? a = some v) {A1 A2 A3 A4 : Option Addr} {n1 n2 n3 n4 c1 c2 c3 c4 : Nat} {ss ls ss2 ls2 : List Int} {bs lt : Int} {pe : Bool} (h1 : IntsK F .u8 A1 n1 ss) (h2 : IntsK F .u8 A2 n2 ls) (h3 : IntsK F .u8 A3 n3 ss2) (h4 : IntsK F .u8 A4 n4 ls2) (hbs : -32768 ≤ bs ∧ bs ≤ 32767) (hlt : 0 ≤ lt ∧ lt ≤ 255) {wt N : Int} {g : Gl} (hg : GlK F g) (hcap : g.n ≤ g.cap) (hw : 0 ≤ wt ∧ wt ≤ 255) {cl t lg : Int} (hcl : -9223372036854775808 ≤ cl ∧ cl ≤ 9223372036854775807) : Pure Try.prog 4 [.agg [.slice A1 n1 c1, .slice A2 n2 c2, .slice A3 n3 c3, .slice A4 n4 c4, .int .i16 bs, .bool pe, .int .u8 lt].toArray, .agg [.int .u8 wt, .int .i64 N, .slice g.A g.n g.cap, .int .i64 g.cyc].toArray, .int .i64 cl, .int .i64 t, .int .i64 lg] w (.bool true) := by
  refine fn_pure (F := F) Try.func4 rfl Try.ntmps4 rfl hF ?_
  refine t_seq ?_
  refine b0 ?_
  refine om1 rfl (new_boxN rfl) rfl rfl trivial (fun p5 => ?_)
  refine om1 rfl (new_boxN rfl) rfl rfl trivial (fun p6 => ?_)
  refine o1 rfl (det_assign rfl) rfl rfl trivial ?_
  refine be rfl ?_
  refine k_then ?_
  refine t_seq ?_
  refine b0 ?_
  refine o1 rfl (det_loadN tN27 rfl rfl (.tail _ (.head _)) rfl) rfl rfl trivial ?_
  refine oF nofun rfl hb15 rfl rfl rfl trivial (fun w1 hs => change_ok hs.know h1 h2 h3 h4 hbs hlt) (fun v21 F1 hF1 hN1 ⟨c, hv, hC, hD, hpe⟩ => ?_)
  subst hv
  have hgk : GlK F1 { g with n := min 130 g.n, es := g.es.take 130 } := GlK.takeK (EntK.mono hg hF1) 130
  have hdw := hD.wh
  have hbn := bend_n (what := wt) (N := N) (g := { g with n := min 130 g.n, es := g.es.take 130 }) (c := c) (by dsimp only; omega) (by have := hD.n1; omega) (by have := hD.n2; omega)
  have hbk := bend_k (what := wt) (N := N) hgk hC
  refine om1 rfl (new_alloc z34) rfl rfl trivial (fun p11 => ?_)
  refine stN nofun rfl tN34 rfl rfl rfl .head rfl trivial rfl rfl ?_
  refine be rfl ?_
  refine k_then ?_
  refine t_seq ?_
  refine t_seq ?_
  refine bD mixed ?_
  refine r_seg 6 6 [] [0, 1, 2, 3, 4, 5] (by kernel_rfl) ?_
  refine s1 rfl (det_loadN tN34 rfl rfl (.head _) rfl) rfl rfl trivial rfl ?_
  refine s1 rfl (det_loadN tN32 rfl rfl (.tail _ (.head _)) rfl) rfl rfl trivial rfl ?_
  refine s1 rfl (det_loadN tN34 rfl rfl (.head _) rfl) rfl rfl trivial rfl ?_
  refine s1 rfl (det_call hb16 rfl rfl (fun w1 hs => bend_ok hs.know hcap hw (by omega))) rfl rfl trivial rfl ?_
  refine s1 rfl (det_build rfl (fun w => bld37_0_1 _ _ _ _ _ _ _ _ _ _ _ _ _ _ _ _ _ _ _ _ _ _ w)) rfl rfl trivial rfl ?_
  refine s1 rfl (det_move rfl) rfl rfl trivial rfl ?_
  refine sg_nil ?_
  refine be rfl ?_
  refine k_then ?_
  refine t_block ?_
  refine t_whileM (σ := Nat) (fun s => [(27, .int .i64 s)]) (fun _ => _) (fun s => 2 - s) (fun s => s ≤ 2) 0 (env0 := [(2, _), (3, _), (4, _), (11, _), (26, _)]) (Nat.zero_le _) ⟨rfl, trivial⟩ ⟨rfl, rfl, rfl, rfl, rfl, trivial⟩ (.refl _) ?_
  intro s hsl
  refine t_seq ?_
  refine b0 ?_
  refine o1 rfl (det_lss rfl rfl) rfl rfl trivial ?_
  refine be rfl ?_
  refine k_then ?_
  refine t_seq ?_
  refine t_condP decide_eq_true_iff rfl (fun hb => ?_) (fun hb => ?_)
  ·
    have hlt2 : s < 2 := by omega
    obtain ⟨y, hcut, hy, hyn⟩ : ∃ y : Ch, cutV ((s : Int).toNat * 7) 7 (chv c ++ chv (bendC wt N { g with n := min 130 g.n, es := g.es.take 130 } c)) = some (chv y) ∧ ChK F1 y ∧ (y.op.n ≤ 130 ∧ y.ad.n ≤ 130) := by
      have h6 : s = 0 ∨ s = 1 := by omega
      rcases h6 with rfl | rfl
      · exact ⟨c, rfl, hC, by have := hD.n1; omega, by have := hD.n2; omega⟩
      · exact ⟨(bendC wt N { g with n := min 130 g.n, es := g.es.take 130 } c), rfl, hbk, hbn⟩
    refine t_skip ?_
    refine k_then ?_
    refine t_seq ?_
    refine t_block ?_
    refine t_seq ?_
    refine b0 ?_
    refine o1 rfl (det_indexN ar37 tN34 rfl rfl (by omega) hcut) rfl rfl trivial ?_
    refine om1 rfl (new_alloc z34) rfl rfl trivial (fun p13 => ?_)
    refine stN nofun rfl tN34 rfl rfl rfl .head rfl trivial rfl rfl ?_
    refine be rfl ?_
    refine k_then ?_
    refine t_seq ?_
    refine b0 ?_
    have hu1 := u64w cl
    have hu2 := u64w lg
    have hu3 := u64w t
    have htm := tmK t (k := 2000) (by decide)
    refine o1 rfl (det_move rfl) rfl rfl trivial ?_
    refine o1 rfl (det_move rfl) rfl rfl trivial ?_
    refine o1 rfl (det_move rfl) rfl rfl trivial ?_
    refine o1 rfl (det_build rfl (fun w => bld40_0_1_2 _ _ _ w)) rfl rfl trivial ?_
    refine o1 rfl (det_move rfl) rfl rfl trivial ?_
    first | (refine o1 rfl (det_convW Try.underlying3 Try.underlying48 rfl ?_) rfl rfl trivial ?_; (· exact IntWalk.u64_in _ (by omega))) | refine o1 rfl (det_conv Try.underlying3 Try.underlying48 rfl) rfl rfl trivial ?_
    first | (refine o1 rfl (det_remP rfl rfl ?_) rfl rfl trivial ?_; (· omega)) | (refine o1 rfl (det_rem rfl rfl ?_) rfl rfl trivial ?_; (· (first | decide | omega)))
    first | (refine o1 rfl (det_convW Try.underlying48 Try.underlying3 rfl ?_) rfl rfl trivial ?_; (· exact IntWalk.i64_in _ (by omega))) | refine o1 rfl (det_conv Try.underlying48 Try.underlying3 rfl) rfl rfl trivial ?_
    refine o1 rfl (det_move rfl) rfl rfl trivial ?_
    first | (refine o1 rfl (det_remP rfl rfl ?_) rfl rfl trivial ?_; (· omega)) | (refine o1 rfl (det_rem rfl rfl ?_) rfl rfl trivial ?_; (· (first | decide | omega)))
    refine o1 rfl (det_move rfl) rfl rfl trivial ?_
    first | (refine o1 rfl (det_convW Try.underlying3 Try.underlying48 rfl ?_) rfl rfl trivial ?_; (· exact IntWalk.u64_in _ (by omega))) | refine o1 rfl (det_conv Try.underlying3 Try.underlying48 rfl) rfl rfl trivial ?_
    first | (refine o1 rfl (det_remP rfl rfl ?_) rfl rfl trivial ?_; (· omega)) | (refine o1 rfl (det_rem rfl rfl ?_) rfl rfl trivial ?_; (· (first | decide | omega)))
    first | (refine o1 rfl (det_convW Try.underlying48 Try.underlying3 rfl ?_) rfl rfl trivial ?_; (· exact IntWalk.i64_in _ (by omega))) | refine o1 rfl (det_conv Try.underlying48 Try.underlying3 rfl) rfl rfl trivial ?_
    refine o1 rfl (det_build rfl (fun w => bld40_0_1_2 _ _ _ w)) rfl rfl trivial ?_
    refine o1 rfl (det_move rfl) rfl rfl trivial ?_
    first | (refine o1 rfl (det_convW Try.underlying3 Try.underlying48 rfl ?_) rfl rfl trivial ?_; (· exact IntWalk.u64_in _ (by omega))) | refine o1 rfl (det_conv Try.underlying3 Try.underlying48 rfl) rfl rfl trivial ?_
    first | (refine o1 rfl (det_remP rfl rfl ?_) rfl rfl trivial ?_; (· omega)) | (refine o1 rfl (det_rem rfl rfl ?_) rfl rfl trivial ?_; (· (first | decide | omega)))
    first | (refine o1 rfl (det_convW Try.underlying48 Try.underlying3 rfl ?_) rfl rfl trivial ?_; (· exact IntWalk.i64_in _ (by omega))) | refine o1 rfl (det_conv Try.underlying48 Try.underlying3 rfl) rfl rfl trivial ?_
    refine o1 rfl (det_fieldAddr fld34_4 rfl) rfl rfl trivial ?_
    refine o1 rfl (det_load1 t1_3 rfl rfl (.tail _ (.head _)) rfl) rfl rfl trivial ?_
    refine o1 rfl (det_move rfl) rfl rfl trivial ?_
    first | (refine o1 rfl (det_convW Try.underlying3 Try.underlying48 rfl ?_) rfl rfl trivial ?_; (· exact IntWalk.u64_in _ (by omega))) | refine o1 rfl (det_conv Try.underlying3 Try.underlying48 rfl) rfl rfl trivial ?_
    first | (refine o1 rfl (det_remP rfl rfl ?_) rfl rfl trivial ?_; (· omega)) | (refine o1 rfl (det_rem rfl rfl ?_) rfl rfl trivial ?_; (· (first | decide | omega)))
    first | (refine o1 rfl (det_convW Try.underlying48 Try.underlying3 rfl ?_) rfl rfl trivial ?_; (· exact IntWalk.i64_in _ (by omega))) | refine o1 rfl (det_conv Try.underlying48 Try.underlying3 rfl) rfl rfl trivial ?_
    first | (refine o1 rfl (det_subI rfl rfl ?_) rfl rfl trivial ?_; (· omega)) | refine o1 rfl (det_sub rfl rfl) rfl rfl trivial ?_
    refine o1 rfl (det_move rfl) rfl rfl trivial ?_
    first | (refine o1 rfl (det_convW Try.underlying3 Try.underlying48 rfl ?_) rfl rfl trivial ?_; (· exact IntWalk.u64_in _ (by omega))) | refine o1 rfl (det_conv Try.underlying3 Try.underlying48 rfl) rfl rfl trivial ?_
    first | (refine o1 rfl (det_remP rfl rfl ?_) rfl rfl trivial ?_; (· omega)) | (refine o1 rfl (det_rem rfl rfl ?_) rfl rfl trivial ?_; (· (first | decide | omega)))
    first | (refine o1 rfl (det_convW Try.underlying48 Try.underlying3 rfl ?_) rfl rfl trivial ?_; (· exact IntWalk.i64_in _ (by omega))) | refine o1 rfl (det_conv Try.underlying48 Try.underlying3 rfl) rfl rfl trivial ?_
    refine o1 rfl (det_build rfl (fun w => bld40_0_1_2 _ _ _ w)) rfl rfl trivial ?_
    refine o1 rfl (det_build rfl (fun w => bld49_0_1_2 _ _ _ _ _ _ _ _ _ w)) rfl rfl trivial ?_
    refine o1 rfl (det_move rfl) rfl rfl trivial ?_
    refine be rfl ?_
    refine k_then ?_
    refine t_block ?_
    refine t_whileM (σ := Nat) (fun q => [(62, .int .i64 q)]) (fun _ => _) (fun q => 3 - q) (fun q => q ≤ 3) 0 (env0 := [(2, _), (3, _), (4, _), (11, _), (13, _), (26, _), (27, _), (61, _)]) (Nat.zero_le _) ⟨rfl, trivial⟩ ⟨rfl, rfl, rfl, rfl, rfl, rfl, rfl, rfl, trivial⟩ (.refl _) ?_
    intro q hql
    refine t_seq ?_
    refine b0 ?_
    refine o1 rfl (det_lss rfl rfl) rfl rfl trivial ?_
    refine be rfl ?_
    refine k_then ?_
    refine t_seq ?_
    refine t_condP decide_eq_true_iff rfl (fun hb => ?_) (fun hb => ?_)
    ·
      obtain ⟨a, b, l, hcut2, har⟩ : ∃ a b l : Int, cutV ((q : Int).toNat * 3) 3 [Value.int .i64 cl, .int .i64 t, .int .i64 lg, .int .i64 (IntKind.u64.wrap cl % 8), .int .i64 (t.tmod 2000), .int .i64 (IntKind.u64.wrap lg % 60), .int .i64 (IntKind.u64.wrap cl % 8), .int .i64 (c.wh - IntKind.u64.wrap t % 20), .int .i64 (IntKind.u64.wrap lg % 60)] = some [.int .i64 a, .int .i64 b, .int .i64 l] ∧ (-9223372036854775808 ≤ a ∧ a ≤ 9223372036854775807) := by
        have h6 : q = 0 ∨ q = 1 ∨ q = 2 := by omega
        rcases h6 with rfl | rfl | rfl
        · exact ⟨_, _, _, rfl, hcl⟩
        · exact ⟨_, _, _, rfl, by omega, by omega⟩
        · exact ⟨_, _, _, rfl, by omega, by omega⟩
      refine t_skip ?_
      refine k_then ?_
      refine t_seq ?_
      refine t_block ?_
      refine t_seq ?_
      refine b0 ?_
      refine o1 rfl (det_indexN ar49 tN40 rfl rfl (by omega) hcut2) rfl rfl trivial ?_
      refine om1 rfl (new_alloc z40) rfl rfl trivial (fun p15 => ?_)
      refine stN nofun rfl tN40 rfl rfl rfl .head rfl trivial rfl rfl ?_
      refine be rfl ?_
      refine k_then ?_
      refine t_seq ?_
      refine b0 ?_
      refine o1 rfl (det_loadN tN34 rfl rfl (.tail _ (.head _)) rfl) rfl rfl trivial ?_
      first | (refine o1 rfl (det_indexAddrA ar40 rfl rfl ?_) rfl rfl trivial ?_; (· (first | decide | omega)))
      refine o1 rfl (det_load1 t1_3 rfl rfl (.head _) rfl) rfl rfl trivial ?_
      first | (refine o1 rfl (det_indexAddrA ar40 rfl rfl ?_) rfl rfl trivial ?_; (· (first | decide | omega)))
      refine o1 rfl (det_load1 t1_3 rfl rfl (.head _) rfl) rfl rfl trivial ?_
      first | (refine o1 rfl (det_indexAddrA ar40 rfl rfl ?_) rfl rfl trivial ?_; (· (first | decide | omega)))
      refine o1 rfl (det_load1 t1_3 rfl rfl (.head _) rfl) rfl rfl trivial ?_
      refine o1 rfl (det_call hb25 rfl rfl (fun w1 hs => fits29_ok hs.know hy har)) rfl rfl trivial ?_
      refine o1 rfl (det_move rfl) rfl rfl trivial ?_
      refine o1 rfl (det_extract rfl rfl) rfl rfl trivial ?_
      refine o1 rfl (det_extract rfl rfl) rfl rfl trivial ?_
      refine o1 rfl (det_assign rfl) rfl rfl trivial ?_
      refine o1 rfl (det_assign rfl) rfl rfl trivial ?_
      refine be rfl ?_
      refine k_then ?_
      refine t_seq ?_
      refine b0 ?_
      refine o1 rfl (det_loadN tN34 rfl rfl (.tail _ (.head _)) rfl) rfl rfl trivial ?_
      first | (refine o1 rfl (det_indexAddrA ar40 rfl rfl ?_) rfl rfl trivial ?_; (· (first | decide | omega)))
      refine o1 rfl (det_load1 t1_3 rfl rfl (.head _) rfl) rfl rfl trivial ?_
      first | (refine o1 rfl (det_indexAddrA ar40 rfl rfl ?_) rfl rfl trivial ?_; (· (first | decide | omega)))
      refine o1 rfl (det_load1 t1_3 rfl rfl (.head _) rfl) rfl rfl trivial ?_
      first | (refine o1 rfl (det_indexAddrA ar40 rfl rfl ?_) rfl rfl trivial ?_; (· (first | decide | omega)))
      refine o1 rfl (det_load1 t1_3 rfl rfl (.head _) rfl) rfl rfl trivial ?_
      refine o1 rfl (det_call hb26 rfl rfl (fun w1 hs => rfits29_ok hs.know hy har)) rfl rfl trivial ?_
      refine o1 rfl (det_move rfl) rfl rfl trivial ?_
      refine o1 rfl (det_extract rfl rfl) rfl rfl trivial ?_
      refine o1 rfl (det_extract rfl rfl) rfl rfl trivial ?_
      refine o1 rfl (det_assign rfl) rfl rfl trivial ?_
      refine o1 rfl (det_assign rfl) rfl rfl trivial ?_
      refine be rfl ?_
      refine k_then ?_
      refine t_seq ?_
      refine b0 ?_
      refine o1 rfl (det_move rfl) rfl rfl trivial ?_
      refine o1 rfl (det_move rfl) rfl rfl trivial ?_
      refine o1 rfl (det_neqB Try.underlying4 rfl rfl) rfl rfl trivial ?_
      refine o2P Iff.rfl rfl (det_move rfl) rfl rfl trivial (fun hb => ?_) (fun hb => ?_)
      · exfalso; first | exact hb rfl | (simp at hb; done)
      refine o1 rfl (det_move rfl) rfl rfl ⟨_, rfl, rfl⟩ ?_
      refine o1 rfl (det_move rfl) rfl rfl ⟨_, rfl, rfl⟩ ?_
      refine o1 rfl (det_neq rfl rfl) rfl rfl ⟨_, rfl, rfl⟩ ?_
      refine o1 rfl (det_pickF rfl rfl) rfl rfl trivial ?_
      refine be rfl ?_
      refine k_then ?_
      refine t_condP bne_iff_ne rfl (fun hb => ?_) (fun hb => ?_)
      · exfalso; first | exact hb rfl | (simp at hb; done)
      refine t_skip ?_
      refine k_blk ?_
      refine k_then ?_
      refine b0 ?_
      first | (refine o1 rfl (det_addI rfl rfl ?_) rfl rfl trivial ?_; (· omega)) | refine o1 rfl (det_add rfl rfl) rfl rfl trivial ?_
      refine o1 rfl (det_move rfl) rfl rfl trivial ?_
      refine be rfl ?_
      refine k_then ?_
      refine loop_back (q + 1) (by omega) (by omega) ⟨rfl, rfl, rfl, rfl, rfl, rfl, rfl, rfl, rfl, trivial⟩ (.cons _ (.refl _))
    ·
      skip
      refine t_exit ?_
      refine k_thenE ?_
      refine k_thenE ?_
      refine k_blkE ?_
      refine k_blk ?_
      refine k_then ?_
      refine b0 ?_
      first | (refine o1 rfl (det_addI rfl rfl ?_) rfl rfl trivial ?_; (· omega)) | refine o1 rfl (det_add rfl rfl) rfl rfl trivial ?_
      refine o1 rfl (det_move rfl) rfl rfl trivial ?_
      refine be rfl ?_
      refine k_then ?_
      refine loop_back (s + 1) (by omega) (by omega) ⟨rfl, rfl, rfl, rfl, rfl, rfl, trivial⟩ (.cons _ (.refl _))
  ·
    skip
    refine t_exit ?_
    refine k_thenE ?_
    refine k_thenE ?_
    refine k_blkE ?_
    refine k_then ?_
    refine t_seq ?_
    refine b0 ?_
    refine o1 rfl (det_call hb24 rfl rfl (fun w1 hs => works29_ok hs.know)) rfl rfl trivial ?_
    refine o1 rfl (det_assign rfl) rfl rfl trivial ?_
    refine be rfl ?_
    refine k_then ?_
    refine t_ret ?_
    refine ret_tmp rfl rfl rfl (fun w1 hs => ?_)
    exact ⟨rfl, hs.keep⟩

end Go.Proofs.Sw
