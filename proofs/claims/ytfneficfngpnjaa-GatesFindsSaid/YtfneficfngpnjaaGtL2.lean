/-
  Walks through layer 27 and its reference.
-/
import Derived.Test.YtfneficfngpnjaaGtW13
import Derived.Test.YtfneficfngpnjaaGtW11
namespace Go.Proofs.Gt
open Go Go.Eng Go.Gt
set_option maxRecDepth 4000

/-- The law GatesOpens. -/
theorem opens_ok {w : World} {F : Know} (hF : ∀ a v, F a = some v → w.cell? a = some v) {A A1 A2 : Option Addr} {n cap n1 c1 n2 c2 : Nat} {es : Ents} {cyc b : Int} {ss ls : List Int} (hE : EntK F A n es) (hcap : n ≤ cap) (hcy : -9223372036854775808 ≤ cyc ∧ cyc ≤ 9223372036854775807) (hb : 0 ≤ b ∧ b ≤ 255) (h1 : IntsK F .u8 A1 n1 ss) (h2 : IntsK F .u8 A2 n2 ls) (t0 t1 t2 : Int) (ht0 : -9223372036854775808 ≤ t0 ∧ t0 ≤ 9223372036854775807) : Pure Try.prog 4 [.agg [.slice A1 n1 c1, .slice A2 n2 c2].toArray, .agg [.slice A n cap, .int .i64 cyc].toArray, .int .u8 b, .agg [.int .i64 t0, .int .i64 t1, .int .i64 t2].toArray] w (.bool true) := by
  refine fn_pure (F := F) Try.func4 rfl Try.ntmps4 rfl hF ?_
  refine t_seq ?_
  refine b0 ?_
  refine om1 rfl (new_boxN rfl) rfl rfl trivial (fun p4 => ?_)
  refine om1 rfl (new_boxN rfl) rfl rfl trivial (fun p5 => ?_)
  refine om1 rfl (new_boxN rfl) rfl rfl trivial (fun p7 => ?_)
  refine o1 rfl (det_assign rfl) rfl rfl trivial ?_
  refine be rfl ?_
  refine k_then ?_
  refine t_seq ?_
  refine t_seq ?_
  refine b0 ?_
  refine o1 rfl (det_loadN tN24 rfl rfl (.tail _ (.tail _ (.head _))) rfl) rfl rfl trivial ?_
  refine o1 rfl (det_loadN tN27 rfl rfl (.tail _ (.head _)) rfl) rfl rfl trivial ?_
  refine o1 rfl (det_move rfl) rfl rfl trivial ?_
  refine oF nofun rfl hb10 rfl rfl rfl trivial (fun w1 hs => lists_ok hs.know hE hcap hcy hb h1 h2) (fun v24 F1 hF1 hN1 hR24 => ?_)
  obtain ⟨B1, B2, B3, m1, m2, m3, d1, d2, d3, es1, es2, es3, y1, y2, y3, rfl, hE1, hE2, hE3, hy1, hy2, hy3⟩ := hR24
  refine o1 rfl (det_move rfl) rfl rfl trivial ?_
  refine be rfl ?_
  refine k_then ?_
  refine t_block ?_
  refine t_whileM (σ := Nat) (fun s => [(25, .int .i64 (s : Int))]) (fun _ => _) (fun s => 3 - s) (fun s => s ≤ 3) 0 (env0 := [(7, _), (24, _)]) (Nat.zero_le _) ⟨rfl, trivial⟩ ⟨rfl, rfl, trivial⟩ (.refl _) ?_
  intro s hks
  refine t_seq ?_
  refine b0 ?_
  refine o1 rfl (det_lss rfl rfl) rfl rfl trivial ?_
  refine be rfl ?_
  refine k_then ?_
  refine t_seq ?_
  refine t_condP decide_eq_true_iff rfl (fun hb => ?_) (fun hb => ?_)
  ·
    have hlt : s < 3 := by omega
    have hix : ∃ (Ag : Option Addr) (ng cg : Nat) (eg : Ents) (yg : Int), cutV ((s : Int).toNat * 2) 2 [.slice B1 m1 d1, .int .i64 y1, .slice B2 m2 d2, .int .i64 y2, .slice B3 m3 d3, .int .i64 y3] = some [.slice Ag ng cg, .int .i64 yg] ∧ EntK F1 Ag ng eg := by
      rcases (show s = 0 ∨ s = 1 ∨ s = 2 by omega) with rfl | rfl | rfl
      · exact ⟨_, _, _, _, _, rfl, hE1⟩
      · exact ⟨_, _, _, _, _, rfl, hE2⟩
      · exact ⟨_, _, _, _, _, rfl, hE3⟩
    obtain ⟨Ag, ng, cg, eg, yg, hcut, hEg⟩ := hix
    refine t_skip ?_
    refine k_then ?_
    refine t_seq ?_
    refine t_block ?_
    refine t_seq ?_
    refine b0 ?_
    refine o1 rfl (det_indexN ar28 tN27 rfl rfl (by omega) hcut) rfl rfl trivial ?_
    refine om1 rfl (new_alloc z27) rfl rfl trivial (fun p10 => ?_)
    refine stN nofun rfl tN27 rfl rfl rfl .head rfl trivial rfl rfl ?_
    refine be rfl ?_
    refine k_then ?_
    refine t_seq ?_
    refine b0 ?_
    refine o1 rfl (det_loadN tN30 rfl rfl (.tail _ (.head _)) rfl) rfl rfl trivial ?_
    first | (refine o1 rfl (det_indexAddrA ar30 rfl rfl ?_) rfl rfl trivial ?_; · (first | decide | omega))
    refine o1 rfl (det_load1 t1_3 rfl rfl (.tail _ (.head _)) rfl) rfl rfl trivial ?_
    first | (refine o1 rfl (det_remP rfl rfl ?_) rfl rfl trivial ?_; · omega) | (refine o1 rfl (det_rem rfl rfl ?_) rfl rfl trivial ?_; · (first | decide | omega))
    first | (refine o1 rfl (det_indexAddrA ar30 rfl rfl ?_) rfl rfl trivial ?_; · (first | decide | omega))
    refine o1 rfl (det_load1 t1_3 rfl rfl (.tail _ (.head _)) rfl) rfl rfl trivial ?_
    first | (refine o1 rfl (det_remP rfl rfl ?_) rfl rfl trivial ?_; · omega) | (refine o1 rfl (det_rem rfl rfl ?_) rfl rfl trivial ?_; · (first | decide | omega))
    first | (refine o1 rfl (det_indexAddrA ar30 rfl rfl ?_) rfl rfl trivial ?_; · (first | decide | omega))
    refine o1 rfl (det_load1 t1_3 rfl rfl (.tail _ (.head _)) rfl) rfl rfl trivial ?_
    first | (refine o1 rfl (det_remP rfl rfl ?_) rfl rfl trivial ?_; · omega) | (refine o1 rfl (det_rem rfl rfl ?_) rfl rfl trivial ?_; · (first | decide | omega))
    refine o1 rfl (det_build rfl (fun w => bld30_0_1_2 _ _ _ w)) rfl rfl trivial ?_
    first | (refine o1 rfl (det_indexAddrA ar30 rfl rfl ?_) rfl rfl trivial ?_; · (first | decide | omega))
    refine o1 rfl (det_load1 t1_3 rfl rfl (.tail _ (.head _)) rfl) rfl rfl trivial ?_
    first | (refine o1 rfl (det_remP rfl rfl ?_) rfl rfl trivial ?_; · omega) | (refine o1 rfl (det_rem rfl rfl ?_) rfl rfl trivial ?_; · (first | decide | omega))
    first | (refine o1 rfl (det_indexAddrA ar30 rfl rfl ?_) rfl rfl trivial ?_; · (first | decide | omega))
    refine o1 rfl (det_load1 t1_3 rfl rfl (.tail _ (.head _)) rfl) rfl rfl trivial ?_
    first | (refine o1 rfl (det_remP rfl rfl ?_) rfl rfl trivial ?_; · omega) | (refine o1 rfl (det_rem rfl rfl ?_) rfl rfl trivial ?_; · (first | decide | omega))
    refine o1 rfl (det_build rfl (fun w => bld30_0_1_2 _ _ _ w)) rfl rfl trivial ?_
    refine o1 rfl (det_build rfl (fun w => bld37_0_1_2 _ _ _ _ _ _ _ _ _ w)) rfl rfl trivial ?_
    refine o1 rfl (det_move rfl) rfl rfl trivial ?_
    refine be rfl ?_
    refine k_then ?_
    refine t_block ?_
    refine t_whileM (σ := Nat) (fun q => [(47, .int .i64 (q : Int))]) (fun _ => _) (fun q => 3 - q) (fun q => q ≤ 3) 0 (env0 := [(7, _), (10, _), (24, _), (25, _), (46, _)]) (Nat.zero_le _) ⟨rfl, trivial⟩ ⟨rfl, rfl, rfl, rfl, rfl, trivial⟩ (.refl _) ?_
    intro q hkq
    refine t_seq ?_
    refine b0 ?_
    refine o1 rfl (det_lss rfl rfl) rfl rfl trivial ?_
    refine be rfl ?_
    refine k_then ?_
    refine t_seq ?_
    refine t_condP decide_eq_true_iff rfl (fun hb => ?_) (fun hb => ?_)
    ·
      have hnth : ∃ x0 x1 x2 : Int, cutV ((q : Int).toNat * 3) 3 [.int .i64 (t0), .int .i64 (t1), .int .i64 (t2), .int .i64 (t0.tmod 8), .int .i64 (t1.tmod 1000), .int .i64 (t2.tmod 50), .int .i64 (6), .int .i64 (t1.tmod 1000), .int .i64 (t2.tmod 50)] = some [.int .i64 x0, .int .i64 x1, .int .i64 x2] ∧ (-9223372036854775808 ≤ x0 ∧ x0 ≤ 9223372036854775807) := by
        rcases (show q = 0 ∨ q = 1 ∨ q = 2 by omega) with rfl | rfl | rfl
        · exact ⟨_, _, _, rfl, by omega⟩
        · exact ⟨_, _, _, rfl, by have := Int.tmod_lt_of_pos t0 (show (0:Int) < 8 by omega); have := Int.lt_tmod_of_pos t0 (show (0:Int) < 8 by omega); omega⟩
        · exact ⟨_, _, _, rfl, by omega⟩
      obtain ⟨x0, x1, x2, hnth, hx0⟩ := hnth
      refine t_skip ?_
      refine k_then ?_
      refine t_seq ?_
      refine t_block ?_
      refine t_seq ?_
      refine b0 ?_
      refine o1 rfl (det_indexN ar37 tN30 rfl rfl (by omega) hnth) rfl rfl trivial ?_
      refine om1 rfl (new_alloc z30) rfl rfl trivial (fun p12 => ?_)
      refine stN nofun rfl tN30 rfl rfl rfl .head rfl trivial rfl rfl ?_
      refine be rfl ?_
      refine k_then ?_
      refine t_seq ?_
      refine b0 ?_
      refine o1 rfl (det_loadN tN27 rfl rfl (.tail _ (.head _)) rfl) rfl rfl trivial ?_
      first | (refine o1 rfl (det_indexAddrA ar30 rfl rfl ?_) rfl rfl trivial ?_; · (first | decide | omega))
      refine o1 rfl (det_load1 t1_3 rfl rfl (.head _) rfl) rfl rfl trivial ?_
      first | (refine o1 rfl (det_indexAddrA ar30 rfl rfl ?_) rfl rfl trivial ?_; · (first | decide | omega))
      refine o1 rfl (det_load1 t1_3 rfl rfl (.head _) rfl) rfl rfl trivial ?_
      refine o1 rfl (det_call hb18 rfl rfl (fun w1 hs => Open_ok hs.know hEg x0 hx0 x1)) rfl rfl trivial ?_
      refine o1 rfl (det_move rfl) rfl rfl trivial ?_
      refine o1 rfl (det_extract rfl rfl) rfl rfl trivial ?_
      refine o1 rfl (det_extract rfl rfl) rfl rfl trivial ?_
      refine o1 rfl (det_assign rfl) rfl rfl trivial ?_
      refine o1 rfl (det_assign rfl) rfl rfl trivial ?_
      refine be rfl ?_
      refine k_then ?_
      refine t_seq ?_
      refine b0 ?_
      refine o1 rfl (det_loadN tN27 rfl rfl (.tail _ (.head _)) rfl) rfl rfl trivial ?_
      first | (refine o1 rfl (det_indexAddrA ar30 rfl rfl ?_) rfl rfl trivial ?_; · (first | decide | omega))
      refine o1 rfl (det_load1 t1_3 rfl rfl (.head _) rfl) rfl rfl trivial ?_
      first | (refine o1 rfl (det_indexAddrA ar30 rfl rfl ?_) rfl rfl trivial ?_; · (first | decide | omega))
      refine o1 rfl (det_load1 t1_3 rfl rfl (.head _) rfl) rfl rfl trivial ?_
      refine o1 rfl (det_call hb19 rfl rfl (fun w1 hs => rOpen_ok hs.know hEg x0 hx0 x1)) rfl rfl trivial ?_
      refine o1 rfl (det_move rfl) rfl rfl trivial ?_
      refine o1 rfl (det_extract rfl rfl) rfl rfl trivial ?_
      refine o1 rfl (det_extract rfl rfl) rfl rfl trivial ?_
      refine o1 rfl (det_assign rfl) rfl rfl trivial ?_
      refine o1 rfl (det_assign rfl) rfl rfl trivial ?_
      refine be rfl ?_
      refine k_then ?_
      refine t_seq ?_
      refine b0 ?_
      refine o1 rfl (det_loadN tN27 rfl rfl (.tail _ (.head _)) rfl) rfl rfl trivial ?_
      first | (refine o1 rfl (det_indexAddrA ar30 rfl rfl ?_) rfl rfl trivial ?_; · (first | decide | omega))
      refine o1 rfl (det_load1 t1_3 rfl rfl (.head _) rfl) rfl rfl trivial ?_
      first | (refine o1 rfl (det_indexAddrA ar30 rfl rfl ?_) rfl rfl trivial ?_; · (first | decide | omega))
      refine o1 rfl (det_load1 t1_3 rfl rfl (.head _) rfl) rfl rfl trivial ?_
      first | (refine o1 rfl (det_indexAddrA ar30 rfl rfl ?_) rfl rfl trivial ?_; · (first | decide | omega))
      refine o1 rfl (det_load1 t1_3 rfl rfl (.head _) rfl) rfl rfl trivial ?_
      refine o1 rfl (det_call hb20 rfl rfl (fun w1 hs => Fits_ok hs.know hEg x0 hx0 x1 x2)) rfl rfl trivial ?_
      refine o1 rfl (det_move rfl) rfl rfl trivial ?_
      refine o1 rfl (det_extract rfl rfl) rfl rfl trivial ?_
      refine o1 rfl (det_extract rfl rfl) rfl rfl trivial ?_
      refine o1 rfl (det_assign rfl) rfl rfl trivial ?_
      refine o1 rfl (det_assign rfl) rfl rfl trivial ?_
      refine be rfl ?_
      refine k_then ?_
      refine t_seq ?_
      refine b0 ?_
      refine o1 rfl (det_loadN tN27 rfl rfl (.tail _ (.head _)) rfl) rfl rfl trivial ?_
      first | (refine o1 rfl (det_indexAddrA ar30 rfl rfl ?_) rfl rfl trivial ?_; · (first | decide | omega))
      refine o1 rfl (det_load1 t1_3 rfl rfl (.head _) rfl) rfl rfl trivial ?_
      first | (refine o1 rfl (det_indexAddrA ar30 rfl rfl ?_) rfl rfl trivial ?_; · (first | decide | omega))
      refine o1 rfl (det_load1 t1_3 rfl rfl (.head _) rfl) rfl rfl trivial ?_
      first | (refine o1 rfl (det_indexAddrA ar30 rfl rfl ?_) rfl rfl trivial ?_; · (first | decide | omega))
      refine o1 rfl (det_load1 t1_3 rfl rfl (.head _) rfl) rfl rfl trivial ?_
      refine o1 rfl (det_call hb21 rfl rfl (fun w1 hs => rFits_ok hs.know hEg x0 hx0 x1 x2)) rfl rfl trivial ?_
      refine o1 rfl (det_move rfl) rfl rfl trivial ?_
      refine o1 rfl (det_extract rfl rfl) rfl rfl trivial ?_
      refine o1 rfl (det_extract rfl rfl) rfl rfl trivial ?_
      refine o1 rfl (det_assign rfl) rfl rfl trivial ?_
      refine o1 rfl (det_assign rfl) rfl rfl trivial ?_
      refine be rfl ?_
      refine k_then ?_
      refine t_seq ?_
      refine b0 ?_
      refine o1 rfl (det_move rfl) rfl rfl trivial ?_
      refine o1 rfl (det_move rfl) rfl rfl trivial ?_
      refine o1 rfl (det_neq rfl rfl) rfl rfl trivial ?_
      refine o2P bne_iff_ne rfl (det_move rfl) rfl rfl trivial (fun hb => ?_) (fun hb => ?_)
      · exfalso; first | exact hb rfl | simp at hb
      refine o1 rfl (det_move rfl) rfl rfl ⟨_, rfl, rfl⟩ ?_
      refine o1 rfl (det_move rfl) rfl rfl ⟨_, rfl, rfl⟩ ?_
      refine o1 rfl (det_neq rfl rfl) rfl rfl ⟨_, rfl, rfl⟩ ?_
      refine o1 rfl (det_pickF rfl rfl) rfl rfl trivial ?_
      refine o2P bne_iff_ne rfl (det_move rfl) rfl rfl trivial (fun hb => ?_) (fun hb => ?_)
      · exfalso; first | exact hb rfl | simp at hb
      refine o1 rfl (det_move rfl) rfl rfl ⟨_, rfl, rfl⟩ ?_
      refine o1 rfl (det_move rfl) rfl rfl ⟨_, rfl, rfl⟩ ?_
      refine o1 rfl (det_neqB Try.underlying4 rfl rfl) rfl rfl ⟨_, rfl, rfl⟩ ?_
      refine o1 rfl (det_pickF rfl rfl) rfl rfl trivial ?_
      refine o2P Iff.rfl rfl (det_move rfl) rfl rfl trivial (fun hb => ?_) (fun hb => ?_)
      · exfalso; first | exact hb rfl | simp at hb
      refine o1 rfl (det_move rfl) rfl rfl ⟨_, rfl, rfl⟩ ?_
      refine o1 rfl (det_move rfl) rfl rfl ⟨_, rfl, rfl⟩ ?_
      refine o1 rfl (det_neq rfl rfl) rfl rfl ⟨_, rfl, rfl⟩ ?_
      refine o1 rfl (det_pickF rfl rfl) rfl rfl trivial ?_
      refine be rfl ?_
      refine k_then ?_
      refine t_condP bne_iff_ne rfl (fun hb => ?_) (fun hb => ?_)
      · exfalso; first | exact hb rfl | simp at hb
      refine t_skip ?_
      refine k_blk ?_
      refine k_then ?_
      refine b0 ?_
      first | (refine o1 rfl (det_addI rfl rfl ?_) rfl rfl trivial ?_; · omega) | refine o1 rfl (det_add rfl rfl) rfl rfl trivial ?_
      refine o1 rfl (det_move rfl) rfl rfl trivial ?_
      refine be rfl ?_
      refine k_then ?_
      refine loop_back (q + 1) (by show q + 1 ≤ _; omega) (by show _ - (q + 1) < _; omega) ⟨rfl, rfl, rfl, rfl, rfl, rfl, trivial⟩ (.cons _ (.refl _))
    ·
      refine t_exit ?_
      refine k_thenE ?_
      refine k_thenE ?_
      refine k_blkE ?_
      refine k_blk ?_
      refine k_then ?_
      refine b0 ?_
      first | (refine o1 rfl (det_addI rfl rfl ?_) rfl rfl trivial ?_; · omega) | refine o1 rfl (det_add rfl rfl) rfl rfl trivial ?_
      refine o1 rfl (det_move rfl) rfl rfl trivial ?_
      refine be rfl ?_
      refine k_then ?_
      refine loop_back (s + 1) (by show s + 1 ≤ _; omega) (by show _ - (s + 1) < _; omega) ⟨rfl, rfl, rfl, trivial⟩ (.cons _ (.refl _))
  ·
    refine t_exit ?_
    refine k_thenE ?_
    refine k_thenE ?_
    refine k_blkE ?_
    refine k_then ?_
    refine t_seq ?_
    refine b0 ?_
    refine o1 rfl (det_call hb17 rfl rfl (fun w1 hs => works_ok hs.know)) rfl rfl trivial ?_
    refine o1 rfl (det_assign rfl) rfl rfl trivial ?_
    refine be rfl ?_
    refine k_then ?_
    refine t_ret ?_
    refine ret_tmp rfl rfl rfl (fun w1 hs => ?_)
    exact ⟨rfl, hs.keep⟩

/-- The law GatesFinds. -/
theorem finds_ok {w : World} {F : Know} (hF : ∀ a v, F a = some v → w.cell? a = some v) {A A1 A2 : Option Addr} {n cap n1 c1 n2 c2 : Nat} {es : Ents} {cyc b : Int} {ss ls : List Int} (hE : EntK F A n es) (hcap : n ≤ cap) (hcy : -9223372036854775808 ≤ cyc ∧ cyc ≤ 9223372036854775807) (hb : 0 ≤ b ∧ b ≤ 255) (h1 : IntsK F .u8 A1 n1 ss) (h2 : IntsK F .u8 A2 n2 ls) (t0 t1 t2 : Int) (ht0 : -9223372036854775808 ≤ t0 ∧ t0 ≤ 9223372036854775807) : Pure Try.prog 5 [.agg [.slice A1 n1 c1, .slice A2 n2 c2].toArray, .agg [.slice A n cap, .int .i64 cyc].toArray, .int .u8 b, .agg [.int .i64 t0, .int .i64 t1, .int .i64 t2].toArray] w (.bool true) := by
  refine fn_pure (F := F) Try.func5 rfl Try.ntmps5 rfl hF ?_
  refine t_seq ?_
  refine b0 ?_
  refine om1 rfl (new_boxN rfl) rfl rfl trivial (fun p4 => ?_)
  refine om1 rfl (new_boxN rfl) rfl rfl trivial (fun p5 => ?_)
  refine om1 rfl (new_boxN rfl) rfl rfl trivial (fun p7 => ?_)
  refine o1 rfl (det_assign rfl) rfl rfl trivial ?_
  refine be rfl ?_
  refine k_then ?_
  refine t_seq ?_
  refine t_seq ?_
  refine b0 ?_
  refine o1 rfl (det_loadN tN24 rfl rfl (.tail _ (.tail _ (.head _))) rfl) rfl rfl trivial ?_
  refine o1 rfl (det_loadN tN27 rfl rfl (.tail _ (.head _)) rfl) rfl rfl trivial ?_
  refine o1 rfl (det_move rfl) rfl rfl trivial ?_
  refine oF nofun rfl hb10 rfl rfl rfl trivial (fun w1 hs => lists_ok hs.know hE hcap hcy hb h1 h2) (fun v24 F1 hF1 hN1 hR24 => ?_)
  obtain ⟨B1, B2, B3, m1, m2, m3, d1, d2, d3, es1, es2, es3, y1, y2, y3, rfl, hE1, hE2, hE3, hy1, hy2, hy3⟩ := hR24
  refine o1 rfl (det_move rfl) rfl rfl trivial ?_
  refine be rfl ?_
  refine k_then ?_
  refine t_block ?_
  refine t_whileM (σ := Nat) (fun s => [(21, .int .i64 (s : Int))]) (fun _ => _) (fun s => 3 - s) (fun s => s ≤ 3) 0 (env0 := [(7, _), (20, _)]) (Nat.zero_le _) ⟨rfl, trivial⟩ ⟨rfl, rfl, trivial⟩ (.refl _) ?_
  intro s hks
  refine t_seq ?_
  refine b0 ?_
  refine o1 rfl (det_lss rfl rfl) rfl rfl trivial ?_
  refine be rfl ?_
  refine k_then ?_
  refine t_seq ?_
  refine t_condP decide_eq_true_iff rfl (fun hb => ?_) (fun hb => ?_)
  ·
    have hlt : s < 3 := by omega
    have hix : ∃ (Ag : Option Addr) (ng cg : Nat) (eg : Ents) (yg : Int), cutV ((s : Int).toNat * 2) 2 [.slice B1 m1 d1, .int .i64 y1, .slice B2 m2 d2, .int .i64 y2, .slice B3 m3 d3, .int .i64 y3] = some [.slice Ag ng cg, .int .i64 yg] ∧ EntK F1 Ag ng eg := by
      rcases (show s = 0 ∨ s = 1 ∨ s = 2 by omega) with rfl | rfl | rfl
      · exact ⟨_, _, _, _, _, rfl, hE1⟩
      · exact ⟨_, _, _, _, _, rfl, hE2⟩
      · exact ⟨_, _, _, _, _, rfl, hE3⟩
    obtain ⟨Ag, ng, cg, eg, yg, hcut, hEg⟩ := hix
    refine t_skip ?_
    refine k_then ?_
    refine t_seq ?_
    refine t_block ?_
    refine t_seq ?_
    refine b0 ?_
    refine o1 rfl (det_indexN ar28 tN27 rfl rfl (by omega) hcut) rfl rfl trivial ?_
    refine om1 rfl (new_alloc z27) rfl rfl trivial (fun p10 => ?_)
    refine stN nofun rfl tN27 rfl rfl rfl .head rfl trivial rfl rfl ?_
    refine be rfl ?_
    refine k_then ?_
    refine t_seq ?_
    refine b0 ?_
    refine o1 rfl (det_loadN tN30 rfl rfl (.tail _ (.head _)) rfl) rfl rfl trivial ?_
    first | (refine o1 rfl (det_indexAddrA ar30 rfl rfl ?_) rfl rfl trivial ?_; · (first | decide | omega))
    refine o1 rfl (det_load1 t1_3 rfl rfl (.tail _ (.head _)) rfl) rfl rfl trivial ?_
    first | (refine o1 rfl (det_remP rfl rfl ?_) rfl rfl trivial ?_; · omega) | (refine o1 rfl (det_rem rfl rfl ?_) rfl rfl trivial ?_; · (first | decide | omega))
    first | (refine o1 rfl (det_indexAddrA ar30 rfl rfl ?_) rfl rfl trivial ?_; · (first | decide | omega))
    refine o1 rfl (det_load1 t1_3 rfl rfl (.tail _ (.head _)) rfl) rfl rfl trivial ?_
    first | (refine o1 rfl (det_remP rfl rfl ?_) rfl rfl trivial ?_; · omega) | (refine o1 rfl (det_rem rfl rfl ?_) rfl rfl trivial ?_; · (first | decide | omega))
    first | (refine o1 rfl (det_indexAddrA ar30 rfl rfl ?_) rfl rfl trivial ?_; · (first | decide | omega))
    refine o1 rfl (det_load1 t1_3 rfl rfl (.tail _ (.head _)) rfl) rfl rfl trivial ?_
    first | (refine o1 rfl (det_remP rfl rfl ?_) rfl rfl trivial ?_; · omega) | (refine o1 rfl (det_rem rfl rfl ?_) rfl rfl trivial ?_; · (first | decide | omega))
    refine o1 rfl (det_build rfl (fun w => bld30_0_1_2 _ _ _ w)) rfl rfl trivial ?_
    first | (refine o1 rfl (det_indexAddrA ar30 rfl rfl ?_) rfl rfl trivial ?_; · (first | decide | omega))
    refine o1 rfl (det_load1 t1_3 rfl rfl (.tail _ (.head _)) rfl) rfl rfl trivial ?_
    first | (refine o1 rfl (det_remP rfl rfl ?_) rfl rfl trivial ?_; · omega) | (refine o1 rfl (det_rem rfl rfl ?_) rfl rfl trivial ?_; · (first | decide | omega))
    first | (refine o1 rfl (det_indexAddrA ar30 rfl rfl ?_) rfl rfl trivial ?_; · (first | decide | omega))
    refine o1 rfl (det_load1 t1_3 rfl rfl (.tail _ (.head _)) rfl) rfl rfl trivial ?_
    first | (refine o1 rfl (det_remP rfl rfl ?_) rfl rfl trivial ?_; · omega) | (refine o1 rfl (det_rem rfl rfl ?_) rfl rfl trivial ?_; · (first | decide | omega))
    refine o1 rfl (det_build rfl (fun w => bld30_0_1_2 _ _ _ w)) rfl rfl trivial ?_
    first | (refine o1 rfl (det_indexAddrA ar30 rfl rfl ?_) rfl rfl trivial ?_; · (first | decide | omega))
    refine o1 rfl (det_load1 t1_3 rfl rfl (.tail _ (.head _)) rfl) rfl rfl trivial ?_
    first | (refine o1 rfl (det_remP rfl rfl ?_) rfl rfl trivial ?_; · omega) | (refine o1 rfl (det_rem rfl rfl ?_) rfl rfl trivial ?_; · (first | decide | omega))
    first | (refine o1 rfl (det_indexAddrA ar30 rfl rfl ?_) rfl rfl trivial ?_; · (first | decide | omega))
    refine o1 rfl (det_load1 t1_3 rfl rfl (.tail _ (.head _)) rfl) rfl rfl trivial ?_
    first | (refine o1 rfl (det_remP rfl rfl ?_) rfl rfl trivial ?_; · omega) | (refine o1 rfl (det_rem rfl rfl ?_) rfl rfl trivial ?_; · (first | decide | omega))
    refine o1 rfl (det_build rfl (fun w => bld30_0_1_2 _ _ _ w)) rfl rfl trivial ?_
    refine o1 rfl (det_build rfl (fun w => bld42_0_1_2_3 _ _ _ _ _ _ _ _ _ _ _ _ w)) rfl rfl trivial ?_
    refine o1 rfl (det_move rfl) rfl rfl trivial ?_
    refine be rfl ?_
    refine k_then ?_
    refine t_block ?_
    refine t_whileM (σ := Nat) (fun q => [(50, .int .i64 (q : Int))]) (fun _ => _) (fun q => 4 - q) (fun q => q ≤ 4) 0 (env0 := [(7, _), (10, _), (20, _), (21, _), (49, _)]) (Nat.zero_le _) ⟨rfl, trivial⟩ ⟨rfl, rfl, rfl, rfl, rfl, trivial⟩ (.refl _) ?_
    intro q hkq
    refine t_seq ?_
    refine b0 ?_
    refine o1 rfl (det_lss rfl rfl) rfl rfl trivial ?_
    refine be rfl ?_
    refine k_then ?_
    refine t_seq ?_
    refine t_condP decide_eq_true_iff rfl (fun hb => ?_) (fun hb => ?_)
    ·
      have hnth : ∃ x0 x1 x2 : Int, cutV ((q : Int).toNat * 3) 3 [.int .i64 (t0), .int .i64 (t1), .int .i64 (t2), .int .i64 (t0.tmod 8), .int .i64 (t1.tmod 1000), .int .i64 (t2.tmod 50), .int .i64 (6), .int .i64 (t1.tmod 1000), .int .i64 (t2.tmod 50), .int .i64 (7), .int .i64 (t1.tmod 1000), .int .i64 (t2.tmod 25)] = some [.int .i64 x0, .int .i64 x1, .int .i64 x2] ∧ (-9223372036854775808 ≤ x0 ∧ x0 ≤ 9223372036854775807) := by
        rcases (show q = 0 ∨ q = 1 ∨ q = 2 ∨ q = 3 by omega) with rfl | rfl | rfl | rfl
        · exact ⟨_, _, _, rfl, by omega⟩
        · exact ⟨_, _, _, rfl, by have := Int.tmod_lt_of_pos t0 (show (0:Int) < 8 by omega); have := Int.lt_tmod_of_pos t0 (show (0:Int) < 8 by omega); omega⟩
        · exact ⟨_, _, _, rfl, by omega⟩
        · exact ⟨_, _, _, rfl, by omega⟩
      obtain ⟨x0, x1, x2, hnth, hx0⟩ := hnth
      refine t_skip ?_
      refine k_then ?_
      refine t_seq ?_
      refine t_block ?_
      refine t_seq ?_
      refine b0 ?_
      refine o1 rfl (det_indexN ar42 tN30 rfl rfl (by omega) hnth) rfl rfl trivial ?_
      refine om1 rfl (new_alloc z30) rfl rfl trivial (fun p12 => ?_)
      refine stN nofun rfl tN30 rfl rfl rfl .head rfl trivial rfl rfl ?_
      refine be rfl ?_
      refine k_then ?_
      refine t_seq ?_
      refine b0 ?_
      refine o1 rfl (det_loadN tN27 rfl rfl (.tail _ (.head _)) rfl) rfl rfl trivial ?_
      first | (refine o1 rfl (det_indexAddrA ar30 rfl rfl ?_) rfl rfl trivial ?_; · (first | decide | omega))
      refine o1 rfl (det_load1 t1_3 rfl rfl (.head _) rfl) rfl rfl trivial ?_
      first | (refine o1 rfl (det_indexAddrA ar30 rfl rfl ?_) rfl rfl trivial ?_; · (first | decide | omega))
      refine o1 rfl (det_load1 t1_3 rfl rfl (.head _) rfl) rfl rfl trivial ?_
      first | (refine o1 rfl (det_indexAddrA ar30 rfl rfl ?_) rfl rfl trivial ?_; · (first | decide | omega))
      refine o1 rfl (det_load1 t1_3 rfl rfl (.head _) rfl) rfl rfl trivial ?_
      refine o1 rfl (det_call hb22 rfl rfl (fun w1 hs => Fit_ok hs.know hEg x0 hx0 x1 x2)) rfl rfl trivial ?_
      refine o1 rfl (det_move rfl) rfl rfl trivial ?_
      refine o1 rfl (det_extract rfl rfl) rfl rfl trivial ?_
      refine o1 rfl (det_extract rfl rfl) rfl rfl trivial ?_
      refine o1 rfl (det_assign rfl) rfl rfl trivial ?_
      refine o1 rfl (det_assign rfl) rfl rfl trivial ?_
      refine be rfl ?_
      refine k_then ?_
      refine t_seq ?_
      refine b0 ?_
      refine o1 rfl (det_loadN tN27 rfl rfl (.tail _ (.head _)) rfl) rfl rfl trivial ?_
      first | (refine o1 rfl (det_indexAddrA ar30 rfl rfl ?_) rfl rfl trivial ?_; · (first | decide | omega))
      refine o1 rfl (det_load1 t1_3 rfl rfl (.head _) rfl) rfl rfl trivial ?_
      first | (refine o1 rfl (det_indexAddrA ar30 rfl rfl ?_) rfl rfl trivial ?_; · (first | decide | omega))
      refine o1 rfl (det_load1 t1_3 rfl rfl (.head _) rfl) rfl rfl trivial ?_
      first | (refine o1 rfl (det_indexAddrA ar30 rfl rfl ?_) rfl rfl trivial ?_; · (first | decide | omega))
      refine o1 rfl (det_load1 t1_3 rfl rfl (.head _) rfl) rfl rfl trivial ?_
      refine o1 rfl (det_call hb23 rfl rfl (fun w1 hs => rFit_ok hs.know hEg x0 hx0 x1 x2)) rfl rfl trivial ?_
      refine o1 rfl (det_move rfl) rfl rfl trivial ?_
      refine o1 rfl (det_extract rfl rfl) rfl rfl trivial ?_
      refine o1 rfl (det_extract rfl rfl) rfl rfl trivial ?_
      refine o1 rfl (det_assign rfl) rfl rfl trivial ?_
      refine o1 rfl (det_assign rfl) rfl rfl trivial ?_
      refine be rfl ?_
      refine k_then ?_
      refine t_seq ?_
      refine b0 ?_
      refine o1 rfl (det_move rfl) rfl rfl trivial ?_
      refine o1 rfl (det_move rfl) rfl rfl trivial ?_
      refine o1 rfl (det_neq rfl rfl) rfl rfl trivial ?_
      refine o2P bne_iff_ne rfl (det_move rfl) rfl rfl trivial (fun hb => ?_) (fun hb => ?_)
      · exfalso; first | exact hb rfl | simp at hb
      refine o1 rfl (det_move rfl) rfl rfl ⟨_, rfl, rfl⟩ ?_
      refine o1 rfl (det_move rfl) rfl rfl ⟨_, rfl, rfl⟩ ?_
      refine o1 rfl (det_neq rfl rfl) rfl rfl ⟨_, rfl, rfl⟩ ?_
      refine o1 rfl (det_pickF rfl rfl) rfl rfl trivial ?_
      refine be rfl ?_
      refine k_then ?_
      refine t_condP bne_iff_ne rfl (fun hb => ?_) (fun hb => ?_)
      · exfalso; first | exact hb rfl | simp at hb
      refine t_skip ?_
      refine k_blk ?_
      refine k_then ?_
      refine b0 ?_
      first | (refine o1 rfl (det_addI rfl rfl ?_) rfl rfl trivial ?_; · omega) | refine o1 rfl (det_add rfl rfl) rfl rfl trivial ?_
      refine o1 rfl (det_move rfl) rfl rfl trivial ?_
      refine be rfl ?_
      refine k_then ?_
      refine loop_back (q + 1) (by show q + 1 ≤ _; omega) (by show _ - (q + 1) < _; omega) ⟨rfl, rfl, rfl, rfl, rfl, rfl, trivial⟩ (.cons _ (.refl _))
    ·
      refine t_exit ?_
      refine k_thenE ?_
      refine k_thenE ?_
      refine k_blkE ?_
      refine k_blk ?_
      refine k_then ?_
      refine b0 ?_
      first | (refine o1 rfl (det_addI rfl rfl ?_) rfl rfl trivial ?_; · omega) | refine o1 rfl (det_add rfl rfl) rfl rfl trivial ?_
      refine o1 rfl (det_move rfl) rfl rfl trivial ?_
      refine be rfl ?_
      refine k_then ?_
      refine loop_back (s + 1) (by show s + 1 ≤ _; omega) (by show _ - (s + 1) < _; omega) ⟨rfl, rfl, rfl, trivial⟩ (.cons _ (.refl _))
  ·
    refine t_exit ?_
    refine k_thenE ?_
    refine k_thenE ?_
    refine k_blkE ?_
    refine k_then ?_
    refine t_seq ?_
    refine b0 ?_
    refine o1 rfl (det_call hb17 rfl rfl (fun w1 hs => works_ok hs.know)) rfl rfl trivial ?_
    refine o1 rfl (det_assign rfl) rfl rfl trivial ?_
    refine be rfl ?_
    refine k_then ?_
    refine t_ret ?_
    refine ret_tmp rfl rfl rfl (fun w1 hs => ?_)
    exact ⟨rfl, hs.keep⟩

end Go.Proofs.Gt
