/-
  Walks through layer 30 and its reference.
-/
import Derived.Test.YtgaliocgkjghnaaSwS4
namespace Go.Proofs.Sw
open Go Go.Eng Go.Gt Go.Proofs.Gt Go.Sw Go.Sv
set_option maxRecDepth 4000

/-- sum. -/
theorem rsum30_ok {w : World} {F : Know} (hF : ∀ a v, F a = some v → w.cell? a = some v) {A : Option Addr} {n cap : Nat} {xs : List (Int × Int)} (hR : RowsK o2 2 F A n xs) {p : Int → Bool} {f t lost : Int} (hxs : Runs p f t xs) (hab : f ≤ t) (_hf : -2199023255552 ≤ f) (_ht : t ≤ 2199023255552) (hft : t - f ≤ 1099511627776) (hl : 0 ≤ lost ∧ lost ≤ 1542000) : Pure Try.prog 82 [.slice A n cap, .int .i64 lost] w (.int .i64 (sumR lost xs)) := by
  refine fn_pure (F := F) Try.func82 rfl Try.ntmps82 rfl hF ?_
  refine t_seq ?_
  refine b0 ?_
  refine o1 rfl (det_assign rfl) rfl rfl trivial ?_
  refine be rfl ?_
  refine k_then ?_
  refine t_seq ?_
  refine b0 ?_
  refine o1 rfl (det_assign rfl) rfl rfl trivial ?_
  refine be rfl ?_
  refine k_then ?_
  refine t_seq ?_
  refine t_seq ?_
  refine b0 ?_
  refine o1 rfl (det_assign rfl) rfl rfl trivial ?_
  refine be rfl ?_
  refine k_then ?_
  refine t_block ?_
  refine t_whileM (σ := Nat) (fun k => [(5, .int .i64 (sumR lost (xs.take k))), (6, .int .i64 k)]) (fun _ => _) (fun k => n - k) (fun k => k ≤ xs.length) 0 (env0 := [(0, _), (1, _), (4, _)]) (Nat.zero_le _) ⟨rfl, rfl, trivial⟩ ⟨rfl, rfl, rfl, trivial⟩ (.refl _) ?_
  rintro k hk
  have hst := sumR_take lost xs k
  have hsb := hxs.bound hl.1 hab
  have hln := hR.len
  have hlb := hxs.len hab
  refine t_seq ?_
  refine t_seq ?_
  refine b0 ?_
  refine o1 rfl (det_move rfl) rfl rfl trivial ?_
  refine o1 rfl (det_move rfl) rfl rfl trivial ?_
  refine o1 rfl (det_lenS sl119 rfl) rfl rfl trivial ?_
  refine o1 rfl (det_lss rfl rfl) rfl rfl trivial ?_
  refine be rfl ?_
  refine k_then ?_
  refine t_condP decide_eq_true_iff rfl (fun hb => ?_) (fun hb => ?_)
  ·
    have hlt : k < xs.length := by omega
    obtain ⟨A, rfl⟩ := hR.some hlt
    have hxb := hxs.at_ hlt
    rw [atR_get hlt] at hxb
    refine t_skip ?_
    refine k_then ?_
    refine t_seq ?_
    refine t_block ?_
    refine bD mixed ?_
    refine r_seg 17 17 [] [0, 1, 2, 3, 4, 5, 6, 7, 8, 9, 10, 11, 12, 13, 14, 15, 16] (by kernel_rfl) ?_
    refine s1 rfl (det_move rfl) rfl rfl trivial rfl ?_
    refine s1 rfl (det_move rfl) rfl rfl trivial rfl ?_
    refine s1 rfl (det_move rfl) rfl rfl trivial rfl ?_
    first | (refine s1 rfl (det_indexAddr sl119 rfl rfl ?_) rfl rfl trivial rfl ?_; (· (first | decide | omega)))
    refine s1 rfl (det_fieldAddr fld122_1 rfl) rfl rfl trivial rfl ?_
    refine s1 rfl (det_loadK t1_3 rfl (hR.cell (by omega) hlt rfl)) rfl rfl trivial rfl ?_
    refine s1 rfl (det_move rfl) rfl rfl trivial rfl ?_
    refine s1 rfl (det_move rfl) rfl rfl trivial rfl ?_
    first | (refine s1 rfl (det_indexAddr sl119 rfl rfl ?_) rfl rfl trivial rfl ?_; (· (first | decide | omega)))
    refine s1 rfl (det_fieldAddr fld122_0 rfl) rfl rfl trivial rfl ?_
    refine s1 rfl (det_loadK t1_3 rfl (hR.cell (by omega) hlt rfl)) rfl rfl trivial rfl ?_
    first | (refine s1 rfl (det_subI rfl rfl ?_) rfl rfl trivial rfl ?_; (· omega)) | refine s1 rfl (det_sub rfl rfl) rfl rfl trivial rfl ?_
    refine s1 rfl (det_move rfl) rfl rfl trivial rfl ?_
    first | (refine s1 rfl (det_subI rfl rfl ?_) rfl rfl trivial rfl ?_; (· omega)) | refine s1 rfl (det_sub rfl rfl) rfl rfl trivial rfl ?_
    refine s1 rfl (det_max2 rfl rfl) rfl rfl trivial rfl ?_
    first | (refine s1 rfl (det_addI rfl rfl ?_) rfl rfl trivial rfl ?_; (· omega)) | refine s1 rfl (det_add rfl rfl) rfl rfl trivial rfl ?_
    refine s1 rfl (det_assign rfl) rfl rfl trivial rfl ?_
    refine sg_nil ?_
    refine be rfl ?_
    refine k_blk ?_
    refine k_then ?_
    refine b0 ?_
    refine o1 rfl (det_move rfl) rfl rfl trivial ?_
    first | (refine o1 rfl (det_addI rfl rfl ?_) rfl rfl trivial ?_; (· omega)) | refine o1 rfl (det_add rfl rfl) rfl rfl trivial ?_
    refine o1 rfl (det_assign rfl) rfl rfl trivial ?_
    refine be rfl ?_
    refine k_then ?_
    refine loop_back (k + 1) (by omega) (by omega) ⟨(by rw [sumR_succ lost hlt, atR_get hlt]; rfl), rfl, rfl, rfl, rfl, trivial⟩ (.refl _)
  ·
    have hke : k = xs.length := by omega
    rw [hke, List.take_length]
    refine t_exit ?_
    refine k_thenE ?_
    refine k_thenE ?_
    refine k_blkE ?_
    refine k_then ?_
    refine t_seq ?_
    refine b0 ?_
    refine o1 rfl (det_move rfl) rfl rfl trivial ?_
    refine o1 rfl (det_assign rfl) rfl rfl trivial ?_
    refine be rfl ?_
    refine k_then ?_
    refine t_ret ?_
    refine ret_tmp rfl rfl rfl (fun w1 hs => ?_)
    exact ⟨rfl, hs.keep⟩

/-- Round. -/
theorem round_ok {w : World} {F : Know} (hF : ∀ a v, F a = some v → w.cell? a = some v) {g : Gl} (hE : GlK F g) (hG : okG g.es g.cyc = true) : CallsF Try.prog 72 [.agg (glv g).toArray] w F (fun v F1 => ∃ A cap, v = .slice A (runs (op6 g.es g.cyc) (closedE g.es) (closedE g.es + g.cyc)).length cap ∧ RowsK o2 2 F1 A (runs (op6 g.es g.cyc) (closedE g.es) (closedE g.es + g.cyc)).length (runs (op6 g.es g.cyc) (closedE g.es) (closedE g.es + g.cyc))) := by
  have hcy := okG_cyc hG
  obtain ⟨hl1, hl2, hall0, hsum, hc9, hc1⟩ := okG_parts hG
  refine fn_fresh (F := F) Try.func72 rfl Try.ntmps72 rfl hF ?_
  refine t_seq ?_
  refine b0 ?_
  refine om1 rfl (new_boxN rfl) rfl rfl trivial (fun p1 => ?_)
  refine o1 rfl (det_assign rfl) rfl rfl trivial ?_
  refine be rfl ?_
  refine k_then ?_
  refine t_seq ?_
  refine b0 ?_
  refine o1 rfl (det_assign rfl) rfl rfl trivial ?_
  refine be rfl ?_
  refine k_then ?_
  refine t_seq ?_
  refine t_seq ?_
  refine b0 ?_
  refine o1 rfl (det_assign rfl) rfl rfl trivial ?_
  refine be rfl ?_
  refine k_then ?_
  refine t_block ?_
  refine t_whileM (σ := Nat) (fun k => [(3, .int .i64 (sumL (g.es.take k))), (4, .int .i64 k)]) (fun _ => _) (fun k => g.n - k) (fun k => k ≤ g.es.length ∧ ∀ j (hj : j < g.es.length), j < k → bitE (g.es[j]).1 6 = true) 0 (env0 := [(1, _), (2, _)]) ⟨Nat.zero_le _, fun j _ hj => absurd hj (Nat.not_lt_zero j)⟩ ⟨rfl, rfl, trivial⟩ ⟨rfl, rfl, trivial⟩ (.refl _) ?_
  rintro k ⟨hk, hI⟩
  have hgn := hE.len
  have hst := sumL_take_le hall0 k
  refine t_seq ?_
  refine t_seq ?_
  refine b0 ?_
  refine o1 rfl (det_move rfl) rfl rfl trivial ?_
  refine o1 rfl (det_fieldAddr fld30_0 rfl) rfl rfl trivial ?_
  refine o1 rfl (det_load1 t1_28 rfl rfl (.head _) rfl) rfl rfl trivial ?_
  refine o1 rfl (det_lenS sl28 rfl) rfl rfl trivial ?_
  refine o1 rfl (det_lss rfl rfl) rfl rfl trivial ?_
  refine o2P decide_eq_true_iff rfl (det_move rfl) rfl rfl trivial (fun hb => ?_) (fun hb => ?_)
  ·
    have hlt : k < g.es.length := by have := hE.len; omega
    obtain ⟨A, hA0⟩ := EntK.some hE hlt
    have hr := okE_get hall0 hlt
    have hE2 : EntK F (some A) g.n g.es := by have h0 := hE; unfold GlK at h0; rwa [hA0] at h0
    refine o1 rfl (det_fieldAddr fld30_0 rfl) rfl rfl ⟨_, rfl, rfl⟩ ?_
    refine o1 rfl (det_load1 t1_28 rfl rfl (.head _) rfl) rfl rfl ⟨_, rfl, rfl⟩ ?_
    refine o1 rfl (det_move rfl) rfl rfl ⟨_, rfl, rfl⟩ ?_
    rw [hA0]
    first | (refine o1 rfl (det_indexAddr sl28 rfl rfl ?_) rfl rfl ⟨_, rfl, rfl⟩ ?_; (· (first | decide | omega)))
    refine o1 rfl (det_fieldAddr fld100_0 rfl) rfl rfl ⟨_, rfl, rfl⟩ ?_
    refine o1 rfl (det_loadK t1_3 rfl (by have := hE2.cells hlt 0 (by omega); rw [add_add] at this ⊢; simpa using this)) rfl rfl ⟨_, rfl, rfl⟩ ?_
    refine o1 rfl (det_call hb58 rfl rfl (fun w1 hs => bit_ok hs.know _ _ (by decide))) rfl rfl ⟨_, rfl, rfl⟩ ?_
    refine o1 rfl (det_pickT rfl rfl) rfl rfl trivial ?_
    refine be rfl ?_
    refine k_then ?_
    refine t_condP Iff.rfl rfl (fun hb => ?_) (fun hb => ?_)
    ·
      rw [bitE_tmod ⟨hr.1, hr.2.1⟩ (by decide)] at hb
      have hbit : bitE (g.es[k]).1 6 = true := by grind
      refine t_skip ?_
      refine k_then ?_
      refine t_seq ?_
      refine t_block ?_
      refine b0 ?_
      refine o1 rfl (det_move rfl) rfl rfl trivial ?_
      refine o1 rfl (det_fieldAddr fld30_0 rfl) rfl rfl trivial ?_
      refine o1 rfl (det_load1 t1_28 rfl rfl (.head _) rfl) rfl rfl trivial ?_
      refine o1 rfl (det_move rfl) rfl rfl trivial ?_
      rw [hA0]
      first | (refine o1 rfl (det_indexAddr sl28 rfl rfl ?_) rfl rfl trivial ?_; (· (first | decide | omega)))
      refine o1 rfl (det_fieldAddr fld100_1 rfl) rfl rfl trivial ?_
      refine o1 rfl (det_loadK t1_3 rfl (by have := hE2.cells hlt 1 (by omega); rw [add_add] at this ⊢; simpa using this)) rfl rfl trivial ?_
      first | (refine o1 rfl (det_addI rfl rfl ?_) rfl rfl trivial ?_; (· omega)) | refine o1 rfl (det_add rfl rfl) rfl rfl trivial ?_
      refine o1 rfl (det_assign rfl) rfl rfl trivial ?_
      refine be rfl ?_
      refine k_blk ?_
      refine k_then ?_
      refine b0 ?_
      refine o1 rfl (det_move rfl) rfl rfl trivial ?_
      first | (refine o1 rfl (det_addI rfl rfl ?_) rfl rfl trivial ?_; (· omega)) | refine o1 rfl (det_add rfl rfl) rfl rfl trivial ?_
      refine o1 rfl (det_assign rfl) rfl rfl trivial ?_
      refine be rfl ?_
      refine k_then ?_
      refine loop_back (k + 1) ⟨by omega, fun j hj hjk => by
          by_cases e : j = k
          · subst e; exact hbit
          · exact hI j hj (by omega)⟩ (by omega) ⟨(by rw [sumL_take_succ _ _ hlt]; rfl), rfl, rfl, rfl, trivial⟩ (.refl _)
    ·
      rw [bitE_tmod ⟨hr.1, hr.2.1⟩ (by decide)] at hb
      have hbit : bitE (g.es[k]).1 6 = false := by grind
      have hcl := closed_of hk hI (fun _ => hbit)
      rw [← hcl]
      have hcf : 0 ≤ closedE g.es ∧ closedE g.es ≤ g.cyc := by have := closed_rng hall0; omega
      refine t_exit ?_
      refine k_thenE ?_
      refine k_thenE ?_
      refine k_blkE ?_
      refine k_then ?_
      refine t_seq ?_
      refine b0 ?_
      refine o1 rfl (det_loadN tN30 rfl rfl (.head _) rfl) rfl rfl trivial ?_
      refine o1 rfl (det_move rfl) rfl rfl trivial ?_
      refine o1 rfl (det_move rfl) rfl rfl trivial ?_
      refine o1 rfl (det_fieldAddr fld30_1 rfl) rfl rfl trivial ?_
      refine o1 rfl (det_load1 t1_3 rfl rfl (.head _) rfl) rfl rfl trivial ?_
      first | (refine o1 rfl (det_addI rfl rfl ?_) rfl rfl trivial ?_; (· omega)) | refine o1 rfl (det_add rfl rfl) rfl rfl trivial ?_
      refine oF nofun rfl hb83 rfl rfl rfl trivial (fun w1 hs => (ropenings_ok hs.know hE hG (by omega) (by omega) (by omega) (by omega)).any) (fun v F1 hF1 hNF1 ⟨A, cap, hv, hR⟩ => ?_)
      subst hv
      refine o1 rfl (det_assign rfl) rfl rfl trivial ?_
      refine be rfl ?_
      refine k_then ?_
      refine t_ret ?_
      refine ret_tmp rfl rfl rfl (fun w1 hs => ?_)
      exact end_fresh hs fun F2 g1 g2 g3 => ⟨_, _, rfl, hR.mono fun a u h => (hNF1 a u h).elim (g1 a u) (fun hb => g2 a u h hb)⟩
  ·
    have hcl := closed_of hk hI (fun hi => by omega)
    rw [← hcl]
    have hcf : 0 ≤ closedE g.es ∧ closedE g.es ≤ g.cyc := by have := closed_rng hall0; omega
    refine on rfl rfl rfl ⟨_, rfl, .inl rfl⟩ ?_
    refine on rfl rfl rfl ⟨_, rfl, .inl rfl⟩ ?_
    refine on rfl rfl rfl ⟨_, rfl, .inl rfl⟩ ?_
    refine on rfl rfl rfl ⟨_, rfl, .inl rfl⟩ ?_
    refine on rfl rfl rfl ⟨_, rfl, .inl rfl⟩ ?_
    refine on rfl rfl rfl ⟨_, rfl, .inl rfl⟩ ?_
    refine on rfl rfl rfl ⟨_, rfl, .inl rfl⟩ ?_
    refine o1 rfl (det_pickF rfl rfl) rfl rfl trivial ?_
    refine be rfl ?_
    refine k_then ?_
    refine t_condF rfl ?_
    refine t_exit ?_
    refine k_thenE ?_
    refine k_thenE ?_
    refine k_blkE ?_
    refine k_then ?_
    refine t_seq ?_
    refine b0 ?_
    refine o1 rfl (det_loadN tN30 rfl rfl (.head _) rfl) rfl rfl trivial ?_
    refine o1 rfl (det_move rfl) rfl rfl trivial ?_
    refine o1 rfl (det_move rfl) rfl rfl trivial ?_
    refine o1 rfl (det_fieldAddr fld30_1 rfl) rfl rfl trivial ?_
    refine o1 rfl (det_load1 t1_3 rfl rfl (.head _) rfl) rfl rfl trivial ?_
    first | (refine o1 rfl (det_addI rfl rfl ?_) rfl rfl trivial ?_; (· omega)) | refine o1 rfl (det_add rfl rfl) rfl rfl trivial ?_
    refine oF nofun rfl hb83 rfl rfl rfl trivial (fun w1 hs => (ropenings_ok hs.know hE hG (by omega) (by omega) (by omega) (by omega)).any) (fun v F1 hF1 hNF1 ⟨A, cap, hv, hR⟩ => ?_)
    subst hv
    refine o1 rfl (det_assign rfl) rfl rfl trivial ?_
    refine be rfl ?_
    refine k_then ?_
    refine t_ret ?_
    refine ret_tmp rfl rfl rfl (fun w1 hs => ?_)
    exact end_fresh hs fun F2 g1 g2 g3 => ⟨_, _, rfl, hR.mono fun a u h => (hNF1 a u h).elim (g1 a u) (fun hb => g2 a u h hb)⟩

/-- Gives. -/
theorem rgives_ok {w : World} {F : Know} (hF : ∀ a v, F a = some v → w.cell? a = some v) {g : Gl} (hE : GlK F g) (hG : okG g.es g.cyc = true) {per most : Int} (hAb : 1 ≤ per ∧ per ≤ 1000 ∧ 84 ≤ most ∧ most ≤ 1542) : Pure Try.prog 63 [.agg (glv g).toArray, .int .i64 per, .int .i64 most] w (.int .i64 (yieldS g.es g.cyc (most * per))) := by
  have hcy := okG_cyc hG
  obtain ⟨hl1, hl2, hall0, hsum, hc9, hc1⟩ := okG_parts hG
  have hml : 84 ≤ most * per ∧ most * per ≤ 1542000 := mul_rng hAb
  refine fn_pure (F := F) Try.func63 rfl Try.ntmps63 rfl hF ?_
  refine t_seq ?_
  refine b0 ?_
  refine om1 rfl (new_boxN rfl) rfl rfl trivial (fun p3 => ?_)
  refine o1 rfl (det_assign rfl) rfl rfl trivial ?_
  refine be rfl ?_
  refine k_then ?_
  refine t_seq ?_
  refine t_seq ?_
  refine b0 ?_
  refine o1 rfl (det_loadN tN30 rfl rfl (.head _) rfl) rfl rfl trivial ?_
  refine o1 rfl (det_call hb71 rfl rfl (fun w1 hs => ralways_ok hs.know hE hG)) rfl rfl trivial ?_
  refine be rfl ?_
  refine k_then ?_
  refine t_condP Iff.rfl rfl (fun hb => ?_) (fun hb => ?_)
  ·
    have hal : alwE g.es = true := hb
    refine t_seq ?_
    refine b0 ?_
    refine o1 rfl (det_fieldAddr fld30_1 rfl) rfl rfl trivial ?_
    refine o1 rfl (det_load1 t1_3 rfl rfl (.head _) rfl) rfl rfl trivial ?_
    refine o1 rfl (det_assign rfl) rfl rfl trivial ?_
    refine be rfl ?_
    refine k_then ?_
    refine t_ret (k_thenR (?_))
    refine ret_tmp rfl rfl rfl (fun w1 hs => ?_)
    exact ⟨by unfold yieldS; rw [hal]; rfl, hs.keep⟩
  ·
    have hal : alwE g.es = false := by simpa using hb
    have hcf := closed_facts hG hal
    refine t_skip ?_
    refine k_then ?_
    refine t_seq ?_
    refine b0 ?_
    refine o1 rfl (det_loadN tN30 rfl rfl (.head _) rfl) rfl rfl trivial ?_
    refine oF nofun rfl hb72 rfl rfl rfl trivial (fun w1 hs => round_ok hs.know hE hG) (fun v F1 hF1 hN1 ⟨A, cap, hv, hR⟩ => ?_)
    subst hv
    refine o1 rfl (det_move rfl) rfl rfl trivial ?_
    refine o1 rfl (det_move rfl) rfl rfl trivial ?_
    first | (refine o1 rfl (det_mulI rfl rfl ?_) rfl rfl trivial ?_; (· omega)) | refine o1 rfl (det_mul rfl rfl) rfl rfl trivial ?_
    refine o1 rfl (det_call hb82 rfl rfl (fun w1 hs => rsum30_ok hs.know hR (runs_is _ _ _) (by omega) (by omega) (by omega) (by omega) (by omega))) rfl rfl trivial ?_
    refine o1 rfl (det_assign rfl) rfl rfl trivial ?_
    refine be rfl ?_
    refine k_then ?_
    refine t_ret ?_
    refine ret_tmp rfl rfl rfl (fun w1 hs => ?_)
    exact ⟨by unfold yieldS; rw [hal]; rfl, hs.keep⟩

/-- Least. -/
theorem rleast_ok {w : World} {F : Know} (hF : ∀ a v, F a = some v → w.cell? a = some v) {g : Gl} (hE : GlK F g) (hG : okG g.es g.cyc = true) {per most : Int} (hAb : 1 ≤ per ∧ per ≤ 1000 ∧ 84 ≤ most ∧ most ≤ 1542) {t lg : Int} (ht : -1099511627776 ≤ t ∧ t ≤ 1099511627776) (hlg : 0 ≤ lg ∧ lg ≤ 4 * g.cyc) : Pure Try.prog 67 [.agg (glv g).toArray, .int .i64 per, .int .i64 most, .int .i64 t, .int .i64 lg] w (.int .i64 (leastS g.es g.cyc per most t lg)) := by
  have hcy := okG_cyc hG
  obtain ⟨hl1, hl2, hall0, hsum, hc9, hc1⟩ := okG_parts hG
  have hml : 84 ≤ most * per ∧ most * per ≤ 1542000 := mul_rng hAb
  refine fn_pure (F := F) Try.func67 rfl Try.ntmps67 rfl hF ?_
  refine t_seq ?_
  refine b0 ?_
  refine om1 rfl (new_boxN rfl) rfl rfl trivial (fun p5 => ?_)
  refine o1 rfl (det_assign rfl) rfl rfl trivial ?_
  refine be rfl ?_
  refine k_then ?_
  refine t_seq ?_
  refine t_seq ?_
  refine b0 ?_
  refine o1 rfl (det_loadN tN30 rfl rfl (.head _) rfl) rfl rfl trivial ?_
  refine o1 rfl (det_call hb71 rfl rfl (fun w1 hs => ralways_ok hs.know hE hG)) rfl rfl trivial ?_
  refine be rfl ?_
  refine k_then ?_
  refine t_condP Iff.rfl rfl (fun hb => ?_) (fun hb => ?_)
  ·
    have hal : alwE g.es = true := hb
    refine t_seq ?_
    refine b0 ?_
    refine o1 rfl (det_move rfl) rfl rfl trivial ?_
    refine o1 rfl (det_move rfl) rfl rfl trivial ?_
    first | (refine o1 rfl (det_mulI rfl rfl ?_) rfl rfl trivial ?_; (· omega)) | refine o1 rfl (det_mul rfl rfl) rfl rfl trivial ?_
    first | (refine o1 rfl (det_subI rfl rfl ?_) rfl rfl trivial ?_; (· omega)) | refine o1 rfl (det_sub rfl rfl) rfl rfl trivial ?_
    refine o1 rfl (det_assign rfl) rfl rfl trivial ?_
    refine be rfl ?_
    refine k_then ?_
    refine t_ret (k_thenR (?_))
    refine ret_tmp rfl rfl rfl (fun w1 hs => ?_)
    exact ⟨by unfold leastS; rw [hal]; rfl, hs.keep⟩
  ·
    have hal : alwE g.es = false := by simpa using hb
    refine t_skip ?_
    refine k_then ?_
    refine t_seq ?_
    refine b0 ?_
    refine o1 rfl (det_loadN tN30 rfl rfl (.head _) rfl) rfl rfl trivial ?_
    refine o1 rfl (det_move rfl) rfl rfl trivial ?_
    refine o1 rfl (det_move rfl) rfl rfl trivial ?_
    refine o1 rfl (det_move rfl) rfl rfl trivial ?_
    first | (refine o1 rfl (det_addI rfl rfl ?_) rfl rfl trivial ?_; (· omega)) | refine o1 rfl (det_add rfl rfl) rfl rfl trivial ?_
    refine oF nofun rfl hb83 rfl rfl rfl trivial (fun w1 hs => (ropenings_ok hs.know hE hG (by omega) (by omega) (by omega) (by omega)).any) (fun v F1 hF1 hNF1 ⟨A, cap, hv, hR⟩ => ?_)
    subst hv
    refine o1 rfl (det_move rfl) rfl rfl trivial ?_
    refine o1 rfl (det_move rfl) rfl rfl trivial ?_
    first | (refine o1 rfl (det_mulI rfl rfl ?_) rfl rfl trivial ?_; (· omega)) | refine o1 rfl (det_mul rfl rfl) rfl rfl trivial ?_
    refine o1 rfl (det_call hb82 rfl rfl (fun w1 hs => rsum30_ok hs.know hR (runs_is _ _ _) (by omega) (by omega) (by omega) (by omega) (by omega))) rfl rfl trivial ?_
    have hsb : 0 ≤ sumR (most * per) (runs (op6 g.es g.cyc) t (t + lg)) ∧ sumR (most * per) (runs (op6 g.es g.cyc) t (t + lg)) ≤ lg := by have := (runs_is (op6 g.es g.cyc) t (t + lg)).bound (lost := most * per) (by omega) (by omega); omega
    refine o1 rfl (det_move rfl) rfl rfl trivial ?_
    first | (refine o1 rfl (det_mulI rfl rfl ?_) rfl rfl trivial ?_; (· omega)) | refine o1 rfl (det_mul rfl rfl) rfl rfl trivial ?_
    first | (refine o1 rfl (det_subI rfl rfl ?_) rfl rfl trivial ?_; (· omega)) | refine o1 rfl (det_sub rfl rfl) rfl rfl trivial ?_
    refine o1 rfl (det_assign rfl) rfl rfl trivial ?_
    refine be rfl ?_
    refine k_then ?_
    refine t_ret ?_
    refine ret_tmp rfl rfl rfl (fun w1 hs => ?_)
    exact ⟨by unfold leastS; rw [hal]; rfl, hs.keep⟩

/-- Yield. -/
theorem rYield_ok {w : World} {F : Know} (hF : ∀ a v, F a = some v → w.cell? a = some v) {g : Gl} (hE : GlK F g) {per most : Int} : Pure Try.prog 36 [.agg (glv g).toArray, .int .i64 per, .int .i64 most] w (.tuple [.int .i64 (yieldA g.es g.cyc per most), .int .i64 (errS g.es g.cyc per most)].toArray) := by
  refine fn_pure (F := F) Try.func36 rfl Try.ntmps36 rfl hF ?_
  refine t_seq ?_
  refine b0 ?_
  refine om1 rfl (new_boxN rfl) rfl rfl trivial (fun p3 => ?_)
  refine o1 rfl (det_assign rfl) rfl rfl trivial ?_
  refine o1 rfl (det_assign rfl) rfl rfl trivial ?_
  refine be rfl ?_
  refine k_then ?_
  refine t_seq ?_
  refine b0 ?_
  refine o1 rfl (det_loadN tN30 rfl rfl (.head _) rfl) rfl rfl trivial ?_
  refine o1 rfl (det_move rfl) rfl rfl trivial ?_
  refine o1 rfl (det_move rfl) rfl rfl trivial ?_
  refine o1 rfl (det_call hb62 rfl rfl (fun w1 hs => rargs_ok hs.know hE)) rfl rfl trivial ?_
  refine o1 rfl (det_assign rfl) rfl rfl trivial ?_
  refine be rfl ?_
  refine k_then ?_
  refine t_seq ?_
  refine t_seq ?_
  refine b0 ?_
  refine o1 rfl (det_move rfl) rfl rfl trivial ?_
  refine o1 rfl (det_neq rfl rfl) rfl rfl trivial ?_
  refine be rfl ?_
  refine k_then ?_
  refine t_condP bne_iff_ne rfl (fun hb => ?_) (fun hb => ?_)
  ·
    have he : errS g.es g.cyc per most ≠ 0 := hb
    refine t_seq ?_
    refine b0 ?_
    refine o1 rfl (det_move rfl) rfl rfl trivial ?_
    refine o1 rfl (det_assign rfl) rfl rfl trivial ?_
    refine o1 rfl (det_assign rfl) rfl rfl trivial ?_
    refine be rfl ?_
    refine k_then ?_
    refine t_ret (k_thenR (?_))
    refine ret_tmp2 rfl rfl rfl rfl (fun w1 hs => ?_)
    exact ⟨by unfold yieldA; rw [if_neg he], hs.keep⟩
  ·
    have he : errS g.es g.cyc per most = 0 := by simpa using hb
    obtain ⟨hG, hA⟩ := errS_zero he
    have hcy := okG_cyc hG
    have hAb := of_decide_eq_true (show decide _ = true from hA)
    have hml : 84 ≤ most * per ∧ most * per ≤ 1542000 := mul_rng hAb
    have hmc : per * most = most * per := Int.mul_comm _ _
    refine t_skip ?_
    refine k_then ?_
    refine t_seq ?_
    refine b0 ?_
    refine o1 rfl (det_loadN tN30 rfl rfl (.head _) rfl) rfl rfl trivial ?_
    refine o1 rfl (det_move rfl) rfl rfl trivial ?_
    refine o1 rfl (det_move rfl) rfl rfl trivial ?_
    refine o1 rfl (det_call hb63 rfl rfl (fun w1 hs => rgives_ok hs.know hE hG hAb)) rfl rfl trivial ?_
    refine o1 rfl (det_assign rfl) rfl rfl trivial ?_
    refine o1 rfl (det_assign rfl) rfl rfl trivial ?_
    refine be rfl ?_
    refine k_then ?_
    refine t_ret ?_
    refine ret_tmp2 rfl rfl rfl rfl (fun w1 hs => ?_)
    exact ⟨by unfold yieldA; rw [if_pos he, he], hs.keep⟩

/-- Sends. -/
theorem rSends_ok {w : World} {F : Know} (hF : ∀ a v, F a = some v → w.cell? a = some v) {g : Gl} (hE : GlK F g) {per most : Int} {t lg : Int} : Pure Try.prog 39 [.agg (glv g).toArray, .int .i64 per, .int .i64 most, .int .i64 t, .int .i64 lg] w (.tuple [.int .i64 (sendsA g.es g.cyc per most t lg).1, .int .i64 (sendsA g.es g.cyc per most t lg).2].toArray) := by
  refine fn_pure (F := F) Try.func39 rfl Try.ntmps39 rfl hF ?_
  refine t_seq ?_
  refine b0 ?_
  refine om1 rfl (new_boxN rfl) rfl rfl trivial (fun p5 => ?_)
  refine o1 rfl (det_assign rfl) rfl rfl trivial ?_
  refine o1 rfl (det_assign rfl) rfl rfl trivial ?_
  refine be rfl ?_
  refine k_then ?_
  refine t_seq ?_
  refine b0 ?_
  refine o1 rfl (det_loadN tN30 rfl rfl (.head _) rfl) rfl rfl trivial ?_
  refine o1 rfl (det_move rfl) rfl rfl trivial ?_
  refine o1 rfl (det_move rfl) rfl rfl trivial ?_
  refine o1 rfl (det_call hb62 rfl rfl (fun w1 hs => rargs_ok hs.know hE)) rfl rfl trivial ?_
  refine o1 rfl (det_assign rfl) rfl rfl trivial ?_
  refine be rfl ?_
  refine k_then ?_
  refine t_seq ?_
  refine t_seq ?_
  refine b0 ?_
  refine o1 rfl (det_move rfl) rfl rfl trivial ?_
  refine o1 rfl (det_neq rfl rfl) rfl rfl trivial ?_
  refine be rfl ?_
  refine k_then ?_
  refine t_condP bne_iff_ne rfl (fun hb => ?_) (fun hb => ?_)
  ·
    have he : errS g.es g.cyc per most ≠ 0 := hb
    refine t_seq ?_
    refine b0 ?_
    refine o1 rfl (det_move rfl) rfl rfl trivial ?_
    refine o1 rfl (det_assign rfl) rfl rfl trivial ?_
    refine o1 rfl (det_assign rfl) rfl rfl trivial ?_
    refine be rfl ?_
    refine k_then ?_
    refine t_ret (k_thenR (?_))
    refine ret_tmp2 rfl rfl rfl rfl (fun w1 hs => ?_)
    exact ⟨by unfold sendsA; rw [if_neg he], hs.keep⟩
  ·
    have he : errS g.es g.cyc per most = 0 := by simpa using hb
    obtain ⟨hG, hA⟩ := errS_zero he
    have hcy := okG_cyc hG
    have hAb := of_decide_eq_true (show decide _ = true from hA)
    have hml : 84 ≤ most * per ∧ most * per ≤ 1542000 := mul_rng hAb
    have hmc : per * most = most * per := Int.mul_comm _ _
    refine t_skip ?_
    refine k_then ?_
    refine t_seq ?_
    refine t_seq ?_
    refine t_merge (env0 := [(1, _), (2, _), (3, _), (4, _), (5, _), (10, _), (11, _)]) ⟨rfl, rfl, rfl, rfl, rfl, rfl, rfl, trivial⟩ 36 (.bool (!argT g.cyc t lg)) ?_ (fun hK => ?_)
    ·
      refine k_then ?_
      refine t_condP Iff.rfl rfl (fun hb => ?_) (fun hb => ?_)
      ·
        have ha : argT g.cyc t lg = false := by simpa using hb
        refine t_seq ?_
        refine b0 ?_
        refine o1 rfl (det_assign rfl) rfl rfl trivial ?_
        refine o1 rfl (det_assign rfl) rfl rfl trivial ?_
        refine be rfl ?_
        refine k_then ?_
        refine t_ret (k_thenR (?_))
        refine ret_tmp2 rfl rfl rfl rfl (fun w1 hs => ?_)
        exact ⟨by unfold sendsA; rw [if_pos he, ha]; rfl, hs.keep⟩
      ·
        have ha : argT g.cyc t lg = true := by simpa using hb
        obtain ⟨hat, hal4⟩ : okTm t = true ∧ (0 ≤ lg ∧ lg ≤ 4 * g.cyc) := by unfold argT at ha; simpa using ha
        have htb := of_decide_eq_true (show decide _ = true from hat)
        refine t_skip ?_
        refine k_then ?_
        refine t_seq ?_
        refine b0 ?_
        refine o1 rfl (det_loadN tN30 rfl rfl (.head _) rfl) rfl rfl trivial ?_
        refine o1 rfl (det_move rfl) rfl rfl trivial ?_
        refine o1 rfl (det_move rfl) rfl rfl trivial ?_
        refine o1 rfl (det_move rfl) rfl rfl trivial ?_
        refine o1 rfl (det_move rfl) rfl rfl trivial ?_
        refine o1 rfl (det_call hb67 rfl rfl (fun w1 hs => rleast_ok hs.know hE hG hAb htb hal4)) rfl rfl trivial ?_
        refine o1 rfl (det_max2 rfl rfl) rfl rfl trivial ?_
        refine o1 rfl (det_assign rfl) rfl rfl trivial ?_
        refine o1 rfl (det_assign rfl) rfl rfl trivial ?_
        refine be rfl ?_
        refine k_then ?_
        refine t_ret ?_
        refine ret_tmp2 rfl rfl rfl rfl (fun w1 hs => ?_)
        exact ⟨by unfold sendsA; rw [if_pos he, ha]; rfl, hs.keep⟩
    ·
      refine b0 ?_
      refine o1 rfl (det_move rfl) rfl rfl trivial ?_
      refine o1 rfl (det_lss rfl rfl) rfl rfl trivial ?_
      refine o2P decide_eq_true_iff rfl (det_move rfl) rfl rfl trivial (fun hb => ?_) (fun hb => ?_)
      ·
        refine on rfl rfl rfl ⟨_, rfl, .inl rfl⟩ ?_
        refine on rfl rfl rfl ⟨_, rfl, .inl rfl⟩ ?_
        refine o1 rfl (det_pickT rfl rfl) rfl rfl trivial ?_
        refine o1 rfl (det_move rfl) rfl rfl trivial ?_
        refine on rfl rfl rfl ⟨_, rfl, .inl rfl⟩ ?_
        refine on rfl rfl rfl ⟨_, rfl, .inl rfl⟩ ?_
        refine o1 rfl (det_pickT rfl rfl) rfl rfl trivial ?_
        refine o1 rfl (det_move rfl) rfl rfl trivial ?_
        refine on rfl rfl rfl ⟨_, rfl, .inl rfl⟩ ?_
        refine on rfl rfl rfl ⟨_, rfl, .inl rfl⟩ ?_
        refine on rfl rfl rfl ⟨_, rfl, .inl rfl⟩ ?_
        refine on rfl rfl rfl ⟨_, rfl, .inl rfl⟩ ?_
        refine on rfl rfl rfl ⟨_, rfl, .inl rfl⟩ ?_
        refine o1 rfl (det_pickT rfl rfl) rfl rfl trivial ?_
        refine be rfl ?_
        refine tk_drop ?_ (.refl _) hK
        exact ⟨(mb rfl (by unfold argT okTm; grind)), rfl, rfl, rfl, rfl, rfl, rfl, rfl, trivial⟩
      ·
        refine o1 rfl (det_move rfl) rfl rfl ⟨_, rfl, rfl⟩ ?_
        refine o1 rfl (det_gtr rfl rfl) rfl rfl ⟨_, rfl, rfl⟩ ?_
        refine o1 rfl (det_pickF rfl rfl) rfl rfl trivial ?_
        refine o2P decide_eq_true_iff rfl (det_move rfl) rfl rfl trivial (fun hb => ?_) (fun hb => ?_)
        ·
          refine on rfl rfl rfl ⟨_, rfl, .inl rfl⟩ ?_
          refine on rfl rfl rfl ⟨_, rfl, .inl rfl⟩ ?_
          refine o1 rfl (det_pickT rfl rfl) rfl rfl trivial ?_
          refine o1 rfl (det_move rfl) rfl rfl trivial ?_
          refine on rfl rfl rfl ⟨_, rfl, .inl rfl⟩ ?_
          refine on rfl rfl rfl ⟨_, rfl, .inl rfl⟩ ?_
          refine on rfl rfl rfl ⟨_, rfl, .inl rfl⟩ ?_
          refine on rfl rfl rfl ⟨_, rfl, .inl rfl⟩ ?_
          refine on rfl rfl rfl ⟨_, rfl, .inl rfl⟩ ?_
          refine o1 rfl (det_pickT rfl rfl) rfl rfl trivial ?_
          refine be rfl ?_
          refine tk_drop ?_ (.refl _) hK
          exact ⟨(mb rfl (by unfold argT okTm; grind)), rfl, rfl, rfl, rfl, rfl, rfl, rfl, trivial⟩
        ·
          refine o1 rfl (det_move rfl) rfl rfl ⟨_, rfl, rfl⟩ ?_
          refine o1 rfl (det_lss rfl rfl) rfl rfl ⟨_, rfl, rfl⟩ ?_
          refine o1 rfl (det_pickF rfl rfl) rfl rfl trivial ?_
          refine o2P decide_eq_true_iff rfl (det_move rfl) rfl rfl trivial (fun hb => ?_) (fun hb => ?_)
          ·
            refine on rfl rfl rfl ⟨_, rfl, .inl rfl⟩ ?_
            refine on rfl rfl rfl ⟨_, rfl, .inl rfl⟩ ?_
            refine on rfl rfl rfl ⟨_, rfl, .inl rfl⟩ ?_
            refine on rfl rfl rfl ⟨_, rfl, .inl rfl⟩ ?_
            refine on rfl rfl rfl ⟨_, rfl, .inl rfl⟩ ?_
            refine o1 rfl (det_pickT rfl rfl) rfl rfl trivial ?_
            refine be rfl ?_
            refine tk_drop ?_ (.refl _) hK
            exact ⟨(mb rfl (by unfold argT okTm; grind)), rfl, rfl, rfl, rfl, rfl, rfl, rfl, trivial⟩
          ·
            refine o1 rfl (det_move rfl) rfl rfl ⟨_, rfl, rfl⟩ ?_
            refine o1 rfl (det_fieldAddr fld30_1 rfl) rfl rfl ⟨_, rfl, rfl⟩ ?_
            refine o1 rfl (det_load1 t1_3 rfl rfl (.head _) rfl) rfl rfl ⟨_, rfl, rfl⟩ ?_
            first | (refine o1 rfl (det_mulI rfl rfl ?_) rfl rfl ⟨_, rfl, rfl⟩ ?_; (· omega)) | refine o1 rfl (det_mul rfl rfl) rfl rfl ⟨_, rfl, rfl⟩ ?_
            refine o1 rfl (det_gtr rfl rfl) rfl rfl ⟨_, rfl, rfl⟩ ?_
            refine o1 rfl (det_pickF rfl rfl) rfl rfl trivial ?_
            refine be rfl ?_
            refine tk_drop ?_ (.refl _) hK
            exact ⟨(mb rfl (by unfold argT okTm; grind)), rfl, rfl, rfl, rfl, rfl, rfl, rfl, trivial⟩

end Go.Proofs.Sw
