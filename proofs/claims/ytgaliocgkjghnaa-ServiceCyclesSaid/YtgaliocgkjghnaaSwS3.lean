/-
  Walks through layer 30 and its reference.
-/
import Derived.Test.YtgaliocgkjghnaaSwS2
import Derived.Test.YtgaliocgkjghnaaSvPlain3
namespace Go.Proofs.Sw
open Go Go.Eng Go.Gt Go.Proofs.Gt Go.Sw Go.Sv
set_option maxRecDepth 4000

/-- sum. -/
theorem sum30_ok {w : World} {F : Know} (hF : ∀ a v, F a = some v → w.cell? a = some v) {g : Gl} (hE : GlK F g) (hG : okG g.es g.cyc = true) {lost f t : Int} (hl : 0 ≤ lost ∧ lost ≤ 1542000) (hab : f ≤ t) (hf : -1099511627776 ≤ f) (ht : t ≤ 1099511627776) (hft : t - f ≤ 1099511627776) : Pure Try.prog 66 [.agg (glv g).toArray, .int .i64 lost, .int .i64 f, .int .i64 t] w (.int .i64 (sumS g.es g.cyc lost f t)) := by
  refine fn_pure (F := F) Try.func66 rfl Try.ntmps66 rfl hF ?_
  refine t_seq ?_
  refine b0 ?_
  refine om1 rfl (new_boxN rfl) rfl rfl trivial (fun p4 => ?_)
  refine om1 rfl (new_box1 rfl rfl) rfl rfl trivial (fun p5 => ?_)
  refine o1 rfl (det_assign rfl) rfl rfl trivial ?_
  refine be rfl ?_
  refine k_then ?_
  refine t_seq ?_
  refine b0 ?_
  refine om1 rfl (new_alloc z3) rfl rfl trivial (fun p9 => ?_)
  refine st1 nofun rfl t1_3 rfl rfl rfl .head rfl trivial rfl ?_
  refine be rfl ?_
  refine k_then ?_
  refine t_seq ?_
  refine t_seq ?_
  refine b0 ?_
  refine o1 rfl (det_loadN tN30 rfl rfl (.tail _ (.tail _ (.head _))) rfl) rfl rfl trivial ?_
  refine o1 rfl (det_move rfl) rfl rfl trivial ?_
  refine o1 rfl (det_move rfl) rfl rfl trivial ?_
  refine oF nofun rfl hb69 rfl rfl rfl trivial (fun w1 hs => (openings_ok hs.know).any) (fun v F2 hF2 hNF2 ⟨q1, q2, q3, hv, h1, h2, h3⟩ => ?_)
  subst hv
  refine be rfl ?_
  refine k_then ?_
  refine t_block ?_
  refine t_rangeF2 (σ := Int) (fun s => [(p9, .cells [.int .i64 s].toArray 3 (0, 0)), (p5, .cells [.int .i64 lost].toArray 3 (0, 0)), (p4, .cells (glv g).toArray 30 (0, 0))]) (fun k s => s = sumR lost ((runs (op6 g.es g.cyc) f t).take k)) (fun _ s => False) 0 (fun k => [.int .i64 (atR (runs (op6 g.es g.cyc) f t) k).1, .int .i64 (atR (runs (op6 g.es g.cyc) f t) k).2]) (xs := (runs (op6 g.es g.cyc) f t).map fun x => [Value.int .i64 x.1, .int .i64 x.2]) (env0 := [(5, _), (8, _), (9, _)]) rfl hb84 (open_gives (hE.mono hF2) hG hf ht hft h1 h2 h3) (fun k hk => by rw [List.getElem_map]; rw [List.length_map] at hk; simp [hk]) (fun _ => rfl) rfl rfl ⟨rfl, rfl, rfl, trivial⟩ (.refl _) ?_ ?_ ?_
  ·
    rintro W2 S2 l D r k s hr hk hI
    rw [List.length_map] at hk
    subst hI
    have hlk := runs_lens hl.1 hab hk
    refine t_seq ?_
    refine b0 ?_
    refine o1 rfl (det_assign rfl) rfl rfl trivial ?_
    refine be rfl ?_
    refine k_then ?_
    refine b0 ?_
    refine o1 rfl (det_assign rfl) rfl rfl trivial ?_
    refine be rfl ?_
    refine k_then ?_
    refine k_begin (pre := [_, _, _]) hr.1 rfl ?_
    refine t_block ?_
    refine b0 ?_
    refine o1 rfl (det_load1 t1_3 rfl rfl (.head _) rfl) rfl rfl trivial ?_
    refine o1 rfl (det_move rfl) rfl rfl trivial ?_
    refine o1 rfl (det_move rfl) rfl rfl trivial ?_
    first | (refine o1 rfl (det_subI rfl rfl ?_) rfl rfl trivial ?_; (· omega)) | refine o1 rfl (det_sub rfl rfl) rfl rfl trivial ?_
    refine o1 rfl (det_load1 t1_3 rfl rfl (.tail _ (.head _)) rfl) rfl rfl trivial ?_
    first | (refine o1 rfl (det_subI rfl rfl ?_) rfl rfl trivial ?_; (· omega)) | refine o1 rfl (det_sub rfl rfl) rfl rfl trivial ?_
    refine o1 rfl (det_max2 rfl rfl) rfl rfl trivial ?_
    first | (refine o1 rfl (det_addI rfl rfl ?_) rfl rfl trivial ?_; (· omega)) | refine o1 rfl (det_add rfl rfl) rfl rfl trivial ?_
    refine st1 nofun rfl t1_3 rfl rfl rfl .head rfl trivial rfl ?_
    refine be rfl ?_
    refine k_blk ?_
    rw [← sumR_succ lost hk]
    refine round_next (sumR lost ((runs (op6 g.es g.cyc) f t).take (k + 1))) hr rfl (.refl _) rfl rfl
  ·
    rintro D s hI
    rw [List.length_map] at hI
    subst hI
    refine k_blk ?_
    refine k_then ?_
    refine t_seq ?_
    refine b0 ?_
    refine o1 rfl (det_load1 t1_3 rfl rfl (.head _) rfl) rfl rfl trivial ?_
    refine o1 rfl (det_assign rfl) rfl rfl trivial ?_
    refine be rfl ?_
    refine k_then ?_
    refine t_ret ?_
    refine ret_mark (pre := [_, _, _]) (vs := [_]) rfl rfl ⟨(.tmp rfl), trivial⟩ rfl (fun w1 hs => ?_)
    exact ⟨by rw [List.take_length]; rfl, hs.keep⟩
  ·
    rintro D j s hX
    exact hX.elim

/-- yield. -/
theorem yield30_ok {w : World} {F : Know} (hF : ∀ a v, F a = some v → w.cell? a = some v) {g : Gl} (hE : GlK F g) (hG : okG g.es g.cyc = true) {lost : Int} (hl : 0 ≤ lost ∧ lost ≤ 1542000) : Pure Try.prog 61 [.agg (glv g).toArray, .int .i64 lost] w (.int .i64 (yieldS g.es g.cyc lost)) := by
  have hcy := okG_cyc hG
  obtain ⟨hl1, hl2, hall0, hsum, hc9, hc1⟩ := okG_parts hG
  refine fn_pure (F := F) Try.func61 rfl Try.ntmps61 rfl hF ?_
  refine t_seq ?_
  refine b0 ?_
  refine om1 rfl (new_boxN rfl) rfl rfl trivial (fun p2 => ?_)
  refine o1 rfl (det_assign rfl) rfl rfl trivial ?_
  refine be rfl ?_
  refine k_then ?_
  refine t_seq ?_
  refine t_seq ?_
  refine b0 ?_
  refine o1 rfl (det_loadN tN30 rfl rfl (.head _) rfl) rfl rfl trivial ?_
  refine o1 rfl (det_call hb65 rfl rfl (fun w1 hs => always_ok hs.know hE hG)) rfl rfl trivial ?_
  refine be rfl ?_
  refine k_then ?_
  refine t_condP Iff.rfl rfl (fun hb => ?_) (fun hb => ?_)
  ·
    have hal : alwE g.es = true := hb
    refine t_seq ?_
    refine b0 ?_
    refine o1 rfl (det_fieldAddr fld30_1 rfl) rfl rfl trivial ?_
    refine o1 rfl (det_load1 t1_3 rfl rfl (.head _) rfl) rfl rfl trivial ?_
    refine o1 rfl (det_assign rfl) rfl rfl trivial ?_
    refine be rfl ?_
    refine k_then ?_
    refine t_ret (k_thenR (?_))
    refine ret_tmp rfl rfl rfl (fun w1 hs => ?_)
    exact ⟨by unfold yieldS; rw [hal]; rfl, hs.keep⟩
  ·
    have hal : alwE g.es = false := by simpa using hb
    have hcf := closed_facts hG hal
    refine t_skip ?_
    refine k_then ?_
    refine t_seq ?_
    refine b0 ?_
    refine o1 rfl (det_loadN tN30 rfl rfl (.head _) rfl) rfl rfl trivial ?_
    refine o1 rfl (det_call hb68 rfl rfl (fun w1 hs => closed_ok hs.know hE hG)) rfl rfl trivial ?_
    refine o1 rfl (det_assign rfl) rfl rfl trivial ?_
    refine be rfl ?_
    refine k_then ?_
    refine t_seq ?_
    refine b0 ?_
    refine o1 rfl (det_loadN tN30 rfl rfl (.head _) rfl) rfl rfl trivial ?_
    refine o1 rfl (det_move rfl) rfl rfl trivial ?_
    refine o1 rfl (det_move rfl) rfl rfl trivial ?_
    refine o1 rfl (det_move rfl) rfl rfl trivial ?_
    refine o1 rfl (det_fieldAddr fld30_1 rfl) rfl rfl trivial ?_
    refine o1 rfl (det_load1 t1_3 rfl rfl (.head _) rfl) rfl rfl trivial ?_
    first | (refine o1 rfl (det_addI rfl rfl ?_) rfl rfl trivial ?_; (· omega)) | refine o1 rfl (det_add rfl rfl) rfl rfl trivial ?_
    refine o1 rfl (det_call hb66 rfl rfl (fun w1 hs => sum30_ok hs.know hE hG hl (by omega) (by omega) (by omega) (by omega))) rfl rfl trivial ?_
    refine o1 rfl (det_assign rfl) rfl rfl trivial ?_
    refine be rfl ?_
    refine k_then ?_
    refine t_ret ?_
    refine ret_tmp rfl rfl rfl (fun w1 hs => ?_)
    exact ⟨by unfold yieldS; rw [hal]; rfl, hs.keep⟩

theorem mul_rng {per most : Int} (h : 1 ≤ per ∧ per ≤ 1000 ∧ 84 ≤ most ∧ most ≤ 1542) : 84 ≤ most * per ∧ most * per ≤ 1542000 := by
  have h1 : 84 * 1 ≤ most * per := Int.mul_le_mul h.2.2.1 h.1 (by decide) (by omega)
  have h2 : most * per ≤ 1542 * 1000 := Int.mul_le_mul h.2.2.2 h.2.1 (by omega) (by decide)
  omega
/-- Yield. -/
theorem Yield_ok {w : World} {F : Know} (hF : ∀ a v, F a = some v → w.cell? a = some v) {g : Gl} (hE : GlK F g) {per most : Int} : Pure Try.prog 35 [.agg (glv g).toArray, .int .i64 per, .int .i64 most] w (.tuple [.int .i64 (yieldA g.es g.cyc per most), .int .i64 (errS g.es g.cyc per most)].toArray) := by
  refine fn_pure (F := F) Try.func35 rfl Try.ntmps35 rfl hF ?_
  refine t_seq ?_
  refine b0 ?_
  refine om1 rfl (new_boxN rfl) rfl rfl trivial (fun p3 => ?_)
  refine o1 rfl (det_assign rfl) rfl rfl trivial ?_
  refine o1 rfl (det_assign rfl) rfl rfl trivial ?_
  refine be rfl ?_
  refine k_then ?_
  refine t_seq ?_
  refine t_seq ?_
  refine b0 ?_
  refine o1 rfl (det_loadN tN30 rfl rfl (.head _) rfl) rfl rfl trivial ?_
  refine o1 rfl (det_move rfl) rfl rfl trivial ?_
  refine o1 rfl (det_move rfl) rfl rfl trivial ?_
  refine o1 rfl (det_call hb60 rfl rfl (fun w1 hs => svalid_ok hs.know hE)) rfl rfl trivial ?_
  refine o1 rfl (det_assign rfl) rfl rfl trivial ?_
  refine be rfl ?_
  refine k_then ?_
  refine t_seq ?_
  refine b0 ?_
  refine o1 rfl (det_move rfl) rfl rfl trivial ?_
  refine o1 rfl (det_neq rfl rfl) rfl rfl trivial ?_
  refine be rfl ?_
  refine k_then ?_
  refine t_condP bne_iff_ne rfl (fun hb => ?_) (fun hb => ?_)
  ·
    have he : errS g.es g.cyc per most ≠ 0 := hb
    refine t_seq ?_
    refine b0 ?_
    refine o1 rfl (det_move rfl) rfl rfl trivial ?_
    refine o1 rfl (det_assign rfl) rfl rfl trivial ?_
    refine o1 rfl (det_assign rfl) rfl rfl trivial ?_
    refine be rfl ?_
    refine k_then ?_
    refine t_ret (k_thenR (?_))
    refine ret_tmp2 rfl rfl rfl rfl (fun w1 hs => ?_)
    exact ⟨by unfold yieldA; rw [if_neg he], hs.keep⟩
  ·
    have he : errS g.es g.cyc per most = 0 := by simpa using hb
    obtain ⟨hG, hA⟩ := errS_zero he
    have hcy := okG_cyc hG
    have hAb := of_decide_eq_true (show decide _ = true from hA)
    have hml : 84 ≤ most * per ∧ most * per ≤ 1542000 := mul_rng hAb
    have hmc : per * most = most * per := Int.mul_comm _ _
    refine t_skip ?_
    refine k_then ?_
    refine t_seq ?_
    refine b0 ?_
    refine o1 rfl (det_loadN tN30 rfl rfl (.head _) rfl) rfl rfl trivial ?_
    refine o1 rfl (det_move rfl) rfl rfl trivial ?_
    refine o1 rfl (det_move rfl) rfl rfl trivial ?_
    first | (refine o1 rfl (det_mulI rfl rfl ?_) rfl rfl trivial ?_; (· omega)) | refine o1 rfl (det_mul rfl rfl) rfl rfl trivial ?_
    refine o1 rfl (det_call hb61 rfl rfl (fun w1 hs => yield30_ok hs.know hE hG (by omega))) rfl rfl trivial ?_
    refine o1 rfl (det_assign rfl) rfl rfl trivial ?_
    refine o1 rfl (det_assign rfl) rfl rfl trivial ?_
    refine be rfl ?_
    refine k_then ?_
    refine t_ret ?_
    refine ret_tmp2 rfl rfl rfl rfl (fun w1 hs => ?_)
    exact ⟨by unfold yieldA; rw [if_pos he, he], hs.keep⟩

/-- Sends. -/
theorem Sends_ok {w : World} {F : Know} (hF : ∀ a v, F a = some v → w.cell? a = some v) {g : Gl} (hE : GlK F g) {per most : Int} {t lg : Int} : Pure Try.prog 38 [.agg (glv g).toArray, .int .i64 per, .int .i64 most, .int .i64 t, .int .i64 lg] w (.tuple [.int .i64 (sendsA g.es g.cyc per most t lg).1, .int .i64 (sendsA g.es g.cyc per most t lg).2].toArray) := by
  refine fn_pure (F := F) Try.func38 rfl Try.ntmps38 rfl hF ?_
  refine t_seq ?_
  refine b0 ?_
  refine om1 rfl (new_boxN rfl) rfl rfl trivial (fun p5 => ?_)
  refine o1 rfl (det_assign rfl) rfl rfl trivial ?_
  refine o1 rfl (det_assign rfl) rfl rfl trivial ?_
  refine be rfl ?_
  refine k_then ?_
  refine t_seq ?_
  refine t_seq ?_
  refine b0 ?_
  refine o1 rfl (det_loadN tN30 rfl rfl (.head _) rfl) rfl rfl trivial ?_
  refine o1 rfl (det_move rfl) rfl rfl trivial ?_
  refine o1 rfl (det_move rfl) rfl rfl trivial ?_
  refine o1 rfl (det_call hb60 rfl rfl (fun w1 hs => svalid_ok hs.know hE)) rfl rfl trivial ?_
  refine o1 rfl (det_assign rfl) rfl rfl trivial ?_
  refine be rfl ?_
  refine k_then ?_
  refine t_seq ?_
  refine b0 ?_
  refine o1 rfl (det_move rfl) rfl rfl trivial ?_
  refine o1 rfl (det_neq rfl rfl) rfl rfl trivial ?_
  refine be rfl ?_
  refine k_then ?_
  refine t_condP bne_iff_ne rfl (fun hb => ?_) (fun hb => ?_)
  ·
    have he : errS g.es g.cyc per most ≠ 0 := hb
    refine t_seq ?_
    refine b0 ?_
    refine o1 rfl (det_move rfl) rfl rfl trivial ?_
    refine o1 rfl (det_assign rfl) rfl rfl trivial ?_
    refine o1 rfl (det_assign rfl) rfl rfl trivial ?_
    refine be rfl ?_
    refine k_then ?_
    refine t_ret (k_thenR (?_))
    refine ret_tmp2 rfl rfl rfl rfl (fun w1 hs => ?_)
    exact ⟨by unfold sendsA; rw [if_neg he], hs.keep⟩
  ·
    have he : errS g.es g.cyc per most = 0 := by simpa using hb
    obtain ⟨hG, hA⟩ := errS_zero he
    have hcy := okG_cyc hG
    have hAb := of_decide_eq_true (show decide _ = true from hA)
    have hml : 84 ≤ most * per ∧ most * per ≤ 1542000 := mul_rng hAb
    have hmc : per * most = most * per := Int.mul_comm _ _
    refine t_skip ?_
    refine k_then ?_
    refine t_seq ?_
    refine t_seq ?_
    refine t_merge (env0 := [(1, _), (2, _), (3, _), (4, _), (5, _), (10, _), (11, _)]) ⟨rfl, rfl, rfl, rfl, rfl, rfl, rfl, trivial⟩ 37 (.bool (!argT g.cyc t lg)) ?_ (fun hK => ?_)
    ·
      refine k_then ?_
      refine t_condP Iff.rfl rfl (fun hb => ?_) (fun hb => ?_)
      ·
        have ha : argT g.cyc t lg = false := by simpa using hb
        refine t_seq ?_
        refine b0 ?_
        refine o1 rfl (det_assign rfl) rfl rfl trivial ?_
        refine o1 rfl (det_assign rfl) rfl rfl trivial ?_
        refine be rfl ?_
        refine k_then ?_
        refine t_ret (k_thenR (?_))
        refine ret_tmp2 rfl rfl rfl rfl (fun w1 hs => ?_)
        exact ⟨by unfold sendsA; rw [if_pos he, ha]; rfl, hs.keep⟩
      ·
        have ha : argT g.cyc t lg = true := by simpa using hb
        obtain ⟨hat, hal4⟩ : okTm t = true ∧ (0 ≤ lg ∧ lg ≤ 4 * g.cyc) := by unfold argT at ha; simpa using ha
        have htb := of_decide_eq_true (show decide _ = true from hat)
        refine t_skip ?_
        refine k_then ?_
        refine t_seq ?_
        refine b0 ?_
        refine o1 rfl (det_move rfl) rfl rfl trivial ?_
        refine o1 rfl (det_assign rfl) rfl rfl trivial ?_
        refine be rfl ?_
        refine k_then ?_
        refine t_seq ?_
        refine t_seq ?_
        refine b0 ?_
        refine o1 rfl (det_loadN tN30 rfl rfl (.head _) rfl) rfl rfl trivial ?_
        refine o1 rfl (det_call hb65 rfl rfl (fun w1 hs => always_ok hs.know hE hG)) rfl rfl trivial ?_
        refine o1 rfl (det_not rfl) rfl rfl trivial ?_
        refine be rfl ?_
        refine k_then ?_
        refine t_condP not_iff_false rfl (fun hb => ?_) (fun hb => ?_)
        ·
          have hal : alwE g.es = false := by simpa using hb
          refine t_seq ?_
          refine bD mixed ?_
          refine r_seg 11 11 [] [0, 1, 2, 3, 4, 5, 6, 7, 8, 9, 10] (by kernel_rfl) ?_
          refine s1 rfl (det_move rfl) rfl rfl trivial rfl ?_
          refine s1 rfl (det_fieldAddr fld30_1 rfl) rfl rfl trivial rfl ?_
          refine s1 rfl (det_load1 t1_3 rfl rfl (.head _) rfl) rfl rfl trivial rfl ?_
          have htb2 := tmod_bounds t hcy.1
          have hq1 := Int.emod_nonneg t (show g.cyc ≠ 0 by omega)
          have hq2 := Int.emod_lt_of_pos t (show 0 < g.cyc by omega)
          first | (refine s1 rfl (det_remP rfl rfl ?_) rfl rfl trivial rfl ?_; (· omega)) | (refine s1 rfl (det_rem rfl rfl ?_) rfl rfl trivial rfl ?_; (· (first | decide | omega)))
          refine s1 rfl (det_fieldAddr fld30_1 rfl) rfl rfl trivial rfl ?_
          refine s1 rfl (det_load1 t1_3 rfl rfl (.head _) rfl) rfl rfl trivial rfl ?_
          first | (refine s1 rfl (det_addI rfl rfl ?_) rfl rfl trivial rfl ?_; (· omega)) | refine s1 rfl (det_add rfl rfl) rfl rfl trivial rfl ?_
          refine s1 rfl (det_fieldAddr fld30_1 rfl) rfl rfl trivial rfl ?_
          refine s1 rfl (det_load1 t1_3 rfl rfl (.head _) rfl) rfl rfl trivial rfl ?_
          first | (refine s1 rfl (det_remP rfl rfl ?_) rfl rfl trivial rfl ?_; (· omega)) | (refine s1 rfl (det_rem rfl rfl ?_) rfl rfl trivial rfl ?_; (· (first | decide | omega)))
          refine s1 rfl (det_assign rfl) rfl rfl trivial rfl ?_
          refine sg_nil ?_
          refine be rfl ?_
          refine k_then ?_
          refine b0 ?_
          rw [show (t.tmod g.cyc + g.cyc) % g.cyc = t % g.cyc from tmod_norm]
          refine o1 rfl (det_loadN tN30 rfl rfl (.head _) rfl) rfl rfl trivial ?_
          refine o1 rfl (det_move rfl) rfl rfl trivial ?_
          refine o1 rfl (det_move rfl) rfl rfl trivial ?_
          first | (refine o1 rfl (det_mulI rfl rfl ?_) rfl rfl trivial ?_; (· omega)) | refine o1 rfl (det_mul rfl rfl) rfl rfl trivial ?_
          refine o1 rfl (det_move rfl) rfl rfl trivial ?_
          refine o1 rfl (det_move rfl) rfl rfl trivial ?_
          refine o1 rfl (det_move rfl) rfl rfl trivial ?_
          first | (refine o1 rfl (det_addI rfl rfl ?_) rfl rfl trivial ?_; (· omega)) | refine o1 rfl (det_add rfl rfl) rfl rfl trivial ?_
          have hsb := sumS_bounds (es := g.es) (cyc := g.cyc) (lost := most * per) (by omega) (show t % g.cyc ≤ t % g.cyc + lg by omega)
          refine o1 rfl (det_call hb66 rfl rfl (fun w1 hs => sum30_ok hs.know hE hG (by omega) (by omega) (by omega) (by omega) (by omega))) rfl rfl trivial ?_
          refine o1 rfl (det_assign rfl) rfl rfl trivial ?_
          refine be rfl ?_
          refine k_then ?_
          refine t_seq ?_
          refine b0 ?_
          skip
          refine o1 rfl (det_move rfl) rfl rfl trivial ?_
          refine o1 rfl (det_move rfl) rfl rfl trivial ?_
          first | (refine o1 rfl (det_mulI rfl rfl ?_) rfl rfl trivial ?_; (· omega)) | refine o1 rfl (det_mul rfl rfl) rfl rfl trivial ?_
          first | (refine o1 rfl (det_subI rfl rfl ?_) rfl rfl trivial ?_; (· omega)) | refine o1 rfl (det_sub rfl rfl) rfl rfl trivial ?_
          refine o1 rfl (det_max2 rfl rfl) rfl rfl trivial ?_
          refine o1 rfl (det_assign rfl) rfl rfl trivial ?_
          refine o1 rfl (det_assign rfl) rfl rfl trivial ?_
          refine be rfl ?_
          refine k_then ?_
          refine t_ret ?_
          refine ret_tmp2 rfl rfl rfl rfl (fun w1 hs => ?_)
          exact ⟨by unfold sendsA leastS; rw [if_pos he, ha, hal]; simp [sumS_mod], hs.keep⟩
        ·
          have hal : alwE g.es = true := by simpa using hb
          refine t_skip ?_
          refine k_then ?_
          refine t_seq ?_
          refine b0 ?_
          skip
          refine o1 rfl (det_move rfl) rfl rfl trivial ?_
          refine o1 rfl (det_move rfl) rfl rfl trivial ?_
          first | (refine o1 rfl (det_mulI rfl rfl ?_) rfl rfl trivial ?_; (· omega)) | refine o1 rfl (det_mul rfl rfl) rfl rfl trivial ?_
          first | (refine o1 rfl (det_subI rfl rfl ?_) rfl rfl trivial ?_; (· omega)) | refine o1 rfl (det_sub rfl rfl) rfl rfl trivial ?_
          refine o1 rfl (det_max2 rfl rfl) rfl rfl trivial ?_
          refine o1 rfl (det_assign rfl) rfl rfl trivial ?_
          refine o1 rfl (det_assign rfl) rfl rfl trivial ?_
          refine be rfl ?_
          refine k_then ?_
          refine t_ret ?_
          refine ret_tmp2 rfl rfl rfl rfl (fun w1 hs => ?_)
          exact ⟨by unfold sendsA leastS; rw [if_pos he, ha, hal]; rfl, hs.keep⟩
    ·
      refine b0 ?_
      refine o1 rfl (det_move rfl) rfl rfl trivial ?_
      refine o1 rfl (det_lss rfl rfl) rfl rfl trivial ?_
      refine o2P decide_eq_true_iff rfl (det_move rfl) rfl rfl trivial (fun hb => ?_) (fun hb => ?_)
      ·
        refine on rfl rfl rfl ⟨_, rfl, .inl rfl⟩ ?_
        refine on rfl rfl rfl ⟨_, rfl, .inl rfl⟩ ?_
        refine o1 rfl (det_pickT rfl rfl) rfl rfl trivial ?_
        refine o1 rfl (det_move rfl) rfl rfl trivial ?_
        refine on rfl rfl rfl ⟨_, rfl, .inl rfl⟩ ?_
        refine on rfl rfl rfl ⟨_, rfl, .inl rfl⟩ ?_
        refine o1 rfl (det_pickT rfl rfl) rfl rfl trivial ?_
        refine o1 rfl (det_move rfl) rfl rfl trivial ?_
        refine on rfl rfl rfl ⟨_, rfl, .inl rfl⟩ ?_
        refine on rfl rfl rfl ⟨_, rfl, .inl rfl⟩ ?_
        refine on rfl rfl rfl ⟨_, rfl, .inl rfl⟩ ?_
        refine on rfl rfl rfl ⟨_, rfl, .inl rfl⟩ ?_
        refine on rfl rfl rfl ⟨_, rfl, .inl rfl⟩ ?_
        refine o1 rfl (det_pickT rfl rfl) rfl rfl trivial ?_
        refine be rfl ?_
        refine tk_drop ?_ (.refl _) hK
        exact ⟨(mb rfl (by unfold argT okTm; grind)), rfl, rfl, rfl, rfl, rfl, rfl, rfl, trivial⟩
      ·
        refine o1 rfl (det_move rfl) rfl rfl ⟨_, rfl, rfl⟩ ?_
        refine o1 rfl (det_gtr rfl rfl) rfl rfl ⟨_, rfl, rfl⟩ ?_
        refine o1 rfl (det_pickF rfl rfl) rfl rfl trivial ?_
        refine o2P decide_eq_true_iff rfl (det_move rfl) rfl rfl trivial (fun hb => ?_) (fun hb => ?_)
        ·
          refine on rfl rfl rfl ⟨_, rfl, .inl rfl⟩ ?_
          refine on rfl rfl rfl ⟨_, rfl, .inl rfl⟩ ?_
          refine o1 rfl (det_pickT rfl rfl) rfl rfl trivial ?_
          refine o1 rfl (det_move rfl) rfl rfl trivial ?_
          refine on rfl rfl rfl ⟨_, rfl, .inl rfl⟩ ?_
          refine on rfl rfl rfl ⟨_, rfl, .inl rfl⟩ ?_
          refine on rfl rfl rfl ⟨_, rfl, .inl rfl⟩ ?_
          refine on rfl rfl rfl ⟨_, rfl, .inl rfl⟩ ?_
          refine on rfl rfl rfl ⟨_, rfl, .inl rfl⟩ ?_
          refine o1 rfl (det_pickT rfl rfl) rfl rfl trivial ?_
          refine be rfl ?_
          refine tk_drop ?_ (.refl _) hK
          exact ⟨(mb rfl (by unfold argT okTm; grind)), rfl, rfl, rfl, rfl, rfl, rfl, rfl, trivial⟩
        ·
          refine o1 rfl (det_move rfl) rfl rfl ⟨_, rfl, rfl⟩ ?_
          refine o1 rfl (det_lss rfl rfl) rfl rfl ⟨_, rfl, rfl⟩ ?_
          refine o1 rfl (det_pickF rfl rfl) rfl rfl trivial ?_
          refine o2P decide_eq_true_iff rfl (det_move rfl) rfl rfl trivial (fun hb => ?_) (fun hb => ?_)
          ·
            refine on rfl rfl rfl ⟨_, rfl, .inl rfl⟩ ?_
            refine on rfl rfl rfl ⟨_, rfl, .inl rfl⟩ ?_
            refine on rfl rfl rfl ⟨_, rfl, .inl rfl⟩ ?_
            refine on rfl rfl rfl ⟨_, rfl, .inl rfl⟩ ?_
            refine on rfl rfl rfl ⟨_, rfl, .inl rfl⟩ ?_
            refine o1 rfl (det_pickT rfl rfl) rfl rfl trivial ?_
            refine be rfl ?_
            refine tk_drop ?_ (.refl _) hK
            exact ⟨(mb rfl (by unfold argT okTm; grind)), rfl, rfl, rfl, rfl, rfl, rfl, rfl, trivial⟩
          ·
            refine o1 rfl (det_move rfl) rfl rfl ⟨_, rfl, rfl⟩ ?_
            refine o1 rfl (det_fieldAddr fld30_1 rfl) rfl rfl ⟨_, rfl, rfl⟩ ?_
            refine o1 rfl (det_load1 t1_3 rfl rfl (.head _) rfl) rfl rfl ⟨_, rfl, rfl⟩ ?_
            first | (refine o1 rfl (det_mulI rfl rfl ?_) rfl rfl ⟨_, rfl, rfl⟩ ?_; (· omega)) | refine o1 rfl (det_mul rfl rfl) rfl rfl ⟨_, rfl, rfl⟩ ?_
            refine o1 rfl (det_gtr rfl rfl) rfl rfl ⟨_, rfl, rfl⟩ ?_
            refine o1 rfl (det_pickF rfl rfl) rfl rfl trivial ?_
            refine be rfl ?_
            refine tk_drop ?_ (.refl _) hK
            exact ⟨(mb rfl (by unfold argT okTm; grind)), rfl, rfl, rfl, rfl, rfl, rfl, rfl, trivial⟩

end Go.Proofs.Sw
