/-
  Walks through layer 30 and its reference.
-/
import Derived.Test.YtgaliocgkjghnaaSwS7
import Derived.Test.YtgaliocgkjghnaaSvPlain7
namespace Go.Proofs.Sw
open Go Go.Eng Go.Gt Go.Proofs.Gt Go.Sw Go.Sv
set_option maxRecDepth 4000

/-- Of. -/
theorem rOf_ok {w : World} {F : Know} (hF : ∀ a v, F a = some v → w.cell? a = some v) {g : Gl} (hE : GlK F g) {per most : Int} : Pure Try.prog 41 [.agg (glv g).toArray, .int .i64 per, .int .i64 most] w (.tuple [.agg [.int .i64 (rofS g.es g.cyc per most).1.1, .int .i64 (rofS g.es g.cyc per most).1.2].toArray, .int .i64 (rofS g.es g.cyc per most).2].toArray) := by
  refine fn_pure (F := F) Try.func41 rfl Try.ntmps41 rfl hF ?_
  refine t_seq ?_
  refine b0 ?_
  refine om1 rfl (new_boxN rfl) rfl rfl trivial (fun p3 => ?_)
  refine om1 rfl (new_alloc z75) rfl rfl trivial (fun p6 => ?_)
  refine o1 rfl (det_assign rfl) rfl rfl trivial ?_
  refine be rfl ?_
  refine k_then ?_
  refine t_seq ?_
  refine b0 ?_
  refine o1 rfl (det_loadN tN30 rfl rfl (.tail _ (.head _)) rfl) rfl rfl trivial ?_
  refine o1 rfl (det_move rfl) rfl rfl trivial ?_
  refine o1 rfl (det_move rfl) rfl rfl trivial ?_
  refine o1 rfl (det_call hb62 rfl rfl (fun w1 hs => rargs_ok hs.know hE)) rfl rfl trivial ?_
  refine o1 rfl (det_assign rfl) rfl rfl trivial ?_
  refine be rfl ?_
  refine k_then ?_
  refine t_seq ?_
  refine t_seq ?_
  refine b0 ?_
  refine o1 rfl (det_move rfl) rfl rfl trivial ?_
  refine o1 rfl (det_neq rfl rfl) rfl rfl trivial ?_
  refine be rfl ?_
  refine k_then ?_
  refine t_condP bne_iff_ne rfl (fun hb => ?_) (fun hb => ?_)
  ·
    have he : errS g.es g.cyc per most ≠ 0 := hb
    refine t_seq ?_
    refine b0 ?_
    refine o1 rfl (det_build rfl (fun w => bld75_ w)) rfl rfl trivial ?_
    refine o1 rfl (det_move rfl) rfl rfl trivial ?_
    refine stN nofun rfl tN75 rfl rfl rfl .head rfl trivial rfl rfl ?_
    refine o1 rfl (det_assign rfl) rfl rfl trivial ?_
    refine be rfl ?_
    refine k_then ?_
    refine t_ret (k_thenR (?_))
    refine ret_any (vs := [_, _]) rfl rfl ⟨(.cellN tN75 rfl rfl (.head _) rfl), (.tmp rfl), trivial⟩ rfl (fun w1 hs => ?_)
    exact ⟨by unfold rofS; rw [if_neg he]; rfl, hs.keep⟩
  ·
    have he : errS g.es g.cyc per most = 0 := by simpa using hb
    obtain ⟨hG, hA⟩ := errS_zero he
    have hcy := okG_cyc hG
    have hAb := of_decide_eq_true (show decide _ = true from hA)
    have hml : 84 ≤ most * per ∧ most * per ≤ 1542000 := mul_rng hAb
    have hrt := rate_rng (es := g.es) (cyc := g.cyc) (lost := most * per) (per := per) (by omega) (by omega) (by omega)
    have hyr := yield_rng (es := g.es) (cyc := g.cyc) (lost := most * per) (by omega) (by omega)
    have hcp : 1 ≤ g.cyc * per ∧ g.cyc * per ≤ 9600000000 := by
      have h1 : 1 * 1 ≤ g.cyc * per := Int.mul_le_mul hcy.1 hAb.1 (by decide) (by omega)
      have h2 : g.cyc * per ≤ 9600000 * 1000 := Int.mul_le_mul hcy.2 hAb.2.1 (by omega) (by decide)
      omega
    refine t_skip ?_
    refine k_then ?_
    refine t_seq ?_
    refine bD mixed ?_
    refine r_seg 11 11 [] [0, 1, 2, 3, 4, 5, 6, 7, 8, 9, 10] (by kernel_rfl) ?_
    refine s1 rfl (det_loadN tN30 rfl rfl (.tail _ (.head _)) rfl) rfl rfl trivial rfl ?_
    refine s1 rfl (det_move rfl) rfl rfl trivial rfl ?_
    refine s1 rfl (det_move rfl) rfl rfl trivial rfl ?_
    refine s1 rfl (det_call hb63 rfl rfl (fun w1 hs => rgives_ok hs.know hE hG hAb)) rfl rfl trivial rfl ?_
    first | (refine s1 rfl (det_mulI rfl rfl ?_) rfl rfl trivial rfl ?_; (· omega)) | refine s1 rfl (det_mul rfl rfl) rfl rfl trivial rfl ?_
    refine s1 rfl (det_fieldAddr fld30_1 rfl) rfl rfl trivial rfl ?_
    refine s1 rfl (det_load1 t1_3 rfl rfl (.tail _ (.head _)) rfl) rfl rfl trivial rfl ?_
    refine s1 rfl (det_move rfl) rfl rfl trivial rfl ?_
    first | (refine s1 rfl (det_mulI rfl rfl ?_) rfl rfl trivial rfl ?_; (· omega)) | refine s1 rfl (det_mul rfl rfl) rfl rfl trivial rfl ?_
    first | (refine s1 rfl (det_quoP rfl rfl ?_ ?_) rfl rfl trivial rfl ?_; (· omega); (· omega)) | (refine s1 rfl (det_quoI rfl rfl ?_ ?_) rfl rfl trivial rfl ?_; (· (first | decide | omega)); (· omega)) | (refine s1 rfl (det_quo rfl rfl ?_) rfl rfl trivial rfl ?_; (· (first | decide | omega)))
    refine s1 rfl (det_assign rfl) rfl rfl trivial rfl ?_
    refine sg_nil ?_
    refine be rfl ?_
    refine k_then ?_
    refine t_seq ?_
    refine t_seq ?_
    refine b0 ?_
    have hdv : yieldS g.es g.cyc (most * per) * 1048576 / (g.cyc * per) = rateS g.es g.cyc (most * per) per := rfl
    rw [hdv]
    obtain ⟨R, hRR⟩ : ∃ R, rateS g.es g.cyc (most * per) per = R := ⟨_, rfl⟩
    rw [hRR] at hrt ⊢
    refine o1 rfl (det_move rfl) rfl rfl trivial ?_
    refine o1 rfl (det_lss rfl rfl) rfl rfl trivial ?_
    refine be rfl ?_
    refine k_then ?_
    refine t_condP decide_eq_true_iff rfl (fun hb => ?_) (fun hb => ?_)
    ·
      have hr1 : R < 1 := hb
      refine t_seq ?_
      refine b0 ?_
      refine o1 rfl (det_build rfl (fun w => bld75_ w)) rfl rfl trivial ?_
      refine stN nofun rfl tN75 rfl rfl rfl .head rfl trivial rfl rfl ?_
      refine o1 rfl (det_assign rfl) rfl rfl trivial ?_
      refine be rfl ?_
      refine k_then ?_
      refine t_ret (k_thenR (?_))
      refine ret_any (vs := [_, _]) rfl rfl ⟨(.cellN tN75 rfl rfl (.head _) rfl), (.tmp rfl), trivial⟩ rfl (fun w1 hs => ?_)
      exact ⟨by unfold rofS; rw [if_pos he, hRR, if_pos hr1]; rfl, hs.keep⟩
    ·
      have hr1 : 1 ≤ R := by omega
      have hRp1 : 1 * 1 ≤ R * per := Int.mul_le_mul hr1 hAb.1 (by decide) (by omega)
      refine t_skip ?_
      refine k_then ?_
      refine t_seq ?_
      refine b0 ?_
      refine o1 rfl (det_move rfl) rfl rfl trivial ?_
      first | (refine o1 rfl (det_mulI rfl rfl ?_) rfl rfl trivial ?_; (· omega)) | refine o1 rfl (det_mul rfl rfl) rfl rfl trivial ?_
      first | (refine o1 rfl (det_mulI rfl rfl ?_) rfl rfl trivial ?_; (· omega)) | refine o1 rfl (det_mul rfl rfl) rfl rfl trivial ?_
      refine o1 rfl (det_assign rfl) rfl rfl trivial ?_
      refine be rfl ?_
      refine k_then ?_
      refine t_seq ?_
      refine t_seq ?_
      refine b0 ?_
      refine o1 rfl (det_loadN tN30 rfl rfl (.tail _ (.head _)) rfl) rfl rfl trivial ?_
      refine o1 rfl (det_call hb71 rfl rfl (fun w1 hs => ralways_ok hs.know hE hG)) rfl rfl trivial ?_
      refine o1 rfl (det_not rfl) rfl rfl trivial ?_
      refine be rfl ?_
      refine k_then ?_
      refine t_condP not_iff_false rfl (fun hb => ?_) (fun hb => ?_)
      ·
        have hal : alwE g.es = false := by simpa using hb
        refine t_seq ?_
        refine b0 ?_
        refine o1 rfl (det_loadN tN30 rfl rfl (.tail _ (.head _)) rfl) rfl rfl trivial ?_
        refine oF nofun rfl hb72 rfl rfl rfl trivial (fun w1 hs => round_ok hs.know hE hG) (fun v F1 hF1 hNF1 ⟨A, cap, hv, hR0⟩ => ?_)
        subst hv
        have hR : RowsK o2 2 F1 A (roundR g.es g.cyc).length (roundR g.es g.cyc) := hR0
        have hri := round_is hG
        have hlen := hri.1.len (by omega)
        replace hE := EntK.mono hE hF1
        rw [show (runs (op6 g.es g.cyc) (closedE g.es) (closedE g.es + g.cyc)).length = (roundR g.es g.cyc).length from rfl]
        refine o1 rfl (det_assign rfl) rfl rfl trivial ?_
        refine be rfl ?_
        refine k_then ?_
        refine t_seq ?_
        refine b0 ?_
        refine o1 rfl (det_assign rfl) rfl rfl trivial ?_
        refine be rfl ?_
        refine k_then ?_
        refine t_block ?_
        refine t_whileM (σ := Nat) (fun i => [(10, .int .i64 (rOut g.es g.cyc per most R (roundR g.es g.cyc) i)), (12, .int .i64 (i : Int))]) (fun _ => _) (fun i => (roundR g.es g.cyc).length - i) (fun i => i ≤ (roundR g.es g.cyc).length) 0 (env0 := [(1, _), (2, _), (3, _), (6, _), (7, _), (9, _), (11, _)]) (Nat.zero_le _) ⟨rfl, rfl, trivial⟩ ⟨rfl, rfl, rfl, rfl, rfl, rfl, rfl, trivial⟩ (.refl _) ?_
        rintro i hin
        have hwo := rOut_rng (es := g.es) hri.1 hcy hAb (by omega) hrt.1 hrt.2.1 i hin
        refine t_seq ?_
        refine t_seq ?_
        refine b0 ?_
        refine o1 rfl (det_move rfl) rfl rfl trivial ?_
        refine o1 rfl (det_move rfl) rfl rfl trivial ?_
        refine o1 rfl (det_lenS sl119 rfl) rfl rfl trivial ?_
        refine o1 rfl (det_lss rfl rfl) rfl rfl trivial ?_
        refine be rfl ?_
        refine k_then ?_
        refine t_condP decide_eq_true_iff rfl (fun hb => ?_) (fun hb => ?_)
        ·
          have hi : i < (roundR g.es g.cyc).length := by omega
          obtain ⟨aR0, haR0⟩ := hR.some hi
          rw [haR0] at hR ⊢
          have hbi := hri.1.at_ hi
          refine t_skip ?_
          refine k_then ?_
          refine t_seq ?_
          refine t_block ?_
          refine t_seq ?_
          refine bD mixed ?_
          refine r_seg 22 22 [] [0, 1, 2, 3, 4, 5, 6, 7, 8, 9, 10, 11, 12, 13, 14, 15, 16, 17, 18, 19, 20, 21] (by kernel_rfl) ?_
          refine s1 rfl (det_move rfl) rfl rfl trivial rfl ?_
          refine s1 rfl (det_move rfl) rfl rfl trivial rfl ?_
          first | (refine s1 rfl (det_indexAddr sl119 rfl rfl ?_) rfl rfl trivial rfl ?_; (· (first | decide | omega)))
          refine s1 rfl (det_fieldAddr fld122_1 rfl) rfl rfl trivial rfl ?_
          refine s1 rfl (det_loadK t1_3 rfl (hR.cell (k := i) (by omega) hi (u := .int .i64 (atR (roundR g.es g.cyc) i).2) (by rw [atR_get hi]; rfl))) rfl rfl trivial rfl ?_
          refine s1 rfl (det_move rfl) rfl rfl trivial rfl ?_
          refine s1 rfl (det_move rfl) rfl rfl trivial rfl ?_
          first | (refine s1 rfl (det_indexAddr sl119 rfl rfl ?_) rfl rfl trivial rfl ?_; (· (first | decide | omega)))
          refine s1 rfl (det_fieldAddr fld122_1 rfl) rfl rfl trivial rfl ?_
          refine s1 rfl (det_loadK t1_3 rfl (hR.cell (k := i) (by omega) hi (u := .int .i64 (atR (roundR g.es g.cyc) i).2) (by rw [atR_get hi]; rfl))) rfl rfl trivial rfl ?_
          refine s1 rfl (det_move rfl) rfl rfl trivial rfl ?_
          refine s1 rfl (det_move rfl) rfl rfl trivial rfl ?_
          first | (refine s1 rfl (det_indexAddr sl119 rfl rfl ?_) rfl rfl trivial rfl ?_; (· (first | decide | omega)))
          refine s1 rfl (det_fieldAddr fld122_0 rfl) rfl rfl trivial rfl ?_
          refine s1 rfl (det_loadK t1_3 rfl (hR.cell (k := i) (by omega) hi (u := .int .i64 (atR (roundR g.es g.cyc) i).1) (by rw [atR_get hi]; rfl))) rfl rfl trivial rfl ?_
          first | (refine s1 rfl (det_subI rfl rfl ?_) rfl rfl trivial rfl ?_; (· omega)) | refine s1 rfl (det_sub rfl rfl) rfl rfl trivial rfl ?_
          refine s1 rfl (det_move rfl) rfl rfl trivial rfl ?_
          refine s1 rfl (det_move rfl) rfl rfl trivial rfl ?_
          first | (refine s1 rfl (det_mulI rfl rfl ?_) rfl rfl trivial rfl ?_; (· omega)) | refine s1 rfl (det_mul rfl rfl) rfl rfl trivial rfl ?_
          refine s1 rfl (det_min2 rfl rfl) rfl rfl trivial rfl ?_
          first | (refine s1 rfl (det_subI rfl rfl ?_) rfl rfl trivial rfl ?_; (· omega)) | refine s1 rfl (det_sub rfl rfl) rfl rfl trivial rfl ?_
          refine s1 rfl (det_assign rfl) rfl rfl trivial rfl ?_
          refine sg_nil ?_
          refine be rfl ?_
          refine k_then ?_
          refine t_seq ?_
          refine b0 ?_
          rw [show (atR (roundR g.es g.cyc) i).2 - min ((atR (roundR g.es g.cyc) i).2 - (atR (roundR g.es g.cyc) i).1) (most * per) = fromR (roundR g.es g.cyc) (most * per) i from rfl]
          refine o1 rfl (det_assign rfl) rfl rfl trivial ?_
          refine be rfl ?_
          refine k_then ?_
          refine t_block ?_
          refine t_whileM (σ := Nat) (fun k => [(10, .int .i64 (rIn g.es g.cyc per most R (roundR g.es g.cyc) i (rOut g.es g.cyc per most R (roundR g.es g.cyc) i) k)), (14, .int .i64 (k : Int))]) (fun _ => _) (fun k => 2 * (roundR g.es g.cyc).length - k) (fun k => k ≤ 2 * (roundR g.es g.cyc).length) 0 (env0 := [(1, _), (2, _), (3, _), (6, _), (7, _), (9, _), (11, _), (12, _), (13, _)]) (Nat.zero_le _) ⟨rfl, rfl, trivial⟩ ⟨rfl, rfl, rfl, rfl, rfl, rfl, rfl, rfl, rfl, trivial⟩ (.refl _) ?_
          rintro k hkn
          have hwi := rIn_rng (es := g.es) hri.1 hcy hAb (by omega) hrt.1 hrt.2.1 hi hwo k hkn
          refine t_seq ?_
          refine t_seq ?_
          refine b0 ?_
          refine o1 rfl (det_move rfl) rfl rfl trivial ?_
          refine o1 rfl (det_move rfl) rfl rfl trivial ?_
          refine o1 rfl (det_lenS sl119 rfl) rfl rfl trivial ?_
          first | (refine o1 rfl (det_mulI rfl rfl ?_) rfl rfl trivial ?_; (· omega)) | refine o1 rfl (det_mul rfl rfl) rfl rfl trivial ?_
          refine o1 rfl (det_lss rfl rfl) rfl rfl trivial ?_
          refine be rfl ?_
          refine k_then ?_
          refine t_condP decide_eq_true_iff rfl (fun hb => ?_) (fun hb => ?_)
          ·
            have hkl : k < 2 * (roundR g.es g.cyc).length := by omega
            have hkm : k % (roundR g.es g.cyc).length < (roundR g.es g.cyc).length := Nat.mod_lt _ (by omega)
            obtain ⟨aR, haR⟩ := hR.some hkm
            have hbk := hri.1.at_ hkm
            have hmod : ((k : Int) % ((roundR g.es g.cyc).length : Int)).toNat = k % (roundR g.es g.cyc).length := by rw [← Int.natCast_emod]; exact Int.toNat_natCast _
            have hmb : 0 ≤ (k : Int) % ((roundR g.es g.cyc).length : Int) ∧ (k : Int) % ((roundR g.es g.cyc).length : Int) < ((roundR g.es g.cyc).length : Int) := by rw [← Int.natCast_emod]; omega
            refine t_skip ?_
            refine k_then ?_
            refine t_seq ?_
            refine t_block ?_
            refine t_seq ?_
            refine b0 ?_
            refine o1 rfl (det_move rfl) rfl rfl trivial ?_
            refine o1 rfl (det_move rfl) rfl rfl trivial ?_
            refine o1 rfl (det_move rfl) rfl rfl trivial ?_
            refine o1 rfl (det_lenS sl119 rfl) rfl rfl trivial ?_
            first | (refine o1 rfl (det_remP rfl rfl ?_) rfl rfl trivial ?_; (· omega)) | (refine o1 rfl (det_rem rfl rfl ?_) rfl rfl trivial ?_; (· (first | decide | omega)))
            skip
            first | (refine o1 rfl (det_indexAddr sl119 rfl rfl ?_) rfl rfl trivial ?_; (· (first | decide | omega)))
            refine o1 rfl (det_loadKN tN122 rfl (o2_len _) (cellsR hR hmod hkm)) rfl rfl trivial ?_
            refine om1 rfl (new_alloc z122) rfl rfl trivial (fun p15 => ?_)
            refine stN nofun rfl tN122 rfl rfl rfl .head rfl trivial rfl rfl ?_
            refine be rfl ?_
            refine k_then ?_
            refine t_seq ?_
            refine bD mixed ?_
            refine r_seg 21 21 [] [0, 1, 2, 3, 4, 5, 6, 7, 8, 9, 10, 11, 12, 13, 14, 15, 16, 17, 18, 19, 20] (by kernel_rfl) ?_
            refine s1 rfl (det_fieldAddr fld122_0 rfl) rfl rfl trivial rfl ?_
            refine s1 rfl (det_load1 t1_3 rfl rfl (.head _) rfl) rfl rfl trivial rfl ?_
            refine s1 rfl (det_fieldAddr fld122_1 rfl) rfl rfl trivial rfl ?_
            refine s1 rfl (det_load1 t1_3 rfl rfl (.head _) rfl) rfl rfl trivial rfl ?_
            refine s1 rfl (det_fieldAddr fld122_0 rfl) rfl rfl trivial rfl ?_
            refine s1 rfl (det_load1 t1_3 rfl rfl (.head _) rfl) rfl rfl trivial rfl ?_
            first | (refine s1 rfl (det_subI rfl rfl ?_) rfl rfl trivial rfl ?_; (· omega)) | refine s1 rfl (det_sub rfl rfl) rfl rfl trivial rfl ?_
            refine s1 rfl (det_move rfl) rfl rfl trivial rfl ?_
            refine s1 rfl (det_move rfl) rfl rfl trivial rfl ?_
            first | (refine s1 rfl (det_mulI rfl rfl ?_) rfl rfl trivial rfl ?_; (· omega)) | refine s1 rfl (det_mul rfl rfl) rfl rfl trivial rfl ?_
            refine s1 rfl (det_min2 rfl rfl) rfl rfl trivial rfl ?_
            first | (refine s1 rfl (det_addI rfl rfl ?_) rfl rfl trivial rfl ?_; (· omega)) | refine s1 rfl (det_add rfl rfl) rfl rfl trivial rfl ?_
            refine s1 rfl (det_move rfl) rfl rfl trivial rfl ?_
            refine s1 rfl (det_move rfl) rfl rfl trivial rfl ?_
            refine s1 rfl (det_lenS sl119 rfl) rfl rfl trivial rfl ?_
            first | (refine s1 rfl (det_quoP rfl rfl ?_ ?_) rfl rfl trivial rfl ?_; (· omega); (· omega)) | (refine s1 rfl (det_quoI rfl rfl ?_ ?_) rfl rfl trivial rfl ?_; (· (first | decide | omega)); (· omega)) | (refine s1 rfl (det_quo rfl rfl ?_) rfl rfl trivial rfl ?_; (· (first | decide | omega)))
            refine s1 rfl (det_fieldAddr fld30_1 rfl) rfl rfl trivial rfl ?_
            refine s1 rfl (det_load1 t1_3 rfl rfl (.tail _ (.tail _ (.head _))) rfl) rfl rfl trivial rfl ?_
            have hkd : (k : Int) / ((roundR g.es g.cyc).length : Int) = 0 ∨ (k : Int) / ((roundR g.es g.cyc).length : Int) = 1 := by rw [← Int.natCast_ediv]; have := kdiv hkl; omega
            have hkc : 0 ≤ (k : Int) / ((roundR g.es g.cyc).length : Int) * g.cyc ∧ (k : Int) / ((roundR g.es g.cyc).length : Int) * g.cyc ≤ 9600000 := by rcases hkd with h | h <;> rw [h] <;> omega
            first | (refine s1 rfl (det_mulI rfl rfl ?_) rfl rfl trivial rfl ?_; (· omega)) | refine s1 rfl (det_mul rfl rfl) rfl rfl trivial rfl ?_
            first | (refine s1 rfl (det_addI rfl rfl ?_) rfl rfl trivial rfl ?_; (· omega)) | refine s1 rfl (det_add rfl rfl) rfl rfl trivial rfl ?_
            refine s1 rfl (det_assign rfl) rfl rfl trivial rfl ?_
            refine sg_nil ?_
            refine be rfl ?_
            refine k_then ?_
            refine t_seq ?_
            refine b0 ?_
            rw [show (atR (roundR g.es g.cyc) (k % (roundR g.es g.cyc).length)).1 + min ((atR (roundR g.es g.cyc) (k % (roundR g.es g.cyc).length)).2 - (atR (roundR g.es g.cyc) (k % (roundR g.es g.cyc).length)).1) (most * per) + (k : Int) / ((roundR g.es g.cyc).length : Int) * g.cyc = toR (roundR g.es g.cyc) (most * per) g.cyc k from by unfold toR; rw [Int.natCast_ediv]]
            refine o1 rfl (det_move rfl) rfl rfl trivial ?_
            refine o1 rfl (det_move rfl) rfl rfl trivial ?_
            refine o1 rfl (det_gtr rfl rfl) rfl rfl trivial ?_
            refine be rfl ?_
            refine k_then ?_
            refine t_condP decide_eq_true_iff rfl (fun hb => ?_) (fun hb => ?_)
            ·
              have hft : fromR (roundR g.es g.cyc) (most * per) i < toR (roundR g.es g.cyc) (most * per) g.cyc k := hb
              have htr := termR_rng (es := g.es) hri.1 hcy hAb (by omega) hrt.1 hrt.2.1 hi hkl hft
              have hfr := from_rng (lost := most * per) hri.1 (by omega) hi
              have htor := to_rng (lost := most * per) hri.1 (by omega) (by omega) hkl
              have hlr := least_rng (es := g.es) (cyc := g.cyc) (per := per) (most := most) (t := fromR (roundR g.es g.cyc) (most * per) i) (lg := toR (roundR g.es g.cyc) (most * per) g.cyc k - fromR (roundR g.es g.cyc) (most * per) i) hAb (by omega)
              refine b0 ?_
              refine o1 rfl (det_move rfl) rfl rfl trivial ?_
              refine o1 rfl (det_move rfl) rfl rfl trivial ?_
              refine o1 rfl (det_move rfl) rfl rfl trivial ?_
              first | (refine o1 rfl (det_subI rfl rfl ?_) rfl rfl trivial ?_; (· omega)) | refine o1 rfl (det_sub rfl rfl) rfl rfl trivial ?_
              refine o1 rfl (det_move rfl) rfl rfl trivial ?_
              first | (refine o1 rfl (det_mulI rfl rfl ?_) rfl rfl trivial ?_; (· omega)) | refine o1 rfl (det_mul rfl rfl) rfl rfl trivial ?_
              refine o1 rfl (det_move rfl) rfl rfl trivial ?_
              first | (refine o1 rfl (det_mulI rfl rfl ?_) rfl rfl trivial ?_; (· omega)) | refine o1 rfl (det_mul rfl rfl) rfl rfl trivial ?_
              refine o1 rfl (det_loadN tN30 rfl rfl (.tail _ (.tail _ (.head _))) rfl) rfl rfl trivial ?_
              refine o1 rfl (det_move rfl) rfl rfl trivial ?_
              refine o1 rfl (det_move rfl) rfl rfl trivial ?_
              refine o1 rfl (det_move rfl) rfl rfl trivial ?_
              refine o1 rfl (det_move rfl) rfl rfl trivial ?_
              refine o1 rfl (det_move rfl) rfl rfl trivial ?_
              first | (refine o1 rfl (det_subI rfl rfl ?_) rfl rfl trivial ?_; (· omega)) | refine o1 rfl (det_sub rfl rfl) rfl rfl trivial ?_
              refine o1 rfl (det_call hb67 rfl rfl (fun w1 hs => rleast_ok hs.know hE hG hAb (by omega) (by omega))) rfl rfl trivial ?_
              first | (refine o1 rfl (det_mulI rfl rfl ?_) rfl rfl trivial ?_; (· omega)) | refine o1 rfl (det_mul rfl rfl) rfl rfl trivial ?_
              first | (refine o1 rfl (det_subI rfl rfl ?_) rfl rfl trivial ?_; (· omega)) | refine o1 rfl (det_sub rfl rfl) rfl rfl trivial ?_
              refine o1 rfl (det_max2 rfl rfl) rfl rfl trivial ?_
              refine o1 rfl (det_assign rfl) rfl rfl trivial ?_
              refine be rfl ?_
              refine k_blk ?_
              refine k_then ?_
              refine b0 ?_
              refine o1 rfl (det_move rfl) rfl rfl trivial ?_
              first | (refine o1 rfl (det_addI rfl rfl ?_) rfl rfl trivial ?_; (· omega)) | refine o1 rfl (det_add rfl rfl) rfl rfl trivial ?_
              refine o1 rfl (det_assign rfl) rfl rfl trivial ?_
              refine be rfl ?_
              refine k_then ?_
              refine loop_back (k + 1) (by omega) (by omega) ⟨(by rw [show rIn g.es g.cyc per most R (roundR g.es g.cyc) i (rOut g.es g.cyc per most R (roundR g.es g.cyc) i) (k + 1) = max (rIn g.es g.cyc per most R (roundR g.es g.cyc) i (rOut g.es g.cyc per most R (roundR g.es g.cyc) i) k) (termR g.es g.cyc per most R (roundR g.es g.cyc) i k) from if_pos hft]; rfl), rfl, rfl, rfl, rfl, rfl, rfl, rfl, rfl, rfl, rfl, trivial⟩ (.cons _ (.refl _))
            ·
              have hft : ¬ fromR (roundR g.es g.cyc) (most * per) i < toR (roundR g.es g.cyc) (most * per) g.cyc k := hb
              refine t_skip ?_
              refine k_blk ?_
              refine k_then ?_
              refine b0 ?_
              refine o1 rfl (det_move rfl) rfl rfl trivial ?_
              first | (refine o1 rfl (det_addI rfl rfl ?_) rfl rfl trivial ?_; (· omega)) | refine o1 rfl (det_add rfl rfl) rfl rfl trivial ?_
              refine o1 rfl (det_assign rfl) rfl rfl trivial ?_
              refine be rfl ?_
              refine k_then ?_
              refine loop_back (k + 1) (by omega) (by omega) ⟨(by rw [show rIn g.es g.cyc per most R (roundR g.es g.cyc) i (rOut g.es g.cyc per most R (roundR g.es g.cyc) i) (k + 1) = rIn g.es g.cyc per most R (roundR g.es g.cyc) i (rOut g.es g.cyc per most R (roundR g.es g.cyc) i) k from if_neg hft]; rfl), rfl, rfl, rfl, rfl, rfl, rfl, rfl, rfl, rfl, rfl, trivial⟩ (.cons _ (.refl _))
          ·
            have hke : k = 2 * (roundR g.es g.cyc).length := by omega
            refine t_exit ?_
            refine k_thenE ?_
            refine k_thenE ?_
            refine k_blkE ?_
            refine k_blk ?_
            refine k_then ?_
            refine b0 ?_
            refine o1 rfl (det_move rfl) rfl rfl trivial ?_
            first | (refine o1 rfl (det_addI rfl rfl ?_) rfl rfl trivial ?_; (· omega)) | refine o1 rfl (det_add rfl rfl) rfl rfl trivial ?_
            refine o1 rfl (det_assign rfl) rfl rfl trivial ?_
            refine be rfl ?_
            refine k_then ?_
            subst hke
            refine loop_back (i + 1) (by omega) (by omega) ⟨rfl, rfl, rfl, rfl, rfl, rfl, rfl, rfl, rfl, trivial⟩ (.refl _)
        ·
          have hie : i = (roundR g.es g.cyc).length := by omega
          rw [hie] at hwo ⊢
          refine t_exit ?_
          refine k_thenE ?_
          refine k_thenE ?_
          refine k_blkE ?_
          refine k_then ?_
          refine t_seq ?_
          refine b0 ?_
          refine o1 rfl (det_move rfl) rfl rfl trivial ?_
          refine o1 rfl (det_move rfl) rfl rfl trivial ?_
          refine o1 rfl (det_move rfl) rfl rfl trivial ?_
          refine o1 rfl (det_move rfl) rfl rfl trivial ?_
          first | (refine o1 rfl (det_mulI rfl rfl ?_) rfl rfl trivial ?_; (· omega)) | refine o1 rfl (det_mul rfl rfl) rfl rfl trivial ?_
          first | (refine o1 rfl (det_addI rfl rfl ?_) rfl rfl trivial ?_; (· omega)) | refine o1 rfl (det_add rfl rfl) rfl rfl trivial ?_
          first | (refine o1 rfl (det_subI rfl rfl ?_) rfl rfl trivial ?_; (· omega)) | refine o1 rfl (det_sub rfl rfl) rfl rfl trivial ?_
          refine o1 rfl (det_move rfl) rfl rfl trivial ?_
          refine o1 rfl (det_move rfl) rfl rfl trivial ?_
          first | (refine o1 rfl (det_mulI rfl rfl ?_) rfl rfl trivial ?_; (· omega)) | refine o1 rfl (det_mul rfl rfl) rfl rfl trivial ?_
          first | (refine o1 rfl (det_quoP rfl rfl ?_ ?_) rfl rfl trivial ?_; (· omega); (· omega)) | (refine o1 rfl (det_quoI rfl rfl ?_ ?_) rfl rfl trivial ?_; (· (first | decide | omega)); (· omega)) | (refine o1 rfl (det_quo rfl rfl ?_) rfl rfl trivial ?_; (· (first | decide | omega)))
          refine o1 rfl (det_build rfl (fun w => bld75_0_1 _ _ w)) rfl rfl trivial ?_
          refine stN nofun rfl tN75 rfl rfl rfl .head rfl trivial rfl rfl ?_
          refine o1 rfl (det_assign rfl) rfl rfl trivial ?_
          refine be rfl ?_
          refine k_then ?_
          refine t_ret ?_
          refine ret_any (vs := [_, _]) rfl rfl ⟨(.cellN tN75 rfl rfl (.head _) rfl), (.tmp rfl), trivial⟩ rfl (fun w1 hs => ?_)
          refine ⟨?_, hs.keep⟩
          have hwv : worstR g.es g.cyc per most R = rOut g.es g.cyc per most R (roundR g.es g.cyc) (roundR g.es g.cyc).length := by unfold worstR; rw [hal]; rfl
          unfold rofS
          rw [if_pos he, hRR, if_neg (by omega), hwv]
          rfl
      ·
        have hal : alwE g.es = true := by simpa using hb
        refine t_skip ?_
        refine k_then ?_
        refine t_seq ?_
        refine b0 ?_
        refine o1 rfl (det_move rfl) rfl rfl trivial ?_
        refine o1 rfl (det_move rfl) rfl rfl trivial ?_
        refine o1 rfl (det_move rfl) rfl rfl trivial ?_
        refine o1 rfl (det_move rfl) rfl rfl trivial ?_
        first | (refine o1 rfl (det_mulI rfl rfl ?_) rfl rfl trivial ?_; (· omega)) | refine o1 rfl (det_mul rfl rfl) rfl rfl trivial ?_
        first | (refine o1 rfl (det_addI rfl rfl ?_) rfl rfl trivial ?_; (· omega)) | refine o1 rfl (det_add rfl rfl) rfl rfl trivial ?_
        first | (refine o1 rfl (det_subI rfl rfl ?_) rfl rfl trivial ?_; (· omega)) | refine o1 rfl (det_sub rfl rfl) rfl rfl trivial ?_
        refine o1 rfl (det_move rfl) rfl rfl trivial ?_
        refine o1 rfl (det_move rfl) rfl rfl trivial ?_
        first | (refine o1 rfl (det_mulI rfl rfl ?_) rfl rfl trivial ?_; (· omega)) | refine o1 rfl (det_mul rfl rfl) rfl rfl trivial ?_
        first | (refine o1 rfl (det_quoP rfl rfl ?_ ?_) rfl rfl trivial ?_; (· omega); (· omega)) | (refine o1 rfl (det_quoI rfl rfl ?_ ?_) rfl rfl trivial ?_; (· (first | decide | omega)); (· omega)) | (refine o1 rfl (det_quo rfl rfl ?_) rfl rfl trivial ?_; (· (first | decide | omega)))
        refine o1 rfl (det_build rfl (fun w => bld75_0_1 _ _ w)) rfl rfl trivial ?_
        refine stN nofun rfl tN75 rfl rfl rfl .head rfl trivial rfl rfl ?_
        refine o1 rfl (det_assign rfl) rfl rfl trivial ?_
        refine be rfl ?_
        refine k_then ?_
        refine t_ret ?_
        refine ret_any (vs := [_, _]) rfl rfl ⟨(.cellN tN75 rfl rfl (.head _) rfl), (.tmp rfl), trivial⟩ rfl (fun w1 hs => ?_)
        refine ⟨?_, hs.keep⟩
        have hwv : worstR g.es g.cyc per most R = 127 * per * 1048576 := by unfold worstR; rw [hal]; rfl
        unfold rofS
        rw [if_pos he, hRR, if_neg (by omega), hwv]
        rfl

end Go.Proofs.Sw
