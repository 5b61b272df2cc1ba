/-
  Walks through layers 36, 37 and 38 and their references.
-/
import Derived.Test.YtffocfffggfenaaCpW5
namespace Go.Proofs.Cp
open Go Go.Eng Go.Gt Go.Proofs.Gt
set_option maxRecDepth 4000

/-- Span. -/
theorem span_ok {w : World} {F : Know} (hF : ∀ a v, F a = some v → w.cell? a = some v) {A : Option Addr} {n cap : Nat} {es : Ents} {cyc : Int} (hE : EntK F A n es) (hG : okG es cyc = true) (cl : Int) (hcl : 0 ≤ cl ∧ cl ≤ 7) (t : Int) (_ht : -1099511627776 * 4 ≤ t ∧ t ≤ 1099511627776 * 4) : Pure Try.prog 111 [.agg [.slice A n cap, .int .i64 cyc].toArray, .int .i64 cl, .int .i64 t] w (.int .i64 (spanE es cyc cl t)) := by
  obtain ⟨hl1, hl2, hall0, hsum, hc9, hc1⟩ := okG_parts hG
  replace hc1 : 0 < cyc := by omega

  refine fn_pure (F := F) Try.func111 rfl Try.ntmps111 rfl hF ?_
  refine t_seq ?_
  refine b0 ?_
  refine om1 rfl (new_boxN rfl) rfl rfl trivial (fun p3 => ?_)
  refine o1 rfl (det_assign rfl) rfl rfl trivial ?_
  refine be rfl ?_
  refine k_then ?_
  refine t_seq ?_
  refine b0 ?_
  refine o1 rfl (det_loadN tN24 rfl rfl (.head _) rfl) rfl rfl trivial ?_
  refine o1 rfl (det_move rfl) rfl rfl trivial ?_
  refine o1 rfl (det_call hb113 rfl rfl (fun w1 hs => at_ok hs.know hE hG t)) rfl rfl trivial ?_
  refine o1 rfl (det_move rfl) rfl rfl trivial ?_
  refine o1 rfl (det_extract rfl rfl) rfl rfl trivial ?_
  refine o1 rfl (det_extract rfl rfl) rfl rfl trivial ?_
  refine o1 rfl (det_assign rfl) rfl rfl trivial ?_
  refine o1 rfl (det_assign rfl) rfl rfl trivial ?_
  refine be rfl ?_
  refine k_then ?_
  refine t_seq ?_
  refine b0 ?_
  have hyb := loc_bounds hG t
  refine o1 rfl (det_move rfl) rfl rfl trivial ?_
  first | (refine o1 rfl (det_negI rfl ?_) rfl rfl trivial ?_; (· omega)) | refine o1 rfl (det_neg rfl) rfl rfl trivial ?_
  refine o1 rfl (det_assign rfl) rfl rfl trivial ?_
  refine be rfl ?_
  refine k_then ?_
  refine t_seq ?_
  refine t_seq ?_
  refine b0 ?_
  refine o1 rfl (det_assign rfl) rfl rfl trivial ?_
  refine be rfl ?_
  refine k_then ?_
  refine t_block ?_
  refine t_whileM (σ := Nat) (fun s => [(9, .int .i64 (rs es (loc es cyc t).1 s - (loc es cyc t).2)), (10, .int .i64 (s : Int))]) (fun _ => _) (fun s => es.length - s) (fun s => s ≤ es.length ∧ ∀ j, j < s → bitE (ent es (loc es cyc t).1 j).1 cl = true) 0 (env0 := [(1, _), (3, _), (7, _)]) ⟨Nat.zero_le _, fun j hj => absurd hj (Nat.not_lt_zero _)⟩ ⟨(by simp only [rs, Int.zero_sub]; rfl), rfl, trivial⟩ ⟨rfl, rfl, rfl, trivial⟩ (.refl _) ?_
  rintro s ⟨hk, hall⟩
  refine t_seq ?_
  refine t_seq ?_
  refine b0 ?_
  refine o1 rfl (det_move rfl) rfl rfl trivial ?_
  refine o1 rfl (det_fieldAddr fld24_0 rfl) rfl rfl trivial ?_
  refine o1 rfl (det_load1 t1_22 rfl rfl (.head _) rfl) rfl rfl trivial ?_
  refine o1 rfl (det_lenS sl22 rfl) rfl rfl trivial ?_
  refine o1 rfl (det_lss rfl rfl) rfl rfl trivial ?_
  refine be rfl ?_
  refine k_then ?_
  refine t_condP decide_eq_true_iff rfl (fun hb => ?_) (fun hb => ?_)
  ·
    have hlt : s < es.length := by have := hE.len; omega
    have hnl := hE.len
    obtain ⟨hlo, hy0, hy1, _⟩ := loc_spec hG t
    obtain ⟨A, rfl⟩ := hE.some hlo
    have hmlt := Nat.mod_lt ((loc es cyc t).1 + s) hl1
    have hmod : (((loc es cyc t).1 : Int) + (s : Int)) % (n : Int) = (((((loc es cyc t).1 + s) % es.length : Nat)) : Int) := by rw [hnl, ← Int.natCast_add, ← Int.natCast_emod]
    have hcell : ∀ j, j < 2 → F ((A.add (((((loc es cyc t).1 : Int) + (s : Int)) % (n : Int)).toNat * 2)).add j) = [Value.int .i64 (ent es (loc es cyc t).1 s).1, .int .i64 (ent es (loc es cyc t).1 s).2][j]? := by
      rw [hmod, ent_get _ _ hl1]; exact hE.cells hmlt
    have hrs := rs_bounds hall0 hl1 (loc es cyc t).1 s
    have hen := ent_ok hall0 hl1 (loc es cyc t).1 s
    have hyb := loc_bounds hG t
    have hbg : beg es cyc t s = t - (loc es cyc t).2 + rs es (loc es cyc t).1 s := rfl
    refine t_skip ?_
    refine k_then ?_
    refine t_seq ?_
    refine t_block ?_
    refine t_seq ?_
    refine bD mixed ?_
    refine r_seg 13 12 [11] [0, 1, 2, 3, 4, 5, 6, 7, 8, 9, 10, 11] (by kernel_rfl) ?_
    refine s1 rfl (det_fieldAddr fld24_0 rfl) rfl rfl trivial rfl ?_
    refine s1 rfl (det_load1 t1_22 rfl rfl (.head _) rfl) rfl rfl trivial rfl ?_
    refine s1 rfl (det_move rfl) rfl rfl trivial rfl ?_
    refine s1 rfl (det_move rfl) rfl rfl trivial rfl ?_
    first | (refine s1 rfl (det_addI rfl rfl ?_) rfl rfl trivial rfl ?_; (· omega)) | refine s1 rfl (det_add rfl rfl) rfl rfl trivial rfl ?_
    refine s1 rfl (det_fieldAddr fld24_0 rfl) rfl rfl trivial rfl ?_
    refine s1 rfl (det_load1 t1_22 rfl rfl (.head _) rfl) rfl rfl trivial rfl ?_
    refine s1 rfl (det_lenS sl22 rfl) rfl rfl trivial rfl ?_
    first | (refine s1 rfl (det_remP rfl rfl ?_) rfl rfl trivial rfl ?_; (· omega)) | (refine s1 rfl (det_rem rfl rfl ?_) rfl rfl trivial rfl ?_; (· (first | decide | omega)))
    first | (refine s1 rfl (det_indexAddr sl22 rfl rfl ?_) rfl rfl trivial rfl ?_; (· (first | decide | omega)))
    refine s1 rfl (det_loadKN tN59 rfl rfl hcell) rfl rfl trivial rfl ?_
    refine sm1 rfl (new_alloc z59) rfl rfl trivial rfl (fun p11 => ?_)
    refine sg_nil ?_
    refine stN (fun _ => by kernel_rfl) rfl tN59 rfl rfl rfl .head rfl trivial rfl rfl ?_
    refine be rfl ?_
    refine k_then ?_
    refine t_seq ?_
    refine t_seq ?_
    refine b0 ?_
    refine o1 rfl (det_fieldAddr fld59_0 rfl) rfl rfl trivial ?_
    refine o1 rfl (det_load1 t1_3 rfl rfl (.head _) rfl) rfl rfl trivial ?_
    refine o1 rfl (det_move rfl) rfl rfl trivial ?_
    refine o1 rfl (det_call hb119 rfl rfl (fun w1 hs => bit_ok hs.know _ _ hcl)) rfl rfl trivial ?_
    refine o1 rfl (det_not rfl) rfl rfl trivial ?_
    refine be rfl ?_
    refine k_then ?_
    refine t_condP not_iff_false rfl (fun hb => ?_) (fun hb => ?_)
    ·
      have hbit : bitE (ent es (loc es cyc t).1 s).1 cl = false := by rw [bitE_tmod ⟨hen.1, hen.2.1⟩ hcl] at hb; exact hb
      refine t_seq ?_
      refine b0 ?_
      refine o1 rfl (det_move rfl) rfl rfl trivial ?_
      refine o1 rfl (det_max2 rfl rfl) rfl rfl trivial ?_
      refine o1 rfl (det_assign rfl) rfl rfl trivial ?_
      refine be rfl ?_
      refine k_then ?_
      refine t_ret (k_thenR (k_blkR (k_thenR (k_thenR (k_blkR (k_thenR (?_)))))))
      refine ret_tmp rfl rfl rfl (fun w1 hs => ?_)
      exact ⟨by rw [spanE_at hlt hall hbit, span_max hG], hs.keep⟩
    ·
      have hbit : bitE (ent es (loc es cyc t).1 s).1 cl = true := by rw [bitE_tmod ⟨hen.1, hen.2.1⟩ hcl] at hb; simpa using hb
      refine t_skip ?_
      refine k_then ?_
      refine b0 ?_
      refine o1 rfl (det_move rfl) rfl rfl trivial ?_
      refine o1 rfl (det_fieldAddr fld59_1 rfl) rfl rfl trivial ?_
      refine o1 rfl (det_load1 t1_3 rfl rfl (.head _) rfl) rfl rfl trivial ?_
      first | (refine o1 rfl (det_addI rfl rfl ?_) rfl rfl trivial ?_; (· omega)) | refine o1 rfl (det_add rfl rfl) rfl rfl trivial ?_
      refine o1 rfl (det_assign rfl) rfl rfl trivial ?_
      refine be rfl ?_
      refine k_blk ?_
      refine k_then ?_
      refine b0 ?_
      refine o1 rfl (det_move rfl) rfl rfl trivial ?_
      first | (refine o1 rfl (det_addI rfl rfl ?_) rfl rfl trivial ?_; (· omega)) | refine o1 rfl (det_add rfl rfl) rfl rfl trivial ?_
      refine o1 rfl (det_assign rfl) rfl rfl trivial ?_
      refine be rfl ?_
      refine k_then ?_
      refine loop_back (s + 1) ⟨by omega, fun j hj => if e : j = s then by rw [e]; exact hbit else hall j (by omega)⟩ (by omega) ⟨(by rw [show rs es (loc es cyc t).1 (s + 1) - (loc es cyc t).2 = rs es (loc es cyc t).1 s - (loc es cyc t).2 + (ent es (loc es cyc t).1 s).2 from by simp only [rs]; omega]; rfl), rfl, rfl, rfl, rfl, trivial⟩ (.cons _ (.refl _))
  ·
    refine t_exit ?_
    refine k_thenE ?_
    refine k_thenE ?_
    refine k_blkE ?_
    refine k_then ?_
    refine t_seq ?_
    refine b0 ?_
    refine o1 rfl (det_assign rfl) rfl rfl trivial ?_
    refine be rfl ?_
    refine k_then ?_
    refine t_ret ?_
    refine ret_tmp rfl rfl rfl (fun w1 hs => ?_)
    exact ⟨by rw [spanE_all fun j hj => hall j (by have := hE.len; omega)], hs.keep⟩

/-- gates.Fits. -/
theorem Fits_ok {w : World} {F : Know} (hF : ∀ a v, F a = some v → w.cell? a = some v) {A : Option Addr} {n cap : Nat} {es : Ents} {cyc : Int} (hE : EntK F A n es) (cl : Int) (hcb : -9223372036854775808 ≤ cl ∧ cl ≤ 9223372036854775807) (t lg : Int) : Pure Try.prog 47 [.agg [.slice A n cap, .int .i64 cyc].toArray, .int .i64 cl, .int .i64 t, .int .i64 lg] w (.tuple [.bool (fitsA es cyc cl t lg).1, .int .i64 (fitsA es cyc cl t lg).2].toArray) := by
  refine fn_pure (F := F) Try.func47 rfl Try.ntmps47 rfl hF ?_
  refine t_seq ?_
  refine b0 ?_
  refine om1 rfl (new_boxN rfl) rfl rfl trivial (fun p4 => ?_)
  refine o1 rfl (det_assign rfl) rfl rfl trivial ?_
  refine o1 rfl (det_assign rfl) rfl rfl trivial ?_
  refine be rfl ?_
  refine k_then ?_
  refine t_seq ?_
  refine t_seq ?_
  refine b0 ?_
  refine o1 rfl (det_loadN tN24 rfl rfl (.head _) rfl) rfl rfl trivial ?_
  refine o1 rfl (det_move rfl) rfl rfl trivial ?_
  refine o1 rfl (det_move rfl) rfl rfl trivial ?_
  refine o1 rfl (det_move rfl) rfl rfl trivial ?_
  refine o1 rfl (det_call hb84 rfl rfl (fun w1 hs => valid_ok hs.know hE cl t lg hcb)) rfl rfl trivial ?_
  refine o1 rfl (det_assign rfl) rfl rfl trivial ?_
  refine be rfl ?_
  refine k_then ?_
  refine t_seq ?_
  refine b0 ?_
  refine o1 rfl (det_move rfl) rfl rfl trivial ?_
  refine o1 rfl (det_neq rfl rfl) rfl rfl trivial ?_
  refine be rfl ?_
  refine k_then ?_
  refine t_condP bne_iff_ne rfl (fun hb => ?_) (fun hb => ?_)
  ·
    refine t_seq ?_
    refine b0 ?_
    refine o1 rfl (det_move rfl) rfl rfl trivial ?_
    refine o1 rfl (det_assign rfl) rfl rfl trivial ?_
    refine o1 rfl (det_assign rfl) rfl rfl trivial ?_
    refine be rfl ?_
    refine k_then ?_
    refine t_ret (k_thenR (?_))
    refine ret_tmp2 rfl rfl rfl rfl (fun w1 hs => ?_)
    exact ⟨by rw [fitsA, if_neg hb], hs.keep⟩
  ·
    have he0 : errG es cyc cl t lg = 0 := by omega
    obtain ⟨hG, hT⟩ := errG_zero he0
    have ht : -1099511627776 * 4 ≤ t ∧ t ≤ 1099511627776 * 4 := by omega
    obtain ⟨hl1, hl2, hall0, hsum, hc9, hc1⟩ := okG_parts hG
    replace hc1 : 0 < cyc := by omega
    refine t_skip ?_
    refine k_then ?_
    refine t_seq ?_
    refine b0 ?_
    refine o1 rfl (det_loadN tN24 rfl rfl (.head _) rfl) rfl rfl trivial ?_
    refine o1 rfl (det_move rfl) rfl rfl trivial ?_
    refine o1 rfl (det_move rfl) rfl rfl trivial ?_
    refine o1 rfl (det_call hb85 rfl rfl (fun w1 hs => open_ok hs.know hE hG cl ⟨hT.1, hT.2.1⟩ t ht)) rfl rfl trivial ?_
    refine o1 rfl (det_move rfl) rfl rfl trivial ?_
    refine o1 rfl (det_geq rfl rfl) rfl rfl trivial ?_
    refine o1 rfl (det_assign rfl) rfl rfl trivial ?_
    refine o1 rfl (det_assign rfl) rfl rfl trivial ?_
    refine be rfl ?_
    refine k_then ?_
    refine t_ret ?_
    refine ret_tmp2 rfl rfl rfl rfl (fun w1 hs => ?_)
    exact ⟨by rw [fitsA, if_pos he0], hs.keep⟩

/-- The reference's Fits. -/
theorem rFits_ok {w : World} {F : Know} (hF : ∀ a v, F a = some v → w.cell? a = some v) {A : Option Addr} {n cap : Nat} {es : Ents} {cyc : Int} (hE : EntK F A n es) (cl : Int) (hcb : -9223372036854775808 ≤ cl ∧ cl ≤ 9223372036854775807) (t lg : Int) : Pure Try.prog 91 [.agg [.slice A n cap, .int .i64 cyc].toArray, .int .i64 cl, .int .i64 t, .int .i64 lg] w (.tuple [.bool (fitsA es cyc cl t lg).1, .int .i64 (fitsA es cyc cl t lg).2].toArray) := by
  refine fn_pure (F := F) Try.func91 rfl Try.ntmps91 rfl hF ?_
  refine t_seq ?_
  refine b0 ?_
  refine om1 rfl (new_boxN rfl) rfl rfl trivial (fun p4 => ?_)
  refine o1 rfl (det_assign rfl) rfl rfl trivial ?_
  refine o1 rfl (det_assign rfl) rfl rfl trivial ?_
  refine be rfl ?_
  refine k_then ?_
  refine t_seq ?_
  refine b0 ?_
  refine o1 rfl (det_loadN tN24 rfl rfl (.head _) rfl) rfl rfl trivial ?_
  refine o1 rfl (det_move rfl) rfl rfl trivial ?_
  refine o1 rfl (det_move rfl) rfl rfl trivial ?_
  refine o1 rfl (det_move rfl) rfl rfl trivial ?_
  refine o1 rfl (det_call hb94 rfl rfl (fun w1 hs => times_ok hs.know hE cl t lg hcb)) rfl rfl trivial ?_
  refine o1 rfl (det_assign rfl) rfl rfl trivial ?_
  refine be rfl ?_
  refine k_then ?_
  refine t_seq ?_
  refine t_seq ?_
  refine b0 ?_
  refine o1 rfl (det_move rfl) rfl rfl trivial ?_
  refine o1 rfl (det_neq rfl rfl) rfl rfl trivial ?_
  refine be rfl ?_
  refine k_then ?_
  refine t_condP bne_iff_ne rfl (fun hb => ?_) (fun hb => ?_)
  ·
    refine t_seq ?_
    refine b0 ?_
    refine o1 rfl (det_move rfl) rfl rfl trivial ?_
    refine o1 rfl (det_assign rfl) rfl rfl trivial ?_
    refine o1 rfl (det_assign rfl) rfl rfl trivial ?_
    refine be rfl ?_
    refine k_then ?_
    refine t_ret (k_thenR (?_))
    refine ret_tmp2 rfl rfl rfl rfl (fun w1 hs => ?_)
    exact ⟨by rw [fitsA, if_neg hb], hs.keep⟩
  ·
    have he0 : errG es cyc cl t lg = 0 := by omega
    obtain ⟨hG, hT⟩ := errG_zero he0
    have ht : -1099511627776 * 4 ≤ t ∧ t ≤ 1099511627776 * 4 := by omega
    obtain ⟨hl1, hl2, hall0, hsum, hc9, hc1⟩ := okG_parts hG
    replace hc1 : 0 < cyc := by omega
    refine t_skip ?_
    refine k_then ?_
    refine t_seq ?_
    refine b0 ?_
    refine o1 rfl (det_move rfl) rfl rfl trivial ?_
    refine o1 rfl (det_eql rfl rfl) rfl rfl trivial ?_
    refine o2P beq_iff_eq rfl (det_move rfl) rfl rfl trivial (fun hb => ?_) (fun hb => ?_)
    ·
      refine on rfl rfl rfl ⟨_, rfl, .inl rfl⟩ ?_
      refine on rfl rfl rfl ⟨_, rfl, .inl rfl⟩ ?_
      refine on rfl rfl rfl ⟨_, rfl, .inl rfl⟩ ?_
      refine on rfl rfl rfl ⟨_, rfl, .inl rfl⟩ ?_
      refine on rfl rfl rfl ⟨_, rfl, .inl rfl⟩ ?_
      refine on rfl rfl rfl ⟨_, rfl, .inl rfl⟩ ?_
      refine o1 rfl (det_pickT rfl rfl) rfl rfl trivial ?_
      refine o1 rfl (det_assign rfl) rfl rfl trivial ?_
      refine o1 rfl (det_assign rfl) rfl rfl trivial ?_
      refine be rfl ?_
      refine k_then ?_
      refine t_ret ?_
      refine ret_tmp2 rfl rfl rfl rfl (fun w1 hs => ?_)
      exact ⟨by rw [fitsA, if_pos he0, show decide (lg ≤ spanE es cyc cl t) = true from decide_eq_true (by have := spanE_bounds hG cl t; omega)], hs.keep⟩
    ·
      refine o1 rfl (det_loadN tN24 rfl rfl (.head _) rfl) rfl rfl ⟨_, rfl, rfl⟩ ?_
      refine o1 rfl (det_move rfl) rfl rfl ⟨_, rfl, rfl⟩ ?_
      refine o1 rfl (det_move rfl) rfl rfl ⟨_, rfl, rfl⟩ ?_
      refine o1 rfl (det_call hb111 rfl rfl (fun w1 hs => span_ok hs.know hE hG cl ⟨hT.1, hT.2.1⟩ t ht)) rfl rfl ⟨_, rfl, rfl⟩ ?_
      refine o1 rfl (det_move rfl) rfl rfl ⟨_, rfl, rfl⟩ ?_
      refine o1 rfl (det_geq rfl rfl) rfl rfl ⟨_, rfl, rfl⟩ ?_
      refine o1 rfl (det_pickF rfl rfl) rfl rfl trivial ?_
      refine o1 rfl (det_assign rfl) rfl rfl trivial ?_
      refine o1 rfl (det_assign rfl) rfl rfl trivial ?_
      refine be rfl ?_
      refine k_then ?_
      refine t_ret ?_
      refine ret_tmp2 rfl rfl rfl rfl (fun w1 hs => ?_)
      exact ⟨by rw [fitsA, if_pos he0], hs.keep⟩

end Go.Proofs.Cp
