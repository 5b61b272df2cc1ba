/-
  Walks through layer 2 and its reference.
-/
import Derived.Test.YtgogfnkdemkdfaaRtW6
namespace Go.Proofs.Rt
open Go Go.Eng Go.Rt
set_option maxRecDepth 4000

/-- within. -/
theorem within_ok {w : World} {F : Know} (hF : ∀ a v, F a = some v → w.cell? a = some v) {A : Option Addr} {n cap : Nat} {xs : List Int} (hX : IntsK F .i64 A n xs) (hlen : xs.length ≤ 4) (hbd : ∀ (i : Nat) (h : i < xs.length), -1125899906842624 ≤ xs[i] ∧ xs[i] ≤ 1125899906842624) : Pure Try.prog 52 [.slice A n cap] w (.bool true) := by
  refine fn_pure (F := F) Try.func52 rfl Try.ntmps52 rfl hF ?_
  refine t_seq ?_
  refine b0 ?_
  refine o1 rfl (det_assign rfl) rfl rfl trivial ?_
  refine be rfl ?_
  refine k_then ?_
  refine t_seq ?_
  refine t_seq ?_
  refine b0 ?_
  refine o1 rfl (det_move rfl) rfl rfl trivial ?_
  refine o1 rfl (det_lenS sl64 rfl) rfl rfl trivial ?_
  refine o1 rfl (det_move rfl) rfl rfl trivial ?_
  refine be rfl ?_
  refine k_then ?_
  refine t_block ?_
  refine t_whileM (σ := Nat) (fun s => [(7, .int .i64 (s : Int))]) (fun _ => _) (fun s => xs.length - s) (fun s => s ≤ xs.length) 0 (env0 := [(5, _), (6, _)]) (Nat.zero_le _) ⟨rfl, trivial⟩ ⟨rfl, rfl, trivial⟩ (.refl _) ?_
  intro s hk
  refine t_seq ?_
  refine b0 ?_
  refine o1 rfl (det_lss rfl rfl) rfl rfl trivial ?_
  refine be rfl ?_
  refine k_then ?_
  refine t_seq ?_
  refine t_condP decide_eq_true_iff rfl (fun hb => ?_) (fun hb => ?_)
  ·
    have hnl := hX.len
    have hlt : s < xs.length := by omega
    obtain ⟨A, rfl⟩ := hX.some hlt
    have hb50 := hbd ((s : Int)).toNat (by omega)
    refine t_skip ?_
    refine k_then ?_
    refine t_seq ?_
    refine t_block ?_
    refine t_seq ?_
    refine b0 ?_
    first | (refine o1 rfl (det_indexAddr sl64 rfl rfl ?_) rfl rfl trivial ?_; (· (first | decide | omega)))
    refine o1 rfl (det_loadK t1_3 rfl (hX.cell (by omega) (by omega))) rfl rfl trivial ?_
    refine o1 rfl (det_assign rfl) rfl rfl trivial ?_
    refine be rfl ?_
    refine k_then ?_
    refine t_seq ?_
    refine b0 ?_
    refine o1 rfl (det_move rfl) rfl rfl trivial ?_
    refine o1 rfl (det_lss rfl rfl) rfl rfl trivial ?_
    refine o2P decide_eq_true_iff rfl (det_move rfl) rfl rfl trivial (fun hb => ?_) (fun hb => ?_)
    · exfalso; omega
    refine o1 rfl (det_move rfl) rfl rfl ⟨_, rfl, rfl⟩ ?_
    refine o1 rfl (det_gtr rfl rfl) rfl rfl ⟨_, rfl, rfl⟩ ?_
    refine o1 rfl (det_pickF rfl rfl) rfl rfl trivial ?_
    refine be rfl ?_
    refine k_then ?_
    refine t_condP decide_eq_true_iff rfl (fun hb => ?_) (fun hb => ?_)
    · exfalso; omega
    refine t_skip ?_
    refine k_blk ?_
    refine k_then ?_
    refine b0 ?_
    first | (refine o1 rfl (det_addI rfl rfl ?_) rfl rfl trivial ?_; (· omega)) | refine o1 rfl (det_add rfl rfl) rfl rfl trivial ?_
    refine o1 rfl (det_move rfl) rfl rfl trivial ?_
    refine be rfl ?_
    refine k_then ?_
    refine loop_back (s + 1) (by show s + 1 ≤ _; omega) (by omega) ⟨rfl, rfl, rfl, trivial⟩ (.refl _)
  ·
    refine t_exit ?_
    refine k_thenE ?_
    refine k_thenE ?_
    refine k_blkE ?_
    refine k_then ?_
    refine t_seq ?_
    refine b0 ?_
    refine o1 rfl (det_assign rfl) rfl rfl trivial ?_
    refine be rfl ?_
    refine k_then ?_
    refine t_ret ?_
    refine ret_tmp rfl rfl rfl (fun w1 hs => ?_)
    exact ⟨rfl, hs.keep⟩

/-- FloorDiv. -/
theorem fdiv_ok {w : World} {F : Know} (hF : ∀ a v, F a = some v → w.cell? a = some v) {n d : Int} (hn : (-1125899906842624 ≤ n ∧ n ≤ 1125899906842624)) (hd : 1 ≤ d ∧ d ≤ 1125899906842624) : Pure Try.prog 49 [.int .i64 n, .int .i64 d] w (.tuple [.int .i64 (n / d), .bool true].toArray) := by
  refine fn_pure (F := F) Try.func49 rfl Try.ntmps49 rfl hF ?_
  refine t_seq ?_
  refine b0 ?_
  refine o1 rfl (det_assign rfl) rfl rfl trivial ?_
  refine o1 rfl (det_assign rfl) rfl rfl trivial ?_
  refine be rfl ?_
  refine k_then ?_
  refine t_seq ?_
  refine t_seq ?_
  refine b0 ?_
  refine o1 rfl (det_move rfl) rfl rfl trivial ?_
  refine o1 rfl (det_move rfl) rfl rfl trivial ?_
  refine om1 rfl (new_buildSlice rfl (fun w => bsl64_2_0_1 _ _ w)) rfl rfl trivial (fun p9 => ?_)
  refine tk_freeze (pre := []) rfl (fun F1 hF1 hNF1 hKF1 => ?_)
  have hX : IntsK F1 .i64 (some ⟨p9, 0, none⟩) (List.length ([n, d] : List Int)) ([n, d] : List Int) := intsK_lit (by intro i hi; match i, hi with | 0, _ => (show -9223372036854775808 ≤ n ∧ n ≤ 9223372036854775807; omega) | 1, _ => (show -9223372036854775808 ≤ d ∧ d ≤ 9223372036854775807; omega)) hKF1
  have hbd : ∀ (i : Nat) (h : i < ([n, d] : List Int).length), -1125899906842624 ≤ ([n, d] : List Int)[i] ∧ ([n, d] : List Int)[i] ≤ 1125899906842624 := by intro i hi; match i, hi with | 0, _ => (show -1125899906842624 ≤ n ∧ n ≤ 1125899906842624; omega) | 1, _ => (show -1125899906842624 ≤ d ∧ d ≤ 1125899906842624; omega)
  refine o1 rfl (det_call hb52 rfl rfl (fun w1 hs => within_ok hs.know hX (by simp) hbd)) rfl rfl trivial ?_
  refine o1 rfl (det_not rfl) rfl rfl trivial ?_
  refine o1 rfl (det_move rfl) rfl rfl trivial ?_
  refine o1 rfl (det_move rfl) rfl rfl ⟨_, rfl, rfl⟩ ?_
  refine o1 rfl (det_lss rfl rfl) rfl rfl ⟨_, rfl, rfl⟩ ?_
  refine o1 rfl (det_pickF rfl rfl) rfl rfl trivial ?_
  refine be rfl ?_
  refine k_then ?_
  refine t_condP decide_eq_true_iff rfl (fun hb => ?_) (fun hb => ?_)
  · exfalso; omega
  refine t_skip ?_
  refine k_then ?_
  refine t_seq ?_
  refine b0 ?_
  have hfl := floor_of (n := n) (d := d) (by omega)
  have hqa := tdiv_abs n d
  refine o1 rfl (det_move rfl) rfl rfl trivial ?_
  refine o1 rfl (det_move rfl) rfl rfl trivial ?_
  first | (refine o1 rfl (det_quoP rfl rfl ?_ ?_) rfl rfl trivial ?_; (· omega); (· omega)) | (refine o1 rfl (det_quoI rfl rfl ?_ ?_) rfl rfl trivial ?_; (· (first | decide | omega)); (· omega)) | (refine o1 rfl (det_quo rfl rfl ?_) rfl rfl trivial ?_; (· (first | decide | omega)))
  refine o1 rfl (det_assign rfl) rfl rfl trivial ?_
  refine be rfl ?_
  refine k_then ?_
  refine t_seq ?_
  refine t_seq ?_
  refine b0 ?_
  refine o1 rfl (det_move rfl) rfl rfl trivial ?_
  refine o1 rfl (det_move rfl) rfl rfl trivial ?_
  first | (refine o1 rfl (det_remP rfl rfl ?_) rfl rfl trivial ?_; (· omega)) | (refine o1 rfl (det_rem rfl rfl ?_) rfl rfl trivial ?_; (· (first | decide | omega)))
  refine o1 rfl (det_lss rfl rfl) rfl rfl trivial ?_
  refine be rfl ?_
  refine k_then ?_
  refine t_condP decide_eq_true_iff rfl (fun hb => ?_) (fun hb => ?_)
  ·
    refine b0 ?_
    refine o1 rfl (det_move rfl) rfl rfl trivial ?_
    first | (refine o1 rfl (det_subI rfl rfl ?_) rfl rfl trivial ?_; (· omega)) | refine o1 rfl (det_sub rfl rfl) rfl rfl trivial ?_
    refine o1 rfl (det_assign rfl) rfl rfl trivial ?_
    refine be rfl ?_
    refine k_then ?_
    refine t_seq ?_
    refine b0 ?_
    refine o1 rfl (det_move rfl) rfl rfl trivial ?_
    refine o1 rfl (det_assign rfl) rfl rfl trivial ?_
    refine o1 rfl (det_assign rfl) rfl rfl trivial ?_
    refine be rfl ?_
    refine k_then ?_
    refine t_ret ?_
    refine ret_tmp2 rfl rfl rfl rfl (fun w1 hs => ?_)
    refine ⟨?_, hs.keep⟩
    rw [hfl.1 hb]
  ·
    refine t_skip ?_
    refine k_then ?_
    refine t_seq ?_
    refine b0 ?_
    refine o1 rfl (det_move rfl) rfl rfl trivial ?_
    refine o1 rfl (det_assign rfl) rfl rfl trivial ?_
    refine o1 rfl (det_assign rfl) rfl rfl trivial ?_
    refine be rfl ?_
    refine k_then ?_
    refine t_ret ?_
    refine ret_tmp2 rfl rfl rfl rfl (fun w1 hs => ?_)
    refine ⟨?_, hs.keep⟩
    rw [hfl.2 hb]

/-- CeilDiv. -/
theorem cdiv_ok {w : World} {F : Know} (hF : ∀ a v, F a = some v → w.cell? a = some v) {n d : Int} (hn : (-1125899906842624 ≤ n ∧ n ≤ 1125899906842624)) (hd : 1 ≤ d ∧ d ≤ 1125899906842624) : Pure Try.prog 50 [.int .i64 n, .int .i64 d] w (.tuple [.int .i64 (-((-n) / d)), .bool true].toArray) := by
  refine fn_pure (F := F) Try.func50 rfl Try.ntmps50 rfl hF ?_
  refine t_seq ?_
  refine b0 ?_
  refine o1 rfl (det_assign rfl) rfl rfl trivial ?_
  refine o1 rfl (det_assign rfl) rfl rfl trivial ?_
  refine be rfl ?_
  refine k_then ?_
  refine t_seq ?_
  refine t_seq ?_
  refine b0 ?_
  refine o1 rfl (det_move rfl) rfl rfl trivial ?_
  refine om1 rfl (new_buildSlice rfl (fun w => bsl64_1_0 _ w)) rfl rfl trivial (fun p9 => ?_)
  refine tk_freeze (pre := []) rfl (fun F1 hF1 hNF1 hKF1 => ?_)
  have hX : IntsK F1 .i64 (some ⟨p9, 0, none⟩) (List.length ([n] : List Int)) ([n] : List Int) := intsK_lit (by intro i hi; match i, hi with | 0, _ => (show -9223372036854775808 ≤ n ∧ n ≤ 9223372036854775807; omega)) hKF1
  have hbd : ∀ (i : Nat) (h : i < ([n] : List Int).length), -1125899906842624 ≤ ([n] : List Int)[i] ∧ ([n] : List Int)[i] ≤ 1125899906842624 := by intro i hi; match i, hi with | 0, _ => (show -1125899906842624 ≤ n ∧ n ≤ 1125899906842624; omega)
  refine o1 rfl (det_call hb52 rfl rfl (fun w1 hs => within_ok hs.know hX (by simp) hbd)) rfl rfl trivial ?_
  refine o1 rfl (det_not rfl) rfl rfl trivial ?_
  refine be rfl ?_
  refine k_then ?_
  refine t_condF rfl ?_
  refine t_skip ?_
  refine k_then ?_
  refine t_seq ?_
  refine b0 ?_
  refine o1 rfl (det_move rfl) rfl rfl trivial ?_
  first | (refine o1 rfl (det_negI rfl ?_) rfl rfl trivial ?_; (· omega)) | refine o1 rfl (det_neg rfl) rfl rfl trivial ?_
  refine o1 rfl (det_move rfl) rfl rfl trivial ?_
  refine o1 rfl (det_call hb49 rfl rfl (fun w1 hs => fdiv_ok hs.know (by omega) hd)) rfl rfl trivial ?_
  refine o1 rfl (det_move rfl) rfl rfl trivial ?_
  refine o1 rfl (det_extract rfl rfl) rfl rfl trivial ?_
  refine o1 rfl (det_extract rfl rfl) rfl rfl trivial ?_
  refine o1 rfl (det_assign rfl) rfl rfl trivial ?_
  refine o1 rfl (det_assign rfl) rfl rfl trivial ?_
  refine be rfl ?_
  refine k_then ?_
  refine t_seq ?_
  refine b0 ?_
  have hq1 := Int.natAbs_ediv_le_natAbs (-n) d
  refine o1 rfl (det_move rfl) rfl rfl trivial ?_
  first | (refine o1 rfl (det_negI rfl ?_) rfl rfl trivial ?_; (· omega)) | refine o1 rfl (det_neg rfl) rfl rfl trivial ?_
  refine o1 rfl (det_move rfl) rfl rfl trivial ?_
  refine o1 rfl (det_assign rfl) rfl rfl trivial ?_
  refine o1 rfl (det_assign rfl) rfl rfl trivial ?_
  refine be rfl ?_
  refine k_then ?_
  refine t_ret ?_
  refine ret_tmp2 rfl rfl rfl rfl (fun w1 hs => ?_)
  exact ⟨rfl, hs.keep⟩

/-- rat.Floor. -/
theorem floor_ok {w : World} {F : Know} (hF : ∀ a v, F a = some v → w.cell? a = some v) {x : Q} (hx : (-9223372036854775808 ≤ x.1 ∧ x.1 ≤ 9223372036854775807) ∧ (-9223372036854775808 ≤ x.2 ∧ x.2 ≤ 9223372036854775807)) : Pure Try.prog 26 [.agg [.int .i64 x.1, .int .i64 x.2].toArray] w (.tuple [.int .i64 (floorA x).1, .int .i64 (floorA x).2].toArray) := by
  refine fn_pure (F := F) Try.func26 rfl Try.ntmps26 rfl hF ?_
  refine t_seq ?_
  refine b0 ?_
  refine om1 rfl (new_boxN rfl) rfl rfl trivial (fun p1 => ?_)
  refine o1 rfl (det_assign rfl) rfl rfl trivial ?_
  refine o1 rfl (det_assign rfl) rfl rfl trivial ?_
  refine be rfl ?_
  refine k_then ?_
  refine t_seq ?_
  refine t_seq ?_
  refine b0 ?_
  refine o1 rfl (det_loadN tN23 rfl rfl (.head _) rfl) rfl rfl trivial ?_
  refine om1 rfl (new_buildSlice rfl (fun w => bsl61_1_0 _ _ w)) rfl rfl trivial (fun p8 => ?_)
  refine tk_freeze (pre := []) rfl (fun F1 hF1 hNF1 hKF1 => ?_)
  have hX : PairsK F1 (some ⟨p8, 0, none⟩) (List.length ([(x.1, x.2)] : Prs)) ([(x.1, x.2)] : Prs) := pairsK_lit (by intro i hi; match i, hi with | 0, _ => (simp only [List.getElem_cons_zero]; omega)) hKF1
  refine o1 rfl (det_call hb38 rfl rfl (fun w1 hs => chk_ok hs.know hX (by simp))) rfl rfl trivial ?_
  refine o1 rfl (det_assign rfl) rfl rfl trivial ?_
  refine be rfl ?_
  refine k_then ?_
  refine t_seq ?_
  refine b0 ?_
  refine o1 rfl (det_move rfl) rfl rfl trivial ?_
  refine o1 rfl (det_neq rfl rfl) rfl rfl trivial ?_
  refine be rfl ?_
  refine k_then ?_
  refine t_condP bne_iff_ne rfl (fun hb => ?_) (fun hb => ?_)
  ·
    have hv : ¬ validE x = true := by
      intro h; rw [if_pos (by simpa using h)] at hb; exact hb rfl
    refine t_seq ?_
    refine b0 ?_
    refine o1 rfl (det_move rfl) rfl rfl trivial ?_
    refine o1 rfl (det_assign rfl) rfl rfl trivial ?_
    refine o1 rfl (det_assign rfl) rfl rfl trivial ?_
    refine be rfl ?_
    refine k_then ?_
    refine t_ret (k_thenR (?_))
    refine ret_tmp2 rfl rfl rfl rfl (fun w1 hs => ?_)
    refine ⟨?_, hs.keep⟩
    rw [floorA, if_neg hv, if_neg (by simpa using hv)]; try rfl
  ·
    have hv : validE x = true := by
      cases h : validE x with
      | true => rfl
      | false => rw [if_neg (by simpa using h)] at hb; exact absurd (by decide) hb
    have va := valid_parts hv
    refine t_skip ?_
    refine k_then ?_
    refine t_seq ?_
    refine b0 ?_
    refine o1 rfl (det_fieldAddr fld23_0 rfl) rfl rfl trivial ?_
    refine o1 rfl (det_load1 t1_3 rfl rfl (.head _) rfl) rfl rfl trivial ?_
    refine o1 rfl (det_fieldAddr fld23_1 rfl) rfl rfl trivial ?_
    refine o1 rfl (det_load1 t1_3 rfl rfl (.head _) rfl) rfl rfl trivial ?_
    refine o1 rfl (det_call hb49 rfl rfl (fun w1 hs => fdiv_ok hs.know (by omega) (by omega))) rfl rfl trivial ?_
    refine o1 rfl (det_move rfl) rfl rfl trivial ?_
    refine o1 rfl (det_extract rfl rfl) rfl rfl trivial ?_
    refine o1 rfl (det_extract rfl rfl) rfl rfl trivial ?_
    refine o1 rfl (det_assign rfl) rfl rfl trivial ?_
    refine o1 rfl (det_assign rfl) rfl rfl trivial ?_
    refine be rfl ?_
    refine k_then ?_
    refine t_seq ?_
    refine b0 ?_
    refine o1 rfl (det_move rfl) rfl rfl trivial ?_
    refine o1 rfl (det_assign rfl) rfl rfl trivial ?_
    refine o1 rfl (det_assign rfl) rfl rfl trivial ?_
    refine be rfl ?_
    refine k_then ?_
    refine t_ret ?_
    refine ret_tmp2 rfl rfl rfl rfl (fun w1 hs => ?_)
    refine ⟨?_, hs.keep⟩
    rw [floorA, if_pos hv]; try rfl

/-- rat.Ceil. -/
theorem ceil_ok {w : World} {F : Know} (hF : ∀ a v, F a = some v → w.cell? a = some v) {x : Q} (hx : (-9223372036854775808 ≤ x.1 ∧ x.1 ≤ 9223372036854775807) ∧ (-9223372036854775808 ≤ x.2 ∧ x.2 ≤ 9223372036854775807)) : Pure Try.prog 27 [.agg [.int .i64 x.1, .int .i64 x.2].toArray] w (.tuple [.int .i64 (ceilA x).1, .int .i64 (ceilA x).2].toArray) := by
  refine fn_pure (F := F) Try.func27 rfl Try.ntmps27 rfl hF ?_
  refine t_seq ?_
  refine b0 ?_
  refine om1 rfl (new_boxN rfl) rfl rfl trivial (fun p1 => ?_)
  refine o1 rfl (det_assign rfl) rfl rfl trivial ?_
  refine o1 rfl (det_assign rfl) rfl rfl trivial ?_
  refine be rfl ?_
  refine k_then ?_
  refine t_seq ?_
  refine t_seq ?_
  refine b0 ?_
  refine o1 rfl (det_loadN tN23 rfl rfl (.head _) rfl) rfl rfl trivial ?_
  refine om1 rfl (new_buildSlice rfl (fun w => bsl61_1_0 _ _ w)) rfl rfl trivial (fun p8 => ?_)
  refine tk_freeze (pre := []) rfl (fun F1 hF1 hNF1 hKF1 => ?_)
  have hX : PairsK F1 (some ⟨p8, 0, none⟩) (List.length ([(x.1, x.2)] : Prs)) ([(x.1, x.2)] : Prs) := pairsK_lit (by intro i hi; match i, hi with | 0, _ => (simp only [List.getElem_cons_zero]; omega)) hKF1
  refine o1 rfl (det_call hb38 rfl rfl (fun w1 hs => chk_ok hs.know hX (by simp))) rfl rfl trivial ?_
  refine o1 rfl (det_assign rfl) rfl rfl trivial ?_
  refine be rfl ?_
  refine k_then ?_
  refine t_seq ?_
  refine b0 ?_
  refine o1 rfl (det_move rfl) rfl rfl trivial ?_
  refine o1 rfl (det_neq rfl rfl) rfl rfl trivial ?_
  refine be rfl ?_
  refine k_then ?_
  refine t_condP bne_iff_ne rfl (fun hb => ?_) (fun hb => ?_)
  ·
    have hv : ¬ validE x = true := by
      intro h; rw [if_pos (by simpa using h)] at hb; exact hb rfl
    refine t_seq ?_
    refine b0 ?_
    refine o1 rfl (det_move rfl) rfl rfl trivial ?_
    refine o1 rfl (det_assign rfl) rfl rfl trivial ?_
    refine o1 rfl (det_assign rfl) rfl rfl trivial ?_
    refine be rfl ?_
    refine k_then ?_
    refine t_ret (k_thenR (?_))
    refine ret_tmp2 rfl rfl rfl rfl (fun w1 hs => ?_)
    refine ⟨?_, hs.keep⟩
    rw [ceilA, if_neg hv, if_neg (by simpa using hv)]; try rfl
  ·
    have hv : validE x = true := by
      cases h : validE x with
      | true => rfl
      | false => rw [if_neg (by simpa using h)] at hb; exact absurd (by decide) hb
    have va := valid_parts hv
    refine t_skip ?_
    refine k_then ?_
    refine t_seq ?_
    refine b0 ?_
    refine o1 rfl (det_fieldAddr fld23_0 rfl) rfl rfl trivial ?_
    refine o1 rfl (det_load1 t1_3 rfl rfl (.head _) rfl) rfl rfl trivial ?_
    refine o1 rfl (det_fieldAddr fld23_1 rfl) rfl rfl trivial ?_
    refine o1 rfl (det_load1 t1_3 rfl rfl (.head _) rfl) rfl rfl trivial ?_
    refine o1 rfl (det_call hb50 rfl rfl (fun w1 hs => cdiv_ok hs.know (by omega) (by omega))) rfl rfl trivial ?_
    refine o1 rfl (det_move rfl) rfl rfl trivial ?_
    refine o1 rfl (det_extract rfl rfl) rfl rfl trivial ?_
    refine o1 rfl (det_extract rfl rfl) rfl rfl trivial ?_
    refine o1 rfl (det_assign rfl) rfl rfl trivial ?_
    refine o1 rfl (det_assign rfl) rfl rfl trivial ?_
    refine be rfl ?_
    refine k_then ?_
    refine t_seq ?_
    refine b0 ?_
    refine o1 rfl (det_move rfl) rfl rfl trivial ?_
    refine o1 rfl (det_assign rfl) rfl rfl trivial ?_
    refine o1 rfl (det_assign rfl) rfl rfl trivial ?_
    refine be rfl ?_
    refine k_then ?_
    refine t_ret ?_
    refine ret_tmp2 rfl rfl rfl rfl (fun w1 hs => ?_)
    refine ⟨?_, hs.keep⟩
    rw [ceilA, if_pos hv]; try rfl

/-- The reference's Floor. -/
theorem rfloor_ok {w : World} {F : Know} (hF : ∀ a v, F a = some v → w.cell? a = some v) {x : Q} (hx : (-9223372036854775808 ≤ x.1 ∧ x.1 ≤ 9223372036854775807) ∧ (-9223372036854775808 ≤ x.2 ∧ x.2 ≤ 9223372036854775807)) : Pure Try.prog 35 [.agg [.int .i64 x.1, .int .i64 x.2].toArray] w (.tuple [.int .i64 (floorA x).1, .int .i64 (floorA x).2].toArray) := by
  refine fn_pure (F := F) Try.func35 rfl Try.ntmps35 rfl hF ?_
  refine t_seq ?_
  refine b0 ?_
  refine om1 rfl (new_boxN rfl) rfl rfl trivial (fun p1 => ?_)
  refine o1 rfl (det_assign rfl) rfl rfl trivial ?_
  refine o1 rfl (det_assign rfl) rfl rfl trivial ?_
  refine be rfl ?_
  refine k_then ?_
  refine t_seq ?_
  refine t_seq ?_
  refine b0 ?_
  refine o1 rfl (det_loadN tN23 rfl rfl (.head _) rfl) rfl rfl trivial ?_
  refine o1 rfl (det_call hb41 rfl rfl (fun w1 hs => right_ok hs.know hx)) rfl rfl trivial ?_
  refine o1 rfl (det_not rfl) rfl rfl trivial ?_
  refine be rfl ?_
  refine k_then ?_
  refine t_condP not_iff_false rfl (fun hb => ?_) (fun hb => ?_)
  ·
    have hv : ¬ validE x = true := by simpa using hb
    refine t_seq ?_
    refine b0 ?_
    refine o1 rfl (det_assign rfl) rfl rfl trivial ?_
    refine o1 rfl (det_assign rfl) rfl rfl trivial ?_
    refine be rfl ?_
    refine k_then ?_
    refine t_ret (k_thenR (?_))
    refine ret_tmp2 rfl rfl rfl rfl (fun w1 hs => ?_)
    refine ⟨?_, hs.keep⟩
    rw [floorA, if_neg hv]
  ·
    have hv : validE x = true := by simpa using hb
    have va := valid_parts hv
    have hfl := floor_of (n := x.1) (d := x.2) (by omega)
    have hfe := floor_le (n := x.1) (d := x.2) (by omega)
    have hqa := tdiv_abs x.1 x.2
    have htm := Int.mul_tdiv_add_tmod x.1 x.2
    rw [Int.mul_comm] at htm
    have htl := Int.tmod_lt_of_pos x.1 (show 0 < x.2 by omega)
    have htl2 := Int.lt_tmod_of_pos x.1 (show 0 < x.2 by omega)
    refine t_skip ?_
    refine k_then ?_
    refine t_seq ?_
    refine b0 ?_
    refine o1 rfl (det_fieldAddr fld23_0 rfl) rfl rfl trivial ?_
    refine o1 rfl (det_load1 t1_3 rfl rfl (.head _) rfl) rfl rfl trivial ?_
    refine o1 rfl (det_fieldAddr fld23_1 rfl) rfl rfl trivial ?_
    refine o1 rfl (det_load1 t1_3 rfl rfl (.head _) rfl) rfl rfl trivial ?_
    first | (refine o1 rfl (det_quoP rfl rfl ?_ ?_) rfl rfl trivial ?_; (· omega); (· omega)) | (refine o1 rfl (det_quoI rfl rfl ?_ ?_) rfl rfl trivial ?_; (· (first | decide | omega)); (· omega)) | (refine o1 rfl (det_quo rfl rfl ?_) rfl rfl trivial ?_; (· (first | decide | omega)))
    refine o1 rfl (det_assign rfl) rfl rfl trivial ?_
    refine be rfl ?_
    refine k_then ?_
    refine t_seq ?_
    refine t_seq ?_
    refine b0 ?_
    refine o1 rfl (det_move rfl) rfl rfl trivial ?_
    refine o1 rfl (det_fieldAddr fld23_1 rfl) rfl rfl trivial ?_
    refine o1 rfl (det_load1 t1_3 rfl rfl (.head _) rfl) rfl rfl trivial ?_
    first | (refine o1 rfl (det_mulI rfl rfl ?_) rfl rfl trivial ?_; (· omega)) | refine o1 rfl (det_mul rfl rfl) rfl rfl trivial ?_
    refine o1 rfl (det_fieldAddr fld23_0 rfl) rfl rfl trivial ?_
    refine o1 rfl (det_load1 t1_3 rfl rfl (.head _) rfl) rfl rfl trivial ?_
    refine o1 rfl (det_gtr rfl rfl) rfl rfl trivial ?_
    refine be rfl ?_
    refine k_then ?_
    refine t_condP decide_eq_true_iff rfl (fun hb => ?_) (fun hb => ?_)
    ·
      refine b0 ?_
      refine o1 rfl (det_move rfl) rfl rfl trivial ?_
      first | (refine o1 rfl (det_subI rfl rfl ?_) rfl rfl trivial ?_; (· omega)) | refine o1 rfl (det_sub rfl rfl) rfl rfl trivial ?_
      refine o1 rfl (det_assign rfl) rfl rfl trivial ?_
      refine be rfl ?_
      refine k_then ?_
      refine t_seq ?_
      refine b0 ?_
      refine o1 rfl (det_move rfl) rfl rfl trivial ?_
      refine o1 rfl (det_assign rfl) rfl rfl trivial ?_
      refine o1 rfl (det_assign rfl) rfl rfl trivial ?_
      refine be rfl ?_
      refine k_then ?_
      refine t_ret ?_
      refine ret_tmp2 rfl rfl rfl rfl (fun w1 hs => ?_)
      refine ⟨?_, hs.keep⟩
      rw [floorA, if_pos hv, hfl.1 (by omega)]
    ·
      refine t_skip ?_
      refine k_then ?_
      refine t_seq ?_
      refine b0 ?_
      refine o1 rfl (det_move rfl) rfl rfl trivial ?_
      refine o1 rfl (det_assign rfl) rfl rfl trivial ?_
      refine o1 rfl (det_assign rfl) rfl rfl trivial ?_
      refine be rfl ?_
      refine k_then ?_
      refine t_ret ?_
      refine ret_tmp2 rfl rfl rfl rfl (fun w1 hs => ?_)
      refine ⟨?_, hs.keep⟩
      rw [floorA, if_pos hv, hfl.2 (by omega)]

/-- The reference's Ceil. -/
theorem rceil_ok {w : World} {F : Know} (hF : ∀ a v, F a = some v → w.cell? a = some v) {x : Q} (hx : (-9223372036854775808 ≤ x.1 ∧ x.1 ≤ 9223372036854775807) ∧ (-9223372036854775808 ≤ x.2 ∧ x.2 ≤ 9223372036854775807)) : Pure Try.prog 36 [.agg [.int .i64 x.1, .int .i64 x.2].toArray] w (.tuple [.int .i64 (ceilA x).1, .int .i64 (ceilA x).2].toArray) := by
  refine fn_pure (F := F) Try.func36 rfl Try.ntmps36 rfl hF ?_
  refine t_seq ?_
  refine b0 ?_
  refine om1 rfl (new_boxN rfl) rfl rfl trivial (fun p1 => ?_)
  refine o1 rfl (det_assign rfl) rfl rfl trivial ?_
  refine o1 rfl (det_assign rfl) rfl rfl trivial ?_
  refine be rfl ?_
  refine k_then ?_
  refine t_seq ?_
  refine b0 ?_
  refine o1 rfl (det_loadN tN23 rfl rfl (.head _) rfl) rfl rfl trivial ?_
  refine o1 rfl (det_call hb35 rfl rfl (fun w1 hs => rfloor_ok hs.know hx)) rfl rfl trivial ?_
  refine o1 rfl (det_move rfl) rfl rfl trivial ?_
  refine o1 rfl (det_extract rfl rfl) rfl rfl trivial ?_
  refine o1 rfl (det_extract rfl rfl) rfl rfl trivial ?_
  refine o1 rfl (det_assign rfl) rfl rfl trivial ?_
  refine o1 rfl (det_assign rfl) rfl rfl trivial ?_
  refine be rfl ?_
  refine k_then ?_
  refine t_seq ?_
  refine t_seq ?_
  refine b0 ?_
  refine o1 rfl (det_move rfl) rfl rfl trivial ?_
  refine o1 rfl (det_eql rfl rfl) rfl rfl trivial ?_
  refine o2P beq_iff_eq rfl (det_move rfl) rfl rfl trivial (fun hb => ?_) (fun hb => ?_)
  ·
    have hv : validE x = true := by
      cases h : validE x with
      | true => rfl
      | false => rw [floorA, if_neg (by simp [h])] at hb; exact absurd hb (by decide)
    have va := valid_parts hv
    have hce := ceil_of (n := x.1) (d := x.2) (by omega)
    have hfe := floor_le (n := x.1) (d := x.2) (by omega)
    have hqa := Int.natAbs_ediv_le_natAbs x.1 x.2
    have hf1 : (floorA x).1 = x.1 / x.2 := by rw [floorA, if_pos hv]
    have hf2 : (floorA x).2 = 0 := by rw [floorA, if_pos hv]
    rw [hf1, hf2]
    refine o1 rfl (det_move rfl) rfl rfl ⟨_, rfl, rfl⟩ ?_
    refine o1 rfl (det_fieldAddr fld23_1 rfl) rfl rfl ⟨_, rfl, rfl⟩ ?_
    refine o1 rfl (det_load1 t1_3 rfl rfl (.head _) rfl) rfl rfl ⟨_, rfl, rfl⟩ ?_
    first | (refine o1 rfl (det_mulI rfl rfl ?_) rfl rfl ⟨_, rfl, rfl⟩ ?_; (· omega)) | refine o1 rfl (det_mul rfl rfl) rfl rfl ⟨_, rfl, rfl⟩ ?_
    refine o1 rfl (det_fieldAddr fld23_0 rfl) rfl rfl ⟨_, rfl, rfl⟩ ?_
    refine o1 rfl (det_load1 t1_3 rfl rfl (.head _) rfl) rfl rfl ⟨_, rfl, rfl⟩ ?_
    refine o1 rfl (det_lss rfl rfl) rfl rfl ⟨_, rfl, rfl⟩ ?_
    refine o1 rfl (det_pickT rfl rfl) rfl rfl trivial ?_
    refine be rfl ?_
    refine k_then ?_
    refine t_condP decide_eq_true_iff rfl (fun hb => ?_) (fun hb => ?_)
    ·
      refine b0 ?_
      refine o1 rfl (det_move rfl) rfl rfl trivial ?_
      first | (refine o1 rfl (det_addI rfl rfl ?_) rfl rfl trivial ?_; (· omega)) | refine o1 rfl (det_add rfl rfl) rfl rfl trivial ?_
      refine o1 rfl (det_assign rfl) rfl rfl trivial ?_
      refine be rfl ?_
      refine k_then ?_
      refine t_seq ?_
      refine b0 ?_
      refine o1 rfl (det_move rfl) rfl rfl trivial ?_
      refine o1 rfl (det_move rfl) rfl rfl trivial ?_
      refine o1 rfl (det_assign rfl) rfl rfl trivial ?_
      refine o1 rfl (det_assign rfl) rfl rfl trivial ?_
      refine be rfl ?_
      refine k_then ?_
      refine t_ret ?_
      refine ret_tmp2 rfl rfl rfl rfl (fun w1 hs => ?_)
      refine ⟨?_, hs.keep⟩
      rw [ceilA, if_pos hv, hce.1 hb]
    ·
      refine t_skip ?_
      refine k_then ?_
      refine t_seq ?_
      refine b0 ?_
      refine o1 rfl (det_move rfl) rfl rfl trivial ?_
      refine o1 rfl (det_move rfl) rfl rfl trivial ?_
      refine o1 rfl (det_assign rfl) rfl rfl trivial ?_
      refine o1 rfl (det_assign rfl) rfl rfl trivial ?_
      refine be rfl ?_
      refine k_then ?_
      refine t_ret ?_
      refine ret_tmp2 rfl rfl rfl rfl (fun w1 hs => ?_)
      refine ⟨?_, hs.keep⟩
      rw [ceilA, if_pos hv, hce.2 hb]
  ·
    have hv : ¬ validE x = true := by
      intro h; rw [floorA, if_pos h] at hb; exact hb rfl
    have hf : floorA x = (0, 120) := by rw [floorA, if_neg hv]
    refine on rfl rfl rfl ⟨_, rfl, .inl rfl⟩ ?_
    refine on rfl rfl rfl ⟨_, rfl, .inl rfl⟩ ?_
    refine on rfl rfl rfl ⟨_, rfl, .inl rfl⟩ ?_
    refine on rfl rfl rfl ⟨_, rfl, .inl rfl⟩ ?_
    refine on rfl rfl rfl ⟨_, rfl, .inl rfl⟩ ?_
    refine on rfl rfl rfl ⟨_, rfl, .inl rfl⟩ ?_
    refine on rfl rfl rfl ⟨_, rfl, .inl rfl⟩ ?_
    refine o1 rfl (det_pickF rfl rfl) rfl rfl trivial ?_
    refine be rfl ?_
    refine k_then ?_
    refine t_condF rfl ?_
    refine t_skip ?_
    refine k_then ?_
    refine t_seq ?_
    refine b0 ?_
    refine o1 rfl (det_move rfl) rfl rfl trivial ?_
    refine o1 rfl (det_move rfl) rfl rfl trivial ?_
    refine o1 rfl (det_assign rfl) rfl rfl trivial ?_
    refine o1 rfl (det_assign rfl) rfl rfl trivial ?_
    refine be rfl ?_
    refine k_then ?_
    refine t_ret ?_
    refine ret_tmp2 rfl rfl rfl rfl (fun w1 hs => ?_)
    refine ⟨?_, hs.keep⟩
    rw [ceilA, if_neg hv, hf]

/-- of. -/
theorem of_ok {w : World} {F : Know} (hF : ∀ a v, F a = some v → w.cell? a = some v) (n d : Int) : Pure Try.prog 28 [.int .i64 n, .int .i64 d] w (.agg [.int .i64 n, .int .i64 d].toArray) := by
  refine fn_pure (F := F) Try.func28 rfl Try.ntmps28 rfl hF ?_
  refine t_seq ?_
  refine b0 ?_
  refine om1 rfl (new_alloc z23) rfl rfl trivial (fun p4 => ?_)
  refine be rfl ?_
  refine k_then ?_
  refine t_seq ?_
  refine b0 ?_
  refine o1 rfl (det_move rfl) rfl rfl trivial ?_
  refine o1 rfl (det_move rfl) rfl rfl trivial ?_
  refine o1 rfl (det_build rfl (fun w => bld23_0_1 _ _ w)) rfl rfl trivial ?_
  refine stN nofun rfl tN23 rfl rfl rfl .head rfl trivial rfl rfl ?_
  refine be rfl ?_
  refine k_then ?_
  refine t_ret ?_
  refine ret_any (vs := [_]) rfl rfl ⟨(.cellN tN23 rfl rfl (.head _) rfl), trivial⟩ rfl (fun w1 hs => ?_)
  exact ⟨rfl, hs.keep⟩

end Go.Proofs.Rt
