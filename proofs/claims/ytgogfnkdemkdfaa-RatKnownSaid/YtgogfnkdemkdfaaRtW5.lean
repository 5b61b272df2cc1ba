/-
  Walks through layer 2 and its reference.
-/
import Derived.Test.YtgogfnkdemkdfaaRtW4
namespace Go.Proofs.Rt
open Go Go.Eng Go.Rt
set_option maxRecDepth 4000

/-- rat.Check. -/
theorem check_ok {w : World} {F : Know} (hF : ∀ a v, F a = some v → w.cell? a = some v) {x : Q} (hx : (-9223372036854775808 ≤ x.1 ∧ x.1 ≤ 9223372036854775807) ∧ (-9223372036854775808 ≤ x.2 ∧ x.2 ≤ 9223372036854775807)) : Pure Try.prog 12 [.agg [.int .i64 x.1, .int .i64 x.2].toArray] w (.int .i64 (if validE x = true then 0 else 120)) := by
  refine fn_pure (F := F) Try.func12 rfl Try.ntmps12 rfl hF ?_
  refine t_seq ?_
  refine b0 ?_
  refine om1 rfl (new_boxN rfl) rfl rfl trivial (fun p1 => ?_)
  refine o1 rfl (det_assign rfl) rfl rfl trivial ?_
  refine be rfl ?_
  refine k_then ?_
  refine t_seq ?_
  refine b0 ?_
  refine o1 rfl (det_loadN tN23 rfl rfl (.head _) rfl) rfl rfl trivial ?_
  refine om1 rfl (new_buildSlice rfl (fun w => bsl61_1_0 _ _ w)) rfl rfl trivial (fun p4 => ?_)
  refine tk_freeze (pre := []) rfl (fun F1 hF1 hNF1 hKF1 => ?_)
  have hX : PairsK F1 (some ⟨p4, 0, none⟩) (List.length ([(x.1, x.2)] : Prs)) ([(x.1, x.2)] : Prs) := pairsK_lit (by intro i hi; match i, hi with | 0, _ => (simp only [List.getElem_cons_zero]; omega)) hKF1
  refine o1 rfl (det_call hb38 rfl rfl (fun w1 hs => chk_ok hs.know hX (by simp))) rfl rfl trivial ?_
  refine o1 rfl (det_assign rfl) rfl rfl trivial ?_
  refine be rfl ?_
  refine k_then ?_
  refine t_ret ?_
  refine ret_tmp rfl rfl rfl (fun w1 hs => ?_)
  refine ⟨?_, hs.keep⟩
  simp only [List.all_cons, List.all_nil, Bool.and_true]

/-- The reference's Check. -/
theorem rcheck_ok {w : World} {F : Know} (hF : ∀ a v, F a = some v → w.cell? a = some v) {x : Q} (hx : (-9223372036854775808 ≤ x.1 ∧ x.1 ≤ 9223372036854775807) ∧ (-9223372036854775808 ≤ x.2 ∧ x.2 ≤ 9223372036854775807)) : Pure Try.prog 13 [.agg [.int .i64 x.1, .int .i64 x.2].toArray] w (.int .i64 (if validE x = true then 0 else 120)) := by
  refine fn_pure (F := F) Try.func13 rfl Try.ntmps13 rfl hF ?_
  refine t_seq ?_
  refine b0 ?_
  refine om1 rfl (new_boxN rfl) rfl rfl trivial (fun p1 => ?_)
  refine o1 rfl (det_assign rfl) rfl rfl trivial ?_
  refine be rfl ?_
  refine k_then ?_
  refine t_seq ?_
  refine t_seq ?_
  refine b0 ?_
  refine o1 rfl (det_loadN tN23 rfl rfl (.head _) rfl) rfl rfl trivial ?_
  refine o1 rfl (det_call hb41 rfl rfl (fun w1 hs => right_ok hs.know hx)) rfl rfl trivial ?_
  refine o1 rfl (det_not rfl) rfl rfl trivial ?_
  refine be rfl ?_
  refine k_then ?_
  refine t_condP not_iff_false rfl (fun hb => ?_) (fun hb => ?_)
  ·
    refine t_seq ?_
    refine b0 ?_
    refine o1 rfl (det_assign rfl) rfl rfl trivial ?_
    refine be rfl ?_
    refine k_then ?_
    refine t_ret (k_thenR (?_))
    refine ret_tmp rfl rfl rfl (fun w1 hs => ?_)
    refine ⟨?_, hs.keep⟩
    rw [hb]; rfl
  ·
    refine t_skip ?_
    refine k_then ?_
    refine t_seq ?_
    refine b0 ?_
    refine o1 rfl (det_assign rfl) rfl rfl trivial ?_
    refine be rfl ?_
    refine k_then ?_
    refine t_ret ?_
    refine ret_tmp rfl rfl rfl (fun w1 hs => ?_)
    refine ⟨?_, hs.keep⟩
    rw [Bool.of_not_eq_false hb]; rfl

/-- both. -/
theorem both_ok {w : World} {F : Know} (hF : ∀ a v, F a = some v → w.cell? a = some v) {a b : Q} (ha : (-9223372036854775808 ≤ a.1 ∧ a.1 ≤ 9223372036854775807) ∧ (-9223372036854775808 ≤ a.2 ∧ a.2 ≤ 9223372036854775807)) (hb0 : (-9223372036854775808 ≤ b.1 ∧ b.1 ≤ 9223372036854775807) ∧ (-9223372036854775808 ≤ b.2 ∧ b.2 ≤ 9223372036854775807)) : Pure Try.prog 45 [.agg [.int .i64 a.1, .int .i64 a.2].toArray, .agg [.int .i64 b.1, .int .i64 b.2].toArray] w (.int .i64 (if (validE a && validE b) = true then 0 else 120)) := by
  refine fn_pure (F := F) Try.func45 rfl Try.ntmps45 rfl hF ?_
  refine t_seq ?_
  refine b0 ?_
  refine om1 rfl (new_boxN rfl) rfl rfl trivial (fun p2 => ?_)
  refine om1 rfl (new_boxN rfl) rfl rfl trivial (fun p3 => ?_)
  refine o1 rfl (det_assign rfl) rfl rfl trivial ?_
  refine be rfl ?_
  refine k_then ?_
  refine t_seq ?_
  refine t_seq ?_
  refine b0 ?_
  refine o1 rfl (det_loadN tN23 rfl rfl (.tail _ (.head _)) rfl) rfl rfl trivial ?_
  refine o1 rfl (det_call hb41 rfl rfl (fun w1 hs => right_ok (x := a) hs.know ha)) rfl rfl trivial ?_
  refine o1 rfl (det_not rfl) rfl rfl trivial ?_
  refine o2P not_iff_false rfl (det_move rfl) rfl rfl trivial (fun hb => ?_) (fun hb => ?_)
  ·
    refine on rfl rfl rfl ⟨_, rfl, .inl rfl⟩ ?_
    refine on rfl rfl rfl ⟨_, rfl, .inl rfl⟩ ?_
    refine on rfl rfl rfl ⟨_, rfl, .inl rfl⟩ ?_
    refine o1 rfl (det_pickT rfl rfl) rfl rfl trivial ?_
    refine be rfl ?_
    refine k_then ?_
    refine t_condT rfl ?_
    refine t_seq ?_
    refine b0 ?_
    refine o1 rfl (det_assign rfl) rfl rfl trivial ?_
    refine be rfl ?_
    refine k_then ?_
    refine t_ret (k_thenR (?_))
    refine ret_tmp rfl rfl rfl (fun w1 hs => ?_)
    refine ⟨?_, hs.keep⟩
    rw [hb]; rfl
  ·
    refine o1 rfl (det_loadN tN23 rfl rfl (.head _) rfl) rfl rfl ⟨_, rfl, rfl⟩ ?_
    refine o1 rfl (det_call hb41 rfl rfl (fun w1 hs => right_ok (x := b) hs.know hb0)) rfl rfl ⟨_, rfl, rfl⟩ ?_
    refine o1 rfl (det_not rfl) rfl rfl ⟨_, rfl, rfl⟩ ?_
    refine o1 rfl (det_pickF rfl rfl) rfl rfl trivial ?_
    refine be rfl ?_
    refine k_then ?_
    refine t_condP not_iff_false rfl (fun hb => ?_) (fun hb => ?_)
    ·
      refine t_seq ?_
      refine b0 ?_
      refine o1 rfl (det_assign rfl) rfl rfl trivial ?_
      refine be rfl ?_
      refine k_then ?_
      refine t_ret (k_thenR (?_))
      refine ret_tmp rfl rfl rfl (fun w1 hs => ?_)
      refine ⟨?_, hs.keep⟩
      rw [hb]; simp
    ·
      refine t_skip ?_
      refine k_then ?_
      refine t_seq ?_
      refine b0 ?_
      refine o1 rfl (det_assign rfl) rfl rfl trivial ?_
      refine be rfl ?_
      refine k_then ?_
      refine t_ret ?_
      refine ret_tmp rfl rfl rfl (fun w1 hs => ?_)
      refine ⟨?_, hs.keep⟩
      simp_all

/-- combine. -/
theorem combine_ok {w : World} {F : Know} (hF : ∀ a v, F a = some v → w.cell? a = some v) {a b : Q} (ha : (-9223372036854775808 ≤ a.1 ∧ a.1 ≤ 9223372036854775807) ∧ (-9223372036854775808 ≤ a.2 ∧ a.2 ≤ 9223372036854775807)) (hb0 : (-9223372036854775808 ≤ b.1 ∧ b.1 ≤ 9223372036854775807) ∧ (-9223372036854775808 ≤ b.2 ∧ b.2 ≤ 9223372036854775807)) {fid : FuncId} {caps : List Value} (hbody : HasBody Try.prog fid) (f : Q) (hcl : (validE a && validE b) = true → ∀ w1 : World, (∀ a v, F a = some v → w1.cell? a = some v) → Pure Try.prog fid caps w1 (.tuple [.int .i64 f.1, .int .i64 f.2].toArray)) : Pure Try.prog 43 [.agg [.int .i64 a.1, .int .i64 a.2].toArray, .agg [.int .i64 b.1, .int .i64 b.2].toArray, .func (.func fid) #[] caps.toArray] w (.tuple [.agg [.int .i64 (opA a b f).1.1, .int .i64 (opA a b f).1.2].toArray, .int .i64 (opA a b f).2].toArray) := by
  refine fn_pure (F := F) Try.func43 rfl Try.ntmps43 rfl hF ?_
  refine t_seq ?_
  refine b0 ?_
  refine om1 rfl (new_boxN rfl) rfl rfl trivial (fun p3 => ?_)
  refine om1 rfl (new_boxN rfl) rfl rfl trivial (fun p4 => ?_)
  refine om1 rfl (new_alloc z23) rfl rfl trivial (fun p6 => ?_)
  refine o1 rfl (det_assign rfl) rfl rfl trivial ?_
  refine be rfl ?_
  refine k_then ?_
  refine t_seq ?_
  refine t_seq ?_
  refine b0 ?_
  refine o1 rfl (det_loadN tN23 rfl rfl (.tail _ (.tail _ (.head _))) rfl) rfl rfl trivial ?_
  refine o1 rfl (det_loadN tN23 rfl rfl (.tail _ (.head _)) rfl) rfl rfl trivial ?_
  refine om1 rfl (new_buildSlice rfl (fun w => bsl61_2_0_1 _ _ _ _ w)) rfl rfl trivial (fun p11 => ?_)
  refine tk_freeze (pre := []) rfl (fun F1 hF1 hNF1 hKF1 => ?_)
  have hX : PairsK F1 (some ⟨p11, 0, none⟩) (List.length ([(a.1, a.2), (b.1, b.2)] : Prs)) ([(a.1, a.2), (b.1, b.2)] : Prs) := pairsK_lit (by intro i hi; match i, hi with | 0, _ => (simp only [List.getElem_cons_zero]; omega) | 1, _ => (simp only [List.getElem_cons_succ, List.getElem_cons_zero]; omega)) hKF1
  refine o1 rfl (det_call hb38 rfl rfl (fun w1 hs => chk_ok hs.know hX (by simp))) rfl rfl trivial ?_
  refine o1 rfl (det_assign rfl) rfl rfl trivial ?_
  refine be rfl ?_
  refine k_then ?_
  refine t_seq ?_
  refine b0 ?_
  refine o1 rfl (det_move rfl) rfl rfl trivial ?_
  refine o1 rfl (det_neq rfl rfl) rfl rfl trivial ?_
  refine be rfl ?_
  refine k_then ?_
  refine t_condP bne_iff_ne rfl (fun hb => ?_) (fun hb => ?_)
  ·
    have hv : ¬ (validE a && validE b) = true := by
      intro h; rw [if_pos (by simpa using h)] at hb; exact hb rfl
    refine t_seq ?_
    refine b0 ?_
    refine o1 rfl (det_build rfl (fun w => bld23_ w)) rfl rfl trivial ?_
    refine o1 rfl (det_move rfl) rfl rfl trivial ?_
    refine stN nofun rfl tN23 rfl rfl rfl .head rfl trivial rfl rfl ?_
    refine o1 rfl (det_assign rfl) rfl rfl trivial ?_
    refine be rfl ?_
    refine k_then ?_
    refine t_ret (k_thenR (?_))
    refine ret_any (vs := [_, _]) rfl rfl ⟨(.cellN tN23 rfl rfl (.head _) rfl), (.tmp rfl), trivial⟩ rfl (fun w1 hs => ?_)
    refine ⟨?_, hs.keep⟩
    rw [if_neg (by simpa using hv), opA, if_neg hv]; rfl
  ·
    have hv : (validE a && validE b) = true := by
      cases h : (validE a && validE b) with
      | true => rfl
      | false => rw [if_neg (by simpa using h)] at hb; exact absurd (by decide) hb
    refine t_skip ?_
    refine k_then ?_
    refine t_seq ?_
    refine b0 ?_
    refine o1 rfl (det_move rfl) rfl rfl trivial ?_
    refine o1 rfl (det_call hbody rfl rfl (fun w1 hs => hcl hv w1 (fun a u h => hs.know a u (hF1 a u h)))) rfl rfl trivial ?_
    refine o1 rfl (det_extract rfl rfl) rfl rfl trivial ?_
    refine o1 rfl (det_extract rfl rfl) rfl rfl trivial ?_
    refine o1 rfl (det_call hb10 rfl rfl (fun w1 hs => make_ok hs.know f.1 f.2)) rfl rfl trivial ?_
    refine o1 rfl (det_extract rfl rfl) rfl rfl trivial ?_
    refine o1 rfl (det_extract rfl rfl) rfl rfl trivial ?_
    refine stN nofun rfl tN23 rfl rfl rfl .head rfl trivial rfl rfl ?_
    refine o1 rfl (det_assign rfl) rfl rfl trivial ?_
    refine be rfl ?_
    refine k_then ?_
    refine t_ret ?_
    refine ret_any (vs := [_, _]) rfl rfl ⟨(.cellN tN23 rfl rfl (.head _) rfl), (.tmp rfl), trivial⟩ rfl (fun w1 hs => ?_)
    refine ⟨?_, hs.keep⟩
    rw [opA, if_pos hv]; rfl

/-- Add's closure. -/
theorem addC_ok {w : World} {F : Know} (hF : ∀ a v, F a = some v → w.cell? a = some v) {a b : Q} {p2 p3 : Nat} (hv : (validE a && validE b) = true) (ca0 : F ⟨p2, 0, none⟩ = some (.int .i64 a.1)) (ca1 : F ⟨p2, 1, none⟩ = some (.int .i64 a.2)) (cb0 : F ⟨p3, 0, none⟩ = some (.int .i64 b.1)) (cb1 : F ⟨p3, 1, none⟩ = some (.int .i64 b.2)) : Pure Try.prog 44 [.pointer (some ⟨p2, 0, none⟩), .pointer (some ⟨p3, 0, none⟩)] w (.tuple [.int .i64 (addF a b).1, .int .i64 (addF a b).2].toArray) := by
  have hva : validE a = true := by simp only [Bool.and_eq_true] at hv; exact hv.1
  have hvb : validE b = true := by simp only [Bool.and_eq_true] at hv; exact hv.2
  have va := valid_parts hva
  have vb := valid_parts hvb
  have m1 := mul_le (a := a.1) (b := b.2) (by omega) (by omega)
  have m2 := mul_le (a := b.1) (b := a.2) (by omega) (by omega)
  have m3 := mul_le (a := a.2) (b := b.2) (by omega) (by omega)
  have m4 := mul_le (a := a.1) (b := b.1) (by omega) (by omega)
  have m5 := mul_le (a := a.2) (b := b.1) (by omega) (by omega)
  refine fn_pure (F := F) Try.func44 rfl Try.ntmps44 rfl hF ?_
  refine t_seq ?_
  refine b0 ?_
  refine o1 rfl (det_assign rfl) rfl rfl trivial ?_
  refine o1 rfl (det_assign rfl) rfl rfl trivial ?_
  refine be rfl ?_
  refine k_then ?_
  refine t_seq ?_
  refine bD mixed ?_
  refine r_seg 18 18 [] [0, 1, 2, 3, 4, 5, 6, 7, 8, 9, 10, 11, 12, 13, 14, 15, 16, 17] (by kernel_rfl) ?_
  refine s1 rfl (det_fieldAddr fld23_0 rfl) rfl rfl trivial rfl ?_
  refine s1 rfl (det_loadK t1_3 rfl (by rw [add_mk]; exact ca0)) rfl rfl trivial rfl ?_
  refine s1 rfl (det_fieldAddr fld23_1 rfl) rfl rfl trivial rfl ?_
  refine s1 rfl (det_loadK t1_3 rfl (by rw [add_mk]; exact cb1)) rfl rfl trivial rfl ?_
  first | (refine s1 rfl (det_mulI rfl rfl ?_) rfl rfl trivial rfl ?_; (· omega)) | refine s1 rfl (det_mul rfl rfl) rfl rfl trivial rfl ?_
  refine s1 rfl (det_fieldAddr fld23_0 rfl) rfl rfl trivial rfl ?_
  refine s1 rfl (det_loadK t1_3 rfl (by rw [add_mk]; exact cb0)) rfl rfl trivial rfl ?_
  refine s1 rfl (det_fieldAddr fld23_1 rfl) rfl rfl trivial rfl ?_
  refine s1 rfl (det_loadK t1_3 rfl (by rw [add_mk]; exact ca1)) rfl rfl trivial rfl ?_
  first | (refine s1 rfl (det_mulI rfl rfl ?_) rfl rfl trivial rfl ?_; (· omega)) | refine s1 rfl (det_mul rfl rfl) rfl rfl trivial rfl ?_
  first | (refine s1 rfl (det_addI rfl rfl ?_) rfl rfl trivial rfl ?_; (· omega)) | refine s1 rfl (det_add rfl rfl) rfl rfl trivial rfl ?_
  refine s1 rfl (det_fieldAddr fld23_1 rfl) rfl rfl trivial rfl ?_
  refine s1 rfl (det_loadK t1_3 rfl (by rw [add_mk]; exact ca1)) rfl rfl trivial rfl ?_
  refine s1 rfl (det_fieldAddr fld23_1 rfl) rfl rfl trivial rfl ?_
  refine s1 rfl (det_loadK t1_3 rfl (by rw [add_mk]; exact cb1)) rfl rfl trivial rfl ?_
  first | (refine s1 rfl (det_mulI rfl rfl ?_) rfl rfl trivial rfl ?_; (· omega)) | refine s1 rfl (det_mul rfl rfl) rfl rfl trivial rfl ?_
  refine s1 rfl (det_assign rfl) rfl rfl trivial rfl ?_
  refine s1 rfl (det_assign rfl) rfl rfl trivial rfl ?_
  refine sg_nil ?_
  refine be rfl ?_
  refine k_then ?_
  refine t_ret ?_
  refine ret_tmp2 rfl rfl rfl rfl (fun w1 hs => ?_)
  exact ⟨rfl, hs.keep⟩

/-- rat.Add. -/
theorem add_ok {w : World} {F : Know} (hF : ∀ a v, F a = some v → w.cell? a = some v) {a b : Q} (ha : (-9223372036854775808 ≤ a.1 ∧ a.1 ≤ 9223372036854775807) ∧ (-9223372036854775808 ≤ a.2 ∧ a.2 ≤ 9223372036854775807)) (hb : (-9223372036854775808 ≤ b.1 ∧ b.1 ≤ 9223372036854775807) ∧ (-9223372036854775808 ≤ b.2 ∧ b.2 ≤ 9223372036854775807)) : Pure Try.prog 16 [.agg [.int .i64 a.1, .int .i64 a.2].toArray, .agg [.int .i64 b.1, .int .i64 b.2].toArray] w (.tuple [.agg [.int .i64 (opA a b (addF a b)).1.1, .int .i64 (opA a b (addF a b)).1.2].toArray, .int .i64 (opA a b (addF a b)).2].toArray) := by
  refine fn_pure (F := F) Try.func16 rfl Try.ntmps16 rfl hF ?_
  refine t_seq ?_
  refine b0 ?_
  refine om1 rfl (new_boxN rfl) rfl rfl trivial (fun p2 => ?_)
  refine om1 rfl (new_boxN rfl) rfl rfl trivial (fun p3 => ?_)
  refine om1 rfl (new_alloc z23) rfl rfl trivial (fun p4 => ?_)
  refine o1 rfl (det_assign rfl) rfl rfl trivial ?_
  refine be rfl ?_
  refine k_then ?_
  refine t_seq ?_
  refine b0 ?_
  refine o1 rfl (det_loadN tN23 rfl rfl (.tail _ (.tail _ (.head _))) rfl) rfl rfl trivial ?_
  refine o1 rfl (det_loadN tN23 rfl rfl (.tail _ (.head _)) rfl) rfl rfl trivial ?_
  refine o1 rfl (det_makeFunc rfl rfl) rfl rfl trivial ?_
  refine tk_freeze (pre := [_, _]) rfl (fun F1 hF1 hN1 hK1 => ?_)
  refine tk_freeze (pre := [_]) rfl (fun F2 hF2 hN2 hK2 => ?_)
  refine o1 rfl (det_call hb43 rfl rfl (fun w1 hs => (combine_ok hs.know ha hb hb44 (addF a b) fun hv w2 hk => addC_ok hk hv (hF2 _ _ (hK1 0 _ rfl)) (hF2 _ _ (hK1 1 _ rfl)) (hK2 0 _ rfl) (hK2 1 _ rfl)))) rfl rfl trivial ?_
  refine o1 rfl (det_extract rfl rfl) rfl rfl trivial ?_
  refine o1 rfl (det_extract rfl rfl) rfl rfl trivial ?_
  refine stN nofun rfl tN23 rfl rfl rfl .head rfl trivial rfl rfl ?_
  refine o1 rfl (det_assign rfl) rfl rfl trivial ?_
  refine be rfl ?_
  refine k_then ?_
  refine t_ret ?_
  refine ret_any (vs := [_, _]) rfl rfl ⟨(.cellN tN23 rfl rfl (.head _) rfl), (.tmp rfl), trivial⟩ rfl (fun w1 hs => ?_)
  exact ⟨rfl, hs.keep⟩

/-- The reference's Add. -/
theorem radd_ok {w : World} {F : Know} (hF : ∀ a v, F a = some v → w.cell? a = some v) {a b : Q} (ha : (-9223372036854775808 ≤ a.1 ∧ a.1 ≤ 9223372036854775807) ∧ (-9223372036854775808 ≤ a.2 ∧ a.2 ≤ 9223372036854775807)) (hb0 : (-9223372036854775808 ≤ b.1 ∧ b.1 ≤ 9223372036854775807) ∧ (-9223372036854775808 ≤ b.2 ∧ b.2 ≤ 9223372036854775807)) : Pure Try.prog 17 [.agg [.int .i64 a.1, .int .i64 a.2].toArray, .agg [.int .i64 b.1, .int .i64 b.2].toArray] w (.tuple [.agg [.int .i64 (opA a b (addF a b)).1.1, .int .i64 (opA a b (addF a b)).1.2].toArray, .int .i64 (opA a b (addF a b)).2].toArray) := by
  refine fn_pure (F := F) Try.func17 rfl Try.ntmps17 rfl hF ?_
  refine t_seq ?_
  refine b0 ?_
  refine om1 rfl (new_boxN rfl) rfl rfl trivial (fun p2 => ?_)
  refine om1 rfl (new_boxN rfl) rfl rfl trivial (fun p3 => ?_)
  refine om1 rfl (new_alloc z23) rfl rfl trivial (fun p4 => ?_)
  refine o1 rfl (det_assign rfl) rfl rfl trivial ?_
  refine be rfl ?_
  refine k_then ?_
  refine t_seq ?_
  refine t_seq ?_
  refine b0 ?_
  refine o1 rfl (det_loadN tN23 rfl rfl (.tail _ (.tail _ (.head _))) rfl) rfl rfl trivial ?_
  refine o1 rfl (det_loadN tN23 rfl rfl (.tail _ (.head _)) rfl) rfl rfl trivial ?_
  refine o1 rfl (det_call hb45 rfl rfl (fun w1 hs => both_ok hs.know ha hb0)) rfl rfl trivial ?_
  refine o1 rfl (det_neq rfl rfl) rfl rfl trivial ?_
  refine be rfl ?_
  refine k_then ?_
  refine t_condP bne_iff_ne rfl (fun hb => ?_) (fun hb => ?_)
  ·
    have hv : ¬ (validE a && validE b) = true := by
      intro h; rw [if_pos h] at hb; exact hb rfl
    refine t_seq ?_
    refine b0 ?_
    refine o1 rfl (det_build rfl (fun w => bld23_ w)) rfl rfl trivial ?_
    refine stN nofun rfl tN23 rfl rfl rfl .head rfl trivial rfl rfl ?_
    refine o1 rfl (det_assign rfl) rfl rfl trivial ?_
    refine be rfl ?_
    refine k_then ?_
    refine t_ret (k_thenR (?_))
    refine ret_any (vs := [_, _]) rfl rfl ⟨(.cellN tN23 rfl rfl (.head _) rfl), (.tmp rfl), trivial⟩ rfl (fun w1 hs => ?_)
    refine ⟨?_, hs.keep⟩
    rw [opA, if_neg hv]; rfl
  ·
    have hv : (validE a && validE b) = true := by
      cases h : (validE a && validE b) with
      | true => rfl
      | false => rw [if_neg (by rw [h]; simp)] at hb; exact absurd (by decide) hb
    have hva : validE a = true := by simp only [Bool.and_eq_true] at hv; exact hv.1
    have hvb : validE b = true := by simp only [Bool.and_eq_true] at hv; exact hv.2
    have va := valid_parts hva
    have vb := valid_parts hvb
    have m1 := mul_le (a := a.1) (b := b.2) (by omega) (by omega)
    have m2 := mul_le (a := b.1) (b := a.2) (by omega) (by omega)
    have m3 := mul_le (a := a.2) (b := b.2) (by omega) (by omega)
    have m4 := mul_le (a := a.1) (b := b.1) (by omega) (by omega)
    have m5 := mul_le (a := a.2) (b := b.1) (by omega) (by omega)
    refine t_skip ?_
    refine k_then ?_
    refine t_seq ?_
    refine b0 ?_
    refine o1 rfl (det_fieldAddr fld23_0 rfl) rfl rfl trivial ?_
    refine o1 rfl (det_load1 t1_3 rfl rfl (.tail _ (.tail _ (.head _))) rfl) rfl rfl trivial ?_
    refine o1 rfl (det_fieldAddr fld23_1 rfl) rfl rfl trivial ?_
    refine o1 rfl (det_load1 t1_3 rfl rfl (.tail _ (.head _)) rfl) rfl rfl trivial ?_
    first | (refine o1 rfl (det_mulI rfl rfl ?_) rfl rfl trivial ?_; (· omega)) | refine o1 rfl (det_mul rfl rfl) rfl rfl trivial ?_
    refine o1 rfl (det_fieldAddr fld23_0 rfl) rfl rfl trivial ?_
    refine o1 rfl (det_load1 t1_3 rfl rfl (.tail _ (.head _)) rfl) rfl rfl trivial ?_
    refine o1 rfl (det_fieldAddr fld23_1 rfl) rfl rfl trivial ?_
    refine o1 rfl (det_load1 t1_3 rfl rfl (.tail _ (.tail _ (.head _))) rfl) rfl rfl trivial ?_
    first | (refine o1 rfl (det_mulI rfl rfl ?_) rfl rfl trivial ?_; (· omega)) | refine o1 rfl (det_mul rfl rfl) rfl rfl trivial ?_
    first | (refine o1 rfl (det_addI rfl rfl ?_) rfl rfl trivial ?_; (· omega)) | refine o1 rfl (det_add rfl rfl) rfl rfl trivial ?_
    refine o1 rfl (det_fieldAddr fld23_1 rfl) rfl rfl trivial ?_
    refine o1 rfl (det_load1 t1_3 rfl rfl (.tail _ (.tail _ (.head _))) rfl) rfl rfl trivial ?_
    refine o1 rfl (det_fieldAddr fld23_1 rfl) rfl rfl trivial ?_
    refine o1 rfl (det_load1 t1_3 rfl rfl (.tail _ (.head _)) rfl) rfl rfl trivial ?_
    first | (refine o1 rfl (det_mulI rfl rfl ?_) rfl rfl trivial ?_; (· omega)) | refine o1 rfl (det_mul rfl rfl) rfl rfl trivial ?_
    refine o1 rfl (det_call hb11 rfl rfl (fun w1 hs => rmake_ok hs.know _ _)) rfl rfl trivial ?_
    refine o1 rfl (det_extract rfl rfl) rfl rfl trivial ?_
    refine o1 rfl (det_extract rfl rfl) rfl rfl trivial ?_
    refine stN nofun rfl tN23 rfl rfl rfl .head rfl trivial rfl rfl ?_
    refine o1 rfl (det_assign rfl) rfl rfl trivial ?_
    refine be rfl ?_
    refine k_then ?_
    refine t_ret ?_
    refine ret_any (vs := [_, _]) rfl rfl ⟨(.cellN tN23 rfl rfl (.head _) rfl), (.tmp rfl), trivial⟩ rfl (fun w1 hs => ?_)
    refine ⟨?_, hs.keep⟩
    rw [opA, if_pos hv]; rfl

/-- Sub's closure. -/
theorem subC_ok {w : World} {F : Know} (hF : ∀ a v, F a = some v → w.cell? a = some v) {a b : Q} {p2 p3 : Nat} (hv : (validE a && validE b) = true) (ca0 : F ⟨p2, 0, none⟩ = some (.int .i64 a.1)) (ca1 : F ⟨p2, 1, none⟩ = some (.int .i64 a.2)) (cb0 : F ⟨p3, 0, none⟩ = some (.int .i64 b.1)) (cb1 : F ⟨p3, 1, none⟩ = some (.int .i64 b.2)) : Pure Try.prog 46 [.pointer (some ⟨p2, 0, none⟩), .pointer (some ⟨p3, 0, none⟩)] w (.tuple [.int .i64 (subF a b).1, .int .i64 (subF a b).2].toArray) := by
  have hva : validE a = true := by simp only [Bool.and_eq_true] at hv; exact hv.1
  have hvb : validE b = true := by simp only [Bool.and_eq_true] at hv; exact hv.2
  have va := valid_parts hva
  have vb := valid_parts hvb
  have m1 := mul_le (a := a.1) (b := b.2) (by omega) (by omega)
  have m2 := mul_le (a := b.1) (b := a.2) (by omega) (by omega)
  have m3 := mul_le (a := a.2) (b := b.2) (by omega) (by omega)
  have m4 := mul_le (a := a.1) (b := b.1) (by omega) (by omega)
  have m5 := mul_le (a := a.2) (b := b.1) (by omega) (by omega)
  refine fn_pure (F := F) Try.func46 rfl Try.ntmps46 rfl hF ?_
  refine t_seq ?_
  refine b0 ?_
  refine o1 rfl (det_assign rfl) rfl rfl trivial ?_
  refine o1 rfl (det_assign rfl) rfl rfl trivial ?_
  refine be rfl ?_
  refine k_then ?_
  refine t_seq ?_
  refine bD mixed ?_
  refine r_seg 18 18 [] [0, 1, 2, 3, 4, 5, 6, 7, 8, 9, 10, 11, 12, 13, 14, 15, 16, 17] (by kernel_rfl) ?_
  refine s1 rfl (det_fieldAddr fld23_0 rfl) rfl rfl trivial rfl ?_
  refine s1 rfl (det_loadK t1_3 rfl (by rw [add_mk]; exact ca0)) rfl rfl trivial rfl ?_
  refine s1 rfl (det_fieldAddr fld23_1 rfl) rfl rfl trivial rfl ?_
  refine s1 rfl (det_loadK t1_3 rfl (by rw [add_mk]; exact cb1)) rfl rfl trivial rfl ?_
  first | (refine s1 rfl (det_mulI rfl rfl ?_) rfl rfl trivial rfl ?_; (· omega)) | refine s1 rfl (det_mul rfl rfl) rfl rfl trivial rfl ?_
  refine s1 rfl (det_fieldAddr fld23_0 rfl) rfl rfl trivial rfl ?_
  refine s1 rfl (det_loadK t1_3 rfl (by rw [add_mk]; exact cb0)) rfl rfl trivial rfl ?_
  refine s1 rfl (det_fieldAddr fld23_1 rfl) rfl rfl trivial rfl ?_
  refine s1 rfl (det_loadK t1_3 rfl (by rw [add_mk]; exact ca1)) rfl rfl trivial rfl ?_
  first | (refine s1 rfl (det_mulI rfl rfl ?_) rfl rfl trivial rfl ?_; (· omega)) | refine s1 rfl (det_mul rfl rfl) rfl rfl trivial rfl ?_
  first | (refine s1 rfl (det_subI rfl rfl ?_) rfl rfl trivial rfl ?_; (· omega)) | refine s1 rfl (det_sub rfl rfl) rfl rfl trivial rfl ?_
  refine s1 rfl (det_fieldAddr fld23_1 rfl) rfl rfl trivial rfl ?_
  refine s1 rfl (det_loadK t1_3 rfl (by rw [add_mk]; exact ca1)) rfl rfl trivial rfl ?_
  refine s1 rfl (det_fieldAddr fld23_1 rfl) rfl rfl trivial rfl ?_
  refine s1 rfl (det_loadK t1_3 rfl (by rw [add_mk]; exact cb1)) rfl rfl trivial rfl ?_
  first | (refine s1 rfl (det_mulI rfl rfl ?_) rfl rfl trivial rfl ?_; (· omega)) | refine s1 rfl (det_mul rfl rfl) rfl rfl trivial rfl ?_
  refine s1 rfl (det_assign rfl) rfl rfl trivial rfl ?_
  refine s1 rfl (det_assign rfl) rfl rfl trivial rfl ?_
  refine sg_nil ?_
  refine be rfl ?_
  refine k_then ?_
  refine t_ret ?_
  refine ret_tmp2 rfl rfl rfl rfl (fun w1 hs => ?_)
  exact ⟨rfl, hs.keep⟩

/-- rat.Sub. -/
theorem sub_ok {w : World} {F : Know} (hF : ∀ a v, F a = some v → w.cell? a = some v) {a b : Q} (ha : (-9223372036854775808 ≤ a.1 ∧ a.1 ≤ 9223372036854775807) ∧ (-9223372036854775808 ≤ a.2 ∧ a.2 ≤ 9223372036854775807)) (hb : (-9223372036854775808 ≤ b.1 ∧ b.1 ≤ 9223372036854775807) ∧ (-9223372036854775808 ≤ b.2 ∧ b.2 ≤ 9223372036854775807)) : Pure Try.prog 18 [.agg [.int .i64 a.1, .int .i64 a.2].toArray, .agg [.int .i64 b.1, .int .i64 b.2].toArray] w (.tuple [.agg [.int .i64 (opA a b (subF a b)).1.1, .int .i64 (opA a b (subF a b)).1.2].toArray, .int .i64 (opA a b (subF a b)).2].toArray) := by
  refine fn_pure (F := F) Try.func18 rfl Try.ntmps18 rfl hF ?_
  refine t_seq ?_
  refine b0 ?_
  refine om1 rfl (new_boxN rfl) rfl rfl trivial (fun p2 => ?_)
  refine om1 rfl (new_boxN rfl) rfl rfl trivial (fun p3 => ?_)
  refine om1 rfl (new_alloc z23) rfl rfl trivial (fun p4 => ?_)
  refine o1 rfl (det_assign rfl) rfl rfl trivial ?_
  refine be rfl ?_
  refine k_then ?_
  refine t_seq ?_
  refine b0 ?_
  refine o1 rfl (det_loadN tN23 rfl rfl (.tail _ (.tail _ (.head _))) rfl) rfl rfl trivial ?_
  refine o1 rfl (det_loadN tN23 rfl rfl (.tail _ (.head _)) rfl) rfl rfl trivial ?_
  refine o1 rfl (det_makeFunc rfl rfl) rfl rfl trivial ?_
  refine tk_freeze (pre := [_, _]) rfl (fun F1 hF1 hN1 hK1 => ?_)
  refine tk_freeze (pre := [_]) rfl (fun F2 hF2 hN2 hK2 => ?_)
  refine o1 rfl (det_call hb43 rfl rfl (fun w1 hs => (combine_ok hs.know ha hb hb46 (subF a b) fun hv w2 hk => subC_ok hk hv (hF2 _ _ (hK1 0 _ rfl)) (hF2 _ _ (hK1 1 _ rfl)) (hK2 0 _ rfl) (hK2 1 _ rfl)))) rfl rfl trivial ?_
  refine o1 rfl (det_extract rfl rfl) rfl rfl trivial ?_
  refine o1 rfl (det_extract rfl rfl) rfl rfl trivial ?_
  refine stN nofun rfl tN23 rfl rfl rfl .head rfl trivial rfl rfl ?_
  refine o1 rfl (det_assign rfl) rfl rfl trivial ?_
  refine be rfl ?_
  refine k_then ?_
  refine t_ret ?_
  refine ret_any (vs := [_, _]) rfl rfl ⟨(.cellN tN23 rfl rfl (.head _) rfl), (.tmp rfl), trivial⟩ rfl (fun w1 hs => ?_)
  exact ⟨rfl, hs.keep⟩

/-- The reference's Sub. -/
theorem rsub_ok {w : World} {F : Know} (hF : ∀ a v, F a = some v → w.cell? a = some v) {a b : Q} (ha : (-9223372036854775808 ≤ a.1 ∧ a.1 ≤ 9223372036854775807) ∧ (-9223372036854775808 ≤ a.2 ∧ a.2 ≤ 9223372036854775807)) (hb0 : (-9223372036854775808 ≤ b.1 ∧ b.1 ≤ 9223372036854775807) ∧ (-9223372036854775808 ≤ b.2 ∧ b.2 ≤ 9223372036854775807)) : Pure Try.prog 19 [.agg [.int .i64 a.1, .int .i64 a.2].toArray, .agg [.int .i64 b.1, .int .i64 b.2].toArray] w (.tuple [.agg [.int .i64 (opA a b (subF a b)).1.1, .int .i64 (opA a b (subF a b)).1.2].toArray, .int .i64 (opA a b (subF a b)).2].toArray) := by
  refine fn_pure (F := F) Try.func19 rfl Try.ntmps19 rfl hF ?_
  refine t_seq ?_
  refine b0 ?_
  refine om1 rfl (new_boxN rfl) rfl rfl trivial (fun p2 => ?_)
  refine om1 rfl (new_boxN rfl) rfl rfl trivial (fun p3 => ?_)
  refine om1 rfl (new_alloc z23) rfl rfl trivial (fun p4 => ?_)
  refine o1 rfl (det_assign rfl) rfl rfl trivial ?_
  refine be rfl ?_
  refine k_then ?_
  refine t_seq ?_
  refine t_seq ?_
  refine b0 ?_
  refine o1 rfl (det_loadN tN23 rfl rfl (.tail _ (.tail _ (.head _))) rfl) rfl rfl trivial ?_
  refine o1 rfl (det_loadN tN23 rfl rfl (.tail _ (.head _)) rfl) rfl rfl trivial ?_
  refine o1 rfl (det_call hb45 rfl rfl (fun w1 hs => both_ok hs.know ha hb0)) rfl rfl trivial ?_
  refine o1 rfl (det_neq rfl rfl) rfl rfl trivial ?_
  refine be rfl ?_
  refine k_then ?_
  refine t_condP bne_iff_ne rfl (fun hb => ?_) (fun hb => ?_)
  ·
    have hv : ¬ (validE a && validE b) = true := by
      intro h; rw [if_pos h] at hb; exact hb rfl
    refine t_seq ?_
    refine b0 ?_
    refine o1 rfl (det_build rfl (fun w => bld23_ w)) rfl rfl trivial ?_
    refine stN nofun rfl tN23 rfl rfl rfl .head rfl trivial rfl rfl ?_
    refine o1 rfl (det_assign rfl) rfl rfl trivial ?_
    refine be rfl ?_
    refine k_then ?_
    refine t_ret (k_thenR (?_))
    refine ret_any (vs := [_, _]) rfl rfl ⟨(.cellN tN23 rfl rfl (.head _) rfl), (.tmp rfl), trivial⟩ rfl (fun w1 hs => ?_)
    refine ⟨?_, hs.keep⟩
    rw [opA, if_neg hv]; rfl
  ·
    have hv : (validE a && validE b) = true := by
      cases h : (validE a && validE b) with
      | true => rfl
      | false => rw [if_neg (by rw [h]; simp)] at hb; exact absurd (by decide) hb
    have hva : validE a = true := by simp only [Bool.and_eq_true] at hv; exact hv.1
    have hvb : validE b = true := by simp only [Bool.and_eq_true] at hv; exact hv.2
    have va := valid_parts hva
    have vb := valid_parts hvb
    have m1 := mul_le (a := a.1) (b := b.2) (by omega) (by omega)
    have m2 := mul_le (a := b.1) (b := a.2) (by omega) (by omega)
    have m3 := mul_le (a := a.2) (b := b.2) (by omega) (by omega)
    have m4 := mul_le (a := a.1) (b := b.1) (by omega) (by omega)
    have m5 := mul_le (a := a.2) (b := b.1) (by omega) (by omega)
    refine t_skip ?_
    refine k_then ?_
    refine t_seq ?_
    refine b0 ?_
    refine o1 rfl (det_fieldAddr fld23_0 rfl) rfl rfl trivial ?_
    refine o1 rfl (det_load1 t1_3 rfl rfl (.tail _ (.tail _ (.head _))) rfl) rfl rfl trivial ?_
    refine o1 rfl (det_fieldAddr fld23_1 rfl) rfl rfl trivial ?_
    refine o1 rfl (det_load1 t1_3 rfl rfl (.tail _ (.head _)) rfl) rfl rfl trivial ?_
    first | (refine o1 rfl (det_mulI rfl rfl ?_) rfl rfl trivial ?_; (· omega)) | refine o1 rfl (det_mul rfl rfl) rfl rfl trivial ?_
    refine o1 rfl (det_fieldAddr fld23_0 rfl) rfl rfl trivial ?_
    refine o1 rfl (det_load1 t1_3 rfl rfl (.tail _ (.head _)) rfl) rfl rfl trivial ?_
    refine o1 rfl (det_fieldAddr fld23_1 rfl) rfl rfl trivial ?_
    refine o1 rfl (det_load1 t1_3 rfl rfl (.tail _ (.tail _ (.head _))) rfl) rfl rfl trivial ?_
    first | (refine o1 rfl (det_mulI rfl rfl ?_) rfl rfl trivial ?_; (· omega)) | refine o1 rfl (det_mul rfl rfl) rfl rfl trivial ?_
    first | (refine o1 rfl (det_subI rfl rfl ?_) rfl rfl trivial ?_; (· omega)) | refine o1 rfl (det_sub rfl rfl) rfl rfl trivial ?_
    refine o1 rfl (det_fieldAddr fld23_1 rfl) rfl rfl trivial ?_
    refine o1 rfl (det_load1 t1_3 rfl rfl (.tail _ (.tail _ (.head _))) rfl) rfl rfl trivial ?_
    refine o1 rfl (det_fieldAddr fld23_1 rfl) rfl rfl trivial ?_
    refine o1 rfl (det_load1 t1_3 rfl rfl (.tail _ (.head _)) rfl) rfl rfl trivial ?_
    first | (refine o1 rfl (det_mulI rfl rfl ?_) rfl rfl trivial ?_; (· omega)) | refine o1 rfl (det_mul rfl rfl) rfl rfl trivial ?_
    refine o1 rfl (det_call hb11 rfl rfl (fun w1 hs => rmake_ok hs.know _ _)) rfl rfl trivial ?_
    refine o1 rfl (det_extract rfl rfl) rfl rfl trivial ?_
    refine o1 rfl (det_extract rfl rfl) rfl rfl trivial ?_
    refine stN nofun rfl tN23 rfl rfl rfl .head rfl trivial rfl rfl ?_
    refine o1 rfl (det_assign rfl) rfl rfl trivial ?_
    refine be rfl ?_
    refine k_then ?_
    refine t_ret ?_
    refine ret_any (vs := [_, _]) rfl rfl ⟨(.cellN tN23 rfl rfl (.head _) rfl), (.tmp rfl), trivial⟩ rfl (fun w1 hs => ?_)
    refine ⟨?_, hs.keep⟩
    rw [opA, if_pos hv]; rfl

/-- Mul's closure. -/
theorem mulC_ok {w : World} {F : Know} (hF : ∀ a v, F a = some v → w.cell? a = some v) {a b : Q} {p2 p3 : Nat} (hv : (validE a && validE b) = true) (ca0 : F ⟨p2, 0, none⟩ = some (.int .i64 a.1)) (ca1 : F ⟨p2, 1, none⟩ = some (.int .i64 a.2)) (cb0 : F ⟨p3, 0, none⟩ = some (.int .i64 b.1)) (cb1 : F ⟨p3, 1, none⟩ = some (.int .i64 b.2)) : Pure Try.prog 47 [.pointer (some ⟨p2, 0, none⟩), .pointer (some ⟨p3, 0, none⟩)] w (.tuple [.int .i64 (mulF a b).1, .int .i64 (mulF a b).2].toArray) := by
  have hva : validE a = true := by simp only [Bool.and_eq_true] at hv; exact hv.1
  have hvb : validE b = true := by simp only [Bool.and_eq_true] at hv; exact hv.2
  have va := valid_parts hva
  have vb := valid_parts hvb
  have m1 := mul_le (a := a.1) (b := b.2) (by omega) (by omega)
  have m2 := mul_le (a := b.1) (b := a.2) (by omega) (by omega)
  have m3 := mul_le (a := a.2) (b := b.2) (by omega) (by omega)
  have m4 := mul_le (a := a.1) (b := b.1) (by omega) (by omega)
  have m5 := mul_le (a := a.2) (b := b.1) (by omega) (by omega)
  refine fn_pure (F := F) Try.func47 rfl Try.ntmps47 rfl hF ?_
  refine t_seq ?_
  refine b0 ?_
  refine o1 rfl (det_assign rfl) rfl rfl trivial ?_
  refine o1 rfl (det_assign rfl) rfl rfl trivial ?_
  refine be rfl ?_
  refine k_then ?_
  refine t_seq ?_
  refine bD mixed ?_
  refine r_seg 12 12 [] [0, 1, 2, 3, 4, 5, 6, 7, 8, 9, 10, 11] (by kernel_rfl) ?_
  refine s1 rfl (det_fieldAddr fld23_0 rfl) rfl rfl trivial rfl ?_
  refine s1 rfl (det_loadK t1_3 rfl (by rw [add_mk]; exact ca0)) rfl rfl trivial rfl ?_
  refine s1 rfl (det_fieldAddr fld23_0 rfl) rfl rfl trivial rfl ?_
  refine s1 rfl (det_loadK t1_3 rfl (by rw [add_mk]; exact cb0)) rfl rfl trivial rfl ?_
  first | (refine s1 rfl (det_mulI rfl rfl ?_) rfl rfl trivial rfl ?_; (· omega)) | refine s1 rfl (det_mul rfl rfl) rfl rfl trivial rfl ?_
  refine s1 rfl (det_fieldAddr fld23_1 rfl) rfl rfl trivial rfl ?_
  refine s1 rfl (det_loadK t1_3 rfl (by rw [add_mk]; exact ca1)) rfl rfl trivial rfl ?_
  refine s1 rfl (det_fieldAddr fld23_1 rfl) rfl rfl trivial rfl ?_
  refine s1 rfl (det_loadK t1_3 rfl (by rw [add_mk]; exact cb1)) rfl rfl trivial rfl ?_
  first | (refine s1 rfl (det_mulI rfl rfl ?_) rfl rfl trivial rfl ?_; (· omega)) | refine s1 rfl (det_mul rfl rfl) rfl rfl trivial rfl ?_
  refine s1 rfl (det_assign rfl) rfl rfl trivial rfl ?_
  refine s1 rfl (det_assign rfl) rfl rfl trivial rfl ?_
  refine sg_nil ?_
  refine be rfl ?_
  refine k_then ?_
  refine t_ret ?_
  refine ret_tmp2 rfl rfl rfl rfl (fun w1 hs => ?_)
  exact ⟨rfl, hs.keep⟩

/-- rat.Mul. -/
theorem mul_ok {w : World} {F : Know} (hF : ∀ a v, F a = some v → w.cell? a = some v) {a b : Q} (ha : (-9223372036854775808 ≤ a.1 ∧ a.1 ≤ 9223372036854775807) ∧ (-9223372036854775808 ≤ a.2 ∧ a.2 ≤ 9223372036854775807)) (hb : (-9223372036854775808 ≤ b.1 ∧ b.1 ≤ 9223372036854775807) ∧ (-9223372036854775808 ≤ b.2 ∧ b.2 ≤ 9223372036854775807)) : Pure Try.prog 20 [.agg [.int .i64 a.1, .int .i64 a.2].toArray, .agg [.int .i64 b.1, .int .i64 b.2].toArray] w (.tuple [.agg [.int .i64 (opA a b (mulF a b)).1.1, .int .i64 (opA a b (mulF a b)).1.2].toArray, .int .i64 (opA a b (mulF a b)).2].toArray) := by
  refine fn_pure (F := F) Try.func20 rfl Try.ntmps20 rfl hF ?_
  refine t_seq ?_
  refine b0 ?_
  refine om1 rfl (new_boxN rfl) rfl rfl trivial (fun p2 => ?_)
  refine om1 rfl (new_boxN rfl) rfl rfl trivial (fun p3 => ?_)
  refine om1 rfl (new_alloc z23) rfl rfl trivial (fun p4 => ?_)
  refine o1 rfl (det_assign rfl) rfl rfl trivial ?_
  refine be rfl ?_
  refine k_then ?_
  refine t_seq ?_
  refine b0 ?_
  refine o1 rfl (det_loadN tN23 rfl rfl (.tail _ (.tail _ (.head _))) rfl) rfl rfl trivial ?_
  refine o1 rfl (det_loadN tN23 rfl rfl (.tail _ (.head _)) rfl) rfl rfl trivial ?_
  refine o1 rfl (det_makeFunc rfl rfl) rfl rfl trivial ?_
  refine tk_freeze (pre := [_, _]) rfl (fun F1 hF1 hN1 hK1 => ?_)
  refine tk_freeze (pre := [_]) rfl (fun F2 hF2 hN2 hK2 => ?_)
  refine o1 rfl (det_call hb43 rfl rfl (fun w1 hs => (combine_ok hs.know ha hb hb47 (mulF a b) fun hv w2 hk => mulC_ok hk hv (hF2 _ _ (hK1 0 _ rfl)) (hF2 _ _ (hK1 1 _ rfl)) (hK2 0 _ rfl) (hK2 1 _ rfl)))) rfl rfl trivial ?_
  refine o1 rfl (det_extract rfl rfl) rfl rfl trivial ?_
  refine o1 rfl (det_extract rfl rfl) rfl rfl trivial ?_
  refine stN nofun rfl tN23 rfl rfl rfl .head rfl trivial rfl rfl ?_
  refine o1 rfl (det_assign rfl) rfl rfl trivial ?_
  refine be rfl ?_
  refine k_then ?_
  refine t_ret ?_
  refine ret_any (vs := [_, _]) rfl rfl ⟨(.cellN tN23 rfl rfl (.head _) rfl), (.tmp rfl), trivial⟩ rfl (fun w1 hs => ?_)
  exact ⟨rfl, hs.keep⟩

/-- The reference's Mul. -/
theorem rmul_ok {w : World} {F : Know} (hF : ∀ a v, F a = some v → w.cell? a = some v) {a b : Q} (ha : (-9223372036854775808 ≤ a.1 ∧ a.1 ≤ 9223372036854775807) ∧ (-9223372036854775808 ≤ a.2 ∧ a.2 ≤ 9223372036854775807)) (hb0 : (-9223372036854775808 ≤ b.1 ∧ b.1 ≤ 9223372036854775807) ∧ (-9223372036854775808 ≤ b.2 ∧ b.2 ≤ 9223372036854775807)) : Pure Try.prog 21 [.agg [.int .i64 a.1, .int .i64 a.2].toArray, .agg [.int .i64 b.1, .int .i64 b.2].toArray] w (.tuple [.agg [.int .i64 (opA a b (mulF a b)).1.1, .int .i64 (opA a b (mulF a b)).1.2].toArray, .int .i64 (opA a b (mulF a b)).2].toArray) := by
  refine fn_pure (F := F) Try.func21 rfl Try.ntmps21 rfl hF ?_
  refine t_seq ?_
  refine b0 ?_
  refine om1 rfl (new_boxN rfl) rfl rfl trivial (fun p2 => ?_)
  refine om1 rfl (new_boxN rfl) rfl rfl trivial (fun p3 => ?_)
  refine om1 rfl (new_alloc z23) rfl rfl trivial (fun p4 => ?_)
  refine o1 rfl (det_assign rfl) rfl rfl trivial ?_
  refine be rfl ?_
  refine k_then ?_
  refine t_seq ?_
  refine t_seq ?_
  refine b0 ?_
  refine o1 rfl (det_loadN tN23 rfl rfl (.tail _ (.tail _ (.head _))) rfl) rfl rfl trivial ?_
  refine o1 rfl (det_loadN tN23 rfl rfl (.tail _ (.head _)) rfl) rfl rfl trivial ?_
  refine o1 rfl (det_call hb45 rfl rfl (fun w1 hs => both_ok hs.know ha hb0)) rfl rfl trivial ?_
  refine o1 rfl (det_neq rfl rfl) rfl rfl trivial ?_
  refine be rfl ?_
  refine k_then ?_
  refine t_condP bne_iff_ne rfl (fun hb => ?_) (fun hb => ?_)
  ·
    have hv : ¬ (validE a && validE b) = true := by
      intro h; rw [if_pos h] at hb; exact hb rfl
    refine t_seq ?_
    refine b0 ?_
    refine o1 rfl (det_build rfl (fun w => bld23_ w)) rfl rfl trivial ?_
    refine stN nofun rfl tN23 rfl rfl rfl .head rfl trivial rfl rfl ?_
    refine o1 rfl (det_assign rfl) rfl rfl trivial ?_
    refine be rfl ?_
    refine k_then ?_
    refine t_ret (k_thenR (?_))
    refine ret_any (vs := [_, _]) rfl rfl ⟨(.cellN tN23 rfl rfl (.head _) rfl), (.tmp rfl), trivial⟩ rfl (fun w1 hs => ?_)
    refine ⟨?_, hs.keep⟩
    rw [opA, if_neg hv]; rfl
  ·
    have hv : (validE a && validE b) = true := by
      cases h : (validE a && validE b) with
      | true => rfl
      | false => rw [if_neg (by rw [h]; simp)] at hb; exact absurd (by decide) hb
    have hva : validE a = true := by simp only [Bool.and_eq_true] at hv; exact hv.1
    have hvb : validE b = true := by simp only [Bool.and_eq_true] at hv; exact hv.2
    have va := valid_parts hva
    have vb := valid_parts hvb
    have m1 := mul_le (a := a.1) (b := b.2) (by omega) (by omega)
    have m2 := mul_le (a := b.1) (b := a.2) (by omega) (by omega)
    have m3 := mul_le (a := a.2) (b := b.2) (by omega) (by omega)
    have m4 := mul_le (a := a.1) (b := b.1) (by omega) (by omega)
    have m5 := mul_le (a := a.2) (b := b.1) (by omega) (by omega)
    refine t_skip ?_
    refine k_then ?_
    refine t_seq ?_
    refine b0 ?_
    refine o1 rfl (det_fieldAddr fld23_0 rfl) rfl rfl trivial ?_
    refine o1 rfl (det_load1 t1_3 rfl rfl (.tail _ (.tail _ (.head _))) rfl) rfl rfl trivial ?_
    refine o1 rfl (det_fieldAddr fld23_0 rfl) rfl rfl trivial ?_
    refine o1 rfl (det_load1 t1_3 rfl rfl (.tail _ (.head _)) rfl) rfl rfl trivial ?_
    first | (refine o1 rfl (det_mulI rfl rfl ?_) rfl rfl trivial ?_; (· omega)) | refine o1 rfl (det_mul rfl rfl) rfl rfl trivial ?_
    refine o1 rfl (det_fieldAddr fld23_1 rfl) rfl rfl trivial ?_
    refine o1 rfl (det_load1 t1_3 rfl rfl (.tail _ (.tail _ (.head _))) rfl) rfl rfl trivial ?_
    refine o1 rfl (det_fieldAddr fld23_1 rfl) rfl rfl trivial ?_
    refine o1 rfl (det_load1 t1_3 rfl rfl (.tail _ (.head _)) rfl) rfl rfl trivial ?_
    first | (refine o1 rfl (det_mulI rfl rfl ?_) rfl rfl trivial ?_; (· omega)) | refine o1 rfl (det_mul rfl rfl) rfl rfl trivial ?_
    refine o1 rfl (det_call hb11 rfl rfl (fun w1 hs => rmake_ok hs.know _ _)) rfl rfl trivial ?_
    refine o1 rfl (det_extract rfl rfl) rfl rfl trivial ?_
    refine o1 rfl (det_extract rfl rfl) rfl rfl trivial ?_
    refine stN nofun rfl tN23 rfl rfl rfl .head rfl trivial rfl rfl ?_
    refine o1 rfl (det_assign rfl) rfl rfl trivial ?_
    refine be rfl ?_
    refine k_then ?_
    refine t_ret ?_
    refine ret_any (vs := [_, _]) rfl rfl ⟨(.cellN tN23 rfl rfl (.head _) rfl), (.tmp rfl), trivial⟩ rfl (fun w1 hs => ?_)
    refine ⟨?_, hs.keep⟩
    rw [opA, if_pos hv]; rfl

/-- Div's closure. -/
theorem divC_ok {w : World} {F : Know} (hF : ∀ a v, F a = some v → w.cell? a = some v) {a b : Q} {p2 p3 : Nat} (hv : (validE a && validE b) = true) (ca0 : F ⟨p2, 0, none⟩ = some (.int .i64 a.1)) (ca1 : F ⟨p2, 1, none⟩ = some (.int .i64 a.2)) (cb0 : F ⟨p3, 0, none⟩ = some (.int .i64 b.1)) (cb1 : F ⟨p3, 1, none⟩ = some (.int .i64 b.2)) : Pure Try.prog 48 [.pointer (some ⟨p2, 0, none⟩), .pointer (some ⟨p3, 0, none⟩)] w (.tuple [.int .i64 (divF a b).1, .int .i64 (divF a b).2].toArray) := by
  have hva : validE a = true := by simp only [Bool.and_eq_true] at hv; exact hv.1
  have hvb : validE b = true := by simp only [Bool.and_eq_true] at hv; exact hv.2
  have va := valid_parts hva
  have vb := valid_parts hvb
  have m1 := mul_le (a := a.1) (b := b.2) (by omega) (by omega)
  have m2 := mul_le (a := b.1) (b := a.2) (by omega) (by omega)
  have m3 := mul_le (a := a.2) (b := b.2) (by omega) (by omega)
  have m4 := mul_le (a := a.1) (b := b.1) (by omega) (by omega)
  have m5 := mul_le (a := a.2) (b := b.1) (by omega) (by omega)
  refine fn_pure (F := F) Try.func48 rfl Try.ntmps48 rfl hF ?_
  refine t_seq ?_
  refine b0 ?_
  refine o1 rfl (det_assign rfl) rfl rfl trivial ?_
  refine o1 rfl (det_assign rfl) rfl rfl trivial ?_
  refine be rfl ?_
  refine k_then ?_
  refine t_seq ?_
  refine bD mixed ?_
  refine r_seg 12 12 [] [0, 1, 2, 3, 4, 5, 6, 7, 8, 9, 10, 11] (by kernel_rfl) ?_
  refine s1 rfl (det_fieldAddr fld23_0 rfl) rfl rfl trivial rfl ?_
  refine s1 rfl (det_loadK t1_3 rfl (by rw [add_mk]; exact ca0)) rfl rfl trivial rfl ?_
  refine s1 rfl (det_fieldAddr fld23_1 rfl) rfl rfl trivial rfl ?_
  refine s1 rfl (det_loadK t1_3 rfl (by rw [add_mk]; exact cb1)) rfl rfl trivial rfl ?_
  first | (refine s1 rfl (det_mulI rfl rfl ?_) rfl rfl trivial rfl ?_; (· omega)) | refine s1 rfl (det_mul rfl rfl) rfl rfl trivial rfl ?_
  refine s1 rfl (det_fieldAddr fld23_1 rfl) rfl rfl trivial rfl ?_
  refine s1 rfl (det_loadK t1_3 rfl (by rw [add_mk]; exact ca1)) rfl rfl trivial rfl ?_
  refine s1 rfl (det_fieldAddr fld23_0 rfl) rfl rfl trivial rfl ?_
  refine s1 rfl (det_loadK t1_3 rfl (by rw [add_mk]; exact cb0)) rfl rfl trivial rfl ?_
  first | (refine s1 rfl (det_mulI rfl rfl ?_) rfl rfl trivial rfl ?_; (· omega)) | refine s1 rfl (det_mul rfl rfl) rfl rfl trivial rfl ?_
  refine s1 rfl (det_assign rfl) rfl rfl trivial rfl ?_
  refine s1 rfl (det_assign rfl) rfl rfl trivial rfl ?_
  refine sg_nil ?_
  refine be rfl ?_
  refine k_then ?_
  refine t_ret ?_
  refine ret_tmp2 rfl rfl rfl rfl (fun w1 hs => ?_)
  exact ⟨rfl, hs.keep⟩

/-- rat.Div. -/
theorem div_ok {w : World} {F : Know} (hF : ∀ a v, F a = some v → w.cell? a = some v) {a b : Q} (ha : (-9223372036854775808 ≤ a.1 ∧ a.1 ≤ 9223372036854775807) ∧ (-9223372036854775808 ≤ a.2 ∧ a.2 ≤ 9223372036854775807)) (hb : (-9223372036854775808 ≤ b.1 ∧ b.1 ≤ 9223372036854775807) ∧ (-9223372036854775808 ≤ b.2 ∧ b.2 ≤ 9223372036854775807)) : Pure Try.prog 22 [.agg [.int .i64 a.1, .int .i64 a.2].toArray, .agg [.int .i64 b.1, .int .i64 b.2].toArray] w (.tuple [.agg [.int .i64 (opA a b (divF a b)).1.1, .int .i64 (opA a b (divF a b)).1.2].toArray, .int .i64 (opA a b (divF a b)).2].toArray) := by
  refine fn_pure (F := F) Try.func22 rfl Try.ntmps22 rfl hF ?_
  refine t_seq ?_
  refine b0 ?_
  refine om1 rfl (new_boxN rfl) rfl rfl trivial (fun p2 => ?_)
  refine om1 rfl (new_boxN rfl) rfl rfl trivial (fun p3 => ?_)
  refine om1 rfl (new_alloc z23) rfl rfl trivial (fun p4 => ?_)
  refine o1 rfl (det_assign rfl) rfl rfl trivial ?_
  refine be rfl ?_
  refine k_then ?_
  refine t_seq ?_
  refine b0 ?_
  refine o1 rfl (det_loadN tN23 rfl rfl (.tail _ (.tail _ (.head _))) rfl) rfl rfl trivial ?_
  refine o1 rfl (det_loadN tN23 rfl rfl (.tail _ (.head _)) rfl) rfl rfl trivial ?_
  refine o1 rfl (det_makeFunc rfl rfl) rfl rfl trivial ?_
  refine tk_freeze (pre := [_, _]) rfl (fun F1 hF1 hN1 hK1 => ?_)
  refine tk_freeze (pre := [_]) rfl (fun F2 hF2 hN2 hK2 => ?_)
  refine o1 rfl (det_call hb43 rfl rfl (fun w1 hs => (combine_ok hs.know ha hb hb48 (divF a b) fun hv w2 hk => divC_ok hk hv (hF2 _ _ (hK1 0 _ rfl)) (hF2 _ _ (hK1 1 _ rfl)) (hK2 0 _ rfl) (hK2 1 _ rfl)))) rfl rfl trivial ?_
  refine o1 rfl (det_extract rfl rfl) rfl rfl trivial ?_
  refine o1 rfl (det_extract rfl rfl) rfl rfl trivial ?_
  refine stN nofun rfl tN23 rfl rfl rfl .head rfl trivial rfl rfl ?_
  refine o1 rfl (det_assign rfl) rfl rfl trivial ?_
  refine be rfl ?_
  refine k_then ?_
  refine t_ret ?_
  refine ret_any (vs := [_, _]) rfl rfl ⟨(.cellN tN23 rfl rfl (.head _) rfl), (.tmp rfl), trivial⟩ rfl (fun w1 hs => ?_)
  exact ⟨rfl, hs.keep⟩

/-- The reference's Div. -/
theorem rdiv_ok {w : World} {F : Know} (hF : ∀ a v, F a = some v → w.cell? a = some v) {a b : Q} (ha : (-9223372036854775808 ≤ a.1 ∧ a.1 ≤ 9223372036854775807) ∧ (-9223372036854775808 ≤ a.2 ∧ a.2 ≤ 9223372036854775807)) (hb0 : (-9223372036854775808 ≤ b.1 ∧ b.1 ≤ 9223372036854775807) ∧ (-9223372036854775808 ≤ b.2 ∧ b.2 ≤ 9223372036854775807)) : Pure Try.prog 23 [.agg [.int .i64 a.1, .int .i64 a.2].toArray, .agg [.int .i64 b.1, .int .i64 b.2].toArray] w (.tuple [.agg [.int .i64 (opA a b (divF a b)).1.1, .int .i64 (opA a b (divF a b)).1.2].toArray, .int .i64 (opA a b (divF a b)).2].toArray) := by
  refine fn_pure (F := F) Try.func23 rfl Try.ntmps23 rfl hF ?_
  refine t_seq ?_
  refine b0 ?_
  refine om1 rfl (new_boxN rfl) rfl rfl trivial (fun p2 => ?_)
  refine om1 rfl (new_boxN rfl) rfl rfl trivial (fun p3 => ?_)
  refine om1 rfl (new_alloc z23) rfl rfl trivial (fun p4 => ?_)
  refine o1 rfl (det_assign rfl) rfl rfl trivial ?_
  refine be rfl ?_
  refine k_then ?_
  refine t_seq ?_
  refine t_seq ?_
  refine b0 ?_
  refine o1 rfl (det_loadN tN23 rfl rfl (.tail _ (.tail _ (.head _))) rfl) rfl rfl trivial ?_
  refine o1 rfl (det_loadN tN23 rfl rfl (.tail _ (.head _)) rfl) rfl rfl trivial ?_
  refine o1 rfl (det_call hb45 rfl rfl (fun w1 hs => both_ok hs.know ha hb0)) rfl rfl trivial ?_
  refine o1 rfl (det_neq rfl rfl) rfl rfl trivial ?_
  refine be rfl ?_
  refine k_then ?_
  refine t_condP bne_iff_ne rfl (fun hb => ?_) (fun hb => ?_)
  ·
    have hv : ¬ (validE a && validE b) = true := by
      intro h; rw [if_pos h] at hb; exact hb rfl
    refine t_seq ?_
    refine b0 ?_
    refine o1 rfl (det_build rfl (fun w => bld23_ w)) rfl rfl trivial ?_
    refine stN nofun rfl tN23 rfl rfl rfl .head rfl trivial rfl rfl ?_
    refine o1 rfl (det_assign rfl) rfl rfl trivial ?_
    refine be rfl ?_
    refine k_then ?_
    refine t_ret (k_thenR (?_))
    refine ret_any (vs := [_, _]) rfl rfl ⟨(.cellN tN23 rfl rfl (.head _) rfl), (.tmp rfl), trivial⟩ rfl (fun w1 hs => ?_)
    refine ⟨?_, hs.keep⟩
    rw [opA, if_neg hv]; rfl
  ·
    have hv : (validE a && validE b) = true := by
      cases h : (validE a && validE b) with
      | true => rfl
      | false => rw [if_neg (by rw [h]; simp)] at hb; exact absurd (by decide) hb
    have hva : validE a = true := by simp only [Bool.and_eq_true] at hv; exact hv.1
    have hvb : validE b = true := by simp only [Bool.and_eq_true] at hv; exact hv.2
    have va := valid_parts hva
    have vb := valid_parts hvb
    have m1 := mul_le (a := a.1) (b := b.2) (by omega) (by omega)
    have m2 := mul_le (a := b.1) (b := a.2) (by omega) (by omega)
    have m3 := mul_le (a := a.2) (b := b.2) (by omega) (by omega)
    have m4 := mul_le (a := a.1) (b := b.1) (by omega) (by omega)
    have m5 := mul_le (a := a.2) (b := b.1) (by omega) (by omega)
    refine t_skip ?_
    refine k_then ?_
    refine t_seq ?_
    refine b0 ?_
    refine o1 rfl (det_fieldAddr fld23_0 rfl) rfl rfl trivial ?_
    refine o1 rfl (det_load1 t1_3 rfl rfl (.tail _ (.tail _ (.head _))) rfl) rfl rfl trivial ?_
    refine o1 rfl (det_fieldAddr fld23_1 rfl) rfl rfl trivial ?_
    refine o1 rfl (det_load1 t1_3 rfl rfl (.tail _ (.head _)) rfl) rfl rfl trivial ?_
    first | (refine o1 rfl (det_mulI rfl rfl ?_) rfl rfl trivial ?_; (· omega)) | refine o1 rfl (det_mul rfl rfl) rfl rfl trivial ?_
    refine o1 rfl (det_fieldAddr fld23_1 rfl) rfl rfl trivial ?_
    refine o1 rfl (det_load1 t1_3 rfl rfl (.tail _ (.tail _ (.head _))) rfl) rfl rfl trivial ?_
    refine o1 rfl (det_fieldAddr fld23_0 rfl) rfl rfl trivial ?_
    refine o1 rfl (det_load1 t1_3 rfl rfl (.tail _ (.head _)) rfl) rfl rfl trivial ?_
    first | (refine o1 rfl (det_mulI rfl rfl ?_) rfl rfl trivial ?_; (· omega)) | refine o1 rfl (det_mul rfl rfl) rfl rfl trivial ?_
    refine o1 rfl (det_call hb11 rfl rfl (fun w1 hs => rmake_ok hs.know _ _)) rfl rfl trivial ?_
    refine o1 rfl (det_extract rfl rfl) rfl rfl trivial ?_
    refine o1 rfl (det_extract rfl rfl) rfl rfl trivial ?_
    refine stN nofun rfl tN23 rfl rfl rfl .head rfl trivial rfl rfl ?_
    refine o1 rfl (det_assign rfl) rfl rfl trivial ?_
    refine be rfl ?_
    refine k_then ?_
    refine t_ret ?_
    refine ret_any (vs := [_, _]) rfl rfl ⟨(.cellN tN23 rfl rfl (.head _) rfl), (.tmp rfl), trivial⟩ rfl (fun w1 hs => ?_)
    refine ⟨?_, hs.keep⟩
    rw [opA, if_pos hv]; rfl

end Go.Proofs.Rt
