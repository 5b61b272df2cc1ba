/-
  Walks through layer 2 and its reference.
-/
import Derived.Test.YtgogfnkdemkdfaaRtW8
import Derived.Test.YtgogfnkdemkdfaaRtPlain2
namespace Go.Proofs.Rt
open Go Go.Eng Go.Rt
set_option maxRecDepth 4000

/-- The law RatScales. -/
theorem scales_ok {w : World} {F : Know} (hF : ∀ a v, F a = some v → w.cell? a = some v) {n d k : Int} (hk : 0 ≤ k ∧ k ≤ 4294967295) : Pure Try.prog 7 [.int .i64 n, .int .i64 d, .int .u32 k] w (.bool true) := by
  refine fn_pure (F := F) Try.func7 rfl Try.ntmps7 rfl hF ?_
  refine t_seq ?_
  refine b0 ?_
  refine o1 rfl (det_assign rfl) rfl rfl trivial ?_
  refine be rfl ?_
  refine k_then ?_
  refine t_seq ?_
  refine t_seq ?_
  refine b0 ?_
  refine o1 rfl (det_call hb14 rfl rfl (fun w1 hs => works_ok hs.know)) rfl rfl trivial ?_
  refine o1 rfl (det_not rfl) rfl rfl trivial ?_
  refine be rfl ?_
  refine k_then ?_
  refine t_condF rfl ?_
  refine t_skip ?_
  refine k_then ?_
  refine t_seq ?_
  refine b0 ?_
  have hu := u64_rng d
  have hpt := Int.tmod_lt_of_pos n (show (0:Int) < 1073741824 by omega)
  have hpl := Int.lt_tmod_of_pos n (show (0:Int) < 1073741824 by omega)
  have hqm := Int.emod_nonneg (IntKind.u64.wrap d) (show (1073741824:Int) ≠ 0 by omega)
  have hql := Int.emod_lt_of_pos (IntKind.u64.wrap d) (show (0:Int) < 1073741824 by omega)
  refine o1 rfl (det_move rfl) rfl rfl trivial ?_
  first | (refine o1 rfl (det_remP rfl rfl ?_) rfl rfl trivial ?_; (· omega)) | (refine o1 rfl (det_rem rfl rfl ?_) rfl rfl trivial ?_; (· (first | decide | omega)))
  refine o1 rfl (det_move rfl) rfl rfl trivial ?_
  first | (refine o1 rfl (det_convW Try.underlying3 Try.underlying24 rfl ?_) rfl rfl trivial ?_; (· exact IntWalk.u64_in _ (by omega))) | refine o1 rfl (det_conv Try.underlying3 Try.underlying24 rfl) rfl rfl trivial ?_
  first | (refine o1 rfl (det_remP rfl rfl ?_) rfl rfl trivial ?_; (· omega)) | (refine o1 rfl (det_rem rfl rfl ?_) rfl rfl trivial ?_; (· (first | decide | omega)))
  first | (refine o1 rfl (det_convW Try.underlying24 Try.underlying3 rfl ?_) rfl rfl trivial ?_; (· exact IntWalk.i64_in _ (by omega))) | refine o1 rfl (det_conv Try.underlying24 Try.underlying3 rfl) rfl rfl trivial ?_
  first | (refine o1 rfl (det_addI rfl rfl ?_) rfl rfl trivial ?_; (· omega)) | refine o1 rfl (det_add rfl rfl) rfl rfl trivial ?_
  refine o1 rfl (det_move rfl) rfl rfl trivial ?_
  first | (refine o1 rfl (det_convW Try.underlying46 Try.underlying3 rfl ?_) rfl rfl trivial ?_; (· exact IntWalk.i64_in _ (by omega))) | refine o1 rfl (det_conv Try.underlying46 Try.underlying3 rfl) rfl rfl trivial ?_
  first | (refine o1 rfl (det_addI rfl rfl ?_) rfl rfl trivial ?_; (· omega)) | refine o1 rfl (det_add rfl rfl) rfl rfl trivial ?_
  refine o1 rfl (det_assign rfl) rfl rfl trivial ?_
  refine o1 rfl (det_assign rfl) rfl rfl trivial ?_
  refine o1 rfl (det_assign rfl) rfl rfl trivial ?_
  refine be rfl ?_
  refine k_then ?_
  refine t_seq ?_
  refine b0 ?_
  obtain ⟨p, hp⟩ : ∃ p, p = n.tmod 1073741824 := ⟨_, rfl⟩
  obtain ⟨q, hq⟩ : ∃ q, q = 1 + IntKind.u64.wrap d % 1073741824 := ⟨_, rfl⟩
  obtain ⟨f, hf⟩ : ∃ f, f = 1 + k := ⟨_, rfl⟩
  rw [← hp, ← hq, ← hf]
  have hpb : -1073741824 ≤ p ∧ p ≤ 1073741824 := by omega
  have hqb : 1 ≤ q ∧ q ≤ 1073741824 := by omega
  have hfb : 1 ≤ f ∧ f ≤ 4294967296 := by omega
  have hpf : (p * f).natAbs ≤ 1073741824 * 4294967296 := by rw [Int.natAbs_mul]; exact Nat.mul_le_mul (by omega) (by omega)
  have hqf : (q * f).natAbs ≤ 1073741824 * 4294967296 := by rw [Int.natAbs_mul]; exact Nat.mul_le_mul (by omega) (by omega)
  have hnf : (-p) * f = -(p * f) := Int.neg_mul _ _
  have hnq : (-q) * f = -(q * f) := Int.neg_mul _ _
  clear hp hq hf hu hpt hpl hqm hql
  obtain ⟨hm, hv⟩ := make_of (n := p) (d := q) (by omega) hpb (by omega)
  have hs1 : makeA (p * f) (q * f) = makeA p q := make_scale (by omega) hpb (by omega) (by omega) (by unfold wideE; rw [decide_eq_true (by omega)])
  have hs2 : makeA (-p * f) (-q * f) = makeA p q := by
    rw [make_scale (n := -p) (d := -q) (by omega) (by omega) (by omega) (by omega) (by unfold wideE; rw [decide_eq_true (by omega)])]
    have := make_scale (n := p) (d := q) (f := -1) (by omega) hpb (by omega) (by omega) (by unfold wideE; rw [decide_eq_true (by omega)])
    rwa [Int.mul_neg, Int.mul_one, Int.mul_neg, Int.mul_one] at this
  have vp := valid_parts hv
  have hid := make_id hv
  have hcr := red_cross (n := p) (d := q) (by omega)
  have mb1 := mul_le (a := (redE p q).1) (b := q) (by omega) (by omega)
  have mb2 := mul_le (a := p) (b := (redE p q).2) (by omega) (by omega)
  have hm1 : (makeA p q).1 = redE p q := by rw [hm]
  have hm2 : (makeA p q).2 = 0 := by rw [hm]
  refine o1 rfl (det_move rfl) rfl rfl trivial ?_
  refine o1 rfl (det_move rfl) rfl rfl trivial ?_
  refine o1 rfl (det_call hb10 rfl rfl (fun w1 hs => make_ok hs.know _ _)) rfl rfl trivial ?_
  refine o1 rfl (det_move rfl) rfl rfl trivial ?_
  refine o1 rfl (det_extract rfl rfl) rfl rfl trivial ?_
  refine o1 rfl (det_extract rfl rfl) rfl rfl trivial ?_
  refine om1 rfl (new_alloc z23) rfl rfl trivial (fun p10 => ?_)
  refine stN nofun rfl tN23 rfl rfl rfl .head rfl trivial rfl rfl ?_
  refine o1 rfl (det_assign rfl) rfl rfl trivial ?_
  refine be rfl ?_
  refine k_then ?_
  refine t_seq ?_
  refine b0 ?_
  refine o1 rfl (det_move rfl) rfl rfl trivial ?_
  refine o1 rfl (det_move rfl) rfl rfl trivial ?_
  first | (refine o1 rfl (det_mulI rfl rfl ?_) rfl rfl trivial ?_; (· omega)) | refine o1 rfl (det_mul rfl rfl) rfl rfl trivial ?_
  refine o1 rfl (det_move rfl) rfl rfl trivial ?_
  refine o1 rfl (det_move rfl) rfl rfl trivial ?_
  first | (refine o1 rfl (det_mulI rfl rfl ?_) rfl rfl trivial ?_; (· omega)) | refine o1 rfl (det_mul rfl rfl) rfl rfl trivial ?_
  refine o1 rfl (det_call hb10 rfl rfl (fun w1 hs => make_ok hs.know _ _)) rfl rfl trivial ?_
  refine o1 rfl (det_move rfl) rfl rfl trivial ?_
  refine o1 rfl (det_extract rfl rfl) rfl rfl trivial ?_
  refine o1 rfl (det_extract rfl rfl) rfl rfl trivial ?_
  refine om1 rfl (new_alloc z23) rfl rfl trivial (fun p12 => ?_)
  refine stN nofun rfl tN23 rfl rfl rfl .head rfl trivial rfl rfl ?_
  refine o1 rfl (det_assign rfl) rfl rfl trivial ?_
  refine be rfl ?_
  refine k_then ?_
  refine t_seq ?_
  refine b0 ?_
  refine o1 rfl (det_move rfl) rfl rfl trivial ?_
  first | (refine o1 rfl (det_negI rfl ?_) rfl rfl trivial ?_; (· omega)) | refine o1 rfl (det_neg rfl) rfl rfl trivial ?_
  refine o1 rfl (det_move rfl) rfl rfl trivial ?_
  first | (refine o1 rfl (det_mulI rfl rfl ?_) rfl rfl trivial ?_; (· omega)) | refine o1 rfl (det_mul rfl rfl) rfl rfl trivial ?_
  refine o1 rfl (det_move rfl) rfl rfl trivial ?_
  first | (refine o1 rfl (det_negI rfl ?_) rfl rfl trivial ?_; (· omega)) | refine o1 rfl (det_neg rfl) rfl rfl trivial ?_
  refine o1 rfl (det_move rfl) rfl rfl trivial ?_
  first | (refine o1 rfl (det_mulI rfl rfl ?_) rfl rfl trivial ?_; (· omega)) | refine o1 rfl (det_mul rfl rfl) rfl rfl trivial ?_
  refine o1 rfl (det_call hb10 rfl rfl (fun w1 hs => make_ok hs.know _ _)) rfl rfl trivial ?_
  refine o1 rfl (det_move rfl) rfl rfl trivial ?_
  refine o1 rfl (det_extract rfl rfl) rfl rfl trivial ?_
  refine o1 rfl (det_extract rfl rfl) rfl rfl trivial ?_
  refine om1 rfl (new_alloc z23) rfl rfl trivial (fun p14 => ?_)
  refine stN nofun rfl tN23 rfl rfl rfl .head rfl trivial rfl rfl ?_
  refine o1 rfl (det_assign rfl) rfl rfl trivial ?_
  refine be rfl ?_
  refine k_then ?_
  refine t_seq ?_
  refine b0 ?_
  refine o1 rfl (det_fieldAddr fld23_0 rfl) rfl rfl trivial ?_
  refine o1 rfl (det_load1 t1_3 rfl rfl (.tail _ (.tail _ (.head _))) rfl) rfl rfl trivial ?_
  refine o1 rfl (det_fieldAddr fld23_1 rfl) rfl rfl trivial ?_
  refine o1 rfl (det_load1 t1_3 rfl rfl (.tail _ (.tail _ (.head _))) rfl) rfl rfl trivial ?_
  refine o1 rfl (det_call hb10 rfl rfl (fun w1 hs => make_ok hs.know _ _)) rfl rfl trivial ?_
  refine o1 rfl (det_move rfl) rfl rfl trivial ?_
  refine o1 rfl (det_extract rfl rfl) rfl rfl trivial ?_
  refine o1 rfl (det_extract rfl rfl) rfl rfl trivial ?_
  refine om1 rfl (new_alloc z23) rfl rfl trivial (fun p16 => ?_)
  refine stN nofun rfl tN23 rfl rfl rfl .head rfl trivial rfl rfl ?_
  refine o1 rfl (det_assign rfl) rfl rfl trivial ?_
  refine be rfl ?_
  refine k_then ?_
  refine t_seq ?_
  refine b0 ?_
  refine o1 rfl (det_move rfl) rfl rfl trivial ?_
  refine o1 rfl (det_eql rfl rfl) rfl rfl trivial ?_
  refine o2P beq_iff_eq rfl (det_move rfl) rfl rfl trivial (fun hb => ?_) (fun hb => ?_)
  rotate_left
  · exfalso; exact hb (by first | exact hm2 | (rw [hs1, hm2]; done) | (rw [hs2, hm2]; done) | (rw [hm1, hid]; done) | (rw [hm1, hid]; simp; done) | (rw [hs1]; simp; done) | (rw [hs2]; simp; done) | (rw [if_pos hv]; done) | (rw [hm1, if_pos hv]; done))
  refine o1 rfl (det_move rfl) rfl rfl ⟨_, rfl, rfl⟩ ?_
  refine o1 rfl (det_eql rfl rfl) rfl rfl ⟨_, rfl, rfl⟩ ?_
  refine o1 rfl (det_pickT rfl rfl) rfl rfl trivial ?_
  refine o2P beq_iff_eq rfl (det_move rfl) rfl rfl trivial (fun hb => ?_) (fun hb => ?_)
  rotate_left
  · exfalso; exact hb (by first | exact hm2 | (rw [hs1, hm2]; done) | (rw [hs2, hm2]; done) | (rw [hm1, hid]; done) | (rw [hm1, hid]; simp; done) | (rw [hs1]; simp; done) | (rw [hs2]; simp; done) | (rw [if_pos hv]; done) | (rw [hm1, if_pos hv]; done))
  refine o1 rfl (det_move rfl) rfl rfl ⟨_, rfl, rfl⟩ ?_
  refine o1 rfl (det_eql rfl rfl) rfl rfl ⟨_, rfl, rfl⟩ ?_
  refine o1 rfl (det_pickT rfl rfl) rfl rfl trivial ?_
  refine o2P beq_iff_eq rfl (det_move rfl) rfl rfl trivial (fun hb => ?_) (fun hb => ?_)
  rotate_left
  · exfalso; exact hb (by first | exact hm2 | (rw [hs1, hm2]; done) | (rw [hs2, hm2]; done) | (rw [hm1, hid]; done) | (rw [hm1, hid]; simp; done) | (rw [hs1]; simp; done) | (rw [hs2]; simp; done) | (rw [if_pos hv]; done) | (rw [hm1, if_pos hv]; done))
  refine o1 rfl (det_move rfl) rfl rfl ⟨_, rfl, rfl⟩ ?_
  refine o1 rfl (det_eql rfl rfl) rfl rfl ⟨_, rfl, rfl⟩ ?_
  refine o1 rfl (det_pickT rfl rfl) rfl rfl trivial ?_
  refine o2P beq_iff_eq rfl (det_move rfl) rfl rfl trivial (fun hb => ?_) (fun hb => ?_)
  rotate_left
  · exfalso; exact hb (by first | exact hm2 | (rw [hs1, hm2]; done) | (rw [hs2, hm2]; done) | (rw [hm1, hid]; done) | (rw [hm1, hid]; simp; done) | (rw [hs1]; simp; done) | (rw [hs2]; simp; done) | (rw [if_pos hv]; done) | (rw [hm1, if_pos hv]; done))
  refine o1 rfl (det_loadN tN23 rfl rfl (.tail _ (.tail _ (.tail _ (.head _)))) rfl) rfl rfl ⟨_, rfl, rfl⟩ ?_
  refine o1 rfl (det_loadN tN23 rfl rfl (.tail _ (.tail _ (.head _))) rfl) rfl rfl ⟨_, rfl, rfl⟩ ?_
  refine o1 rfl (det_eqlS rfl rfl eqg23 (fun w => eq23 _ _ _ _ w)) rfl rfl ⟨_, rfl, rfl⟩ ?_
  refine o1 rfl (det_pickT rfl rfl) rfl rfl trivial ?_
  refine o2P Iff.rfl rfl (det_move rfl) rfl rfl trivial (fun hb => ?_) (fun hb => ?_)
  rotate_left
  · exfalso; exact hb (by first | exact hm2 | (rw [hs1, hm2]; done) | (rw [hs2, hm2]; done) | (rw [hm1, hid]; done) | (rw [hm1, hid]; simp; done) | (rw [hs1]; simp; done) | (rw [hs2]; simp; done) | (rw [if_pos hv]; done) | (rw [hm1, if_pos hv]; done))
  refine o1 rfl (det_loadN tN23 rfl rfl (.tail _ (.tail _ (.tail _ (.head _)))) rfl) rfl rfl ⟨_, rfl, rfl⟩ ?_
  refine o1 rfl (det_loadN tN23 rfl rfl (.tail _ (.head _)) rfl) rfl rfl ⟨_, rfl, rfl⟩ ?_
  refine o1 rfl (det_eqlS rfl rfl eqg23 (fun w => eq23 _ _ _ _ w)) rfl rfl ⟨_, rfl, rfl⟩ ?_
  refine o1 rfl (det_pickT rfl rfl) rfl rfl trivial ?_
  refine o2P Iff.rfl rfl (det_move rfl) rfl rfl trivial (fun hb => ?_) (fun hb => ?_)
  rotate_left
  · exfalso; exact hb (by first | exact hm2 | (rw [hs1, hm2]; done) | (rw [hs2, hm2]; done) | (rw [hm1, hid]; done) | (rw [hm1, hid]; simp; done) | (rw [hs1]; simp; done) | (rw [hs2]; simp; done) | (rw [if_pos hv]; done) | (rw [hm1, if_pos hv]; done))
  refine o1 rfl (det_loadN tN23 rfl rfl (.tail _ (.tail _ (.tail _ (.head _)))) rfl) rfl rfl ⟨_, rfl, rfl⟩ ?_
  refine o1 rfl (det_loadN tN23 rfl rfl (.head _) rfl) rfl rfl ⟨_, rfl, rfl⟩ ?_
  refine o1 rfl (det_eqlS rfl rfl eqg23 (fun w => eq23 _ _ _ _ w)) rfl rfl ⟨_, rfl, rfl⟩ ?_
  refine o1 rfl (det_pickT rfl rfl) rfl rfl trivial ?_
  refine o2P Iff.rfl rfl (det_move rfl) rfl rfl trivial (fun hb => ?_) (fun hb => ?_)
  rotate_left
  · exfalso; exact hb (by first | exact hm2 | (rw [hs1, hm2]; done) | (rw [hs2, hm2]; done) | (rw [hm1, hid]; done) | (rw [hm1, hid]; simp; done) | (rw [hs1]; simp; done) | (rw [hs2]; simp; done) | (rw [if_pos hv]; done) | (rw [hm1, if_pos hv]; done))
  refine o1 rfl (det_loadN tN23 rfl rfl (.tail _ (.tail _ (.tail _ (.head _)))) rfl) rfl rfl ⟨_, rfl, rfl⟩ ?_
  refine o1 rfl (det_call hb12 rfl rfl (fun w1 hs => check2 hs.know (by rw [hm1]; omega))) rfl rfl ⟨_, rfl, rfl⟩ ?_
  refine o1 rfl (det_eql rfl rfl) rfl rfl ⟨_, rfl, rfl⟩ ?_
  refine o1 rfl (det_pickT rfl rfl) rfl rfl trivial ?_
  refine o2P beq_iff_eq rfl (det_move rfl) rfl rfl trivial (fun hb => ?_) (fun hb => ?_)
  rotate_left
  · exfalso; exact hb (by first | exact hm2 | (rw [hs1, hm2]; done) | (rw [hs2, hm2]; done) | (rw [hm1, hid]; done) | (rw [hm1, hid]; simp; done) | (rw [hs1]; simp; done) | (rw [hs2]; simp; done) | (rw [if_pos hv]; done) | (rw [hm1, if_pos hv]; done))
  rw [hm1]
  refine o1 rfl (det_fieldAddr fld23_0 rfl) rfl rfl ⟨_, rfl, rfl⟩ ?_
  refine o1 rfl (det_load1 t1_3 rfl rfl (.tail _ (.tail _ (.tail _ (.head _)))) rfl) rfl rfl ⟨_, rfl, rfl⟩ ?_
  refine o1 rfl (det_move rfl) rfl rfl ⟨_, rfl, rfl⟩ ?_
  first | (refine o1 rfl (det_mulI rfl rfl ?_) rfl rfl ⟨_, rfl, rfl⟩ ?_; (· omega)) | refine o1 rfl (det_mul rfl rfl) rfl rfl ⟨_, rfl, rfl⟩ ?_
  refine o1 rfl (det_move rfl) rfl rfl ⟨_, rfl, rfl⟩ ?_
  refine o1 rfl (det_fieldAddr fld23_1 rfl) rfl rfl ⟨_, rfl, rfl⟩ ?_
  refine o1 rfl (det_load1 t1_3 rfl rfl (.tail _ (.tail _ (.tail _ (.head _)))) rfl) rfl rfl ⟨_, rfl, rfl⟩ ?_
  first | (refine o1 rfl (det_mulI rfl rfl ?_) rfl rfl ⟨_, rfl, rfl⟩ ?_; (· omega)) | refine o1 rfl (det_mul rfl rfl) rfl rfl ⟨_, rfl, rfl⟩ ?_
  refine o1 rfl (det_eql rfl rfl) rfl rfl ⟨_, rfl, rfl⟩ ?_
  refine o1 rfl (det_pickT rfl rfl) rfl rfl trivial ?_
  refine o1 rfl (det_assign rfl) rfl rfl trivial ?_
  refine be rfl ?_
  refine k_then ?_
  refine t_ret ?_
  refine ret_tmp rfl rfl rfl (fun w1 hs => ?_)
  refine ⟨?_, hs.keep⟩
  rw [hcr]; simp

end Go.Proofs.Rt
