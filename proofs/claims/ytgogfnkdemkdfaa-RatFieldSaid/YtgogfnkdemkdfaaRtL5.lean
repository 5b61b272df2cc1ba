/-
  Walks through layer 2 and its reference.
-/
import Derived.Test.YtgogfnkdemkdfaaRtW8
import Derived.Test.YtgogfnkdemkdfaaRtPlain5
namespace Go.Proofs.Rt
open Go Go.Eng Go.Rt
set_option maxRecDepth 4000

/-- The law RatField. -/
theorem field_ok {w : World} {F : Know} (hF : ∀ a v, F a = some v → w.cell? a = some v) {n0 n1 n2 d0 d1 d2 : Int} (hn0 : -128 ≤ n0 ∧ n0 ≤ 127) (hd0 : 0 ≤ d0 ∧ d0 ≤ 255) (hn1 : -128 ≤ n1 ∧ n1 ≤ 127) (hd1 : 0 ≤ d1 ∧ d1 ≤ 255) (hn2 : -128 ≤ n2 ∧ n2 ≤ 127) (hd2 : 0 ≤ d2 ∧ d2 ≤ 255) : Pure Try.prog 5 [.agg [.int .i8 n0, .int .i8 n1, .int .i8 n2].toArray, .agg [.int .u8 d0, .int .u8 d1, .int .u8 d2].toArray] w (.bool true) := by
  refine fn_pure (F := F) Try.func5 rfl Try.ntmps5 rfl hF ?_
  refine t_seq ?_
  refine b0 ?_
  refine om1 rfl (new_boxN rfl) rfl rfl trivial (fun p2 => ?_)
  refine om1 rfl (new_boxN rfl) rfl rfl trivial (fun p3 => ?_)
  refine o1 rfl (det_assign rfl) rfl rfl trivial ?_
  refine be rfl ?_
  refine k_then ?_
  refine t_seq ?_
  refine t_seq ?_
  refine b0 ?_
  refine o1 rfl (det_call hb14 rfl rfl (fun w1 hs => works_ok hs.know)) rfl rfl trivial ?_
  refine o1 rfl (det_not rfl) rfl rfl trivial ?_
  refine be rfl ?_
  refine k_then ?_
  refine t_condF rfl ?_
  refine t_skip ?_
  refine k_then ?_
  refine t_seq ?_
  refine bD mixed ?_
  refine r_seg 21 18 [15, 16, 17] [0, 1, 2, 3, 4, 5, 6, 7, 8, 9, 10, 11, 12, 13, 14, 15, 16, 17] (by kernel_rfl) ?_
  first | (refine s1 rfl (det_indexAddrA ar39 rfl rfl ?_) rfl rfl trivial rfl ?_; (· (first | decide | omega)))
  refine s1 rfl (det_load1 t1_38 rfl rfl (.tail _ (.head _)) rfl) rfl rfl trivial rfl ?_
  first | (refine s1 rfl (det_indexAddrA ar40 rfl rfl ?_) rfl rfl trivial rfl ?_; (· (first | decide | omega)))
  refine s1 rfl (det_load1 t1_5 rfl rfl (.head _) rfl) rfl rfl trivial rfl ?_
  refine s1 rfl (det_call hb24 rfl rfl (fun w1 hs => small_ok hs.know hn0 hd0)) rfl rfl trivial rfl ?_
  first | (refine s1 rfl (det_indexAddrA ar39 rfl rfl ?_) rfl rfl trivial rfl ?_; (· (first | decide | omega)))
  refine s1 rfl (det_load1 t1_38 rfl rfl (.tail _ (.head _)) rfl) rfl rfl trivial rfl ?_
  first | (refine s1 rfl (det_indexAddrA ar40 rfl rfl ?_) rfl rfl trivial rfl ?_; (· (first | decide | omega)))
  refine s1 rfl (det_load1 t1_5 rfl rfl (.head _) rfl) rfl rfl trivial rfl ?_
  refine s1 rfl (det_call hb24 rfl rfl (fun w1 hs => small_ok hs.know hn1 hd1)) rfl rfl trivial rfl ?_
  first | (refine s1 rfl (det_indexAddrA ar39 rfl rfl ?_) rfl rfl trivial rfl ?_; (· (first | decide | omega)))
  refine s1 rfl (det_load1 t1_38 rfl rfl (.tail _ (.head _)) rfl) rfl rfl trivial rfl ?_
  first | (refine s1 rfl (det_indexAddrA ar40 rfl rfl ?_) rfl rfl trivial rfl ?_; (· (first | decide | omega)))
  refine s1 rfl (det_load1 t1_5 rfl rfl (.head _) rfl) rfl rfl trivial rfl ?_
  refine s1 rfl (det_call hb24 rfl rfl (fun w1 hs => small_ok hs.know hn2 hd2)) rfl rfl trivial rfl ?_
  refine sm1 rfl (new_alloc z23) rfl rfl trivial rfl (fun p5 => ?_)
  refine sm1 rfl (new_alloc z23) rfl rfl trivial rfl (fun p6 => ?_)
  refine sm1 rfl (new_alloc z23) rfl rfl trivial rfl (fun p7 => ?_)
  refine sg_nil ?_
  refine stN (fun _ => by kernel_rfl) rfl tN23 rfl rfl rfl (.tail (.tail .head)) rfl trivial rfl rfl ?_
  refine stN (fun _ => by kernel_rfl) rfl tN23 rfl rfl rfl (.tail .head) rfl trivial rfl rfl ?_
  refine stN (fun _ => by kernel_rfl) rfl tN23 rfl rfl rfl .head rfl trivial rfl rfl ?_
  refine be rfl ?_
  refine k_then ?_
  refine t_seq ?_
  refine b0 ?_
  have bA := smallR hn0 hd0
  have bB := smallR hn1 hd1
  have bC := smallR hn2 hd2
  generalize (smallE n0 d0).1 = an at *
  generalize (smallE n0 d0).2 = ad at *
  generalize (smallE n1 d1).1 = bn at *
  generalize (smallE n1 d1).2 = bd at *
  generalize (smallE n2 d2).1 = cn at *
  generalize (smallE n2 d2).2 = cd at *
  obtain ⟨abn, abd, len, led, bcn, bcd, xn, xd, pn, pd, zn, zd, aln, ald, acn, acd, R⟩ := field_facts bA bB bC
  clear bA bB bC
  refine o1 rfl (det_loadN tN23 rfl rfl (.tail _ (.tail _ (.head _))) rfl) rfl rfl trivial ?_
  refine o1 rfl (det_loadN tN23 rfl rfl (.tail _ (.head _)) rfl) rfl rfl trivial ?_
  refine o1 rfl (det_call hb16 rfl rfl (fun w1 hs => (as2 (add4 hs.know (R.ba.rng (by decide) (by decide)) (R.bb.rng (by decide) (by decide))) R.ab))) rfl rfl trivial ?_
  refine o1 rfl (det_move rfl) rfl rfl trivial ?_
  refine o1 rfl (det_extract rfl rfl) rfl rfl trivial ?_
  refine o1 rfl (det_extract rfl rfl) rfl rfl trivial ?_
  refine om1 rfl (new_alloc z23) rfl rfl trivial (fun p8 => ?_)
  refine stN nofun rfl tN23 rfl rfl rfl .head rfl trivial rfl rfl ?_
  refine o1 rfl (det_assign rfl) rfl rfl trivial ?_
  refine be rfl ?_
  refine k_then ?_
  refine t_seq ?_
  refine b0 ?_
  refine o1 rfl (det_loadN tN23 rfl rfl (.tail _ (.tail _ (.head _))) rfl) rfl rfl trivial ?_
  refine o1 rfl (det_loadN tN23 rfl rfl (.tail _ (.tail _ (.tail _ (.head _)))) rfl) rfl rfl trivial ?_
  refine o1 rfl (det_call hb16 rfl rfl (fun w1 hs => (as2 (add4 hs.know (R.bb.rng (by decide) (by decide)) (R.ba.rng (by decide) (by decide))) R.ba'))) rfl rfl trivial ?_
  refine o1 rfl (det_move rfl) rfl rfl trivial ?_
  refine o1 rfl (det_extract rfl rfl) rfl rfl trivial ?_
  refine o1 rfl (det_extract rfl rfl) rfl rfl trivial ?_
  refine om1 rfl (new_alloc z23) rfl rfl trivial (fun p10 => ?_)
  refine stN nofun rfl tN23 rfl rfl rfl .head rfl trivial rfl rfl ?_
  refine o1 rfl (det_assign rfl) rfl rfl trivial ?_
  refine be rfl ?_
  refine k_then ?_
  refine t_seq ?_
  refine b0 ?_
  refine o1 rfl (det_loadN tN23 rfl rfl (.tail _ (.head _)) rfl) rfl rfl trivial ?_
  refine o1 rfl (det_loadN tN23 rfl rfl (.tail _ (.tail _ (.head _))) rfl) rfl rfl trivial ?_
  refine o1 rfl (det_call hb16 rfl rfl (fun w1 hs => (as2 (add4 hs.know (R.bab.rng (by decide) (by decide)) (R.bc.rng (by decide) (by decide))) R.le))) rfl rfl trivial ?_
  refine o1 rfl (det_move rfl) rfl rfl trivial ?_
  refine o1 rfl (det_extract rfl rfl) rfl rfl trivial ?_
  refine o1 rfl (det_extract rfl rfl) rfl rfl trivial ?_
  refine om1 rfl (new_alloc z23) rfl rfl trivial (fun p12 => ?_)
  refine stN nofun rfl tN23 rfl rfl rfl .head rfl trivial rfl rfl ?_
  refine o1 rfl (det_assign rfl) rfl rfl trivial ?_
  refine be rfl ?_
  refine k_then ?_
  refine t_seq ?_
  refine b0 ?_
  refine o1 rfl (det_loadN tN23 rfl rfl (.tail _ (.tail _ (.tail _ (.tail _ (.head _))))) rfl) rfl rfl trivial ?_
  refine o1 rfl (det_loadN tN23 rfl rfl (.tail _ (.tail _ (.tail _ (.head _)))) rfl) rfl rfl trivial ?_
  refine o1 rfl (det_call hb16 rfl rfl (fun w1 hs => (as2 (add4 hs.know (R.bb.rng (by decide) (by decide)) (R.bc.rng (by decide) (by decide))) R.bc'))) rfl rfl trivial ?_
  refine o1 rfl (det_move rfl) rfl rfl trivial ?_
  refine o1 rfl (det_extract rfl rfl) rfl rfl trivial ?_
  refine o1 rfl (det_extract rfl rfl) rfl rfl trivial ?_
  refine om1 rfl (new_alloc z23) rfl rfl trivial (fun p14 => ?_)
  refine stN nofun rfl tN23 rfl rfl rfl .head rfl trivial rfl rfl ?_
  refine o1 rfl (det_assign rfl) rfl rfl trivial ?_
  refine be rfl ?_
  refine k_then ?_
  refine t_seq ?_
  refine b0 ?_
  refine o1 rfl (det_loadN tN23 rfl rfl (.tail _ (.tail _ (.tail _ (.tail _ (.tail _ (.tail _ (.head _))))))) rfl) rfl rfl trivial ?_
  refine o1 rfl (det_loadN tN23 rfl rfl (.head _) rfl) rfl rfl trivial ?_
  refine o1 rfl (det_call hb16 rfl rfl (fun w1 hs => (as2 (add4 hs.know (R.ba.rng (by decide) (by decide)) (R.bbc.rng (by decide) (by decide))) R.ri))) rfl rfl trivial ?_
  refine o1 rfl (det_move rfl) rfl rfl trivial ?_
  refine o1 rfl (det_extract rfl rfl) rfl rfl trivial ?_
  refine o1 rfl (det_extract rfl rfl) rfl rfl trivial ?_
  refine om1 rfl (new_alloc z23) rfl rfl trivial (fun p16 => ?_)
  refine stN nofun rfl tN23 rfl rfl rfl .head rfl trivial rfl rfl ?_
  refine o1 rfl (det_assign rfl) rfl rfl trivial ?_
  refine be rfl ?_
  refine k_then ?_
  refine t_seq ?_
  refine b0 ?_
  refine o1 rfl (det_loadN tN23 rfl rfl (.tail _ (.tail _ (.tail _ (.tail _ (.head _))))) rfl) rfl rfl trivial ?_
  refine o1 rfl (det_loadN tN23 rfl rfl (.tail _ (.tail _ (.tail _ (.tail _ (.tail _ (.tail _ (.head _))))))) rfl) rfl rfl trivial ?_
  refine o1 rfl (det_call hb18 rfl rfl (fun w1 hs => (as2 (sub4 hs.know (R.bab.rng (by decide) (by decide)) (R.bb.rng (by decide) (by decide))) R.bk))) rfl rfl trivial ?_
  refine o1 rfl (det_move rfl) rfl rfl trivial ?_
  refine o1 rfl (det_extract rfl rfl) rfl rfl trivial ?_
  refine o1 rfl (det_extract rfl rfl) rfl rfl trivial ?_
  refine om1 rfl (new_alloc z23) rfl rfl trivial (fun p18 => ?_)
  refine stN nofun rfl tN23 rfl rfl rfl .head rfl trivial rfl rfl ?_
  refine o1 rfl (det_assign rfl) rfl rfl trivial ?_
  refine be rfl ?_
  refine k_then ?_
  refine t_seq ?_
  refine t_seq ?_
  refine b0 ?_
  refine o1 rfl (det_move rfl) rfl rfl trivial ?_
  refine o1 rfl (det_neq rfl rfl) rfl rfl trivial ?_
  refine o2P bne_iff_ne rfl (det_move rfl) rfl rfl trivial (fun hb => ?_) (fun hb => ?_)
  · exfalso; first | exact hb rfl | (simp at hb; done)
  refine o1 rfl (det_move rfl) rfl rfl ⟨_, rfl, rfl⟩ ?_
  refine o1 rfl (det_neq rfl rfl) rfl rfl ⟨_, rfl, rfl⟩ ?_
  refine o1 rfl (det_pickF rfl rfl) rfl rfl trivial ?_
  refine o2P bne_iff_ne rfl (det_move rfl) rfl rfl trivial (fun hb => ?_) (fun hb => ?_)
  · exfalso; first | exact hb rfl | (simp at hb; done)
  refine o1 rfl (det_move rfl) rfl rfl ⟨_, rfl, rfl⟩ ?_
  refine o1 rfl (det_neq rfl rfl) rfl rfl ⟨_, rfl, rfl⟩ ?_
  refine o1 rfl (det_pickF rfl rfl) rfl rfl trivial ?_
  refine o2P bne_iff_ne rfl (det_move rfl) rfl rfl trivial (fun hb => ?_) (fun hb => ?_)
  · exfalso; first | exact hb rfl | (simp at hb; done)
  refine o1 rfl (det_move rfl) rfl rfl ⟨_, rfl, rfl⟩ ?_
  refine o1 rfl (det_neq rfl rfl) rfl rfl ⟨_, rfl, rfl⟩ ?_
  refine o1 rfl (det_pickF rfl rfl) rfl rfl trivial ?_
  refine o2P bne_iff_ne rfl (det_move rfl) rfl rfl trivial (fun hb => ?_) (fun hb => ?_)
  · exfalso; first | exact hb rfl | (simp at hb; done)
  refine o1 rfl (det_move rfl) rfl rfl ⟨_, rfl, rfl⟩ ?_
  refine o1 rfl (det_neq rfl rfl) rfl rfl ⟨_, rfl, rfl⟩ ?_
  refine o1 rfl (det_pickF rfl rfl) rfl rfl trivial ?_
  refine o2P bne_iff_ne rfl (det_move rfl) rfl rfl trivial (fun hb => ?_) (fun hb => ?_)
  · exfalso; first | exact hb rfl | (simp at hb; done)
  refine o1 rfl (det_move rfl) rfl rfl ⟨_, rfl, rfl⟩ ?_
  refine o1 rfl (det_neq rfl rfl) rfl rfl ⟨_, rfl, rfl⟩ ?_
  refine o1 rfl (det_pickF rfl rfl) rfl rfl trivial ?_
  refine o2P bne_iff_ne rfl (det_move rfl) rfl rfl trivial (fun hb => ?_) (fun hb => ?_)
  · exfalso; first | exact hb rfl | (simp at hb; done)
  refine o1 rfl (det_loadN tN23 rfl rfl (.tail _ (.tail _ (.tail _ (.tail _ (.tail _ (.head _)))))) rfl) rfl rfl ⟨_, rfl, rfl⟩ ?_
  refine o1 rfl (det_loadN tN23 rfl rfl (.tail _ (.tail _ (.tail _ (.tail _ (.head _))))) rfl) rfl rfl ⟨_, rfl, rfl⟩ ?_
  refine o1 rfl (det_neqS rfl rfl eqg23 (fun w => eq23 _ _ _ _ w)) rfl rfl ⟨_, rfl, rfl⟩ ?_
  refine o1 rfl (det_pickF rfl rfl) rfl rfl trivial ?_
  refine o2P Iff.rfl rfl (det_move rfl) rfl rfl trivial (fun hb => ?_) (fun hb => ?_)
  · exfalso; first | exact hb rfl | (simp at hb; done)
  refine o1 rfl (det_loadN tN23 rfl rfl (.tail _ (.tail _ (.tail _ (.head _)))) rfl) rfl rfl ⟨_, rfl, rfl⟩ ?_
  refine o1 rfl (det_loadN tN23 rfl rfl (.tail _ (.head _)) rfl) rfl rfl ⟨_, rfl, rfl⟩ ?_
  refine o1 rfl (det_neqS rfl rfl eqg23 (fun w => eq23 _ _ _ _ w)) rfl rfl ⟨_, rfl, rfl⟩ ?_
  refine o1 rfl (det_pickF rfl rfl) rfl rfl trivial ?_
  refine o2P Iff.rfl rfl (det_move rfl) rfl rfl trivial (fun hb => ?_) (fun hb => ?_)
  · exfalso; first | exact hb rfl | (simp at hb; done)
  refine o1 rfl (det_loadN tN23 rfl rfl (.head _) rfl) rfl rfl ⟨_, rfl, rfl⟩ ?_
  refine o1 rfl (det_loadN tN23 rfl rfl (.tail _ (.tail _ (.tail _ (.tail _ (.tail _ (.tail _ (.tail _ (.tail _ (.head _))))))))) rfl) rfl rfl ⟨_, rfl, rfl⟩ ?_
  refine o1 rfl (det_neqS rfl rfl eqg23 (fun w => eq23 _ _ _ _ w)) rfl rfl ⟨_, rfl, rfl⟩ ?_
  refine o1 rfl (det_pickF rfl rfl) rfl rfl trivial ?_
  refine o2P Iff.rfl rfl (det_move rfl) rfl rfl trivial (fun hb => ?_) (fun hb => ?_)
  · exfalso; first | exact hb rfl | (simp at hb; done)
  refine o1 rfl (det_loadN tN23 rfl rfl (.tail _ (.tail _ (.tail _ (.head _)))) rfl) rfl rfl ⟨_, rfl, rfl⟩ ?_
  refine o1 rfl (det_call hb12 rfl rfl (fun w1 hs => check2 hs.know R.rl)) rfl rfl ⟨_, rfl, rfl⟩ ?_
  refine o1 rfl (det_neq rfl rfl) rfl rfl ⟨_, rfl, rfl⟩ ?_
  refine o1 rfl (det_pickF rfl rfl) rfl rfl trivial ?_
  refine be rfl ?_
  refine k_then ?_
  refine t_condP bne_iff_ne rfl (fun hb => ?_) (fun hb => ?_)
  · exfalso; exact hb (by rw [if_pos R.ok])
  refine t_skip ?_
  refine k_then ?_
  refine t_seq ?_
  refine b0 ?_
  refine o1 rfl (det_loadN tN23 rfl rfl (.tail _ (.tail _ (.tail _ (.tail _ (.tail _ (.tail _ (.tail _ (.tail _ (.head _))))))))) rfl) rfl rfl trivial ?_
  refine o1 rfl (det_loadN tN23 rfl rfl (.tail _ (.tail _ (.tail _ (.tail _ (.tail _ (.tail _ (.tail _ (.head _)))))))) rfl) rfl rfl trivial ?_
  refine o1 rfl (det_call hb20 rfl rfl (fun w1 hs => (as2 (mul4 hs.know (R.ba.rng (by decide) (by decide)) (R.bb.rng (by decide) (by decide))) R.x))) rfl rfl trivial ?_
  refine o1 rfl (det_move rfl) rfl rfl trivial ?_
  refine o1 rfl (det_extract rfl rfl) rfl rfl trivial ?_
  refine o1 rfl (det_extract rfl rfl) rfl rfl trivial ?_
  refine om1 rfl (new_alloc z23) rfl rfl trivial (fun p20 => ?_)
  refine stN nofun rfl tN23 rfl rfl rfl .head rfl trivial rfl rfl ?_
  refine o1 rfl (det_assign rfl) rfl rfl trivial ?_
  refine be rfl ?_
  refine k_then ?_
  refine t_seq ?_
  refine b0 ?_
  refine o1 rfl (det_loadN tN23 rfl rfl (.tail _ (.tail _ (.tail _ (.tail _ (.tail _ (.tail _ (.tail _ (.tail _ (.head _))))))))) rfl) rfl rfl trivial ?_
  refine o1 rfl (det_loadN tN23 rfl rfl (.tail _ (.tail _ (.tail _ (.tail _ (.tail _ (.tail _ (.tail _ (.tail _ (.tail _ (.head _)))))))))) rfl) rfl rfl trivial ?_
  refine o1 rfl (det_call hb20 rfl rfl (fun w1 hs => (as2 (mul4 hs.know (R.bb.rng (by decide) (by decide)) (R.ba.rng (by decide) (by decide))) R.y))) rfl rfl trivial ?_
  refine o1 rfl (det_move rfl) rfl rfl trivial ?_
  refine o1 rfl (det_extract rfl rfl) rfl rfl trivial ?_
  refine o1 rfl (det_extract rfl rfl) rfl rfl trivial ?_
  refine om1 rfl (new_alloc z23) rfl rfl trivial (fun p21 => ?_)
  refine stN nofun rfl tN23 rfl rfl rfl .head rfl trivial rfl rfl ?_
  refine o1 rfl (det_assign rfl) rfl rfl trivial ?_
  refine be rfl ?_
  refine k_then ?_
  refine t_seq ?_
  refine b0 ?_
  refine o1 rfl (det_loadN tN23 rfl rfl (.tail _ (.head _)) rfl) rfl rfl trivial ?_
  refine o1 rfl (det_loadN tN23 rfl rfl (.tail _ (.tail _ (.tail _ (.tail _ (.tail _ (.tail _ (.tail _ (.tail _ (.head _))))))))) rfl) rfl rfl trivial ?_
  refine o1 rfl (det_call hb20 rfl rfl (fun w1 hs => (as2 (mul4 hs.know (R.bx.rng (by decide) (by decide)) (R.bc.rng (by decide) (by decide))) R.p))) rfl rfl trivial ?_
  refine o1 rfl (det_move rfl) rfl rfl trivial ?_
  refine o1 rfl (det_extract rfl rfl) rfl rfl trivial ?_
  refine o1 rfl (det_extract rfl rfl) rfl rfl trivial ?_
  refine om1 rfl (new_alloc z23) rfl rfl trivial (fun p22 => ?_)
  refine stN nofun rfl tN23 rfl rfl rfl .head rfl trivial rfl rfl ?_
  refine o1 rfl (det_assign rfl) rfl rfl trivial ?_
  refine be rfl ?_
  refine k_then ?_
  refine t_seq ?_
  refine b0 ?_
  refine o1 rfl (det_loadN tN23 rfl rfl (.tail _ (.tail _ (.tail _ (.tail _ (.tail _ (.tail _ (.tail _ (.tail _ (.tail _ (.tail _ (.head _))))))))))) rfl) rfl rfl trivial ?_
  refine o1 rfl (det_loadN tN23 rfl rfl (.tail _ (.tail _ (.tail _ (.tail _ (.tail _ (.tail _ (.tail _ (.tail _ (.tail _ (.head _)))))))))) rfl) rfl rfl trivial ?_
  refine o1 rfl (det_call hb20 rfl rfl (fun w1 hs => (as2 (mul4 hs.know (R.bb.rng (by decide) (by decide)) (R.bc.rng (by decide) (by decide))) R.z))) rfl rfl trivial ?_
  refine o1 rfl (det_move rfl) rfl rfl trivial ?_
  refine o1 rfl (det_extract rfl rfl) rfl rfl trivial ?_
  refine o1 rfl (det_extract rfl rfl) rfl rfl trivial ?_
  refine om1 rfl (new_alloc z23) rfl rfl trivial (fun p23 => ?_)
  refine stN nofun rfl tN23 rfl rfl rfl .head rfl trivial rfl rfl ?_
  refine o1 rfl (det_assign rfl) rfl rfl trivial ?_
  refine be rfl ?_
  refine k_then ?_
  refine t_seq ?_
  refine b0 ?_
  refine o1 rfl (det_loadN tN23 rfl rfl (.tail _ (.tail _ (.tail _ (.tail _ (.tail _ (.tail _ (.tail _ (.tail _ (.tail _ (.tail _ (.tail _ (.tail _ (.head _))))))))))))) rfl) rfl rfl trivial ?_
  refine o1 rfl (det_loadN tN23 rfl rfl (.head _) rfl) rfl rfl trivial ?_
  refine o1 rfl (det_call hb20 rfl rfl (fun w1 hs => (as2 (mul4 hs.know (R.ba.rng (by decide) (by decide)) (R.bz.rng (by decide) (by decide))) R.q))) rfl rfl trivial ?_
  refine o1 rfl (det_move rfl) rfl rfl trivial ?_
  refine o1 rfl (det_extract rfl rfl) rfl rfl trivial ?_
  refine o1 rfl (det_extract rfl rfl) rfl rfl trivial ?_
  refine om1 rfl (new_alloc z23) rfl rfl trivial (fun p24 => ?_)
  refine stN nofun rfl tN23 rfl rfl rfl .head rfl trivial rfl rfl ?_
  refine o1 rfl (det_assign rfl) rfl rfl trivial ?_
  refine be rfl ?_
  refine k_then ?_
  refine t_seq ?_
  refine b0 ?_
  refine o1 rfl (det_loadN tN23 rfl rfl (.tail _ (.tail _ (.tail _ (.tail _ (.tail _ (.tail _ (.tail _ (.tail _ (.tail _ (.tail _ (.head _))))))))))) rfl) rfl rfl trivial ?_
  refine o1 rfl (det_loadN tN23 rfl rfl (.tail _ (.tail _ (.tail _ (.tail _ (.tail _ (.tail _ (.tail _ (.tail _ (.tail _ (.tail _ (.tail _ (.head _)))))))))))) rfl) rfl rfl trivial ?_
  refine o1 rfl (det_call hb20 rfl rfl (fun w1 hs => (as2 (mul4 hs.know (R.bab.rng (by decide) (by decide)) (R.bc.rng (by decide) (by decide))) R.al))) rfl rfl trivial ?_
  refine o1 rfl (det_move rfl) rfl rfl trivial ?_
  refine o1 rfl (det_extract rfl rfl) rfl rfl trivial ?_
  refine o1 rfl (det_extract rfl rfl) rfl rfl trivial ?_
  refine om1 rfl (new_alloc z23) rfl rfl trivial (fun p25 => ?_)
  refine stN nofun rfl tN23 rfl rfl rfl .head rfl trivial rfl rfl ?_
  refine o1 rfl (det_assign rfl) rfl rfl trivial ?_
  refine be rfl ?_
  refine k_then ?_
  refine t_seq ?_
  refine b0 ?_
  refine o1 rfl (det_loadN tN23 rfl rfl (.tail _ (.tail _ (.tail _ (.tail _ (.tail _ (.tail _ (.tail _ (.tail _ (.tail _ (.tail _ (.tail _ (.tail _ (.tail _ (.tail _ (.head _))))))))))))))) rfl) rfl rfl trivial ?_
  refine o1 rfl (det_loadN tN23 rfl rfl (.tail _ (.tail _ (.tail _ (.tail _ (.tail _ (.tail _ (.tail _ (.tail _ (.tail _ (.tail _ (.tail _ (.tail _ (.head _))))))))))))) rfl) rfl rfl trivial ?_
  refine o1 rfl (det_call hb20 rfl rfl (fun w1 hs => (as2 (mul4 hs.know (R.ba.rng (by decide) (by decide)) (R.bc.rng (by decide) (by decide))) R.ac))) rfl rfl trivial ?_
  refine o1 rfl (det_move rfl) rfl rfl trivial ?_
  refine o1 rfl (det_extract rfl rfl) rfl rfl trivial ?_
  refine o1 rfl (det_extract rfl rfl) rfl rfl trivial ?_
  refine om1 rfl (new_alloc z23) rfl rfl trivial (fun p26 => ?_)
  refine stN nofun rfl tN23 rfl rfl rfl .head rfl trivial rfl rfl ?_
  refine o1 rfl (det_assign rfl) rfl rfl trivial ?_
  refine be rfl ?_
  refine k_then ?_
  refine t_seq ?_
  refine b0 ?_
  refine o1 rfl (det_loadN tN23 rfl rfl (.head _) rfl) rfl rfl trivial ?_
  refine o1 rfl (det_loadN tN23 rfl rfl (.tail _ (.tail _ (.tail _ (.head _)))) rfl) rfl rfl trivial ?_
  refine o1 rfl (det_call hb16 rfl rfl (fun w1 hs => (as2 (add4 hs.know (R.bac.rng (by decide) (by decide)) (R.bz.rng (by decide) (by decide))) R.su))) rfl rfl trivial ?_
  refine o1 rfl (det_move rfl) rfl rfl trivial ?_
  refine o1 rfl (det_extract rfl rfl) rfl rfl trivial ?_
  refine o1 rfl (det_extract rfl rfl) rfl rfl trivial ?_
  refine om1 rfl (new_alloc z23) rfl rfl trivial (fun p28 => ?_)
  refine stN nofun rfl tN23 rfl rfl rfl .head rfl trivial rfl rfl ?_
  refine o1 rfl (det_assign rfl) rfl rfl trivial ?_
  refine be rfl ?_
  refine k_then ?_
  refine t_seq ?_
  refine t_seq ?_
  refine b0 ?_
  refine o1 rfl (det_move rfl) rfl rfl trivial ?_
  refine o1 rfl (det_neq rfl rfl) rfl rfl trivial ?_
  refine o2P bne_iff_ne rfl (det_move rfl) rfl rfl trivial (fun hb => ?_) (fun hb => ?_)
  · exfalso; first | exact hb rfl | (simp at hb; done)
  refine o1 rfl (det_move rfl) rfl rfl ⟨_, rfl, rfl⟩ ?_
  refine o1 rfl (det_neq rfl rfl) rfl rfl ⟨_, rfl, rfl⟩ ?_
  refine o1 rfl (det_pickF rfl rfl) rfl rfl trivial ?_
  refine o2P bne_iff_ne rfl (det_move rfl) rfl rfl trivial (fun hb => ?_) (fun hb => ?_)
  · exfalso; first | exact hb rfl | (simp at hb; done)
  refine o1 rfl (det_move rfl) rfl rfl ⟨_, rfl, rfl⟩ ?_
  refine o1 rfl (det_neq rfl rfl) rfl rfl ⟨_, rfl, rfl⟩ ?_
  refine o1 rfl (det_pickF rfl rfl) rfl rfl trivial ?_
  refine o2P bne_iff_ne rfl (det_move rfl) rfl rfl trivial (fun hb => ?_) (fun hb => ?_)
  · exfalso; first | exact hb rfl | (simp at hb; done)
  refine o1 rfl (det_move rfl) rfl rfl ⟨_, rfl, rfl⟩ ?_
  refine o1 rfl (det_neq rfl rfl) rfl rfl ⟨_, rfl, rfl⟩ ?_
  refine o1 rfl (det_pickF rfl rfl) rfl rfl trivial ?_
  refine o2P bne_iff_ne rfl (det_move rfl) rfl rfl trivial (fun hb => ?_) (fun hb => ?_)
  · exfalso; first | exact hb rfl | (simp at hb; done)
  refine o1 rfl (det_move rfl) rfl rfl ⟨_, rfl, rfl⟩ ?_
  refine o1 rfl (det_neq rfl rfl) rfl rfl ⟨_, rfl, rfl⟩ ?_
  refine o1 rfl (det_pickF rfl rfl) rfl rfl trivial ?_
  refine o2P bne_iff_ne rfl (det_move rfl) rfl rfl trivial (fun hb => ?_) (fun hb => ?_)
  · exfalso; first | exact hb rfl | (simp at hb; done)
  refine o1 rfl (det_move rfl) rfl rfl ⟨_, rfl, rfl⟩ ?_
  refine o1 rfl (det_neq rfl rfl) rfl rfl ⟨_, rfl, rfl⟩ ?_
  refine o1 rfl (det_pickF rfl rfl) rfl rfl trivial ?_
  refine o2P bne_iff_ne rfl (det_move rfl) rfl rfl trivial (fun hb => ?_) (fun hb => ?_)
  · exfalso; first | exact hb rfl | (simp at hb; done)
  refine o1 rfl (det_move rfl) rfl rfl ⟨_, rfl, rfl⟩ ?_
  refine o1 rfl (det_neq rfl rfl) rfl rfl ⟨_, rfl, rfl⟩ ?_
  refine o1 rfl (det_pickF rfl rfl) rfl rfl trivial ?_
  refine o2P bne_iff_ne rfl (det_move rfl) rfl rfl trivial (fun hb => ?_) (fun hb => ?_)
  · exfalso; first | exact hb rfl | (simp at hb; done)
  refine o1 rfl (det_move rfl) rfl rfl ⟨_, rfl, rfl⟩ ?_
  refine o1 rfl (det_neq rfl rfl) rfl rfl ⟨_, rfl, rfl⟩ ?_
  refine o1 rfl (det_pickF rfl rfl) rfl rfl trivial ?_
  refine o2P bne_iff_ne rfl (det_move rfl) rfl rfl trivial (fun hb => ?_) (fun hb => ?_)
  · exfalso; first | exact hb rfl | (simp at hb; done)
  refine o1 rfl (det_loadN tN23 rfl rfl (.tail _ (.tail _ (.tail _ (.tail _ (.tail _ (.tail _ (.tail _ (.head _)))))))) rfl) rfl rfl ⟨_, rfl, rfl⟩ ?_
  refine o1 rfl (det_loadN tN23 rfl rfl (.tail _ (.tail _ (.tail _ (.tail _ (.tail _ (.tail _ (.head _))))))) rfl) rfl rfl ⟨_, rfl, rfl⟩ ?_
  refine o1 rfl (det_neqS rfl rfl eqg23 (fun w => eq23 _ _ _ _ w)) rfl rfl ⟨_, rfl, rfl⟩ ?_
  refine o1 rfl (det_pickF rfl rfl) rfl rfl trivial ?_
  refine o2P Iff.rfl rfl (det_move rfl) rfl rfl trivial (fun hb => ?_) (fun hb => ?_)
  · exfalso; first | exact hb rfl | (simp at hb; done)
  refine o1 rfl (det_loadN tN23 rfl rfl (.tail _ (.tail _ (.tail _ (.tail _ (.tail _ (.head _)))))) rfl) rfl rfl ⟨_, rfl, rfl⟩ ?_
  refine o1 rfl (det_loadN tN23 rfl rfl (.tail _ (.tail _ (.tail _ (.head _)))) rfl) rfl rfl ⟨_, rfl, rfl⟩ ?_
  refine o1 rfl (det_neqS rfl rfl eqg23 (fun w => eq23 _ _ _ _ w)) rfl rfl ⟨_, rfl, rfl⟩ ?_
  refine o1 rfl (det_pickF rfl rfl) rfl rfl trivial ?_
  refine o2P Iff.rfl rfl (det_move rfl) rfl rfl trivial (fun hb => ?_) (fun hb => ?_)
  · exfalso; first | exact hb rfl | (simp at hb; done)
  refine o1 rfl (det_loadN tN23 rfl rfl (.tail _ (.tail _ (.head _))) rfl) rfl rfl ⟨_, rfl, rfl⟩ ?_
  refine o1 rfl (det_loadN tN23 rfl rfl (.head _) rfl) rfl rfl ⟨_, rfl, rfl⟩ ?_
  refine o1 rfl (det_neqS rfl rfl eqg23 (fun w => eq23 _ _ _ _ w)) rfl rfl ⟨_, rfl, rfl⟩ ?_
  refine o1 rfl (det_pickF rfl rfl) rfl rfl trivial ?_
  refine be rfl ?_
  refine k_then ?_
  refine t_condP Iff.rfl rfl (fun hb => ?_) (fun hb => ?_)
  · exfalso; first | exact hb rfl | (simp at hb; done)
  refine t_skip ?_
  refine k_then ?_
  refine t_seq ?_
  refine b0 ?_
  refine o1 rfl (det_loadN tN23 rfl rfl (.tail _ (.tail _ (.tail _ (.tail _ (.tail _ (.tail _ (.tail _ (.head _)))))))) rfl) rfl rfl trivial ?_
  refine o1 rfl (det_loadN tN23 rfl rfl (.tail _ (.tail _ (.tail _ (.tail _ (.tail _ (.tail _ (.tail _ (.tail _ (.tail _ (.tail _ (.tail _ (.tail _ (.tail _ (.tail _ (.tail _ (.head _)))))))))))))))) rfl) rfl rfl trivial ?_
  refine o1 rfl (det_call hb22 rfl rfl (fun w1 hs => div4 hs.know (R.bx.rng (by decide) (by decide)) (R.bb.rng (by decide) (by decide)))) rfl rfl trivial ?_
  refine o1 rfl (det_move rfl) rfl rfl trivial ?_
  refine o1 rfl (det_extract rfl rfl) rfl rfl trivial ?_
  refine o1 rfl (det_extract rfl rfl) rfl rfl trivial ?_
  refine om1 rfl (new_alloc z23) rfl rfl trivial (fun p30 => ?_)
  refine stN nofun rfl tN23 rfl rfl rfl .head rfl trivial rfl rfl ?_
  refine o1 rfl (det_assign rfl) rfl rfl trivial ?_
  refine be rfl ?_
  refine k_then ?_
  refine t_seq ?_
  refine t_seq ?_
  refine b0 ?_
  refine o1 rfl (det_fieldAddr fld23_0 rfl) rfl rfl trivial ?_
  refine o1 rfl (det_load1 t1_3 rfl rfl (.tail _ (.tail _ (.tail _ (.tail _ (.tail _ (.tail _ (.tail _ (.tail _ (.tail _ (.tail _ (.tail _ (.tail _ (.tail _ (.tail _ (.tail _ (.tail _ (.head _))))))))))))))))) rfl) rfl rfl trivial ?_
  refine o1 rfl (det_eql rfl rfl) rfl rfl trivial ?_
  refine be rfl ?_
  refine k_then ?_
  refine t_condP beq_iff_eq rfl (fun hb => ?_) (fun hb => ?_)
  ·
    have hz : bn = 0 := hb
    refine t_seq ?_
    refine b0 ?_
    refine o1 rfl (det_move rfl) rfl rfl trivial ?_
    refine o1 rfl (det_eql rfl rfl) rfl rfl trivial ?_
    refine o1 rfl (det_assign rfl) rfl rfl trivial ?_
    refine be rfl ?_
    refine k_then ?_
    refine t_ret (k_thenR (?_))
    refine ret_tmp rfl rfl rfl (fun w1 hs => ?_)
    refine ⟨?_, hs.keep⟩
    rw [show (opA (xn, xd) (bn, bd) (divF (xn, xd) (bn, bd))).2 = 2 from by rw [opA, if_pos (by rw [R.bx.ok, R.bb.ok]; rfl)]; simp [divF, hz, makeA]]; rfl
  ·
    have hz : bn ≠ 0 := hb
    have hr : (opA (xn, xd) (bn, bd) (divF (xn, xd) (bn, bd))) = ((an, ad), 0) := R.dv hz
    refine t_skip ?_
    refine k_then ?_
    refine t_seq ?_
    refine b0 ?_
    refine o1 rfl (det_move rfl) rfl rfl trivial ?_
    refine o1 rfl (det_eql rfl rfl) rfl rfl trivial ?_
    refine o2P beq_iff_eq rfl (det_move rfl) rfl rfl trivial (fun hb => ?_) (fun hb => ?_)
    rotate_left
    · exfalso; exact hb (by rw [hr])
    refine o1 rfl (det_loadN tN23 rfl rfl (.head _) rfl) rfl rfl ⟨_, rfl, rfl⟩ ?_
    refine o1 rfl (det_loadN tN23 rfl rfl (.tail _ (.tail _ (.tail _ (.tail _ (.tail _ (.tail _ (.tail _ (.tail _ (.tail _ (.tail _ (.tail _ (.tail _ (.tail _ (.tail _ (.tail _ (.tail _ (.tail _ (.head _)))))))))))))))))) rfl) rfl rfl ⟨_, rfl, rfl⟩ ?_
    refine o1 rfl (det_eqlS rfl rfl eqg23 (fun w => eq23 _ _ _ _ w)) rfl rfl ⟨_, rfl, rfl⟩ ?_
    refine o1 rfl (det_pickT rfl rfl) rfl rfl trivial ?_
    refine o1 rfl (det_assign rfl) rfl rfl trivial ?_
    refine be rfl ?_
    refine k_then ?_
    refine t_ret ?_
    refine ret_tmp rfl rfl rfl (fun w1 hs => ?_)
    refine ⟨?_, hs.keep⟩
    rw [hr]; simp

end Go.Proofs.Rt
