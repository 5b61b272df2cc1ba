/-
  Walks through layer 40 and its reference.
-/
import Derived.Test.YtichjhggoioenaaRcL0
namespace Go.Proofs.Rc
open Go Go.Eng Go.Rc
set_option maxRecDepth 4000

theorem missing_bad {w : World} {F : Know} (hF : ∀ a v, F a = some v → w.cell? a = some v) {r : Rc} (hse : r.se < 18446744073709551616) (hno : okR r = false) :
    CallsF Try.prog 11 [.agg (rcv r).toArray] w noK (fun v F2 => ∃ A1 n1 c1, v = .tuple [.slice A1 n1 c1, .int .i64 500].toArray ∧ RowsK iv 1 F2 A1 n1 []) := by
  have := missing_ok hF hse
  simp only [hno, Bool.false_eq_true, if_false] at this
  exact this
theorem accept_bad {w : World} {F : Know} (hF : ∀ a v, F a = some v → w.cell? a = some v) {r : Rc} (hse : r.se < 18446744073709551616) (hno : okR r = false) {n t : Int} : Pure Try.prog 18 [.agg (rcv r).toArray, .int .i64 n, .int .i64 t] w (.tuple [.agg (rcv zR).toArray, .bool false, .int .i64 500].toArray) :=
  accept_ok hF hse (by unfold accA; rw [hno]; rfl)
theorem check_at {w : World} {F : Know} (hF : ∀ a v, F a = some v → w.cell? a = some v) {r : Rc} (hse : r.se < 18446744073709551616) {b : Bool} (e : okR r = b) : Pure Try.prog 13 [.agg (rcv r).toArray] w (.int .i64 (if b then 0 else 500)) := by
  rw [← e]; exact check_ok hF hse
/-- RecoverKnown. -/
theorem known_ok {w : World} {F : Know} (hF : ∀ a v, F a = some v → w.cell? a = some v)  : Pure Try.prog 8 [] w (.bool true) := by
  refine fn_pure (F := F) Try.func8 rfl Try.ntmps8 rfl hF ?_
  refine t_seq ?_
  refine b0 ?_
  refine o1 rfl (det_assign rfl) rfl rfl trivial ?_
  refine be rfl ?_
  refine k_then ?_
  refine t_seq ?_
  refine t_seq ?_
  refine b0 ?_
  refine o1 rfl (det_call hb9 rfl rfl (fun w1 hs => works_ok hs.know)) rfl rfl trivial ?_
  refine o1 rfl (det_not rfl) rfl rfl trivial ?_
  refine be rfl ?_
  refine k_then ?_
  refine t_condP not_iff_false rfl (fun hb => ?_) (fun hb => ?_)
  · exfalso; simp at hb
  refine t_skip ?_
  refine k_then ?_
  refine t_seq ?_
  refine b0 ?_
  refine o1 rfl (det_build rfl (fun w => bld24_0_1_3_4_5 _ _ _ _ _ w)) rfl rfl trivial ?_
  refine om1 rfl (new_alloc z24) rfl rfl trivial (fun p1 => ?_)
  refine stN nofun rfl tN24 rfl rfl rfl .head rfl trivial rfl rfl ?_
  refine be rfl ?_
  refine k_then ?_
  refine t_seq ?_
  refine b0 ?_
  refine o1 rfl (det_loadN tN24 rfl rfl (.head _) rfl) rfl rfl trivial ?_
  refine o1 rfl (det_call hb18 rfl rfl (fun w1 hs => accept_ok hs.know (show Rc.se ⟨64, 1099511627776, false, 10, 1099511627776, 18446744073709551615⟩ < _ by decide) (show accA ⟨64, 1099511627776, false, 10, 1099511627776, 18446744073709551615⟩ 73 1099511627776 = ((⟨64, 1099511627776, false, 73, 1099511627776, 9223372036854775809⟩, true), 0) by kernel_rfl))) rfl rfl trivial ?_
  refine o1 rfl (det_move rfl) rfl rfl trivial ?_
  refine o1 rfl (det_extract rfl rfl) rfl rfl trivial ?_
  refine o1 rfl (det_extract rfl rfl) rfl rfl trivial ?_
  refine o1 rfl (det_extract rfl rfl) rfl rfl trivial ?_
  refine om1 rfl (new_alloc z24) rfl rfl trivial (fun p2 => ?_)
  refine stN nofun rfl tN24 rfl rfl rfl .head rfl trivial rfl rfl ?_
  refine o1 rfl (det_assign rfl) rfl rfl trivial ?_
  refine o1 rfl (det_assign rfl) rfl rfl trivial ?_
  refine be rfl ?_
  refine k_then ?_
  refine t_seq ?_
  refine b0 ?_
  refine o1 rfl (det_loadN tN24 rfl rfl (.tail _ (.head _)) rfl) rfl rfl trivial ?_
  refine o1 rfl (det_call hb18 rfl rfl (fun w1 hs => accept_ok hs.know (show Rc.se ⟨64, 1099511627776, false, 10, 1099511627776, 18446744073709551615⟩ < _ by decide) (show accA ⟨64, 1099511627776, false, 10, 1099511627776, 18446744073709551615⟩ 74 1099511627776 = ((⟨64, 1099511627776, false, 10, 1099511627776, 18446744073709551615⟩, false), 0) by kernel_rfl))) rfl rfl trivial ?_
  refine o1 rfl (det_move rfl) rfl rfl trivial ?_
  refine o1 rfl (det_extract rfl rfl) rfl rfl trivial ?_
  refine o1 rfl (det_extract rfl rfl) rfl rfl trivial ?_
  refine o1 rfl (det_extract rfl rfl) rfl rfl trivial ?_
  refine om1 rfl (new_alloc z24) rfl rfl trivial (fun p5 => ?_)
  refine stN nofun rfl tN24 rfl rfl rfl .head rfl trivial rfl rfl ?_
  refine o1 rfl (det_assign rfl) rfl rfl trivial ?_
  refine o1 rfl (det_assign rfl) rfl rfl trivial ?_
  refine be rfl ?_
  refine k_then ?_
  refine t_seq ?_
  refine b0 ?_
  refine o1 rfl (det_loadN tN24 rfl rfl (.tail _ (.tail _ (.head _))) rfl) rfl rfl trivial ?_
  refine o1 rfl (det_call hb18 rfl rfl (fun w1 hs => accept_ok hs.know (show Rc.se ⟨64, 1099511627776, false, 10, 1099511627776, 18446744073709551615⟩ < _ by decide) (show accA ⟨64, 1099511627776, false, 10, 1099511627776, 18446744073709551615⟩ 65483 1099511627776 = ((⟨64, 1099511627776, false, 10, 1099511627776, 18446744073709551615⟩, false), 0) by kernel_rfl))) rfl rfl trivial ?_
  refine o1 rfl (det_move rfl) rfl rfl trivial ?_
  refine o1 rfl (det_extract rfl rfl) rfl rfl trivial ?_
  refine o1 rfl (det_extract rfl rfl) rfl rfl trivial ?_
  refine o1 rfl (det_extract rfl rfl) rfl rfl trivial ?_
  refine om1 rfl (new_alloc z24) rfl rfl trivial (fun p8 => ?_)
  refine stN nofun rfl tN24 rfl rfl rfl .head rfl trivial rfl rfl ?_
  refine o1 rfl (det_assign rfl) rfl rfl trivial ?_
  refine o1 rfl (det_assign rfl) rfl rfl trivial ?_
  refine be rfl ?_
  refine k_then ?_
  refine t_seq ?_
  refine b0 ?_
  refine o1 rfl (det_loadN tN24 rfl rfl (.tail _ (.tail _ (.tail _ (.head _)))) rfl) rfl rfl trivial ?_
  refine o1 rfl (det_call hb18 rfl rfl (fun w1 hs => accept_ok hs.know (show Rc.se ⟨64, 1099511627776, false, 10, 1099511627776, 18446744073709551615⟩ < _ by decide) (show accA ⟨64, 1099511627776, false, 10, 1099511627776, 18446744073709551615⟩ 0 1099511627777 = ((zR, false), 2) by kernel_rfl))) rfl rfl trivial ?_
  refine o1 rfl (det_move rfl) rfl rfl trivial ?_
  refine o1 rfl (det_extract rfl rfl) rfl rfl trivial ?_
  refine o1 rfl (det_extract rfl rfl) rfl rfl trivial ?_
  refine o1 rfl (det_extract rfl rfl) rfl rfl trivial ?_
  refine om1 rfl (new_alloc z24) rfl rfl trivial (fun p11 => ?_)
  refine stN nofun rfl tN24 rfl rfl rfl .head rfl trivial rfl rfl ?_
  refine o1 rfl (det_assign rfl) rfl rfl trivial ?_
  refine o1 rfl (det_assign rfl) rfl rfl trivial ?_
  refine be rfl ?_
  refine k_then ?_
  refine t_seq ?_
  refine b0 ?_
  refine o1 rfl (det_build rfl (fun w => bld24_ w)) rfl rfl trivial ?_
  refine o1 rfl (det_call hb18 rfl rfl (fun w1 hs => accept_ok hs.know (show Rc.se zR < _ by decide) (show accA zR (-1) (-1) = ((zR, false), 500) by kernel_rfl))) rfl rfl trivial ?_
  refine o1 rfl (det_move rfl) rfl rfl trivial ?_
  refine o1 rfl (det_extract rfl rfl) rfl rfl trivial ?_
  refine o1 rfl (det_extract rfl rfl) rfl rfl trivial ?_
  refine o1 rfl (det_extract rfl rfl) rfl rfl trivial ?_
  refine om1 rfl (new_alloc z24) rfl rfl trivial (fun p14 => ?_)
  refine stN nofun rfl tN24 rfl rfl rfl .head rfl trivial rfl rfl ?_
  refine o1 rfl (det_assign rfl) rfl rfl trivial ?_
  refine o1 rfl (det_assign rfl) rfl rfl trivial ?_
  refine be rfl ?_
  refine k_then ?_
  refine t_seq ?_
  refine b0 ?_
  refine o1 rfl (det_build rfl (fun w => bld24_0_1 _ _ w)) rfl rfl trivial ?_
  refine o1 rfl (det_build rfl (fun w => bld24_0_1_5 _ _ _ w)) rfl rfl trivial ?_
  refine o1 rfl (det_build rfl (fun w => bld24_0_1_5 _ _ _ w)) rfl rfl trivial ?_
  refine o1 rfl (det_build rfl (fun w => bld24_0_1_2 _ _ _ w)) rfl rfl trivial ?_
  refine o1 rfl (det_build rfl (fun w => bld24_0_1_2_5 _ _ _ _ w)) rfl rfl trivial ?_
  refine o1 rfl (det_build rfl (fun w => bld24_0_1_3_5 _ _ _ _ w)) rfl rfl trivial ?_
  refine o1 rfl (det_build rfl (fun w => bld64_0_1_2_3_4_5 _ _ _ _ _ _ _ _ _ _ _ _ _ _ _ _ _ _ _ _ _ _ _ _ _ _ _ _ _ _ _ _ _ _ _ _ w)) rfl rfl trivial ?_
  refine om1 rfl (new_alloc z64) rfl rfl trivial (fun p17 => ?_)
  refine stN nofun rfl tN64 rfl rfl rfl .head rfl trivial rfl rfl ?_
  refine be rfl ?_
  refine k_then ?_
  refine t_seq ?_
  refine t_seq ?_
  refine b0 ?_
  refine o1 rfl (det_loadN tN64 rfl rfl (.head _) rfl) rfl rfl trivial ?_
  refine o1 rfl (det_move rfl) rfl rfl trivial ?_
  refine be rfl ?_
  refine k_then ?_
  refine t_block ?_
  refine t_whileK (σ := Nat) (fun s => [(68, .int .i64 s)]) (fun s => F) (fun _ => _) (fun s => 6 - s) (fun s => s ≤ 6) 0 (env0 := [(1, _), (2, _), (3, _), (4, _), (6, _), (7, _), (9, _), (10, _), (13, _), (16, _), (67, _)]) (Nat.zero_le _) incl_refl ⟨rfl, trivial⟩ ⟨rfl, rfl, rfl, rfl, rfl, rfl, rfl, rfl, rfl, rfl, rfl, trivial⟩ (.refl _) ?_
  intro s hsl
  refine t_seq ?_
  refine b0 ?_
  refine o1 rfl (det_lss rfl rfl) rfl rfl trivial ?_
  refine be rfl ?_
  refine k_then ?_
  refine t_seq ?_
  refine t_condP decide_eq_true_iff rfl (fun hb => ?_) (fun hb => ?_)
  ·
    have hlt : s < 6 := by omega
    obtain ⟨y, hcut, hno, hse⟩ : ∃ y : Rc, cutV ((s : Int).toNat * 6) 6 (rowsV rcv [⟨1, 1, false, 0, 0, 0⟩, ⟨1, 1, false, 0, 0, 3⟩, ⟨2, 1, false, 0, 0, 2⟩, ⟨65, 1, true, 0, 0, 0⟩, ⟨1, 1, true, 0, 0, 1⟩, ⟨1, 1, false, 65536, 0, 1⟩]) = some (rcv y) ∧ okR y = false ∧ y.se < 18446744073709551616 := by
      have h6 : s = 0 ∨ s = 1 ∨ s = 2 ∨ s = 3 ∨ s = 4 ∨ s = 5 := by omega
      rcases h6 with rfl | rfl | rfl | rfl | rfl | rfl
      · exact ⟨⟨1, 1, false, 0, 0, 0⟩, rfl, by kernel_rfl, by decide⟩
      · exact ⟨⟨1, 1, false, 0, 0, 3⟩, rfl, by kernel_rfl, by decide⟩
      · exact ⟨⟨2, 1, false, 0, 0, 2⟩, rfl, by kernel_rfl, by decide⟩
      · exact ⟨⟨65, 1, true, 0, 0, 0⟩, rfl, by kernel_rfl, by decide⟩
      · exact ⟨⟨1, 1, true, 0, 0, 1⟩, rfl, by kernel_rfl, by decide⟩
      · exact ⟨⟨1, 1, false, 65536, 0, 1⟩, rfl, by kernel_rfl, by decide⟩
    refine t_skip ?_
    refine k_then ?_
    refine t_seq ?_
    refine t_block ?_
    refine t_seq ?_
    refine b0 ?_
    refine o1 rfl (det_indexN ar64 tN24 rfl rfl (by omega) hcut) rfl rfl trivial ?_
    refine om1 rfl (new_alloc z24) rfl rfl trivial (fun p19 => ?_)
    refine stN nofun rfl tN24 rfl rfl rfl .head rfl trivial rfl rfl ?_
    refine be rfl ?_
    refine k_then ?_
    refine t_seq ?_
    refine b0 ?_
    refine o1 rfl (det_loadN tN24 rfl rfl (.head _) rfl) rfl rfl trivial ?_
    refine oF nofun rfl hb11 rfl rfl rfl trivial (fun w1 hs => (missing_bad hs.know hse hno).any) (fun vm Fm hFm hNm ⟨Am, nm, cm, hv, hm⟩ => ?_)
    subst hv
    refine o1 rfl (det_move rfl) rfl rfl trivial ?_
    refine o1 rfl (det_extract rfl rfl) rfl rfl trivial ?_
    refine o1 rfl (det_extract rfl rfl) rfl rfl trivial ?_
    refine o1 rfl (det_assign rfl) rfl rfl trivial ?_
    refine o1 rfl (det_assign rfl) rfl rfl trivial ?_
    refine be rfl ?_
    refine k_then ?_
    refine t_seq ?_
    refine b0 ?_
    refine o1 rfl (det_loadN tN24 rfl rfl (.head _) rfl) rfl rfl trivial ?_
    refine o1 rfl (det_call hb18 rfl rfl (fun w1 hs => accept_bad hs.know hse hno)) rfl rfl trivial ?_
    refine o1 rfl (det_move rfl) rfl rfl trivial ?_
    refine o1 rfl (det_extract rfl rfl) rfl rfl trivial ?_
    refine o1 rfl (det_extract rfl rfl) rfl rfl trivial ?_
    refine o1 rfl (det_extract rfl rfl) rfl rfl trivial ?_
    refine om1 rfl (new_alloc z24) rfl rfl trivial (fun p22 => ?_)
    refine stN nofun rfl tN24 rfl rfl rfl .head rfl trivial rfl rfl ?_
    refine o1 rfl (det_assign rfl) rfl rfl trivial ?_
    refine o1 rfl (det_assign rfl) rfl rfl trivial ?_
    refine be rfl ?_
    refine k_then ?_
    refine t_seq ?_
    refine b0 ?_
    refine o1 rfl (det_loadN tN24 rfl rfl (.tail _ (.head _)) rfl) rfl rfl trivial ?_
    refine o1 rfl (det_call hb13 rfl rfl (fun w1 hs => check_at hs.know hse hno)) rfl rfl trivial ?_
    refine o1 rfl (det_neq rfl rfl) rfl rfl trivial ?_
    refine o2P bne_iff_ne rfl (det_move rfl) rfl rfl trivial (fun hb => ?_) (fun hb => ?_)
    · exfalso; exact hb rfl
    refine o1 rfl (det_move rfl) rfl rfl ⟨_, rfl, rfl⟩ ?_
    refine o1 rfl (det_neq rfl rfl) rfl rfl ⟨_, rfl, rfl⟩ ?_
    refine o1 rfl (det_pickF rfl rfl) rfl rfl trivial ?_
    refine o2P bne_iff_ne rfl (det_move rfl) rfl rfl trivial (fun hb => ?_) (fun hb => ?_)
    · exfalso; exact hb rfl
    refine o1 rfl (det_move rfl) rfl rfl ⟨_, rfl, rfl⟩ ?_
    refine o1 rfl (det_neq rfl rfl) rfl rfl ⟨_, rfl, rfl⟩ ?_
    refine o1 rfl (det_pickF rfl rfl) rfl rfl trivial ?_
    refine be rfl ?_
    refine k_then ?_
    refine t_condP bne_iff_ne rfl (fun hb => ?_) (fun hb => ?_)
    · exfalso; exact hb rfl
    refine t_skip ?_
    refine k_blk ?_
    refine k_then ?_
    refine b0 ?_
    first | (refine o1 rfl (det_addI rfl rfl ?_) rfl rfl trivial ?_; (· omega)) | refine o1 rfl (det_add rfl rfl) rfl rfl trivial ?_
    refine o1 rfl (det_move rfl) rfl rfl trivial ?_
    refine be rfl ?_
    refine k_then ?_
    refine loop_backK (s + 1) (by omega) (by omega) hFm ⟨rfl, rfl, rfl, rfl, rfl, rfl, rfl, rfl, rfl, rfl, rfl, rfl, trivial⟩ (.cons _ (.cons _ (.refl _)))
  ·
    skip
    refine t_exit ?_
    refine k_thenE ?_
    refine k_thenE ?_
    refine k_blkE ?_
    refine k_then ?_
    refine t_seq ?_
    refine b0 ?_
    refine o1 rfl (det_loadN tN24 rfl rfl (.tail _ (.tail _ (.tail _ (.tail _ (.tail _ (.tail _ (.head _))))))) rfl) rfl rfl trivial ?_
    refine oF nofun rfl hb11 rfl rfl rfl trivial (fun w1 hs => (missing_at hs.know (r := ⟨64, 1099511627776, false, 10, 1099511627776, 18446744073709551615⟩) (by kernel_rfl) (show missL ⟨64, 1099511627776, false, 10, 1099511627776, 18446744073709551615⟩ = [] by kernel_rfl)).any) (fun vz Fz hFz hNz ⟨Az, nz, cz, hv, hz⟩ => ?_)
    subst hv
    skip
    refine o1 rfl (det_move rfl) rfl rfl trivial ?_
    refine o1 rfl (det_extract rfl rfl) rfl rfl trivial ?_
    refine o1 rfl (det_extract rfl rfl) rfl rfl trivial ?_
    refine o1 rfl (det_assign rfl) rfl rfl trivial ?_
    refine o1 rfl (det_assign rfl) rfl rfl trivial ?_
    refine be rfl ?_
    refine k_then ?_
    refine t_seq ?_
    refine b0 ?_
    refine o1 rfl (det_move rfl) rfl rfl trivial ?_
    refine o1 rfl (det_call hb9 rfl rfl (fun w1 hs => works_ok hs.know)) rfl rfl ⟨_, rfl, rfl⟩ ?_
    refine o1 rfl (det_pickT rfl rfl) rfl rfl trivial ?_
    refine o2P Iff.rfl rfl (det_move rfl) rfl rfl trivial (fun hb => ?_) (fun hb => ?_)
    rotate_left
    · exfalso; first | exact hb rfl | (simp at hb; done) | (revert hb; decide)
    refine o1 rfl (det_move rfl) rfl rfl ⟨_, rfl, rfl⟩ ?_
    refine o1 rfl (det_eql rfl rfl) rfl rfl ⟨_, rfl, rfl⟩ ?_
    refine o1 rfl (det_pickT rfl rfl) rfl rfl trivial ?_
    refine o2P beq_iff_eq rfl (det_move rfl) rfl rfl trivial (fun hb => ?_) (fun hb => ?_)
    rotate_left
    · exfalso; first | exact hb rfl | (simp at hb; done) | (revert hb; decide)
    refine o1 rfl (det_move rfl) rfl rfl ⟨_, rfl, rfl⟩ ?_
    refine o1 rfl (det_pickT rfl rfl) rfl rfl trivial ?_
    refine o2P Iff.rfl rfl (det_move rfl) rfl rfl trivial (fun hb => ?_) (fun hb => ?_)
    rotate_left
    · exfalso; first | exact hb rfl | (simp at hb; done) | (revert hb; decide)
    refine o1 rfl (det_fieldAddr fld24_3 rfl) rfl rfl ⟨_, rfl, rfl⟩ ?_
    refine o1 rfl (det_load1 t1_3 rfl rfl (.tail _ (.tail _ (.tail _ (.tail _ (.tail _ (.head _)))))) rfl) rfl rfl ⟨_, rfl, rfl⟩ ?_
    refine o1 rfl (det_eql rfl rfl) rfl rfl ⟨_, rfl, rfl⟩ ?_
    refine o1 rfl (det_pickT rfl rfl) rfl rfl trivial ?_
    refine o2P beq_iff_eq rfl (det_move rfl) rfl rfl trivial (fun hb => ?_) (fun hb => ?_)
    rotate_left
    · exfalso; first | exact hb rfl | (simp at hb; done) | (revert hb; decide)
    refine o1 rfl (det_fieldAddr fld24_5 rfl) rfl rfl ⟨_, rfl, rfl⟩ ?_
    refine o1 rfl (det_load1 t1_22 rfl rfl (.tail _ (.tail _ (.tail _ (.tail _ (.tail _ (.head _)))))) rfl) rfl rfl ⟨_, rfl, rfl⟩ ?_
    refine o1 rfl (det_eql rfl rfl) rfl rfl ⟨_, rfl, rfl⟩ ?_
    refine o1 rfl (det_pickT rfl rfl) rfl rfl trivial ?_
    refine o2P beq_iff_eq rfl (det_move rfl) rfl rfl trivial (fun hb => ?_) (fun hb => ?_)
    rotate_left
    · exfalso; first | exact hb rfl | (simp at hb; done) | (revert hb; decide)
    refine o1 rfl (det_move rfl) rfl rfl ⟨_, rfl, rfl⟩ ?_
    refine o1 rfl (det_eql rfl rfl) rfl rfl ⟨_, rfl, rfl⟩ ?_
    refine o1 rfl (det_pickT rfl rfl) rfl rfl trivial ?_
    refine o2P beq_iff_eq rfl (det_move rfl) rfl rfl trivial (fun hb => ?_) (fun hb => ?_)
    rotate_left
    · exfalso; first | exact hb rfl | (simp at hb; done) | (revert hb; decide)
    refine o1 rfl (det_move rfl) rfl rfl ⟨_, rfl, rfl⟩ ?_
    refine o1 rfl (det_not rfl) rfl rfl ⟨_, rfl, rfl⟩ ?_
    refine o1 rfl (det_pickT rfl rfl) rfl rfl trivial ?_
    refine o2P not_iff_false rfl (det_move rfl) rfl rfl trivial (fun hb => ?_) (fun hb => ?_)
    rotate_left
    · exfalso; first | exact hb rfl | (simp at hb; done) | (revert hb; decide)
    refine o1 rfl (det_move rfl) rfl rfl ⟨_, rfl, rfl⟩ ?_
    refine o1 rfl (det_eql rfl rfl) rfl rfl ⟨_, rfl, rfl⟩ ?_
    refine o1 rfl (det_pickT rfl rfl) rfl rfl trivial ?_
    refine o2P beq_iff_eq rfl (det_move rfl) rfl rfl trivial (fun hb => ?_) (fun hb => ?_)
    rotate_left
    · exfalso; first | exact hb rfl | (simp at hb; done) | (revert hb; decide)
    refine o1 rfl (det_move rfl) rfl rfl ⟨_, rfl, rfl⟩ ?_
    refine o1 rfl (det_not rfl) rfl rfl ⟨_, rfl, rfl⟩ ?_
    refine o1 rfl (det_pickT rfl rfl) rfl rfl trivial ?_
    refine o2P not_iff_false rfl (det_move rfl) rfl rfl trivial (fun hb => ?_) (fun hb => ?_)
    rotate_left
    · exfalso; first | exact hb rfl | (simp at hb; done) | (revert hb; decide)
    refine o1 rfl (det_move rfl) rfl rfl ⟨_, rfl, rfl⟩ ?_
    refine o1 rfl (det_eql rfl rfl) rfl rfl ⟨_, rfl, rfl⟩ ?_
    refine o1 rfl (det_pickT rfl rfl) rfl rfl trivial ?_
    refine o2P beq_iff_eq rfl (det_move rfl) rfl rfl trivial (fun hb => ?_) (fun hb => ?_)
    rotate_left
    · exfalso; first | exact hb rfl | (simp at hb; done) | (revert hb; decide)
    refine o1 rfl (det_move rfl) rfl rfl ⟨_, rfl, rfl⟩ ?_
    refine o1 rfl (det_eql rfl rfl) rfl rfl ⟨_, rfl, rfl⟩ ?_
    refine o1 rfl (det_pickT rfl rfl) rfl rfl trivial ?_
    refine o2P beq_iff_eq rfl (det_move rfl) rfl rfl trivial (fun hb => ?_) (fun hb => ?_)
    rotate_left
    · exfalso; first | exact hb rfl | (simp at hb; done) | (revert hb; decide)
    refine o1 rfl (det_move rfl) rfl rfl ⟨_, rfl, rfl⟩ ?_
    refine o1 rfl (det_eql rfl rfl) rfl rfl ⟨_, rfl, rfl⟩ ?_
    refine o1 rfl (det_pickT rfl rfl) rfl rfl trivial ?_
    refine o2P beq_iff_eq rfl (det_move rfl) rfl rfl trivial (fun hb => ?_) (fun hb => ?_)
    rotate_left
    · exfalso; first | exact hb rfl | (simp at hb; done) | (revert hb; decide)
    refine o1 rfl (det_move rfl) rfl rfl ⟨_, rfl, rfl⟩ ?_
    refine o1 rfl (det_lenS sl32 rfl) rfl rfl ⟨_, rfl, rfl⟩ ?_
    refine o1 rfl (det_eql rfl rfl) rfl rfl ⟨_, rfl, rfl⟩ ?_
    refine o1 rfl (det_pickT rfl rfl) rfl rfl trivial ?_
    refine o1 rfl (det_assign rfl) rfl rfl trivial ?_
    refine be rfl ?_
    refine k_then ?_
    refine t_ret ?_
    refine ret_tmp rfl rfl rfl (fun w1 hs => ?_)
    exact ⟨by rw [hz.len]; rfl, hs.keep⟩

end Go.Proofs.Rc
