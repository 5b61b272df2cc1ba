/-
  The texts CpP21 to CpPL1, one after the other.
-/
import Derived.Test.YtffocfffggfenaaCpP15ToCpP20PportNewshold
import Derived.Test.YtffocfffggfenaaGtPlainToPoPlain13PportNewshold
import Derived.Test.YtffocfffggfenaaCpP3ToCpC16PportNewshold
/-
  Walks through layer 38.
-/
namespace Go.Proofs.Cp
open Go Go.Eng Go.Gt Go.Proofs.Gt Go.Sw Go.Qu Go.Ch Go.Po
set_option maxRecDepth 4000
theorem pwakes_ok {w : World} {F : Know} (hF : ∀ a v, F a = some v → w.cell? a = some v)  : Pure Try.prog 33 [] w (.bool true) := by
  refine fn_pure (F := F) Try.func33 rfl Try.ntmps33 rfl hF ?_
  refine t_seq ?_
  refine b0 ?_
  refine o1 rfl (det_assign rfl) rfl rfl trivial ?_
  refine be rfl ?_
  refine k_then ?_
  refine t_seq ?_
  refine b0 ?_
  refine oF nofun rfl hb39 rfl rfl rfl trivial (fun w1 hs => (popen_ok hs.know (per := 1)).any) (fun v1 F1 hF1 hNF1 ⟨A1, n1, k1, hv1, hl1, hnk1⟩ => ?_)
  subst hv1
  refine oF nofun rfl hb40 rfl rfl rfl trivial (fun w1 hs => (caps_ok hs.know (x := 1000) (by omega)).any) (fun v2 F2 hF2 hNF2 ⟨q2, hv2, hI2⟩ => ?_)
  subst hv2
  replace hl1 : LnK F2 (opL A1 n1 k1 1) := EntK.mono hl1 hF2
  refine oF nofun rfl hb34 rfl rfl rfl trivial (fun w1 hs => pnew_at (y := 0) (p2 := pW0 (opL A1 n1 k1 1)) hs.know hl1 hnk1 hI2 (by decide) (by kernel_rfl)) (fun v21 F3 hF3 hNF3 ⟨B21, m21, d21, ms21, hv21, hK21⟩ => ?_)
  subst hv21
  obtain rfl : m21 = 8 := by have h1 := hK21.len; have h2 : (pW0 (opL A1 n1 k1 1)).qs.length = 8 := (by kernel_rfl); omega
  refine o1 rfl (det_move rfl) rfl rfl trivial ?_
  refine o1 rfl (det_extract rfl rfl) rfl rfl trivial ?_
  refine o1 rfl (det_extract rfl rfl) rfl rfl trivial ?_
  refine om1 rfl (new_alloc z68) rfl rfl trivial (fun p1 => ?_)
  refine stN nofun rfl tN68 rfl rfl rfl .head rfl trivial rfl rfl ?_
  refine o1 rfl (det_assign rfl) rfl rfl trivial ?_
  refine be rfl ?_
  refine k_then ?_
  refine t_seq ?_
  refine bD mixed ?_
  refine r_force 9 12 (by kernel_rfl) ?_
  refine r_force 10 12 (by kernel_rfl) ?_
  refine r_segF 15 12 [5, 11] [(6, Go.Eng.Told F3 (fun v F2 => ∃ B2 d2 G2 k2 gk2, v = .tuple [.agg (psv (stayS (stR (sW (opL A1 n1 k1 1)) 5).p 1000) B2 8 d2).toArray, .slice G2 k2 gk2, .int .i64 0].toArray ∧ RowsK cmv 6 F2 G2 k2 goneW ∧ k2 ≤ gk2))] [0, 1, 2, 3, 4, 5, 6, 7, 8, 9, 10, 11] (by kernel_rfl) ?_
  refine s1 rfl (det_loadN tN68 rfl rfl (.head _) rfl) rfl rfl trivial rfl ?_
  refine s1 rfl (det_call hb48 rfl rfl (fun w1 hs => frameI_ok hs.know)) rfl rfl trivial rfl ?_
  refine s1 rfl (det_build rfl (fun w => bld89_0_1 _ _ _ _ _ _ w)) rfl rfl trivial rfl ?_
  refine s1 rfl (det_call hb48 rfl rfl (fun w1 hs => frameI_ok hs.know)) rfl rfl trivial rfl ?_
  refine s1 rfl (det_build rfl (fun w => bld89_0_1 _ _ _ _ _ _ w)) rfl rfl trivial rfl ?_
  refine sm1 rfl (new_buildSlice rfl (fun w => bsl78_2_0_1 _ _ _ _ _ _ _ _ _ _ _ _ w)) rfl rfl trivial rfl (fun p30 => ?_)
  refine sM [_] (needC (.head _) rfl need0) rfl (fun F2 hF2 hN => mem_call hF2 hb41 rfl rfl (fun w1 hs => (run_at hs.know (hK21.mono hF2) (own_rowsC (l := comeW) (hN _ (.head _)) rfl) (Nat.le_refl _) (by decide) (M := 5) (by kernel_rfl) (by have h : (pW0 (opL A1 n1 k1 1)).now = 0 := (by kernel_rfl); rw [h]; decide) (comeOk_of (by kernel_rfl)) (goR_all (by kernel_rfl)) (by kernel_rfl) (by decide) (p2 := stayS (stR (sW (opL A1 n1 k1 1)) 5).p 1000) (gl := goneW) rfl (by kernel_rfl)).any)) rfl rfl trivial rfl (fun v31 hv31 => ?_)
  obtain ⟨_, B_31, d_31, G_31, k_31, gk_31, rfl, -⟩ := hv31
  refine s1 rfl (det_move rfl) rfl rfl trivial rfl ?_
  refine s1 rfl (det_extract rfl rfl) rfl rfl trivial rfl ?_
  refine s1 rfl (det_extract rfl rfl) rfl rfl trivial rfl ?_
  refine s1 rfl (det_extract rfl rfl) rfl rfl trivial rfl ?_
  refine sm1 rfl (new_alloc z68) rfl rfl trivial rfl (fun p3 => ?_)
  refine sg_nil ?_
  rintro F_2_12 hF_2_12 hN_2_12 ⟨hR31, -⟩
  obtain ⟨B31, d31, G31, k31, gk31, h_31, hG31, hk31⟩ := hR31
  obtain ⟨⟨rfl, -, rfl⟩, rfl, rfl, rfl⟩ := run_inj h_31
  replace hK21 := hK21.mono hF_2_12
  refine stN (fun _ => by kernel_rfl) rfl tN68 rfl rfl rfl .head rfl trivial rfl rfl ?_
  refine r_seg 15 15 [] [13, 14] (by kernel_rfl) ?_
  refine s1 rfl (det_assign rfl) rfl rfl trivial rfl ?_
  refine s1 rfl (det_assign rfl) rfl rfl trivial rfl ?_
  refine sg_nil ?_
  refine be rfl ?_
  refine np ?_
  refine np ?_
  refine k_then ?_
  refine t_seq ?_
  refine bD mixed ?_
  refine r_force 5 8 (by kernel_rfl) ?_
  refine r_force 6 8 (by kernel_rfl) ?_
  refine r_segF 11 8 [7] [(2, Go.Eng.Told F_2_12 (fun v F2 => ∃ B2 m2 d2 ms2, v = .tuple [.agg (psv (pW1 (opL A1 n1 k1 1)) B2 m2 d2).toArray, .bool true, .int .i64 0].toArray ∧ PsK F2 (pW1 (opL A1 n1 k1 1)) B2 m2 d2 ms2))] [0, 1, 2, 3, 4, 5, 6, 7] (by kernel_rfl) ?_
  refine s1 rfl (det_loadN tN68 rfl rfl (.tail _ (.tail _ (.head _))) rfl) rfl rfl trivial rfl ?_
  refine s1 rfl (det_call hb48 rfl rfl (fun w1 hs => frameI_ok hs.know)) rfl rfl trivial rfl ?_
  refine sM [] need0 rfl (fun F2 hF2 hN => mem_call hF2 hb45 rfl rfl (fun w1 hs => arrive_at (p := pW0 (opL A1 n1 k1 1)) (x := fA) (t := 0) (p2 := pW1 (opL A1 n1 k1 1)) (b := true) (y := 0) (fun a v h => hs.know a v (hF2 a v h)) hK21 (by kernel_rfl))) rfl rfl trivial rfl (fun v38 hv38 => ?_)
  obtain ⟨_, B_38, m_38, d_38, ms_38, rfl, -⟩ := hv38
  refine s1 rfl (det_move rfl) rfl rfl trivial rfl ?_
  refine s1 rfl (det_extract rfl rfl) rfl rfl trivial rfl ?_
  refine s1 rfl (det_extract rfl rfl) rfl rfl trivial rfl ?_
  refine s1 rfl (det_extract rfl rfl) rfl rfl trivial rfl ?_
  refine sm1 rfl (new_alloc z68) rfl rfl trivial rfl (fun p6 => ?_)
  refine sg_nil ?_
  rintro F_3_8 hF_3_8 hN_3_8 ⟨hR38, -⟩
  obtain ⟨B38, m38, d38, ms38, h_38, hK38⟩ := hR38
  obtain ⟨rfl, rfl, rfl⟩ := tup_inj h_38
  replace hK21 := hK21.mono hF_3_8
  replace hG31 := hG31.mono hF_3_8
  refine stN (fun _ => by kernel_rfl) rfl tN68 rfl rfl rfl .head rfl trivial rfl rfl ?_
  refine r_seg 11 11 [] [9, 10] (by kernel_rfl) ?_
  refine s1 rfl (det_assign rfl) rfl rfl trivial rfl ?_
  refine s1 rfl (det_assign rfl) rfl rfl trivial rfl ?_
  refine sg_nil ?_
  refine be rfl ?_
  refine np ?_
  refine np ?_
  refine k_then ?_
  refine t_seq ?_
  refine b0 ?_
  refine o1 rfl (det_loadN tN68 rfl rfl (.head _) rfl) rfl rfl trivial ?_
  refine oF nofun rfl hb46 rfl rfl rfl trivial (fun w1 hs => choose_at (p := pW1 (opL A1 n1 k1 1)) (p2 := pW2 (opL A1 n1 k1 1)) (t := 0) (y := 0) hs.know hK38 (by kernel_rfl)) (fun v44 F5 hF5 hNF5 ⟨B44, m44, d44, ms44, hv44, hK44⟩ => ?_)
  subst hv44
  replace hK21 := hK21.mono hF5
  replace hG31 := hG31.mono hF5
  refine o1 rfl (det_move rfl) rfl rfl trivial ?_
  refine o1 rfl (det_extract rfl rfl) rfl rfl trivial ?_
  refine o1 rfl (det_extract rfl rfl) rfl rfl trivial ?_
  refine om1 rfl (new_alloc z68) rfl rfl trivial (fun p9 => ?_)
  refine stN nofun rfl tN68 rfl rfl rfl .head rfl trivial rfl rfl ?_
  refine o1 rfl (det_assign rfl) rfl rfl trivial ?_
  refine be rfl ?_
  refine k_then ?_
  refine t_seq ?_
  refine b0 ?_
  refine o1 rfl (det_loadN tN68 rfl rfl (.head _) rfl) rfl rfl trivial ?_
  refine o1 rfl (det_call hb43 rfl rfl (fun w1 hs => next_at (x := 200) (y := 0) hs.know hK44 (by kernel_rfl))) rfl rfl trivial ?_
  refine o1 rfl (det_move rfl) rfl rfl trivial ?_
  refine o1 rfl (det_extract rfl rfl) rfl rfl trivial ?_
  refine o1 rfl (det_extract rfl rfl) rfl rfl trivial ?_
  refine o1 rfl (det_assign rfl) rfl rfl trivial ?_
  refine o1 rfl (det_assign rfl) rfl rfl trivial ?_
  refine be rfl ?_
  refine k_then ?_
  refine t_seq ?_
  refine b0 ?_
  refine o1 rfl (det_loadN tN68 rfl rfl (.tail _ (.tail _ (.tail _ (.tail _ (.head _))))) rfl) rfl rfl trivial ?_
  refine oF nofun rfl hb44 rfl rfl rfl trivial (fun w1 hs => end_at (p2 := zeroP) (i := dIt) (b := false) (t := 1) (y := 2) hs.know hK21 (by kernel_rfl)) (fun v54 F6 hF6 hNF6 ⟨B54, m54, d54, ms54, hv54, hK54⟩ => ?_)
  subst hv54
  replace hG31 := hG31.mono hF6
  refine o1 rfl (det_move rfl) rfl rfl trivial ?_
  refine o1 rfl (det_extract rfl rfl) rfl rfl trivial ?_
  refine o1 rfl (det_extract rfl rfl) rfl rfl trivial ?_
  refine o1 rfl (det_extract rfl rfl) rfl rfl trivial ?_
  refine o1 rfl (det_extract rfl rfl) rfl rfl trivial ?_
  refine om1 rfl (new_alloc z68) rfl rfl trivial (fun p13 => ?_)
  refine om1 rfl (new_alloc z55) rfl rfl trivial (fun p14 => ?_)
  refine stN nofun rfl tN68 rfl rfl rfl (.tail .head) rfl trivial rfl rfl ?_
  refine stN nofun rfl tN55 rfl rfl rfl .head rfl trivial rfl rfl ?_
  refine o1 rfl (det_assign rfl) rfl rfl trivial ?_
  refine o1 rfl (det_assign rfl) rfl rfl trivial ?_
  refine be rfl ?_
  refine k_then ?_
  refine t_seq ?_
  refine b0 ?_
  refine o1 rfl (det_move rfl) rfl rfl trivial ?_
  refine o1 rfl (det_eql rfl rfl) rfl rfl trivial ?_
  refine o2P beq_iff_eq rfl (det_move rfl) rfl rfl trivial (fun hb => ?_) (fun hb => ?_)
  rotate_left
  · exfalso; first | exact hb rfl | (simp at hb; done) | (revert hb; decide)
  refine o1 rfl (det_move rfl) rfl rfl ⟨_, rfl, rfl⟩ ?_
  refine o1 rfl (det_eql rfl rfl) rfl rfl ⟨_, rfl, rfl⟩ ?_
  refine o1 rfl (det_pickT rfl rfl) rfl rfl trivial ?_
  refine o2P beq_iff_eq rfl (det_move rfl) rfl rfl trivial (fun hb => ?_) (fun hb => ?_)
  rotate_left
  · exfalso; first | exact hb rfl | (simp at hb; done) | (revert hb; decide)
  refine o1 rfl (det_move rfl) rfl rfl ⟨_, rfl, rfl⟩ ?_
  refine o1 rfl (det_eql rfl rfl) rfl rfl ⟨_, rfl, rfl⟩ ?_
  refine o1 rfl (det_pickT rfl rfl) rfl rfl trivial ?_
  refine o2P beq_iff_eq rfl (det_move rfl) rfl rfl trivial (fun hb => ?_) (fun hb => ?_)
  rotate_left
  · exfalso; first | exact hb rfl | (simp at hb; done) | (revert hb; decide)
  refine o1 rfl (det_move rfl) rfl rfl ⟨_, rfl, rfl⟩ ?_
  refine o1 rfl (det_eql rfl rfl) rfl rfl ⟨_, rfl, rfl⟩ ?_
  refine o1 rfl (det_pickT rfl rfl) rfl rfl trivial ?_
  refine o2P beq_iff_eq rfl (det_move rfl) rfl rfl trivial (fun hb => ?_) (fun hb => ?_)
  rotate_left
  · exfalso; first | exact hb rfl | (simp at hb; done) | (revert hb; decide)
  refine o1 rfl (det_move rfl) rfl rfl ⟨_, rfl, rfl⟩ ?_
  refine o1 rfl (det_eql rfl rfl) rfl rfl ⟨_, rfl, rfl⟩ ?_
  refine o1 rfl (det_pickT rfl rfl) rfl rfl trivial ?_
  refine o1 rfl (det_assign rfl) rfl rfl trivial ?_
  refine be rfl ?_
  refine k_then ?_
  refine t_seq ?_
  refine b0 ?_
  refine o1 rfl (det_move rfl) rfl rfl trivial ?_
  refine o2P beq_iff_eq rfl (det_move rfl) rfl rfl trivial (fun hb => ?_) (fun hb => ?_)
  rotate_left
  · exfalso; first | exact hb rfl | (simp at hb; done) | (revert hb; decide)
  refine o1 rfl (det_move rfl) rfl rfl ⟨_, rfl, rfl⟩ ?_
  refine o1 rfl (det_call hb48 rfl rfl (fun w1 hs => frameI_ok hs.know)) rfl rfl ⟨_, rfl, rfl⟩ ?_
  refine o1 rfl (det_build rfl (fun w => bld88_0_1 _ _ _ _ _ _ w)) rfl rfl ⟨_, rfl, rfl⟩ ?_
  refine o1 rfl (det_call hb48 rfl rfl (fun w1 hs => frameI_ok hs.know)) rfl rfl ⟨_, rfl, rfl⟩ ?_
  refine o1 rfl (det_build rfl (fun w => bld88_0_1 _ _ _ _ _ _ w)) rfl rfl ⟨_, rfl, rfl⟩ ?_
  refine om1 rfl (new_buildSlice rfl (fun w => bsl83_2_0_1 _ _ _ _ _ _ _ _ _ _ _ _ w)) rfl rfl ⟨_, rfl, rfl⟩ (fun p84 => ?_)
  refine o1 rfl (det_call hb68 rfl rfl (fun w1 hs => geq_ok (F := fun a => w1.cell? a) (fun _ _ h => h) (hG31.mono hs.know) (sat_rowsC (l := goneW) hs (.head _) rfl) (by have := hG31.len; rw [this]; decide))) rfl rfl ⟨_, rfl, rfl⟩ ?_
  refine o1 rfl (det_pickT rfl rfl) rfl rfl trivial ?_
  refine o1 rfl (det_move rfl) rfl rfl trivial ?_
  refine o1 rfl (det_fieldAddr fld68_1 rfl) rfl rfl ⟨_, rfl, rfl⟩ ?_
  refine o1 rfl (det_load1 t1_3 rfl rfl (.tail _ (.tail _ (.tail _ (.tail _ (.tail _ (.head _)))))) rfl) rfl rfl ⟨_, rfl, rfl⟩ ?_
  refine o1 rfl (det_eql rfl rfl) rfl rfl ⟨_, rfl, rfl⟩ ?_
  refine o1 rfl (det_pickT rfl rfl) rfl rfl trivial ?_
  refine o2P beq_iff_eq rfl (det_move rfl) rfl rfl trivial (fun hb => ?_) (fun hb => ?_)
  rotate_left
  · exfalso; first | exact hb rfl | (simp at hb; done) | (revert hb; decide)
  refine o1 rfl (det_move rfl) rfl rfl ⟨_, rfl, rfl⟩ ?_
  refine o1 rfl (det_pickT rfl rfl) rfl rfl trivial ?_
  refine o2P Iff.rfl rfl (det_move rfl) rfl rfl trivial (fun hb => ?_) (fun hb => ?_)
  rotate_left
  · exfalso; first | exact hb rfl | (simp at hb; done) | (revert hb; decide)
  refine o1 rfl (det_fieldAddr fld68_3 rfl) rfl rfl ⟨_, rfl, rfl⟩ ?_
  refine o1 rfl (det_load1 t1_4 rfl rfl (.tail _ (.tail _ (.tail _ (.head _)))) rfl) rfl rfl ⟨_, rfl, rfl⟩ ?_
  refine o1 rfl (det_pickT rfl rfl) rfl rfl trivial ?_
  refine o2P Iff.rfl rfl (det_move rfl) rfl rfl trivial (fun hb => ?_) (fun hb => ?_)
  rotate_left
  · exfalso; exact hb (by kernel_rfl)
  refine o1 rfl (det_move rfl) rfl rfl ⟨_, rfl, rfl⟩ ?_
  refine o1 rfl (det_eql rfl rfl) rfl rfl ⟨_, rfl, rfl⟩ ?_
  refine o1 rfl (det_pickT rfl rfl) rfl rfl trivial ?_
  refine o2P beq_iff_eq rfl (det_move rfl) rfl rfl trivial (fun hb => ?_) (fun hb => ?_)
  rotate_left
  · exfalso; first | exact hb rfl | (simp at hb; done) | (revert hb; decide)
  refine o1 rfl (det_move rfl) rfl rfl ⟨_, rfl, rfl⟩ ?_
  refine o1 rfl (det_eql rfl rfl) rfl rfl ⟨_, rfl, rfl⟩ ?_
  refine o1 rfl (det_pickT rfl rfl) rfl rfl trivial ?_
  refine o2P beq_iff_eq rfl (det_move rfl) rfl rfl trivial (fun hb => ?_) (fun hb => ?_)
  rotate_left
  · exfalso; first | exact hb rfl | (simp at hb; done) | (revert hb; decide)
  refine o1 rfl (det_build rfl (fun w => bld68_ w)) rfl rfl ⟨_, rfl, rfl⟩ ?_
  refine o1 rfl (det_call hb37 rfl rfl (fun w1 hs => pcheck_at (p := zeroP) (x := 480) hs.know (zero_k _) (by kernel_rfl))) rfl rfl ⟨_, rfl, rfl⟩ ?_
  refine o1 rfl (det_eql rfl rfl) rfl rfl ⟨_, rfl, rfl⟩ ?_
  refine o1 rfl (det_pickT rfl rfl) rfl rfl trivial ?_
  refine o1 rfl (det_assign rfl) rfl rfl trivial ?_
  refine be rfl ?_
  refine k_then ?_
  refine t_ret ?_
  refine ret_tmp rfl rfl rfl (fun w1 hs => ?_)
  exact ⟨rfl, hs.keep⟩
end Go.Proofs.Cp

/-
  Walks through layer 38.
-/
namespace Go.Proofs.Cp
open Go Go.Eng Go.Gt Go.Proofs.Gt Go.Sw Go.Qu Go.Ch Go.Po
set_option maxRecDepth 4000
theorem intsK_of {F : Know} {A : Option Addr} {n : Nat} {ys : List Int} (hn : n = ys.length) (hr : ∀ i (h : i < ys.length), IntKind.i64.min ≤ ys[i] ∧ ys[i] ≤ IntKind.i64.max) (h : ∀ k u, (ys.map (Value.int .i64))[k]? = some u → ∃ a, A = some a ∧ F (a.add k) = some u) : IntsK F .i64 A n ys :=
  ⟨hn, fun i x hx => h i _ (by rw [List.getElem?_map, hx]; rfl), hr⟩
theorem intsK_take {F : Know} {A : Option Addr} {n : Nat} {xs : List Int} (h : IntsK F .i64 A n xs) : IntsK F .i64 A (min (n : Int) 12).toNat (xs.take 12) :=
  ⟨by rw [List.length_take, ← h.len]; omega, fun i x hx => h.at_ i x (by rw [List.getElem?_take] at hx; split at hx <;> simp_all), fun i hi => by rw [List.getElem_take]; exact h.rng i (by rw [List.length_take] at hi; omega)⟩
theorem ints_flat {F : Know} {A : Option Addr} {n : Nat} {xs : List Int} (h : IntsK F .i64 A n xs) : ∀ k u, (xs.map (Value.int .i64))[k]? = some u → ∃ a, A = some a ∧ F (a.add k) = some u := fun k u hu => by
  rw [List.getElem?_map] at hu
  cases hx : xs[k]? with
  | none => rw [hx] at hu; cases hu
  | some x => rw [hx] at hu; cases hu; exact h.at_ k x hx
theorem bad_zero (ys : List Int) : badK ys 0 = decide (ys.length ≠ 8) := by simp [badK]
theorem news_ok {w : World} {F : Know} (hF : ∀ a v, F a = some v → w.cell? a = some v) {l : Ln} (hl : LnK F l) (hec : l.g.n ≤ l.g.cap) {A : Option Addr} {n c : Nat} {xs : List Int} (hI : IntsK F .i64 A n xs) (hnc : n ≤ c) : Pure Try.prog 11 [.agg (lnv l).toArray, .slice A n c] w (.bool true) := by
  have hT := intsK_take hI
  have hln := hl.len
  refine fn_pure (F := F) Try.func11 rfl Try.ntmps11 rfl hF ?_
  refine t_seq ?_
  refine b0 ?_
  refine om1 rfl (new_boxN rfl) rfl rfl trivial (fun p2 => ?_)
  refine o1 rfl (det_assign rfl) rfl rfl trivial ?_
  refine be rfl ?_
  refine k_then ?_
  refine t_seq ?_
  refine t_seq ?_
  refine b0 ?_
  refine o1 rfl (det_call hb33 rfl rfl (fun w1 hs => pwakes_ok hs.know)) rfl rfl trivial ?_
  refine o1 rfl (det_not rfl) rfl rfl trivial ?_
  refine be rfl ?_
  refine k_then ?_
  refine t_condF rfl ?_
  refine t_skip ?_
  refine k_then ?_
  refine t_seq ?_
  refine b0 ?_
  refine o1 rfl (det_fieldAddr fld26_0 rfl) rfl rfl trivial ?_
  refine o1 rfl (det_fieldAddr fld24_0 rfl) rfl rfl trivial ?_
  refine o1 rfl (det_load1 t1_22 rfl rfl (.head _) rfl) rfl rfl trivial ?_
  refine o1 rfl (det_fieldAddr fld26_0 rfl) rfl rfl trivial ?_
  refine o1 rfl (det_fieldAddr fld24_0 rfl) rfl rfl trivial ?_
  refine o1 rfl (det_load1 t1_22 rfl rfl (.head _) rfl) rfl rfl trivial ?_
  refine o1 rfl (det_lenS sl22 rfl) rfl rfl trivial ?_
  refine o1 rfl (det_min2 rfl rfl) rfl rfl trivial ?_
  first | (refine o1 rfl (det_sliceTo sl22 rfl rfl ?_) rfl rfl trivial ?_; (· omega))
  refine o1 rfl (det_fieldAddr fld26_0 rfl) rfl rfl trivial ?_
  refine o1 rfl (det_fieldAddr fld24_0 rfl) rfl rfl trivial ?_
  refine st1 nofun rfl t1_22 rfl rfl rfl .head rfl trivial rfl ?_
  refine be rfl ?_
  refine k_then ?_
  refine t_seq ?_
  refine b0 ?_
  rcases Nat.eq_zero_or_pos ((min (n : Int) 12).toNat) with hm0 | hm0
  ·
    refine om1 rfl (new_buildSlice rfl (fun w => bsl65_0_ w)) rfl rfl trivial (fun p25 => ?_)
    refine o1 rfl (det_move rfl) rfl rfl trivial ?_
    refine o1 rfl (det_move rfl) rfl rfl trivial ?_
    refine o1 rfl (det_lenS sl65 rfl) rfl rfl trivial ?_
    refine o1 rfl (det_min2 rfl rfl) rfl rfl trivial ?_
    first | (refine o1 rfl (det_sliceTo sl65 rfl rfl ?_) rfl rfl trivial ?_; (· omega))
    refine o1 rfl (det_appZ hm0 ap65 rfl rfl) rfl rfl trivial ?_
    refine o1 rfl (det_assign rfl) rfl rfl trivial ?_
    refine be rfl ?_
    refine k_then ?_
    refine t_seq ?_
    refine b0 ?_
    have hY : IntsK F .i64 (some ⟨p25, 0, none⟩) 0 (xs.take 12) := by
      have e : xs.take 12 = [] := List.eq_nil_of_length_eq_zero (by rw [← hT.len]; exact hm0)
      rw [e]
      exact ⟨rfl, fun i x h => by simp at h, fun i h => by simp at h⟩
    obtain ⟨pp, y, hne⟩ : ∃ pp y, newS (fewL l) (xs.take 12) = (pp, y) := ⟨_, _, rfl⟩
    refine o1 rfl (det_loadN tN26 rfl rfl (.tail _ (.head _)) rfl) rfl rfl trivial ?_
    refine o1 rfl (det_move rfl) rfl rfl trivial ?_
    refine oF nofun rfl hb34 rfl rfl rfl trivial (fun w1 hs => pnew_at hs.know (fewL_k hl) (by show fewN l ≤ l.g.cap; unfold fewN; omega) hY (by have := hT.len; have := List.length_take_le 12 xs; omega) hne) (fun v35 F3 hF3 hN3 ⟨B2, m2, d2, ms2, hv35, hK2⟩ => ?_)
    subst hv35
    replace hl := lnK_mono hl hF3
    replace hY := hY.mono hF3
    refine o1 rfl (det_move rfl) rfl rfl trivial ?_
    refine o1 rfl (det_extract rfl rfl) rfl rfl trivial ?_
    refine o1 rfl (det_extract rfl rfl) rfl rfl trivial ?_
    refine om1 rfl (new_alloc z68) rfl rfl trivial (fun p6 => ?_)
    refine stN nofun rfl tN68 rfl rfl rfl .head rfl trivial rfl rfl ?_
    refine o1 rfl (det_assign rfl) rfl rfl trivial ?_
    refine be rfl ?_
    refine k_then ?_
    refine t_seq ?_
    refine t_seq ?_
    refine b0 ?_
    refine o1 rfl (det_loadN tN26 rfl rfl (.tail _ (.tail _ (.head _))) rfl) rfl rfl trivial ?_
    refine o1 rfl (det_call hb18 rfl rfl (fun w1 hs => rline_ok (l := fewL l) hs.know (fewL_k hl))) rfl rfl trivial ?_
    refine o1 rfl (det_not rfl) rfl rfl trivial ?_
    refine be rfl ?_
    refine k_then ?_
    refine t_condP not_iff_false rfl (fun hb => ?_) (fun hb => ?_)
    ·
      have hL0 : okL (fewL l) = false := by simpa using hb
      rw [newS_line hL0] at hne
      cases hne
      refine t_seq ?_
      refine b0 ?_
      refine o1 rfl (det_loadN tN68 rfl rfl (.head _) rfl) rfl rfl trivial ?_
      refine o1 rfl (det_move rfl) rfl rfl trivial ?_
      refine o1 rfl (det_call hb35 rfl rfl (fun w1 hs => failed_ok hs.know hK2)) rfl rfl trivial ?_
      refine o1 rfl (det_assign rfl) rfl rfl trivial ?_
      refine be rfl ?_
      refine k_then ?_
      refine t_ret (k_thenR (?_))
      refine ret_tmp rfl rfl rfl (fun w1 hs => ?_)
      exact ⟨by simp, hs.keep⟩
    ·
      have hL : okL (fewL l) = true := by simpa using hb
      have hes : (fewL l).g.es.length ≤ 1000000 := by show (l.g.es.take (fewN l)).length ≤ _; rw [List.length_take]; unfold fewN; omega
      refine t_skip ?_
      refine k_then ?_
      refine t_seq ?_
      refine b0 ?_
      refine o1 rfl (det_loadN tN26 rfl rfl (.tail _ (.tail _ (.head _))) rfl) rfl rfl trivial ?_
      refine o1 rfl (det_build rfl (fun w => bld68_0 _ _ _ _ _ _ w)) rfl rfl trivial ?_
      refine om1 rfl (new_alloc z68) rfl rfl trivial (fun p8 => ?_)
      refine stN nofun rfl tN68 rfl rfl rfl .head rfl trivial rfl rfl ?_
      refine be rfl ?_
      refine k_then ?_
      refine t_seq ?_
      refine b0 ?_
      refine o1 rfl (det_move rfl) rfl rfl trivial ?_
      refine o1 rfl (det_lenS sl65 rfl) rfl rfl trivial ?_
      refine o1 rfl (det_neq rfl rfl) rfl rfl trivial ?_
      refine o1 rfl (det_assign rfl) rfl rfl trivial ?_
      refine be rfl ?_
      refine k_then ?_
      refine t_seq ?_
      refine t_seq ?_
      refine b0 ?_
      refine o1 rfl (det_move rfl) rfl rfl trivial ?_
      refine o1 rfl (det_lenS sl65 rfl) rfl rfl trivial ?_
      refine o1 rfl (det_move rfl) rfl rfl trivial ?_
      refine be rfl ?_
      refine k_then ?_
      refine t_block ?_
      refine t_whileM (σ := NS) (fun s => [(9, .bool (badK (xs.take 12) s.k)), (51, .int .i64 (s.k : Int))]) (fun s => [(p8, .cells (psv (startP (fewL l)) s.A s.k s.cp).toArray 68 (0, 0)), (p6, .cells (psv pp B2 m2 d2).toArray 68 (0, 0)), (p2, .cells (lnv (fewL l)).toArray 26 (0, 0))] ++ s.b) (fun s => (xs.take 12).length - s.k) (fun s => s.k ≤ (xs.take 12).length ∧ SlO 73 2 (.slice s.A s.k s.cp) s.k (rowsV qmv (newM (xs.take 12) s.k)) s.b) ⟨0, none, 0, []⟩ (env0 := [(4, _), (6, _), (7, _), (8, _), (49, _), (50, _)]) ⟨Nat.zero_le _, SlO.nil 73 2⟩ ⟨(mb rfl (by rw [bad_zero]; have := hY.len; grind)), rfl, trivial⟩ ⟨rfl, rfl, rfl, rfl, rfl, rfl, trivial⟩ (.cons_cons _ (.cons_cons _ (.cons _ (.refl _)))) ?_
      rintro s ⟨hsn, hS⟩
      refine t_seq ?_
      refine b0 ?_
      refine o1 rfl (det_lss rfl rfl) rfl rfl trivial ?_
      refine be rfl ?_
      refine k_then ?_
      refine t_seq ?_
      refine t_condP decide_eq_true_iff rfl (fun hb => ?_) (fun hb => ?_)
      ·
        exfalso
        simp at hb
        omega
        --end
      ·
        have hse : s.k = (xs.take 12).length := by have := hY.len; omega
        refine t_exit ?_
        refine k_thenE ?_
        refine k_thenE ?_
        refine k_blkE ?_
        refine k_then ?_
        refine t_seq ?_
        refine t_seq ?_
        refine b0 ?_
        refine o1 rfl (det_move rfl) rfl rfl trivial ?_
        refine be rfl ?_
        refine k_then ?_
        refine t_condP Iff.rfl rfl (fun hb => ?_) (fun hb => ?_)
        ·
          rw [hse] at hb
          rw [new_bad hL hb] at hne
          cases hne
          refine t_seq ?_
          refine b0 ?_
          refine o1 rfl (det_loadN tN68 rfl rfl (.tail _ (.head _)) rfl) rfl rfl trivial ?_
          refine o1 rfl (det_move rfl) rfl rfl trivial ?_
          refine o1 rfl (det_call hb35 rfl rfl (fun w1 hs => failed_ok hs.know hK2)) rfl rfl trivial ?_
          refine o1 rfl (det_assign rfl) rfl rfl trivial ?_
          refine be rfl ?_
          refine k_then ?_
          refine t_ret (k_thenR (?_))
          refine ret_tmp rfl rfl rfl (fun w1 hs => ?_)
          exact ⟨by simp, hs.keep⟩
        ·
          rw [hse] at hb
          obtain ⟨hng, h8, hall⟩ := new_good hL (eq_false_of_ne_true hb)
          rw [hng] at hne
          cases hne
          refine t_skip ?_
          refine k_then ?_
          refine t_seq ?_
          refine b0 ?_
          refine o1 rfl (det_loadN tN68 rfl rfl (.tail _ (.head _)) rfl) rfl rfl trivial ?_
          refine o1 rfl (det_move rfl) rfl rfl trivial ?_
          refine o1 rfl (det_loadN tN68 rfl rfl (.head _) rfl) rfl rfl trivial ?_
          refine o1 rfl (det_call hb36 rfl rfl (fun w1 hs => (by
              obtain ⟨A7, c7, h0, hn7, hm7, hR⟩ := hS.rows qmv_len (by decide) (F' := fun a => w1.cell? a) (fun p cs t fr k hm u hu => by
                have h9 := hs.own _ (show (p, Obj.cells cs t fr) ∈ _ from List.mem_append_right _ hm)
                simp only at h9
                simp [World.cell?, h9, hu])
              cases h0
              have hKw := new_k (lnK_mono (fewL_k hl) (fun a u h => hs.know a u h)) (by show fewN l ≤ l.g.cap; unfold fewN; omega) (by rw [newM_all (by omega)] at hR; exact hR) hn7 hm7
              exact like_ok (p2 := newP (fewL l) (xs.take 12)) (F := fun a => w1.cell? a) (fun _ _ h => h) (hK2.mono hs.know) hKw (SameP.refl _) hes (by simp [newP]; omega)))) rfl rfl trivial ?_
          refine o1 rfl (det_move rfl) rfl rfl trivial ?_
          refine o1 rfl (det_loadN tN68 rfl rfl (.tail _ (.head _)) rfl) rfl rfl ⟨_, rfl, rfl⟩ ?_
          refine o1 rfl (det_call hb37 rfl rfl (fun w1 hs => pcheck_at (x := 0) hs.know hK2 (by rw [if_pos (newP_check hL h8 hall)]))) rfl rfl ⟨_, rfl, rfl⟩ ?_
          refine o1 rfl (det_eql rfl rfl) rfl rfl ⟨_, rfl, rfl⟩ ?_
          refine o1 rfl (det_pickT rfl rfl) rfl rfl trivial ?_
          refine o1 rfl (det_assign rfl) rfl rfl trivial ?_
          refine be rfl ?_
          refine k_then ?_
          refine t_ret ?_
          refine ret_tmp rfl rfl rfl (fun w1 hs => ?_)
          exact ⟨by simp, hs.keep⟩
  ·
    refine om1 rfl (new_buildSlice rfl (fun w => bsl65_0_ w)) rfl rfl trivial (fun p25 => ?_)
    refine o1 rfl (det_move rfl) rfl rfl trivial ?_
    refine o1 rfl (det_move rfl) rfl rfl trivial ?_
    refine o1 rfl (det_lenS sl65 rfl) rfl rfl trivial ?_
    refine o1 rfl (det_min2 rfl rfl) rfl rfl trivial ?_
    first | (refine o1 rfl (det_sliceTo sl65 rfl rfl ?_) rfl rfl trivial ?_; (· omega))
    refine om rfl (new_app0 (m := (min (n : Int) 12).toNat) (news := ((xs.take 12).map (Value.int .i64))) ap65 rfl rfl (by rw [List.length_map, ← hT.len, Nat.mul_one]) (by omega) (ints_flat hT) (by omega) (by simp only [maxLen]; omega)) rfl rfl trivial (fun p31 v31 ob31 hS31 => ?_)
    obtain ⟨A31, k31, rfl, hb31, hc31, -⟩ := hS31.slice
    refine o1 rfl (det_assign rfl) rfl rfl trivial ?_
    refine be rfl ?_
    refine k_then ?_
    refine t_seq ?_
    refine b0 ?_
    refine tk_rot1 ?_
    refine tk_freezeL (pre := [_, _]) hS31 rfl (fun Fb hFb hNb hKb => ?_)
    replace hl := lnK_mono hl hFb
    have hY : IntsK Fb .i64 A31 (min (n : Int) 12).toNat (xs.take 12) := intsK_of hT.len hT.rng hKb
    obtain ⟨pp, y, hne⟩ : ∃ pp y, newS (fewL l) (xs.take 12) = (pp, y) := ⟨_, _, rfl⟩
    refine o1 rfl (det_loadN tN26 rfl rfl (.tail _ (.head _)) rfl) rfl rfl trivial ?_
    refine o1 rfl (det_move rfl) rfl rfl trivial ?_
    refine oF nofun rfl hb34 rfl rfl rfl trivial (fun w1 hs => pnew_at hs.know (fewL_k hl) (by show fewN l ≤ l.g.cap; unfold fewN; omega) hY (by have := hT.len; have := List.length_take_le 12 xs; omega) hne) (fun v35 F3 hF3 hN3 ⟨B2, m2, d2, ms2, hv35, hK2⟩ => ?_)
    subst hv35
    replace hl := lnK_mono hl hF3
    replace hY := hY.mono hF3
    refine o1 rfl (det_move rfl) rfl rfl trivial ?_
    refine o1 rfl (det_extract rfl rfl) rfl rfl trivial ?_
    refine o1 rfl (det_extract rfl rfl) rfl rfl trivial ?_
    refine om1 rfl (new_alloc z68) rfl rfl trivial (fun p6 => ?_)
    refine stN nofun rfl tN68 rfl rfl rfl .head rfl trivial rfl rfl ?_
    refine o1 rfl (det_assign rfl) rfl rfl trivial ?_
    refine be rfl ?_
    refine k_then ?_
    refine t_seq ?_
    refine t_seq ?_
    refine b0 ?_
    refine o1 rfl (det_loadN tN26 rfl rfl (.tail _ (.tail _ (.head _))) rfl) rfl rfl trivial ?_
    refine o1 rfl (det_call hb18 rfl rfl (fun w1 hs => rline_ok (l := fewL l) hs.know (fewL_k hl))) rfl rfl trivial ?_
    refine o1 rfl (det_not rfl) rfl rfl trivial ?_
    refine be rfl ?_
    refine k_then ?_
    refine t_condP not_iff_false rfl (fun hb => ?_) (fun hb => ?_)
    ·
      have hL0 : okL (fewL l) = false := by simpa using hb
      rw [newS_line hL0] at hne
      cases hne
      refine t_seq ?_
      refine b0 ?_
      refine o1 rfl (det_loadN tN68 rfl rfl (.head _) rfl) rfl rfl trivial ?_
      refine o1 rfl (det_move rfl) rfl rfl trivial ?_
      refine o1 rfl (det_call hb35 rfl rfl (fun w1 hs => failed_ok hs.know hK2)) rfl rfl trivial ?_
      refine o1 rfl (det_assign rfl) rfl rfl trivial ?_
      refine be rfl ?_
      refine k_then ?_
      refine t_ret (k_thenR (?_))
      refine ret_tmp rfl rfl rfl (fun w1 hs => ?_)
      exact ⟨by simp, hs.keep⟩
    ·
      have hL : okL (fewL l) = true := by simpa using hb
      have hes : (fewL l).g.es.length ≤ 1000000 := by show (l.g.es.take (fewN l)).length ≤ _; rw [List.length_take]; unfold fewN; omega
      refine t_skip ?_
      refine k_then ?_
      refine t_seq ?_
      refine b0 ?_
      refine o1 rfl (det_loadN tN26 rfl rfl (.tail _ (.tail _ (.head _))) rfl) rfl rfl trivial ?_
      refine o1 rfl (det_build rfl (fun w => bld68_0 _ _ _ _ _ _ w)) rfl rfl trivial ?_
      refine om1 rfl (new_alloc z68) rfl rfl trivial (fun p8 => ?_)
      refine stN nofun rfl tN68 rfl rfl rfl .head rfl trivial rfl rfl ?_
      refine be rfl ?_
      refine k_then ?_
      refine t_seq ?_
      refine b0 ?_
      refine o1 rfl (det_move rfl) rfl rfl trivial ?_
      refine o1 rfl (det_lenS sl65 rfl) rfl rfl trivial ?_
      refine o1 rfl (det_neq rfl rfl) rfl rfl trivial ?_
      refine o1 rfl (det_assign rfl) rfl rfl trivial ?_
      refine be rfl ?_
      refine k_then ?_
      refine t_seq ?_
      refine t_seq ?_
      refine b0 ?_
      refine o1 rfl (det_move rfl) rfl rfl trivial ?_
      refine o1 rfl (det_lenS sl65 rfl) rfl rfl trivial ?_
      refine o1 rfl (det_move rfl) rfl rfl trivial ?_
      refine be rfl ?_
      refine k_then ?_
      refine t_block ?_
      refine t_whileM (σ := NS) (fun s => [(9, .bool (badK (xs.take 12) s.k)), (51, .int .i64 (s.k : Int))]) (fun s => [(p8, .cells (psv (startP (fewL l)) s.A s.k s.cp).toArray 68 (0, 0)), (p6, .cells (psv pp B2 m2 d2).toArray 68 (0, 0)), (p2, .cells (lnv (fewL l)).toArray 26 (0, 0))] ++ s.b) (fun s => (xs.take 12).length - s.k) (fun s => s.k ≤ (xs.take 12).length ∧ SlO 73 2 (.slice s.A s.k s.cp) s.k (rowsV qmv (newM (xs.take 12) s.k)) s.b) ⟨0, none, 0, []⟩ (env0 := [(4, _), (6, _), (7, _), (8, _), (49, _), (50, _)]) ⟨Nat.zero_le _, SlO.nil 73 2⟩ ⟨(mb rfl (by rw [bad_zero]; have := hY.len; grind)), rfl, trivial⟩ ⟨rfl, rfl, rfl, rfl, rfl, rfl, trivial⟩ (.cons_cons _ (.cons_cons _ (.cons _ (.refl _)))) ?_
      rintro s ⟨hsn, hS⟩
      refine t_seq ?_
      refine b0 ?_
      refine o1 rfl (det_lss rfl rfl) rfl rfl trivial ?_
      refine be rfl ?_
      refine k_then ?_
      refine t_seq ?_
      refine t_condP decide_eq_true_iff rfl (fun hb => ?_) (fun hb => ?_)
      ·
        have hlt : s.k < (xs.take 12).length := by have := hY.len; omega
        obtain ⟨a9, rfl⟩ := hY.some hlt
        have hcx := hY.cell (i := (s.k : Int)) (by omega) (by omega)
        obtain ⟨x, hx⟩ : ∃ x, (xs.take 12)[s.k] = x := ⟨_, rfl⟩
        simp only [Int.toNat_natCast, hx] at hcx
        refine t_skip ?_
        refine k_then ?_
        refine t_seq ?_
        refine t_block ?_
        refine t_seq ?_
        refine b0 ?_
        first | (refine o1 rfl (det_indexAddr sl65 rfl rfl ?_) rfl rfl trivial ?_; (· (first | decide | omega)))
        refine o1 rfl (det_loadK t1_3 rfl hcx) rfl rfl trivial ?_
        refine o1 rfl (det_assign rfl) rfl rfl trivial ?_
        refine be rfl ?_
        refine k_then ?_
        refine t_seq ?_
        refine b0 ?_
        refine o1 rfl (det_move rfl) rfl rfl trivial ?_
        refine o2P Iff.rfl rfl (det_move rfl) rfl rfl trivial (fun hb => ?_) (fun hb => ?_)
        ·
          skip
          refine on rfl rfl rfl ⟨_, rfl, .inl rfl⟩ ?_
          refine on rfl rfl rfl ⟨_, rfl, .inl rfl⟩ ?_
          refine o1 rfl (det_pickT rfl rfl) rfl rfl trivial ?_
          refine o1 rfl (det_move rfl) rfl rfl trivial ?_
          refine on rfl rfl rfl ⟨_, rfl, .inl rfl⟩ ?_
          refine on rfl rfl rfl ⟨_, rfl, .inl rfl⟩ ?_
          refine o1 rfl (det_pickT rfl rfl) rfl rfl trivial ?_
          refine o1 rfl (det_assign rfl) rfl rfl trivial ?_
          refine be rfl ?_
          refine k_then ?_
          refine b0 ?_
          refine o1 rfl (det_fieldAddr fld68_2 rfl) rfl rfl trivial ?_
          refine o1 rfl (det_load1 t1_66 rfl rfl (.head _) rfl) rfl rfl trivial ?_
          refine o1 rfl (det_move rfl) rfl rfl trivial ?_
          refine o1 rfl (det_build rfl (fun w => bld73_0 _ w)) rfl rfl trivial ?_
          refine om1 rfl (new_buildSlice rfl (fun w => bsl66_1_0 _ _ _ _ w)) rfl rfl trivial (fun p68 => ?_)
          refine oAppS (pre := [_, _, _, _]) (b := _) (m := 1) (news := qmv (emptyM x)) nofun rfl ap66 rfl rfl rfl trivial hS rfl (fun w hs j u hj => hs.cellO (.head _) hj) (qmv_one' [emptyM x]) (by omega) (by simp only [maxLen]; omega) (fun A9 c9 b9 hS9 => ?_)
          replace hS9 : SlO 73 2 (.slice A9 (s.k + 1) c9) (s.k + 1) (rowsV qmv (newM (xs.take 12) (s.k + 1))) b9 := by rw [newM_succ hlt, rowsV_app, rowsV_one, hx]; exact hS9
          refine o1 rfl (det_fieldAddr fld68_2 rfl) rfl rfl trivial ?_
          refine st1 nofun rfl t1_66 rfl rfl rfl (.tail .head) rfl trivial rfl ?_
          refine be rfl ?_
          refine k_blk ?_
          refine k_then ?_
          refine b0 ?_
          first | (refine o1 rfl (det_addI rfl rfl ?_) rfl rfl trivial ?_; (· omega)) | refine o1 rfl (det_add rfl rfl) rfl rfl trivial ?_
          refine o1 rfl (det_move rfl) rfl rfl trivial ?_
          refine be rfl ?_
          refine k_then ?_
          refine loop_back (⟨s.k + 1, A9, c9, b9⟩ : NS) ⟨by simp only; omega, hS9⟩ (by simp only; omega) ⟨(mb rfl (by rw [badK_succ hlt, hx]; unfold outC; grind)), rfl, rfl, rfl, rfl, rfl, rfl, rfl, trivial⟩ (.cons _ (.refl _))
        ·
          skip
          refine o1 rfl (det_move rfl) rfl rfl ⟨_, rfl, rfl⟩ ?_
          refine o1 rfl (det_lss rfl rfl) rfl rfl ⟨_, rfl, rfl⟩ ?_
          refine o1 rfl (det_pickF rfl rfl) rfl rfl trivial ?_
          refine o2P decide_eq_true_iff rfl (det_move rfl) rfl rfl trivial (fun hb => ?_) (fun hb => ?_)
          ·
            skip
            refine on rfl rfl rfl ⟨_, rfl, .inl rfl⟩ ?_
            refine on rfl rfl rfl ⟨_, rfl, .inl rfl⟩ ?_
            refine o1 rfl (det_pickT rfl rfl) rfl rfl trivial ?_
            refine o1 rfl (det_assign rfl) rfl rfl trivial ?_
            refine be rfl ?_
            refine k_then ?_
            refine b0 ?_
            refine o1 rfl (det_fieldAddr fld68_2 rfl) rfl rfl trivial ?_
            refine o1 rfl (det_load1 t1_66 rfl rfl (.head _) rfl) rfl rfl trivial ?_
            refine o1 rfl (det_move rfl) rfl rfl trivial ?_
            refine o1 rfl (det_build rfl (fun w => bld73_0 _ w)) rfl rfl trivial ?_
            refine om1 rfl (new_buildSlice rfl (fun w => bsl66_1_0 _ _ _ _ w)) rfl rfl trivial (fun p68 => ?_)
            refine oAppS (pre := [_, _, _, _]) (b := _) (m := 1) (news := qmv (emptyM x)) nofun rfl ap66 rfl rfl rfl trivial hS rfl (fun w hs j u hj => hs.cellO (.head _) hj) (qmv_one' [emptyM x]) (by omega) (by simp only [maxLen]; omega) (fun A9 c9 b9 hS9 => ?_)
            replace hS9 : SlO 73 2 (.slice A9 (s.k + 1) c9) (s.k + 1) (rowsV qmv (newM (xs.take 12) (s.k + 1))) b9 := by rw [newM_succ hlt, rowsV_app, rowsV_one, hx]; exact hS9
            refine o1 rfl (det_fieldAddr fld68_2 rfl) rfl rfl trivial ?_
            refine st1 nofun rfl t1_66 rfl rfl rfl (.tail .head) rfl trivial rfl ?_
            refine be rfl ?_
            refine k_blk ?_
            refine k_then ?_
            refine b0 ?_
            first | (refine o1 rfl (det_addI rfl rfl ?_) rfl rfl trivial ?_; (· omega)) | refine o1 rfl (det_add rfl rfl) rfl rfl trivial ?_
            refine o1 rfl (det_move rfl) rfl rfl trivial ?_
            refine be rfl ?_
            refine k_then ?_
            refine loop_back (⟨s.k + 1, A9, c9, b9⟩ : NS) ⟨by simp only; omega, hS9⟩ (by simp only; omega) ⟨(mb rfl (by rw [badK_succ hlt, hx]; unfold outC; grind)), rfl, rfl, rfl, rfl, rfl, rfl, rfl, trivial⟩ (.cons _ (.refl _))
          ·
            skip
            refine o1 rfl (det_move rfl) rfl rfl ⟨_, rfl, rfl⟩ ?_
            refine o1 rfl (det_gtr rfl rfl) rfl rfl ⟨_, rfl, rfl⟩ ?_
            refine o1 rfl (det_pickF rfl rfl) rfl rfl trivial ?_
            refine o1 rfl (det_assign rfl) rfl rfl trivial ?_
            refine be rfl ?_
            refine k_then ?_
            refine b0 ?_
            refine o1 rfl (det_fieldAddr fld68_2 rfl) rfl rfl trivial ?_
            refine o1 rfl (det_load1 t1_66 rfl rfl (.head _) rfl) rfl rfl trivial ?_
            refine o1 rfl (det_move rfl) rfl rfl trivial ?_
            refine o1 rfl (det_build rfl (fun w => bld73_0 _ w)) rfl rfl trivial ?_
            refine om1 rfl (new_buildSlice rfl (fun w => bsl66_1_0 _ _ _ _ w)) rfl rfl trivial (fun p68 => ?_)
            refine oAppS (pre := [_, _, _, _]) (b := _) (m := 1) (news := qmv (emptyM x)) nofun rfl ap66 rfl rfl rfl trivial hS rfl (fun w hs j u hj => hs.cellO (.head _) hj) (qmv_one' [emptyM x]) (by omega) (by simp only [maxLen]; omega) (fun A9 c9 b9 hS9 => ?_)
            replace hS9 : SlO 73 2 (.slice A9 (s.k + 1) c9) (s.k + 1) (rowsV qmv (newM (xs.take 12) (s.k + 1))) b9 := by rw [newM_succ hlt, rowsV_app, rowsV_one, hx]; exact hS9
            refine o1 rfl (det_fieldAddr fld68_2 rfl) rfl rfl trivial ?_
            refine st1 nofun rfl t1_66 rfl rfl rfl (.tail .head) rfl trivial rfl ?_
            refine be rfl ?_
            refine k_blk ?_
            refine k_then ?_
            refine b0 ?_
            first | (refine o1 rfl (det_addI rfl rfl ?_) rfl rfl trivial ?_; (· omega)) | refine o1 rfl (det_add rfl rfl) rfl rfl trivial ?_
            refine o1 rfl (det_move rfl) rfl rfl trivial ?_
            refine be rfl ?_
            refine k_then ?_
            refine loop_back (⟨s.k + 1, A9, c9, b9⟩ : NS) ⟨by simp only; omega, hS9⟩ (by simp only; omega) ⟨(mb rfl (by rw [badK_succ hlt, hx]; unfold outC; grind)), rfl, rfl, rfl, rfl, rfl, rfl, rfl, trivial⟩ (.cons _ (.refl _))
      ·
        have hse : s.k = (xs.take 12).length := by have := hY.len; omega
        refine t_exit ?_
        refine k_thenE ?_
        refine k_thenE ?_
        refine k_blkE ?_
        refine k_then ?_
        refine t_seq ?_
        refine t_seq ?_
        refine b0 ?_
        refine o1 rfl (det_move rfl) rfl rfl trivial ?_
        refine be rfl ?_
        refine k_then ?_
        refine t_condP Iff.rfl rfl (fun hb => ?_) (fun hb => ?_)
        ·
          rw [hse] at hb
          rw [new_bad hL hb] at hne
          cases hne
          refine t_seq ?_
          refine b0 ?_
          refine o1 rfl (det_loadN tN68 rfl rfl (.tail _ (.head _)) rfl) rfl rfl trivial ?_
          refine o1 rfl (det_move rfl) rfl rfl trivial ?_
          refine o1 rfl (det_call hb35 rfl rfl (fun w1 hs => failed_ok hs.know hK2)) rfl rfl trivial ?_
          refine o1 rfl (det_assign rfl) rfl rfl trivial ?_
          refine be rfl ?_
          refine k_then ?_
          refine t_ret (k_thenR (?_))
          refine ret_tmp rfl rfl rfl (fun w1 hs => ?_)
          exact ⟨by simp, hs.keep⟩
        ·
          rw [hse] at hb
          obtain ⟨hng, h8, hall⟩ := new_good hL (eq_false_of_ne_true hb)
          rw [hng] at hne
          cases hne
          refine t_skip ?_
          refine k_then ?_
          refine t_seq ?_
          refine b0 ?_
          refine o1 rfl (det_loadN tN68 rfl rfl (.tail _ (.head _)) rfl) rfl rfl trivial ?_
          refine o1 rfl (det_move rfl) rfl rfl trivial ?_
          refine o1 rfl (det_loadN tN68 rfl rfl (.head _) rfl) rfl rfl trivial ?_
          refine o1 rfl (det_call hb36 rfl rfl (fun w1 hs => (by
              obtain ⟨A7, c7, h0, hn7, hm7, hR⟩ := hS.rows qmv_len (by decide) (F' := fun a => w1.cell? a) (fun p cs t fr k hm u hu => by
                have h9 := hs.own _ (show (p, Obj.cells cs t fr) ∈ _ from List.mem_append_right _ hm)
                simp only at h9
                simp [World.cell?, h9, hu])
              cases h0
              have hKw := new_k (lnK_mono (fewL_k hl) (fun a u h => hs.know a u h)) (by show fewN l ≤ l.g.cap; unfold fewN; omega) (by rw [newM_all (by omega)] at hR; exact hR) hn7 hm7
              exact like_ok (p2 := newP (fewL l) (xs.take 12)) (F := fun a => w1.cell? a) (fun _ _ h => h) (hK2.mono hs.know) hKw (SameP.refl _) hes (by simp [newP]; omega)))) rfl rfl trivial ?_
          refine o1 rfl (det_move rfl) rfl rfl trivial ?_
          refine o1 rfl (det_loadN tN68 rfl rfl (.tail _ (.head _)) rfl) rfl rfl ⟨_, rfl, rfl⟩ ?_
          refine o1 rfl (det_call hb37 rfl rfl (fun w1 hs => pcheck_at (x := 0) hs.know hK2 (by rw [if_pos (newP_check hL h8 hall)]))) rfl rfl ⟨_, rfl, rfl⟩ ?_
          refine o1 rfl (det_eql rfl rfl) rfl rfl ⟨_, rfl, rfl⟩ ?_
          refine o1 rfl (det_pickT rfl rfl) rfl rfl trivial ?_
          refine o1 rfl (det_assign rfl) rfl rfl trivial ?_
          refine be rfl ?_
          refine k_then ?_
          refine t_ret ?_
          refine ret_tmp rfl rfl rfl (fun w1 hs => ?_)
          exact ⟨by simp, hs.keep⟩
end Go.Proofs.Cp
