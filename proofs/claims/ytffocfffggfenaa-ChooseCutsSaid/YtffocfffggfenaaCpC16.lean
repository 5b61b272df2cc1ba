/-
  Walks through layers 36, 37 and 38 and their references.
-/
import Derived.Test.YtffocfffggfenaaCpC15
namespace Go.Proofs.Cp
open Go Go.Eng Go.Gt Go.Proofs.Gt Go.Sw Go.Qu Go.Ch
set_option maxRecDepth 4000

theorem own_rows {F2 : Know} {p : Nat} {T : TypeId} {ps : List Pt} (h : ∀ a u, a.block = p → objCell a (.cells (rowsV ptv ps).toArray T (0, 0)) = some u → F2 a = some u) : PK F2 (some ⟨p, 0, none⟩) ps.length ps :=
  rowsK_of ptv_len (by decide) (fun j u hj => ⟨_, rfl, by rw [add_mk, Nat.zero_add]; exact h _ u rfl (by simp [objCell, hj])⟩) rfl
theorem lit_rows {F2 : Know} {p : Nat} {ps : List Pt} {cs : List Value} (h : ∀ k u, cs[k]? = some u → F2 ⟨p, k, none⟩ = some u) (hc : cs = rowsV ptv ps) : PK F2 (some ⟨p, 0, none⟩) ps.length ps :=
  rowsK_of ptv_len (by decide) (fun j u hj => ⟨_, rfl, by rw [add_mk, Nat.zero_add]; exact h _ u (by rw [hc]; exact hj)⟩) rfl
theorem lnK_mono {F F' : Know} {l : Ln} (h : LnK F l) (hF : Incl F F') : LnK F' l := EntK.mono h hF
theorem start_at {w : World} {F : Know} (hF : ∀ a v, F a = some v → w.cell? a = some v) {l : Ln} (hl : LnK F l) {A : Option Addr} {n c : Nat} {hs0 : List Pt} (hP : PK F A n hs0) (hnb : n ≤ 100000) {t x y : Int} (e : startA l hs0 t = (x, y)) : Pure Try.prog 22 [.agg (lnv l).toArray, .slice A n c, .int .i64 t] w (.tuple [.int .i64 x, .int .i64 y].toArray) := by
  have h := start_ok hF hl hP hnb (c := c) (t := t)
  rw [e] at h
  exact h
theorem when_at {w : World} {F : Know} (hF : ∀ a v, F a = some v → w.cell? a = some v) {l : Ln} (hl : LnK F l) {A : Option Addr} {n c : Nat} {hs0 : List Pt} (hP : PK F A n hs0) (hnb : n ≤ 100000) {t x y : Int} (e : whenA l hs0 t = (x, y)) : Pure Try.prog 26 [.agg (lnv l).toArray, .slice A n c, .int .i64 t] w (.tuple [.int .i64 x, .int .i64 y].toArray) := by
  have h := when_ok hF hl hP hnb (c := c) (t := t)
  rw [e] at h
  exact h
theorem may_at {w : World} {F : Know} (hF : ∀ a v, F a = some v → w.cell? a = some v) {l : Ln} (hl : LnK F l) {A : Option Addr} {n c : Nat} {hs0 : List Pt} (hP : PK F A n hs0) (hnb : n ≤ 100000) {cl t y : Int} {x : Bool} (e : mayA l hs0 cl t = (x, y)) : Pure Try.prog 21 [.agg (lnv l).toArray, .slice A n c, .int .i64 cl, .int .i64 t] w (.tuple [.bool x, .int .i64 y].toArray) := by
  have h := may_ok hF hl hP hnb (c := c) (cl := cl) (t := t)
  rw [e] at h
  exact h
theorem pre_at {w : World} {F : Know} (hF : ∀ a v, F a = some v → w.cell? a = some v) {l : Ln} (hl : LnK F l) {A : Option Addr} {n c : Nat} {hs0 : List Pt} (hP : PK F A n hs0) (hnb : n ≤ 100000) {o b t x y z : Int} (e : preA l hs0 o b t = (x, y, z)) : Pure Try.prog 28 [.agg (lnv l).toArray, .slice A n c, .int .i64 o, .int .i64 b, .int .i64 t] w (.tuple [.int .i64 x, .int .i64 y, .int .i64 z].toArray) := by
  have h := pre_ok hF hl hP hnb (c := c) (o := o) (b := b) (t := t)
  rw [e] at h
  exact h
theorem cline_at {w : World} {F : Know} (hF : ∀ a v, F a = some v → w.cell? a = some v) {l : Ln} (hl : LnK F l) {x : Int} (e : (if okL l then (0 : Int) else 471) = x) : Pure Try.prog 17 [.agg (lnv l).toArray] w (.int .i64 x) := by rw [← e]; exact cline_ok hF hl
theorem cheads_at {w : World} {F : Know} (hF : ∀ a v, F a = some v → w.cell? a = some v) {A : Option Addr} {n c : Nat} {hs0 : List Pt} (hP : PK F A n hs0) (hnb : n ≤ 100000) {x : Int} (e : (if okH hs0 then (0 : Int) else 470) = x) : Pure Try.prog 19 [.slice A n c] w (.int .i64 x) := by rw [← e]; exact cheads_ok hF hP hnb
/-- wakes. -/
theorem wakes_ok {w : World} {F : Know} (hF : ∀ a v, F a = some v → w.cell? a = some v)  : Pure Try.prog 15 [] w (.bool true) := by
  refine fn_pure (F := F) Try.func15 rfl Try.ntmps15 rfl hF ?_
  refine t_seq ?_
  refine b0 ?_
  refine o1 rfl (det_assign rfl) rfl rfl trivial ?_
  refine be rfl ?_
  refine k_then ?_
  refine t_seq ?_
  refine b0 ?_
  refine oF nofun rfl hb30 rfl rfl rfl trivial (fun w1 hs => (half_ok hs.know).any) (fun v1 F1 hF1 hNF1 ⟨A1, k1, n1, hv1, hl1⟩ => ?_)
  subst hv1
  refine o1 rfl (det_call hb31 rfl rfl (fun w1 hs => frame_ok hs.know)) rfl rfl trivial ?_
  refine o1 rfl (det_call hb31 rfl rfl (fun w1 hs => frame_ok hs.know)) rfl rfl trivial ?_
  refine om1 rfl (new_buildSlice rfl (fun w => bsl27_2_0_1 _ _ _ _ _ _ _ _ _ _ _ _ _ _ w)) rfl rfl trivial (fun p23 => ?_)
  refine tk_freeze (pre := []) rfl (fun Fa hFa hNa hKFa => ?_)
  refine oF nofun rfl hb32 rfl rfl rfl trivial (fun w1 hs => (heads_ok hs.know (lit_rows (ps := [frameP 2 200, frameP 6 300]) hKFa rfl) (by decide) (by decide)).any) (fun v24 F3 hF3 hNF3 ⟨q24, hv24, hP24⟩ => ?_)
  subst hv24
  replace hl1 := lnK_mono (lnK_mono hl1 hFa) hF3
  refine om1 rfl (new_alloc z26) rfl rfl trivial (fun p1 => ?_)
  refine stN nofun rfl tN26 rfl rfl rfl .head rfl trivial rfl rfl ?_
  refine o1 rfl (det_assign rfl) rfl rfl trivial ?_
  refine be rfl ?_
  refine k_then ?_
  refine t_seq ?_
  refine b0 ?_
  refine o1 rfl (det_loadN tN26 rfl rfl (.head _) rfl) rfl rfl trivial ?_
  refine o1 rfl (det_move rfl) rfl rfl trivial ?_
  refine o1 rfl (det_call hb22 rfl rfl (fun w1 hs => start_at hs.know hl1 hP24 (by decide) (t := 0) (x := 6) (y := 0) (by kernel_rfl))) rfl rfl trivial ?_
  refine o1 rfl (det_move rfl) rfl rfl trivial ?_
  refine o1 rfl (det_extract rfl rfl) rfl rfl trivial ?_
  refine o1 rfl (det_extract rfl rfl) rfl rfl trivial ?_
  refine o1 rfl (det_assign rfl) rfl rfl trivial ?_
  refine o1 rfl (det_assign rfl) rfl rfl trivial ?_
  refine be rfl ?_
  refine k_then ?_
  refine t_seq ?_
  refine b0 ?_
  refine o1 rfl (det_loadN tN26 rfl rfl (.head _) rfl) rfl rfl trivial ?_
  refine o1 rfl (det_move rfl) rfl rfl trivial ?_
  refine o1 rfl (det_call hb22 rfl rfl (fun w1 hs => start_at hs.know hl1 hP24 (by decide) (t := 750) (x := 2) (y := 0) (by kernel_rfl))) rfl rfl trivial ?_
  refine o1 rfl (det_move rfl) rfl rfl trivial ?_
  refine o1 rfl (det_extract rfl rfl) rfl rfl trivial ?_
  refine o1 rfl (det_extract rfl rfl) rfl rfl trivial ?_
  refine o1 rfl (det_assign rfl) rfl rfl trivial ?_
  refine o1 rfl (det_assign rfl) rfl rfl trivial ?_
  refine be rfl ?_
  refine k_then ?_
  refine t_seq ?_
  refine b0 ?_
  refine o1 rfl (det_loadN tN26 rfl rfl (.head _) rfl) rfl rfl trivial ?_
  refine o1 rfl (det_move rfl) rfl rfl trivial ?_
  refine o1 rfl (det_call hb22 rfl rfl (fun w1 hs => start_at hs.know hl1 hP24 (by decide) (t := 850) (x := 0) (y := 4) (by kernel_rfl))) rfl rfl trivial ?_
  refine o1 rfl (det_move rfl) rfl rfl trivial ?_
  refine o1 rfl (det_extract rfl rfl) rfl rfl trivial ?_
  refine o1 rfl (det_extract rfl rfl) rfl rfl trivial ?_
  refine o1 rfl (det_assign rfl) rfl rfl trivial ?_
  refine o1 rfl (det_assign rfl) rfl rfl trivial ?_
  refine be rfl ?_
  refine k_then ?_
  refine t_seq ?_
  refine b0 ?_
  refine o1 rfl (det_loadN tN26 rfl rfl (.head _) rfl) rfl rfl trivial ?_
  refine o1 rfl (det_move rfl) rfl rfl trivial ?_
  refine o1 rfl (det_call hb26 rfl rfl (fun w1 hs => when_at hs.know hl1 hP24 (by decide) (t := 850) (x := 2000) (y := 0) (by kernel_rfl))) rfl rfl trivial ?_
  refine o1 rfl (det_move rfl) rfl rfl trivial ?_
  refine o1 rfl (det_extract rfl rfl) rfl rfl trivial ?_
  refine o1 rfl (det_extract rfl rfl) rfl rfl trivial ?_
  refine o1 rfl (det_assign rfl) rfl rfl trivial ?_
  refine o1 rfl (det_assign rfl) rfl rfl trivial ?_
  refine be rfl ?_
  refine k_then ?_
  refine t_seq ?_
  refine bD mixed ?_
  refine r_segF 12 12 [2] [(3, Go.Eng.Told F3 (fun v F2 => ∃ q : Nat, v = .slice (some ⟨q, 0, none⟩) 8 8 ∧ PK F2 (some ⟨q, 0, none⟩) 8 (headsL [frameP 6 300])))] [0, 1, 2, 3, 4, 5, 6, 7, 8, 9, 10, 11] (by kernel_rfl) ?_
  refine s1 rfl (det_loadN tN26 rfl rfl (.head _) rfl) rfl rfl trivial rfl ?_
  refine s1 rfl (det_call hb31 rfl rfl (fun w1 hs => frame_ok hs.know)) rfl rfl trivial rfl ?_
  refine sm1 rfl (new_buildSlice rfl (fun w => bsl27_1_0 _ _ _ _ _ _ _ w)) rfl rfl trivial rfl (fun p52 => ?_)
  refine sM [_] (needC (.head _) rfl need0) rfl (fun F2 hF2 hN => mem_call hF2 hb32 rfl rfl (fun w1 hs => (heads_ok hs.know (own_rows (ps := [frameP 6 300]) (hN _ (.head _))) (by decide) (by decide)).any)) rfl rfl trivial rfl (fun v53 hv53 => ?_)
  obtain ⟨_, q_53, rfl, -⟩ := hv53
  refine s1N [_] (needC (.head _) rfl need0) rfl (fun F2 hF2 hN => det_call hb28 rfl rfl (fun w1 hs => (by obtain ⟨q9, hq, h9⟩ := hN _ (.head _); cases hq; exact pre_at hs.know (lnK_mono hl1 hF2) h9 (by decide) (o := 500) (b := 0) (t := 100) (x := 124) (y := 424) (z := 0) (by kernel_rfl)))) rfl rfl trivial rfl ?_
  refine s1 rfl (det_move rfl) rfl rfl trivial rfl ?_
  refine s1 rfl (det_extract rfl rfl) rfl rfl trivial rfl ?_
  refine s1 rfl (det_extract rfl rfl) rfl rfl trivial rfl ?_
  refine s1 rfl (det_extract rfl rfl) rfl rfl trivial rfl ?_
  refine s1 rfl (det_assign rfl) rfl rfl trivial rfl ?_
  refine s1 rfl (det_assign rfl) rfl rfl trivial rfl ?_
  refine s1 rfl (det_assign rfl) rfl rfl trivial rfl ?_
  refine sg_nil ?_
  rintro F_6_12 hF_6_12 hN_6_12 ⟨hR53, -⟩
  obtain ⟨q53, hq53, hP53⟩ := hR53
  cases hq53
  refine be rfl ?_
  refine k_then ?_
  refine t_seq ?_
  refine bD mixed ?_
  refine r_segF 10 10 [] [(1, Go.Eng.Told F_6_12 (fun v F2 => ∃ q : Nat, v = .slice (some ⟨q, 0, none⟩) 8 8 ∧ PK F2 (some ⟨q, 0, none⟩) 8 (headsL [])))] [0, 1, 2, 3, 4, 5, 6, 7, 8, 9] (by kernel_rfl) ?_
  refine s1 rfl (det_loadN tN26 rfl rfl (.tail _ (.head _)) rfl) rfl rfl trivial rfl ?_
  refine sM [] need0 rfl (fun F2 hF2 hN => mem_call hF2 hb32 rfl rfl (fun w1 hs => (heads_ok hs.know (rowsK_of ptv_len (by decide) (fun j u h => by cases h) rfl : PK _ none 0 []) (by decide) (by decide)).any)) rfl rfl trivial rfl (fun v60 hv60 => ?_)
  obtain ⟨_, q_60, rfl, -⟩ := hv60
  refine s1N [_] (needC (.head _) rfl need0) rfl (fun F2 hF2 hN => det_call hb28 rfl rfl (fun w1 hs => (by obtain ⟨q9, hq, h9⟩ := hN _ (.head _); cases hq; exact pre_at hs.know (lnK_mono (lnK_mono hl1 hF_6_12) hF2) h9 (by decide) (o := 500) (b := 0) (t := 100) (x := 0) (y := 0) (z := 4) (by kernel_rfl)))) rfl rfl trivial rfl ?_
  refine s1 rfl (det_move rfl) rfl rfl trivial rfl ?_
  refine s1 rfl (det_extract rfl rfl) rfl rfl trivial rfl ?_
  refine s1 rfl (det_extract rfl rfl) rfl rfl trivial rfl ?_
  refine s1 rfl (det_extract rfl rfl) rfl rfl trivial rfl ?_
  refine s1 rfl (det_assign rfl) rfl rfl trivial rfl ?_
  refine s1 rfl (det_assign rfl) rfl rfl trivial rfl ?_
  refine s1 rfl (det_assign rfl) rfl rfl trivial rfl ?_
  refine sg_nil ?_
  rintro F_7_10 hF_7_10 hN_7_10 ⟨hR60, -⟩
  obtain ⟨q60, hq60, hP60⟩ := hR60
  cases hq60
  refine be rfl ?_
  refine k_then ?_
  refine t_seq ?_
  refine bD mixed ?_
  refine r_segF 10 10 [2] [(3, Go.Eng.Told F_7_10 (fun v F2 => ∃ q : Nat, v = .slice (some ⟨q, 0, none⟩) 8 8 ∧ PK F2 (some ⟨q, 0, none⟩) 8 (headsL [frameP 7 100])))] [0, 1, 2, 3, 4, 5, 6, 7, 8, 9] (by kernel_rfl) ?_
  refine s1 rfl (det_loadN tN26 rfl rfl (.tail _ (.head _)) rfl) rfl rfl trivial rfl ?_
  refine s1 rfl (det_call hb31 rfl rfl (fun w1 hs => frame_ok hs.know)) rfl rfl trivial rfl ?_
  refine sm1 rfl (new_buildSlice rfl (fun w => bsl27_1_0 _ _ _ _ _ _ _ w)) rfl rfl trivial rfl (fun p68 => ?_)
  refine sM [_] (needC (.head _) rfl need0) rfl (fun F2 hF2 hN => mem_call hF2 hb32 rfl rfl (fun w1 hs => (heads_ok hs.know (own_rows (ps := [frameP 7 100]) (hN _ (.head _))) (by decide) (by decide)).any)) rfl rfl trivial rfl (fun v69 hv69 => ?_)
  obtain ⟨_, q_69, rfl, -⟩ := hv69
  refine s1N [_] (needC (.head _) rfl need0) rfl (fun F2 hF2 hN => det_call hb21 rfl rfl (fun w1 hs => (by obtain ⟨q9, hq, h9⟩ := hN _ (.head _); cases hq; exact may_at hs.know (lnK_mono hl1 (fun a u h => hF2 _ _ (hF_7_10 _ _ (hF_6_12 _ _ h)))) h9 (by decide) (cl := 7) (t := 1500) (x := true) (y := 0) (by kernel_rfl)))) rfl rfl trivial rfl ?_
  refine s1 rfl (det_move rfl) rfl rfl trivial rfl ?_
  refine s1 rfl (det_extract rfl rfl) rfl rfl trivial rfl ?_
  refine s1 rfl (det_extract rfl rfl) rfl rfl trivial rfl ?_
  refine s1 rfl (det_assign rfl) rfl rfl trivial rfl ?_
  refine s1 rfl (det_assign rfl) rfl rfl trivial rfl ?_
  refine sg_nil ?_
  rintro F_8_10 hF_8_10 hN_8_10 ⟨hR69, -⟩
  obtain ⟨q69, hq69, hP69⟩ := hR69
  cases hq69
  refine be rfl ?_
  refine k_then ?_
  refine t_seq ?_
  refine b0 ?_
  refine o1 rfl (det_move rfl) rfl rfl trivial ?_
  refine o1 rfl (det_eql rfl rfl) rfl rfl trivial ?_
  refine o2P beq_iff_eq rfl (det_move rfl) rfl rfl trivial (fun hb => ?_) (fun hb => ?_)
  rotate_left
  · exfalso; first | exact hb rfl | (simp at hb; done) | (revert hb; decide)
  refine o1 rfl (det_move rfl) rfl rfl ⟨_, rfl, rfl⟩ ?_
  refine o1 rfl (det_eql rfl rfl) rfl rfl ⟨_, rfl, rfl⟩ ?_
  refine o1 rfl (det_pickT rfl rfl) rfl rfl trivial ?_
  refine o2P beq_iff_eq rfl (det_move rfl) rfl rfl trivial (fun hb => ?_) (fun hb => ?_)
  rotate_left
  · exfalso; first | exact hb rfl | (simp at hb; done) | (revert hb; decide)
  refine o1 rfl (det_move rfl) rfl rfl ⟨_, rfl, rfl⟩ ?_
  refine o1 rfl (det_eql rfl rfl) rfl rfl ⟨_, rfl, rfl⟩ ?_
  refine o1 rfl (det_pickT rfl rfl) rfl rfl trivial ?_
  refine o2P beq_iff_eq rfl (det_move rfl) rfl rfl trivial (fun hb => ?_) (fun hb => ?_)
  rotate_left
  · exfalso; first | exact hb rfl | (simp at hb; done) | (revert hb; decide)
  refine o1 rfl (det_move rfl) rfl rfl ⟨_, rfl, rfl⟩ ?_
  refine o1 rfl (det_eql rfl rfl) rfl rfl ⟨_, rfl, rfl⟩ ?_
  refine o1 rfl (det_pickT rfl rfl) rfl rfl trivial ?_
  refine o2P beq_iff_eq rfl (det_move rfl) rfl rfl trivial (fun hb => ?_) (fun hb => ?_)
  rotate_left
  · exfalso; first | exact hb rfl | (simp at hb; done) | (revert hb; decide)
  refine o1 rfl (det_move rfl) rfl rfl ⟨_, rfl, rfl⟩ ?_
  refine o1 rfl (det_eql rfl rfl) rfl rfl ⟨_, rfl, rfl⟩ ?_
  refine o1 rfl (det_pickT rfl rfl) rfl rfl trivial ?_
  refine o1 rfl (det_assign rfl) rfl rfl trivial ?_
  refine be rfl ?_
  refine k_then ?_
  refine t_seq ?_
  refine b0 ?_
  refine o1 rfl (det_move rfl) rfl rfl trivial ?_
  refine o2P beq_iff_eq rfl (det_move rfl) rfl rfl trivial (fun hb => ?_) (fun hb => ?_)
  rotate_left
  · exfalso; first | exact hb rfl | (simp at hb; done) | (revert hb; decide)
  refine o1 rfl (det_move rfl) rfl rfl ⟨_, rfl, rfl⟩ ?_
  refine o1 rfl (det_eql rfl rfl) rfl rfl ⟨_, rfl, rfl⟩ ?_
  refine o1 rfl (det_pickT rfl rfl) rfl rfl trivial ?_
  refine o2P beq_iff_eq rfl (det_move rfl) rfl rfl trivial (fun hb => ?_) (fun hb => ?_)
  rotate_left
  · exfalso; first | exact hb rfl | (simp at hb; done) | (revert hb; decide)
  refine o1 rfl (det_move rfl) rfl rfl ⟨_, rfl, rfl⟩ ?_
  refine o1 rfl (det_eql rfl rfl) rfl rfl ⟨_, rfl, rfl⟩ ?_
  refine o1 rfl (det_pickT rfl rfl) rfl rfl trivial ?_
  refine o2P beq_iff_eq rfl (det_move rfl) rfl rfl trivial (fun hb => ?_) (fun hb => ?_)
  rotate_left
  · exfalso; first | exact hb rfl | (simp at hb; done) | (revert hb; decide)
  refine o1 rfl (det_move rfl) rfl rfl ⟨_, rfl, rfl⟩ ?_
  refine o1 rfl (det_eql rfl rfl) rfl rfl ⟨_, rfl, rfl⟩ ?_
  refine o1 rfl (det_pickT rfl rfl) rfl rfl trivial ?_
  refine o2P beq_iff_eq rfl (det_move rfl) rfl rfl trivial (fun hb => ?_) (fun hb => ?_)
  rotate_left
  · exfalso; first | exact hb rfl | (simp at hb; done) | (revert hb; decide)
  refine o1 rfl (det_move rfl) rfl rfl ⟨_, rfl, rfl⟩ ?_
  refine o1 rfl (det_eql rfl rfl) rfl rfl ⟨_, rfl, rfl⟩ ?_
  refine o1 rfl (det_pickT rfl rfl) rfl rfl trivial ?_
  refine o2P beq_iff_eq rfl (det_move rfl) rfl rfl trivial (fun hb => ?_) (fun hb => ?_)
  rotate_left
  · exfalso; first | exact hb rfl | (simp at hb; done) | (revert hb; decide)
  refine o1 rfl (det_move rfl) rfl rfl ⟨_, rfl, rfl⟩ ?_
  refine o1 rfl (det_eql rfl rfl) rfl rfl ⟨_, rfl, rfl⟩ ?_
  refine o1 rfl (det_pickT rfl rfl) rfl rfl trivial ?_
  refine o2P beq_iff_eq rfl (det_move rfl) rfl rfl trivial (fun hb => ?_) (fun hb => ?_)
  rotate_left
  · exfalso; first | exact hb rfl | (simp at hb; done) | (revert hb; decide)
  refine o1 rfl (det_move rfl) rfl rfl ⟨_, rfl, rfl⟩ ?_
  refine o1 rfl (det_eql rfl rfl) rfl rfl ⟨_, rfl, rfl⟩ ?_
  refine o1 rfl (det_pickT rfl rfl) rfl rfl trivial ?_
  refine o2P beq_iff_eq rfl (det_move rfl) rfl rfl trivial (fun hb => ?_) (fun hb => ?_)
  rotate_left
  · exfalso; first | exact hb rfl | (simp at hb; done) | (revert hb; decide)
  refine o1 rfl (det_move rfl) rfl rfl ⟨_, rfl, rfl⟩ ?_
  refine o1 rfl (det_eql rfl rfl) rfl rfl ⟨_, rfl, rfl⟩ ?_
  refine o1 rfl (det_pickT rfl rfl) rfl rfl trivial ?_
  refine o2P beq_iff_eq rfl (det_move rfl) rfl rfl trivial (fun hb => ?_) (fun hb => ?_)
  rotate_left
  · exfalso; first | exact hb rfl | (simp at hb; done) | (revert hb; decide)
  refine o1 rfl (det_move rfl) rfl rfl ⟨_, rfl, rfl⟩ ?_
  refine o1 rfl (det_pickT rfl rfl) rfl rfl trivial ?_
  refine o2P Iff.rfl rfl (det_move rfl) rfl rfl trivial (fun hb => ?_) (fun hb => ?_)
  rotate_left
  · exfalso; first | exact hb rfl | (simp at hb; done) | (revert hb; decide)
  refine o1 rfl (det_build rfl (fun w => bld26_ w)) rfl rfl ⟨_, rfl, rfl⟩ ?_
  refine o1 rfl (det_call hb17 rfl rfl (fun w1 hs => cline_at hs.know (l := ⟨g0, 0, 0⟩) (g0_k _) (x := 471) (by kernel_rfl))) rfl rfl ⟨_, rfl, rfl⟩ ?_
  refine o1 rfl (det_eql rfl rfl) rfl rfl ⟨_, rfl, rfl⟩ ?_
  refine o1 rfl (det_pickT rfl rfl) rfl rfl trivial ?_
  refine o2P beq_iff_eq rfl (det_move rfl) rfl rfl trivial (fun hb => ?_) (fun hb => ?_)
  rotate_left
  · exfalso; first | exact hb rfl | (simp at hb; done) | (revert hb; decide)
  refine o1 rfl (det_call hb19 rfl rfl (fun w1 hs => cheads_at hs.know (rowsK_of ptv_len (by decide) (fun j u h => by cases h) rfl : PK _ none 0 []) (by decide) (x := 470) (by kernel_rfl))) rfl rfl ⟨_, rfl, rfl⟩ ?_
  refine o1 rfl (det_eql rfl rfl) rfl rfl ⟨_, rfl, rfl⟩ ?_
  refine o1 rfl (det_pickT rfl rfl) rfl rfl trivial ?_
  refine o1 rfl (det_assign rfl) rfl rfl trivial ?_
  refine be rfl ?_
  refine k_then ?_
  refine t_ret ?_
  refine ret_tmp rfl rfl rfl (fun w1 hs => ?_)
  exact ⟨rfl, hs.keep⟩

end Go.Proofs.Cp
