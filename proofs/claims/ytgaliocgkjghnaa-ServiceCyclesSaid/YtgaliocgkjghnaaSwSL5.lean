/-
  Walks through layer 30 and its reference.
-/
import Derived.Test.YtgaliocgkjghnaaSwSW
import Derived.Test.YtgaliocgkjghnaaSwPlain3ToSvPlain14
namespace Go.Proofs.Sw
open Go Go.Eng Go.Gt Go.Proofs.Gt Go.Sw Go.Sv
set_option maxRecDepth 4000

theorem Turn_at {w : World} {F : Know} (hF : ∀ a v, F a = some v → w.cell? a = some v) {g : Gl} (hE : GlK F g) (hG : okG g.es g.cyc = true) {t : Int} (ht : -1099511627776 ≤ t ∧ t ≤ 1099511627776) {es : Ents} {cyc : Int} (h1 : g.es = es) (h2 : g.cyc = cyc) :
    Pure Try.prog 46 [.agg (glv g).toArray, .int .i64 t] w (.tuple [.int .i64 (orErr (turnE es cyc t)).1, .int .i64 (orErr (turnE es cyc t)).2].toArray) := by
  subst h1; subst h2
  have := Turn_ok (cap := g.cap) hF hE t (cyc := g.cyc)
  rw [turnA_eq hG ht] at this
  exact this
theorem Open_at {w : World} {F : Know} (hF : ∀ a v, F a = some v → w.cell? a = some v) {g : Gl} (hE : GlK F g) (hG : okG g.es g.cyc = true) {t : Int} (ht : -1099511627776 ≤ t ∧ t ≤ 1099511627776) {es : Ents} {cyc : Int} (h1 : g.es = es) (h2 : g.cyc = cyc) :
    Pure Try.prog 45 [.agg (glv g).toArray, .int .i64 6, .int .i64 t] w (.tuple [.int .i64 (spanE es cyc 6 t), .int .i64 0].toArray) := by
  subst h1; subst h2
  exact open6_at hF hE hG ht
/-- ServiceGrows. -/
theorem sgrows_ok {w : World} {F : Know} (hF : ∀ a v, F a = some v → w.cell? a = some v) {A1 A2 : Option Addr} {n1 c1 n2 c2 : Nat} {ss ls : List Int} (h1 : IntsK F .u8 A1 n1 ss) (h2 : IntsK F .u8 A2 n2 ls) {per most : Int} (hper : 0 ≤ per ∧ per ≤ 255) (hmost : 0 ≤ most ∧ most ≤ 255) {t lg x0 x1 : Int} (ht : -32768 ≤ t ∧ t ≤ 32767) (hlg : 0 ≤ lg ∧ lg ≤ 65535) (h0 : 0 ≤ x0 ∧ x0 ≤ 255) (hx1 : 0 ≤ x1 ∧ x1 ≤ 255) : Pure Try.prog 13 [.agg [.slice A1 n1 c1, .slice A2 n2 c2].toArray, .int .u8 per, .int .u8 most, .int .i16 t, .int .u16 lg, .agg [.int .u8 x0, .int .u8 x1].toArray] w (.bool true) := by
  refine fn_pure (F := F) Try.func13 rfl Try.ntmps13 rfl hF ?_
  refine t_seq ?_
  refine b0 ?_
  refine om1 rfl (new_boxN rfl) rfl rfl trivial (fun p6 => ?_)
  refine om1 rfl (new_boxN rfl) rfl rfl trivial (fun p11 => ?_)
  refine o1 rfl (det_assign rfl) rfl rfl trivial ?_
  refine be rfl ?_
  refine k_then ?_
  refine t_seq ?_
  refine t_seq ?_
  refine b0 ?_
  refine o1 rfl (det_call hb37 rfl rfl (fun w1 hs => works30_ok hs.know)) rfl rfl trivial ?_
  refine o1 rfl (det_not rfl) rfl rfl trivial ?_
  refine be rfl ?_
  refine k_then ?_
  refine t_condP not_iff_false rfl (fun hb => ?_) (fun hb => ?_)
  · exfalso; simp at hb
  refine t_skip ?_
  refine k_then ?_
  refine t_seq ?_
  refine b0 ?_
  refine o1 rfl (det_loadN tN64 rfl rfl (.tail _ (.head _)) rfl) rfl rfl trivial ?_
  refine oF nofun rfl hb33 rfl rfl rfl trivial (fun w1 hs => (draft30_ok hs.know h1 h2).any) (fun v13 F1 hF1 hN1 ⟨B, capb, hv, hcb, hE⟩ => ?_)
  subst hv
  rw [show glv (⟨B, (Sv.draftE ss ls).length, capb, (Sv.draftE ss ls), sumL (Sv.draftE ss ls)⟩ : Gl) = [.slice B (Sv.draftE ss ls).length capb, .int .i64 (sumL (Sv.draftE ss ls))] from rfl]
  refine om1 rfl (new_alloc z30) rfl rfl trivial (fun p13 => ?_)
  refine stN nofun rfl tN30 rfl rfl rfl .head rfl trivial rfl rfl ?_
  refine be rfl ?_
  refine k_then ?_
  refine t_seq ?_
  refine b0 ?_
  refine o1 rfl (det_move rfl) rfl rfl trivial ?_
  first | (refine o1 rfl (det_remP rfl rfl ?_) rfl rfl trivial ?_; (· omega)) | (refine o1 rfl (det_rem rfl rfl ?_) rfl rfl trivial ?_; (· (first | decide | omega)))
  first | (refine o1 rfl (det_convW Try.underlying5 Try.underlying3 rfl ?_) rfl rfl trivial ?_; (· exact IntWalk.i64_in _ (by omega))) | refine o1 rfl (det_conv Try.underlying5 Try.underlying3 rfl) rfl rfl trivial ?_
  first | (refine o1 rfl (det_addI rfl rfl ?_) rfl rfl trivial ?_; (· omega)) | refine o1 rfl (det_add rfl rfl) rfl rfl trivial ?_
  refine o1 rfl (det_move rfl) rfl rfl trivial ?_
  first | (refine o1 rfl (det_convW Try.underlying5 Try.underlying3 rfl ?_) rfl rfl trivial ?_; (· exact IntWalk.i64_in _ (by omega))) | refine o1 rfl (det_conv Try.underlying5 Try.underlying3 rfl) rfl rfl trivial ?_
  first | (refine o1 rfl (det_addI rfl rfl ?_) rfl rfl trivial ?_; (· omega)) | refine o1 rfl (det_add rfl rfl) rfl rfl trivial ?_
  refine o1 rfl (det_assign rfl) rfl rfl trivial ?_
  refine o1 rfl (det_assign rfl) rfl rfl trivial ?_
  refine be rfl ?_
  refine k_then ?_
  refine t_seq ?_
  refine bD mixed ?_
  refine r_seg 10 10 [] [0, 1, 2, 3, 4, 5, 6, 7, 8, 9] (by kernel_rfl) ?_
  obtain ⟨P, hP⟩ : ∃ P, 1 + per % 5 = P := ⟨_, rfl⟩
  obtain ⟨M, hM⟩ : ∃ M, 84 + most = M := ⟨_, rfl⟩
  rw [hP, hM]
  have hb1 : bytesL ss := fun i h => h1.rng i h
  have hb2 : bytesL ls := fun i h => h2.rng i h
  have hG := Sv.draft_good hb1 hb2
  have hcy := Sv.draft_cyc hb1 hb2
  have hc1 := okG_cyc hG
  have hPM : 1 ≤ P ∧ P ≤ 1000 ∧ 84 ≤ M ∧ M ≤ 1542 := by have := Int.emod_nonneg per (show (5 : Int) ≠ 0 by decide); have := Int.emod_lt_of_pos per (show (0 : Int) < 5 by decide); omega
  refine s1 rfl (det_move rfl) rfl rfl trivial rfl ?_
  first | (refine s1 rfl (det_convW Try.underlying25 Try.underlying3 rfl ?_) rfl rfl trivial rfl ?_; (· exact IntWalk.i64_in _ (by omega))) | refine s1 rfl (det_conv Try.underlying25 Try.underlying3 rfl) rfl rfl trivial rfl ?_
  refine s1 rfl (det_move rfl) rfl rfl trivial rfl ?_
  first | (refine s1 rfl (det_convW Try.underlying53 Try.underlying3 rfl ?_) rfl rfl trivial rfl ?_; (· exact IntWalk.i64_in _ (by omega))) | refine s1 rfl (det_conv Try.underlying53 Try.underlying3 rfl) rfl rfl trivial rfl ?_
  refine s1 rfl (det_fieldAddr fld30_1 rfl) rfl rfl trivial rfl ?_
  refine s1 rfl (det_load1 t1_3 rfl rfl (.head _) rfl) rfl rfl trivial rfl ?_
  first | (refine s1 rfl (det_addI rfl rfl ?_) rfl rfl trivial rfl ?_; (· omega)) | refine s1 rfl (det_add rfl rfl) rfl rfl trivial rfl ?_
  first | (refine s1 rfl (det_remP rfl rfl ?_) rfl rfl trivial rfl ?_; (· omega)) | (refine s1 rfl (det_rem rfl rfl ?_) rfl rfl trivial rfl ?_; (· (first | decide | omega)))
  refine s1 rfl (det_assign rfl) rfl rfl trivial rfl ?_
  refine s1 rfl (det_assign rfl) rfl rfl trivial rfl ?_
  refine sg_nil ?_
  refine be rfl ?_
  refine k_then ?_
  refine t_seq ?_
  refine b0 ?_
  obtain ⟨n, hn⟩ : ∃ n, lg % (sumL (Sv.draftE ss ls) + 1) = n := ⟨_, rfl⟩
  have m1 := Int.emod_nonneg lg (show sumL (Sv.draftE ss ls) + 1 ≠ 0 by omega)
  have m2 := Int.emod_lt_of_pos lg (show 0 < sumL (Sv.draftE ss ls) + 1 by omega)
  rw [hn] at m1 m2 ⊢
  refine o1 rfl (det_loadN tN30 rfl rfl (.head _) rfl) rfl rfl trivial ?_
  refine o1 rfl (det_move rfl) rfl rfl trivial ?_
  refine o1 rfl (det_move rfl) rfl rfl trivial ?_
  refine o1 rfl (det_move rfl) rfl rfl trivial ?_
  refine o1 rfl (det_move rfl) rfl rfl trivial ?_
  refine o1 rfl (det_call hb43 rfl rfl (fun w1 hs => hsends_at hs.know hE (n := hsendS (Sv.draftE ss ls) (sumL (Sv.draftE ss ls)) P M (t) (n)) rfl)) rfl rfl trivial ?_
  refine o1 rfl (det_assign rfl) rfl rfl trivial ?_
  refine be rfl ?_
  refine k_then ?_
  refine t_seq ?_
  refine bD mixed ?_
  refine r_seg 16 16 [] [0, 1, 2, 3, 4, 5, 6, 7, 8, 9, 10, 11, 12, 13, 14, 15] (by kernel_rfl) ?_
  first | (refine s1 rfl (det_indexAddrA ar81 rfl rfl ?_) rfl rfl trivial rfl ?_; (· (first | decide | omega)))
  refine s1 rfl (det_load1 t1_5 rfl rfl (.tail _ (.head _)) rfl) rfl rfl trivial rfl ?_
  first | (refine s1 rfl (det_convW Try.underlying5 Try.underlying3 rfl ?_) rfl rfl trivial rfl ?_; (· exact IntWalk.i64_in _ (by omega))) | refine s1 rfl (det_conv Try.underlying5 Try.underlying3 rfl) rfl rfl trivial rfl ?_
  refine s1 rfl (det_fieldAddr fld30_1 rfl) rfl rfl trivial rfl ?_
  refine s1 rfl (det_load1 t1_3 rfl rfl (.head _) rfl) rfl rfl trivial rfl ?_
  first | (refine s1 rfl (det_addI rfl rfl ?_) rfl rfl trivial rfl ?_; (· omega)) | refine s1 rfl (det_add rfl rfl) rfl rfl trivial rfl ?_
  first | (refine s1 rfl (det_remP rfl rfl ?_) rfl rfl trivial rfl ?_; (· omega)) | (refine s1 rfl (det_rem rfl rfl ?_) rfl rfl trivial rfl ?_; (· (first | decide | omega)))
  first | (refine s1 rfl (det_indexAddrA ar81 rfl rfl ?_) rfl rfl trivial rfl ?_; (· (first | decide | omega)))
  refine s1 rfl (det_load1 t1_5 rfl rfl (.tail _ (.head _)) rfl) rfl rfl trivial rfl ?_
  first | (refine s1 rfl (det_convW Try.underlying5 Try.underlying3 rfl ?_) rfl rfl trivial rfl ?_; (· exact IntWalk.i64_in _ (by omega))) | refine s1 rfl (det_conv Try.underlying5 Try.underlying3 rfl) rfl rfl trivial rfl ?_
  refine s1 rfl (det_fieldAddr fld30_1 rfl) rfl rfl trivial rfl ?_
  refine s1 rfl (det_load1 t1_3 rfl rfl (.head _) rfl) rfl rfl trivial rfl ?_
  first | (refine s1 rfl (det_addI rfl rfl ?_) rfl rfl trivial rfl ?_; (· omega)) | refine s1 rfl (det_add rfl rfl) rfl rfl trivial rfl ?_
  first | (refine s1 rfl (det_remP rfl rfl ?_) rfl rfl trivial rfl ?_; (· omega)) | (refine s1 rfl (det_rem rfl rfl ?_) rfl rfl trivial rfl ?_; (· (first | decide | omega)))
  refine s1 rfl (det_assign rfl) rfl rfl trivial rfl ?_
  refine s1 rfl (det_assign rfl) rfl rfl trivial rfl ?_
  refine sg_nil ?_
  refine be rfl ?_
  refine k_then ?_
  refine t_seq ?_
  refine b0 ?_
  obtain ⟨l, hlm⟩ : ∃ l, x0 % (sumL (Sv.draftE ss ls) + 1) = l := ⟨_, rfl⟩
  have m3 := Int.emod_nonneg x0 (show sumL (Sv.draftE ss ls) + 1 ≠ 0 by omega)
  have m4 := Int.emod_lt_of_pos x0 (show 0 < sumL (Sv.draftE ss ls) + 1 by omega)
  obtain ⟨r, hrm⟩ : ∃ r, x1 % (sumL (Sv.draftE ss ls) + 1) = r := ⟨_, rfl⟩
  have m5 := Int.emod_nonneg x1 (show sumL (Sv.draftE ss ls) + 1 ≠ 0 by omega)
  have m6 := Int.emod_lt_of_pos x1 (show 0 < sumL (Sv.draftE ss ls) + 1 by omega)
  rw [hlm] at m3 m4
  rw [hrm] at m5 m6
  rw [hlm, hrm]
  have hgr := grow_ok (per := P) (most := M) (t := t) (lg := n) (l := l) (r := r) hG hPM ht (by omega) (by omega) (by omega)
  refine o1 rfl (det_assign rfl) rfl rfl trivial ?_
  refine be rfl ?_
  refine k_then ?_
  refine t_seq ?_
  refine t_seq ?_
  refine b0 ?_
  refine o1 rfl (det_move rfl) rfl rfl trivial ?_
  refine o1 rfl (det_assign rfl) rfl rfl trivial ?_
  refine be rfl ?_
  refine k_then ?_
  refine t_block ?_
  refine t_whileM (σ := Int × Int) (fun s => [(21, .int .i64 s.1), (22, .int .i64 s.2)]) (fun _ => _) (fun s => (t + n - s.2).toNat) (fun s => s.1 + openS (Sv.draftE ss ls) (sumL (Sv.draftE ss ls)) s.2 (t + n) = openS (Sv.draftE ss ls) (sumL (Sv.draftE ss ls)) t (t + n) ∧ t ≤ s.2 ∧ (0 ≤ s.1 ∧ s.1 ≤ s.2 - t ∧ s.2 ≤ t + n + 20000)) (0, t) (env0 := [(13, _), (14, _), (15, _), (16, _), (17, _), (18, _), (19, _), (20, _)]) ⟨by simp only; omega, Int.le_refl _, by simp only; omega⟩ ⟨rfl, rfl, trivial⟩ ⟨rfl, rfl, rfl, rfl, rfl, rfl, rfl, rfl, trivial⟩ (.refl _) ?_
  rintro s ⟨hI, hts, hsb3⟩
  refine t_seq ?_
  refine t_seq ?_
  refine b0 ?_
  refine o1 rfl (det_move rfl) rfl rfl trivial ?_
  refine o1 rfl (det_move rfl) rfl rfl trivial ?_
  refine o1 rfl (det_move rfl) rfl rfl trivial ?_
  first | (refine o1 rfl (det_addI rfl rfl ?_) rfl rfl trivial ?_; (· omega)) | refine o1 rfl (det_add rfl rfl) rfl rfl trivial ?_
  refine o1 rfl (det_lss rfl rfl) rfl rfl trivial ?_
  refine be rfl ?_
  refine k_then ?_
  refine t_condP decide_eq_true_iff rfl (fun hb => ?_) (fun hb => ?_)
  ·
    have hx : s.2 < t + n := hb
    have hsb := spanE_bounds hG 6 s.2
    unfold big at hsb
    refine t_skip ?_
    refine k_then ?_
    refine t_block ?_
    refine t_seq ?_
    refine b0 ?_
    refine o1 rfl (det_loadN tN30 rfl rfl (.head _) rfl) rfl rfl trivial ?_
    refine o1 rfl (det_move rfl) rfl rfl trivial ?_
    refine o1 rfl (det_call hb45 rfl rfl (fun w1 hs => Open_at hs.know hE hG (by omega) (es := (Sv.draftE ss ls)) (cyc := sumL (Sv.draftE ss ls)) rfl rfl)) rfl rfl trivial ?_
    refine o1 rfl (det_move rfl) rfl rfl trivial ?_
    refine o1 rfl (det_extract rfl rfl) rfl rfl trivial ?_
    refine o1 rfl (det_extract rfl rfl) rfl rfl trivial ?_
    refine o1 rfl (det_assign rfl) rfl rfl trivial ?_
    refine o1 rfl (det_assign rfl) rfl rfl trivial ?_
    refine be rfl ?_
    refine k_then ?_
    refine t_seq ?_
    refine t_seq ?_
    refine b0 ?_
    refine o1 rfl (det_move rfl) rfl rfl trivial ?_
    refine o1 rfl (det_neq rfl rfl) rfl rfl trivial ?_
    refine be rfl ?_
    refine k_then ?_
    refine t_condP bne_iff_ne rfl (fun hb => ?_) (fun hb => ?_)
    · exfalso; exact hb rfl
    refine t_skip ?_
    refine k_then ?_
    refine t_seq ?_
    refine t_seq ?_
    refine b0 ?_
    refine o1 rfl (det_move rfl) rfl rfl trivial ?_
    refine o1 rfl (det_eql rfl rfl) rfl rfl trivial ?_
    refine be rfl ?_
    refine k_then ?_
    refine t_condP beq_iff_eq rfl (fun hb => ?_) (fun hb => ?_)
    ·
      have hk0 : ¬ 0 < spanE (Sv.draftE ss ls) (sumL (Sv.draftE ss ls)) 6 s.2 := by omega
      refine t_seq ?_
      refine t_seq ?_
      refine b0 ?_
      refine o1 rfl (det_loadN tN30 rfl rfl (.head _) rfl) rfl rfl trivial ?_
      refine o1 rfl (det_move rfl) rfl rfl trivial ?_
      refine o1 rfl (det_call hb46 rfl rfl (fun w1 hs => Turn_at hs.know hE hG (by omega) (es := (Sv.draftE ss ls)) (cyc := sumL (Sv.draftE ss ls)) rfl rfl)) rfl rfl trivial ?_
      refine o1 rfl (det_move rfl) rfl rfl trivial ?_
      refine o1 rfl (det_extract rfl rfl) rfl rfl trivial ?_
      refine o1 rfl (det_extract rfl rfl) rfl rfl trivial ?_
      refine o1 rfl (det_assign rfl) rfl rfl trivial ?_
      refine o1 rfl (det_assign rfl) rfl rfl trivial ?_
      refine be rfl ?_
      refine k_then ?_
      refine t_seq ?_
      refine b0 ?_
      refine o1 rfl (det_move rfl) rfl rfl trivial ?_
      refine o1 rfl (det_neq rfl rfl) rfl rfl trivial ?_
      refine be rfl ?_
      refine k_then ?_
      refine t_condP bne_iff_ne rfl (fun hb => ?_) (fun hb => ?_)
      ·
        have hno : turnE (Sv.draftE ss ls) (sumL (Sv.draftE ss ls)) s.2 = none := by
          cases h : turnE (Sv.draftE ss ls) (sumL (Sv.draftE ss ls)) s.2 with
          | none => rfl
          | some u => rw [h] at hb; exact absurd rfl hb
        refine b0 ?_
        refine o1 rfl (det_move rfl) rfl rfl trivial ?_
        refine o1 rfl (det_move rfl) rfl rfl trivial ?_
        first | (refine o1 rfl (det_addI rfl rfl ?_) rfl rfl trivial ?_; (· omega)) | refine o1 rfl (det_add rfl rfl) rfl rfl trivial ?_
        refine o1 rfl (det_assign rfl) rfl rfl trivial ?_
        refine be rfl ?_
        refine k_then ?_
        refine t_exit ?_
        refine k_thenE ?_
        refine k_blkE ?_
        refine k_then ?_
        refine loop_back (s.1, t + n) ⟨by rw [open_end (show ¬ t + n < t + n by omega)]; rw [open_noturn hG hk0 hno] at hI; omega, by simp only; omega, by simp only; omega⟩ (by show (t + n - (t + n)).toNat < (t + n - s.2).toNat; omega) ⟨rfl, rfl, rfl, rfl, rfl, rfl, rfl, rfl, rfl, rfl, trivial⟩ (.refl _)
      ·
        obtain ⟨u, hu⟩ : ∃ u, turnE (Sv.draftE ss ls) (sumL (Sv.draftE ss ls)) s.2 = some u := by
          cases h : turnE (Sv.draftE ss ls) (sumL (Sv.draftE ss ls)) s.2 with
          | none => rw [h] at hb; exact absurd (by decide) hb
          | some u => exact ⟨u, rfl⟩
        have htu := turn_some hG hu
        rw [hu, show (orErr (some u)).1 = u from rfl]
        refine t_skip ?_
        refine k_then ?_
        refine t_exit ?_
        refine k_thenE ?_
        refine k_blkE ?_
        refine k_then ?_
        refine loop_back (s.1, u) ⟨by simp only; rw [← open_turn hG hk0 hu]; exact hI, by simp only; omega, by simp only; omega⟩ (by show (t + n - u).toNat < (t + n - s.2).toNat; omega) ⟨rfl, rfl, rfl, rfl, rfl, rfl, rfl, rfl, rfl, rfl, trivial⟩ (.refl _)
    ·
      skip
      refine t_skip ?_
      refine k_then ?_
      refine t_seq ?_
      refine b0 ?_
      refine o1 rfl (det_move rfl) rfl rfl trivial ?_
      refine o1 rfl (det_move rfl) rfl rfl trivial ?_
      refine o1 rfl (det_move rfl) rfl rfl trivial ?_
      first | (refine o1 rfl (det_addI rfl rfl ?_) rfl rfl trivial ?_; (· omega)) | refine o1 rfl (det_add rfl rfl) rfl rfl trivial ?_
      refine o1 rfl (det_move rfl) rfl rfl trivial ?_
      first | (refine o1 rfl (det_subI rfl rfl ?_) rfl rfl trivial ?_; (· omega)) | refine o1 rfl (det_sub rfl rfl) rfl rfl trivial ?_
      refine o1 rfl (det_min2 rfl rfl) rfl rfl trivial ?_
      refine o1 rfl (det_assign rfl) rfl rfl trivial ?_
      refine be rfl ?_
      refine k_then ?_
      refine b0 ?_
      refine o1 rfl (det_move rfl) rfl rfl trivial ?_
      refine o1 rfl (det_move rfl) rfl rfl trivial ?_
      first | (refine o1 rfl (det_addI rfl rfl ?_) rfl rfl trivial ?_; (· omega)) | refine o1 rfl (det_add rfl rfl) rfl rfl trivial ?_
      refine o1 rfl (det_move rfl) rfl rfl trivial ?_
      refine o1 rfl (det_move rfl) rfl rfl trivial ?_
      first | (refine o1 rfl (det_addI rfl rfl ?_) rfl rfl trivial ?_; (· omega)) | refine o1 rfl (det_add rfl rfl) rfl rfl trivial ?_
      refine o1 rfl (det_assign rfl) rfl rfl trivial ?_
      refine o1 rfl (det_assign rfl) rfl rfl trivial ?_
      refine be rfl ?_
      refine k_blk ?_
      refine k_then ?_
      refine loop_back (s.1 + min (spanE (Sv.draftE ss ls) (sumL (Sv.draftE ss ls)) 6 s.2) (t + n - s.2), s.2 + min (spanE (Sv.draftE ss ls) (sumL (Sv.draftE ss ls)) 6 s.2) (t + n - s.2)) ⟨by simp only; rw [open_step hG hx (by omega) (by unfold big; omega)] at hI; omega, by simp only; omega, by simp only; omega⟩ (by show (t + n - (s.2 + min (spanE (Sv.draftE ss ls) (sumL (Sv.draftE ss ls)) 6 s.2) (t + n - s.2))).toNat < (t + n - s.2).toNat; omega) ⟨rfl, rfl, rfl, rfl, rfl, rfl, rfl, rfl, rfl, rfl, trivial⟩ (.refl _)
  ·
    rw [open_end hb] at hI
    refine t_exit ?_
    refine k_thenE ?_
    refine k_thenE ?_
    refine k_blkE ?_
    refine k_then ?_
    refine t_seq ?_
    refine b0 ?_
    refine o1 rfl (det_move rfl) rfl rfl trivial ?_
    refine o1 rfl (det_geq rfl rfl) rfl rfl trivial ?_
    refine o2P decide_eq_true_iff rfl (det_move rfl) rfl rfl trivial (fun hb => ?_) (fun hb => ?_)
    rotate_left
    · exfalso; simp at hb; omega
    refine o1 rfl (det_move rfl) rfl rfl ⟨_, rfl, rfl⟩ ?_
    refine o1 rfl (det_move rfl) rfl rfl ⟨_, rfl, rfl⟩ ?_
    refine o1 rfl (det_leq rfl rfl) rfl rfl ⟨_, rfl, rfl⟩ ?_
    refine o1 rfl (det_pickT rfl rfl) rfl rfl trivial ?_
    refine o2P decide_eq_true_iff rfl (det_move rfl) rfl rfl trivial (fun hb => ?_) (fun hb => ?_)
    rotate_left
    · exfalso; simp at hb; omega
    refine o1 rfl (det_loadN tN30 rfl rfl (.head _) rfl) rfl rfl ⟨_, rfl, rfl⟩ ?_
    refine o1 rfl (det_move rfl) rfl rfl ⟨_, rfl, rfl⟩ ?_
    refine o1 rfl (det_move rfl) rfl rfl ⟨_, rfl, rfl⟩ ?_
    refine o1 rfl (det_move rfl) rfl rfl ⟨_, rfl, rfl⟩ ?_
    refine o1 rfl (det_move rfl) rfl rfl ⟨_, rfl, rfl⟩ ?_
    first | (refine o1 rfl (det_subI rfl rfl ?_) rfl rfl ⟨_, rfl, rfl⟩ ?_; (· omega)) | refine o1 rfl (det_sub rfl rfl) rfl rfl ⟨_, rfl, rfl⟩ ?_
    refine o1 rfl (det_move rfl) rfl rfl ⟨_, rfl, rfl⟩ ?_
    refine o1 rfl (det_move rfl) rfl rfl ⟨_, rfl, rfl⟩ ?_
    first | (refine o1 rfl (det_addI rfl rfl ?_) rfl rfl ⟨_, rfl, rfl⟩ ?_; (· omega)) | refine o1 rfl (det_add rfl rfl) rfl rfl ⟨_, rfl, rfl⟩ ?_
    refine o1 rfl (det_call hb43 rfl rfl (fun w1 hs => hsends_at hs.know hE (n := hsendS (Sv.draftE ss ls) (sumL (Sv.draftE ss ls)) P M (t - l) (n + l)) rfl)) rfl rfl ⟨_, rfl, rfl⟩ ?_
    refine o1 rfl (det_move rfl) rfl rfl ⟨_, rfl, rfl⟩ ?_
    refine o1 rfl (det_geq rfl rfl) rfl rfl ⟨_, rfl, rfl⟩ ?_
    refine o1 rfl (det_pickT rfl rfl) rfl rfl trivial ?_
    refine o2P decide_eq_true_iff rfl (det_move rfl) rfl rfl trivial (fun hb => ?_) (fun hb => ?_)
    rotate_left
    · exfalso; simp at hb; omega
    refine o1 rfl (det_loadN tN30 rfl rfl (.head _) rfl) rfl rfl ⟨_, rfl, rfl⟩ ?_
    refine o1 rfl (det_move rfl) rfl rfl ⟨_, rfl, rfl⟩ ?_
    refine o1 rfl (det_move rfl) rfl rfl ⟨_, rfl, rfl⟩ ?_
    refine o1 rfl (det_move rfl) rfl rfl ⟨_, rfl, rfl⟩ ?_
    refine o1 rfl (det_move rfl) rfl rfl ⟨_, rfl, rfl⟩ ?_
    refine o1 rfl (det_move rfl) rfl rfl ⟨_, rfl, rfl⟩ ?_
    first | (refine o1 rfl (det_addI rfl rfl ?_) rfl rfl ⟨_, rfl, rfl⟩ ?_; (· omega)) | refine o1 rfl (det_add rfl rfl) rfl rfl ⟨_, rfl, rfl⟩ ?_
    refine o1 rfl (det_call hb43 rfl rfl (fun w1 hs => hsends_at hs.know hE (n := hsendS (Sv.draftE ss ls) (sumL (Sv.draftE ss ls)) P M (t) (n + r)) rfl)) rfl rfl ⟨_, rfl, rfl⟩ ?_
    refine o1 rfl (det_move rfl) rfl rfl ⟨_, rfl, rfl⟩ ?_
    refine o1 rfl (det_geq rfl rfl) rfl rfl ⟨_, rfl, rfl⟩ ?_
    refine o1 rfl (det_pickT rfl rfl) rfl rfl trivial ?_
    refine o2P decide_eq_true_iff rfl (det_move rfl) rfl rfl trivial (fun hb => ?_) (fun hb => ?_)
    rotate_left
    · exfalso; simp at hb; omega
    refine o1 rfl (det_loadN tN30 rfl rfl (.head _) rfl) rfl rfl ⟨_, rfl, rfl⟩ ?_
    refine o1 rfl (det_move rfl) rfl rfl ⟨_, rfl, rfl⟩ ?_
    refine o1 rfl (det_move rfl) rfl rfl ⟨_, rfl, rfl⟩ ?_
    refine o1 rfl (det_move rfl) rfl rfl ⟨_, rfl, rfl⟩ ?_
    refine o1 rfl (det_fieldAddr fld30_1 rfl) rfl rfl ⟨_, rfl, rfl⟩ ?_
    refine o1 rfl (det_load1 t1_3 rfl rfl (.head _) rfl) rfl rfl ⟨_, rfl, rfl⟩ ?_
    first | (refine o1 rfl (det_addI rfl rfl ?_) rfl rfl ⟨_, rfl, rfl⟩ ?_; (· omega)) | refine o1 rfl (det_add rfl rfl) rfl rfl ⟨_, rfl, rfl⟩ ?_
    refine o1 rfl (det_move rfl) rfl rfl ⟨_, rfl, rfl⟩ ?_
    refine o1 rfl (det_call hb43 rfl rfl (fun w1 hs => hsends_at hs.know hE (n := hsendS (Sv.draftE ss ls) (sumL (Sv.draftE ss ls)) P M (t + sumL (Sv.draftE ss ls)) (n)) rfl)) rfl rfl ⟨_, rfl, rfl⟩ ?_
    refine o1 rfl (det_move rfl) rfl rfl ⟨_, rfl, rfl⟩ ?_
    refine o1 rfl (det_eql rfl rfl) rfl rfl ⟨_, rfl, rfl⟩ ?_
    refine o1 rfl (det_pickT rfl rfl) rfl rfl trivial ?_
    refine o1 rfl (det_assign rfl) rfl rfl trivial ?_
    refine be rfl ?_
    refine k_then ?_
    refine t_ret ?_
    refine ret_tmp rfl rfl rfl (fun w1 hs => ?_)
    exact ⟨by rw [hgr.2.2.2.2]; simp, hs.keep⟩

end Go.Proofs.Sw
