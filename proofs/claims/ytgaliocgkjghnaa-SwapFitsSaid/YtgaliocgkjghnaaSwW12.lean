/-
  Walks through layers 27, 29 and 30 and their references.
-/
import Derived.Test.YtgaliocgkjghnaaSwW11
import Derived.Test.YtgaliocgkjghnaaSwPlain2
namespace Go.Proofs.Sw
open Go Go.Eng Go.Gt Go.Proofs.Gt Go.Sw
set_option maxRecDepth 4000

theorem mask_at {w : World} {F : Know} (hF : ∀ a v, F a = some v → w.cell? a = some v) {g : Gl} (hE : GlK F g) (hG : okG g.es g.cyc = true) {t : Int} (ht : -1099511627776 ≤ t ∧ t ≤ 1099511627776) :
    Pure Try.prog 80 [.agg (glv g).toArray, .int .i64 t] w (.tuple [.int .i64 (stateE g.es g.cyc t), .int .i64 0].toArray) := by
  have := mask_ok (cap := g.cap) hF hE t (cyc := g.cyc)
  rw [maskA, if_pos (errG_ok hG (by omega) ht (by omega))] at this
  exact this
theorem turn_at {w : World} {F : Know} (hF : ∀ a v, F a = some v → w.cell? a = some v) {g : Gl} (hE : GlK F g) (hG : okG g.es g.cyc = true) {t : Int} (ht : -1099511627776 ≤ t ∧ t ≤ 1099511627776) :
    Pure Try.prog 46 [.agg (glv g).toArray, .int .i64 t] w (.tuple [.int .i64 (orErr (turnE g.es g.cyc t)).1, .int .i64 (orErr (turnE g.es g.cyc t)).2].toArray) := by
  have := Turn_ok (cap := g.cap) hF hE t (cyc := g.cyc)
  rw [turnA_eq hG ht] at this
  exact this
/-- stretches. -/
theorem stretches_ok {w : World} {F : Know} (hF : ∀ a v, F a = some v → w.cell? a = some v) {c : Ch} {t e : Int} : CallsF Try.prog 52 [.agg (chv c).toArray, .int .i64 t, .int .i64 e] w noK (fun v F2 => ∃ q1 q2 q3, v = .func (.func 79) [].toArray [.pointer (some ⟨q1, 0, none⟩), .pointer (some ⟨q2, 0, none⟩), .pointer (some ⟨q3, 0, none⟩)].toArray ∧ F2 ⟨q1, 0, none⟩ = some (.int .i64 t) ∧ F2 ⟨q2, 0, none⟩ = some (.int .i64 e) ∧ (∀ j, j < 7 → F2 ((⟨q3, 0, none⟩ : Addr).add j) = (chv c)[j]?)) := by
  refine fn_fresh (F := F) Try.func52 rfl Try.ntmps52 rfl hF ?_
  refine t_seq ?_
  refine b0 ?_
  refine om1 rfl (new_boxN rfl) rfl rfl trivial (fun p3 => ?_)
  refine om1 rfl (new_box1 rfl rfl) rfl rfl trivial (fun p4 => ?_)
  refine om1 rfl (new_box1 rfl rfl) rfl rfl trivial (fun p5 => ?_)
  refine o1 rfl (det_assign rfl) rfl rfl trivial ?_
  refine be rfl ?_
  refine k_then ?_
  refine t_seq ?_
  refine b0 ?_
  refine o1 rfl (det_makeFunc rfl rfl) rfl rfl trivial ?_
  refine o1 rfl (det_assign rfl) rfl rfl trivial ?_
  refine be rfl ?_
  refine k_then ?_
  refine t_ret ?_
  refine ret_tmp rfl rfl rfl (fun w1 hs => ?_)
  exact end_fresh hs fun F2 _ _ h => ⟨p4, p5, p3, rfl, h p4 _ _ _ 0 (.tail _ (.head _)) _ rfl, h p5 _ _ _ 0 (.head _) _ rfl, kn_all (h p3 _ _ _ · (.tail _ (.tail _ (.head _)))) 0 7 (fun j hj => by rw [Nat.zero_add, List.getElem?_toArray]) (fun j hj => by match j, hj with | 0, _ => rfl | 1, _ => rfl | 2, _ => rfl | 3, _ => rfl | 4, _ => rfl | 5, _ => rfl | 6, _ => rfl)⟩

/-- Its iterator. -/
theorem stretch_gives {F : Know} {c : Ch} {t e : Int} {q1 q2 q3 : Nat} (hC : ChK F c) (hok : okC c = true) (ht : -1099511627776 ≤ t) (he : e ≤ 1099511627776 * 2) (h1 : F ⟨q1, 0, none⟩ = some (.int .i64 t)) (h2 : F ⟨q2, 0, none⟩ = some (.int .i64 e)) (h3 : (∀ j, j < 7 → F ((⟨q3, 0, none⟩ : Addr).add j) = (chv c)[j]?)) : Gives2 Try.prog 79 [.pointer (some ⟨q1, 0, none⟩), .pointer (some ⟨q2, 0, none⟩), .pointer (some ⟨q3, 0, none⟩)] F ((stW c e t).map fun m => [Value.int .i64 m]) := by
  have hO := okC_iff.1 hok
  refine fn_gives2 Try.func79 rfl Try.ntmps79 rfl fun l J Jx w hR hJ => ?_
  refine t_seq ?_
  refine b0 ?_
  refine o1 rfl (det_loadK t1_3 rfl h1) rfl rfl trivial ?_
  refine o1 rfl (det_assign rfl) rfl rfl trivial ?_
  refine be rfl ?_
  refine k_then ?_
  refine t_block ?_
  refine t_whileG (σ := Nat × Int) (fun s => [(5, .int .i64 s.2)]) (fun s => (e - s.2).toNat) (fun s => fun w1 => (stW c e t).drop s.1 = stW c e s.2 ∧ s.1 ≤ (stW c e t).length ∧ t ≤ s.2 ∧ ∃ ids, J s.1 ids w1) (0, t) (env0 := [(0, _), (2, _), (3, _)]) ⟨rfl, Nat.zero_le _, Int.le_refl _, hJ⟩ ⟨rfl, trivial⟩ ⟨rfl, rfl, rfl, trivial⟩ ?_
  rintro s w1 ⟨hdr, hsl, hts, hJ⟩
  refine t_seq ?_
  refine t_seq ?_
  refine b0 ?_
  refine o1 rfl (det_move rfl) rfl rfl trivial ?_
  refine o1 rfl (det_loadK t1_3 rfl h2) rfl rfl trivial ?_
  refine o1 rfl (det_lss rfl rfl) rfl rfl trivial ?_
  refine be rfl ?_
  refine k_then ?_
  refine t_condP decide_eq_true_iff rfl (fun hb => ?_) (fun hb => ?_)
  ·
    have hx : s.2 < e := hb
    have hnf := next_facts hO hx
    rw [stW_more hO hx] at hdr
    obtain ⟨hlt, hget, hd2⟩ := drop_head hdr
    refine t_skip ?_
    refine k_then ?_
    refine t_block ?_
    refine t_seq ?_
    refine bD mixed ?_
    refine r_allS true (by kernel_rfl) (fun w hs => ⟨hs.sub (.refl _), fun _ _ h => h⟩) (fun hW2 s_ => ?_)
    refine al_detP rfl (det_fieldAddr fld34_0 rfl) rfl rfl rfl rfl ?_
    refine al_detP rfl (det_loadKN tN30 rfl rfl (ch_cells h3 0 2 (glv c.op) (by decide) (at2 rfl rfl))) rfl rfl rfl rfl ?_
    refine al_detP rfl (det_fieldAddr fld34_1 rfl) rfl rfl rfl rfl ?_
    refine al_detP rfl (det_loadK t1_3 rfl (ch_cell h3 2 (by decide) rfl)) rfl rfl rfl rfl ?_
    refine al_detP rfl (det_loadK t1_3 rfl h2) rfl rfl rfl rfl ?_
    refine al_new rfl (new_alloc z30) rfl rfl rfl (fun cc h => by cases h) (fun w hs => hs.sub (.refl _)) (fun p6 => ?_)
    refine al_stN rfl tN30.size rfl rfl rfl rfl .head rfl rfl rfl (fun w hs => hs.sub (.cons _ (.refl _))) ?_
    refine al_detP rfl (det_assign rfl) rfl rfl rfl rfl ?_
    refine al_detP rfl (det_assign rfl) rfl rfl rfl rfl ?_
    refine al_end rfl (fun w hs => hs.sub (.cons _ (.refl _))) ?_
    refine k_then ?_
    refine t_seq ?_
    refine t_seq ?_
    refine t_merge (env0 := [(0, _), (2, _), (3, _), (5, _), (6, _), (7, _), (8, _)]) ⟨rfl, rfl, rfl, rfl, rfl, rfl, rfl, trivial⟩ 30 (.bool (onAd c s.2)) ?_ (fun hK => ?_)
    ·
      refine k_then ?_
      refine t_condP Iff.rfl rfl (fun hb => ?_) (fun hb => ?_)
      ·
        have hon : onAd c s.2 = true := hb
        --note:ad
        refine bD mixed ?_
        refine r_allS false (by kernel_rfl) (fun w hs => ⟨hs.sub (.cons _ (.refl _)), fun _ _ h => h⟩) (fun hW4 s_ => ?_)
        refine al_det rfl (det_fieldAddr fld34_3 rfl) rfl rfl rfl ?_
        refine al_det rfl (det_loadKN tN30 rfl rfl (ch_cells h3 4 2 (glv c.ad) (by decide) (at2 rfl rfl))) rfl rfl rfl ?_
        refine al_det rfl (det_fieldAddr fld34_4 rfl) rfl rfl rfl ?_
        refine al_det rfl (det_loadK t1_3 rfl (ch_cell h3 6 (by decide) rfl)) rfl rfl rfl ?_
        refine al_stN rfl tN30.size rfl rfl rfl rfl .head rfl rfl rfl (fun w hs => hs.sub (.cons _ (.refl _))) ?_
        refine al_det rfl (det_assign rfl) rfl rfl rfl ?_
        refine al_end rfl (fun w hs => hs.sub (.cons _ (.refl _))) ?_
        refine k_then ?_
        refine t_seq ?_
        refine b0 ?_
        have hgl : glC c s.2 = c.ad := by unfold glC; rw [hon]; rfl
        have hbg : begC c s.2 = c.wh := by unfold begC; rw [hon]; rfl
        have hen : endC c e s.2 = e := by simp [endC, hon]
        have hG : okG (c.ad).es (c.ad).cyc = true := by rw [← hgl]; exact hO.gl s.2
        have hcy := okG_cyc hG
        have hbs := hO.base
        have hwh := hO.wh
        refine o1 rfl (det_move rfl) rfl rfl trivial ?_
        refine o1 rfl (det_move rfl) rfl rfl trivial ?_
        first | (refine o1 rfl (det_subI rfl rfl ?_) rfl rfl trivial ?_; (· omega)) | refine o1 rfl (det_sub rfl rfl) rfl rfl trivial ?_
        refine o1 rfl (det_fieldAddr fld30_1 rfl) rfl rfl trivial ?_
        refine o1 rfl (det_load1 t1_3 rfl rfl (.head _) rfl) rfl rfl trivial ?_
        refine o1 rfl (det_call hb50 rfl rfl (fun w1 hs => mod_ok hs.know hcy (by omega))) rfl rfl trivial ?_
        refine o1 rfl (det_assign rfl) rfl rfl trivial ?_
        refine be rfl ?_
        refine k_then ?_
        refine t_seq ?_
        refine b0 ?_
        obtain ⟨lo, hlo⟩ : ∃ lo, (s.2 - c.wh) % (c.ad).cyc = lo := ⟨_, rfl⟩
        have hlb : 0 ≤ lo ∧ lo < (c.ad).cyc := by rw [← hlo]; exact ⟨Int.emod_nonneg _ (by omega), Int.emod_lt_of_pos _ (by omega)⟩
        rw [hlo]
        refine o1 rfl (det_loadN tN30 rfl rfl (.head _) rfl) rfl rfl trivial ?_
        refine o1 rfl (det_move rfl) rfl rfl trivial ?_
        refine o1 rfl (det_call hb80 rfl rfl (fun w1 hs => mask_at hs.know hC.ad hG (by omega))) rfl rfl trivial ?_
        refine o1 rfl (det_move rfl) rfl rfl trivial ?_
        refine o1 rfl (det_extract rfl rfl) rfl rfl trivial ?_
        refine o1 rfl (det_extract rfl rfl) rfl rfl trivial ?_
        refine o1 rfl (det_assign rfl) rfl rfl trivial ?_
        refine o1 rfl (det_assign rfl) rfl rfl trivial ?_
        refine be rfl ?_
        refine k_then ?_
        refine t_seq ?_
        refine t_seq ?_
        refine b0 ?_
        refine o1 rfl (det_move rfl) rfl rfl trivial ?_
        refine o1 rfl (det_move rfl) rfl rfl trivial ?_
        rw [at_lo hgl hbg hlo]
        refine oY2 hR hJ (by rw [List.length_map]; exact hlt) nofun rfl rfl rfl rfl trivial (by rw [List.getElem_map, hget]; rfl) (fun w1 hJ F1 hF1 hO1 hK1 => ?_) (fun w1 hX => ?_)
        ·
          refine o1 rfl (det_not rfl) rfl rfl trivial ?_
          refine be rfl ?_
          refine k_then ?_
          refine t_condF rfl ?_
          refine t_skip ?_
          refine k_then ?_
          refine t_seq ?_
          refine t_seq ?_
          refine b0 ?_
          refine o1 rfl (det_loadKN tN30 rfl rfl (kn_all (vs := glv (c.ad)) (hO1 _ _ _ _ (.head _)) 0 2 (at2 rfl rfl) (at2 rfl rfl))) rfl rfl trivial ?_
          refine o1 rfl (det_move rfl) rfl rfl trivial ?_
          refine o1 rfl (det_call hb46 rfl rfl (fun w1 hs => turn_at hs.know (hC.ad.mono hF1) hG (by omega))) rfl rfl trivial ?_
          refine o1 rfl (det_move rfl) rfl rfl trivial ?_
          refine o1 rfl (det_extract rfl rfl) rfl rfl trivial ?_
          refine o1 rfl (det_extract rfl rfl) rfl rfl trivial ?_
          refine o1 rfl (det_assign rfl) rfl rfl trivial ?_
          refine o1 rfl (det_assign rfl) rfl rfl trivial ?_
          refine be rfl ?_
          refine k_then ?_
          refine t_seq ?_
          refine b0 ?_
          refine o1 rfl (det_move rfl) rfl rfl trivial ?_
          refine o1 rfl (det_eql rfl rfl) rfl rfl trivial ?_
          refine be rfl ?_
          refine k_then ?_
          refine t_condP beq_iff_eq rfl (fun hb => ?_) (fun hb => ?_)
          ·
            obtain ⟨u, hu⟩ : ∃ u, turnE (c.ad).es (c.ad).cyc lo = some u := by
              cases h : turnE (c.ad).es (c.ad).cyc lo with
              | none => rw [h] at hb; cases hb
              | some u => exact ⟨u, rfl⟩
            have htu := turn_some hG hu
            rw [hu, show (orErr (some u)).1 = u from rfl]
            have hnx := next_some hgl hbg hen hlo hu
            refine b0 ?_
            refine o1 rfl (det_move rfl) rfl rfl trivial ?_
            refine o1 rfl (det_move rfl) rfl rfl trivial ?_
            refine o1 rfl (det_move rfl) rfl rfl trivial ?_
            first | (refine o1 rfl (det_addI rfl rfl ?_) rfl rfl trivial ?_; (· omega)) | refine o1 rfl (det_add rfl rfl) rfl rfl trivial ?_
            refine o1 rfl (det_move rfl) rfl rfl trivial ?_
            first | (refine o1 rfl (det_subI rfl rfl ?_) rfl rfl trivial ?_; (· omega)) | refine o1 rfl (det_sub rfl rfl) rfl rfl trivial ?_
            refine o1 rfl (det_min2 rfl rfl) rfl rfl trivial ?_
            refine o1 rfl (det_assign rfl) rfl rfl trivial ?_
            refine be rfl ?_
            refine k_then ?_
            refine b0 ?_
            refine o1 rfl (det_move rfl) rfl rfl trivial ?_
            refine o1 rfl (det_assign rfl) rfl rfl trivial ?_
            refine be rfl ?_
            refine k_blk ?_
            refine k_then ?_
            refine loop_backG2 hF1 (s.1 + 1, nextC c e s.2) ⟨hd2, by show s.1 + 1 ≤ _; omega, by show t ≤ nextC c e s.2; omega, hJ⟩ (by show (e - nextC c e s.2).toNat < (e - s.2).toNat; omega) ⟨(by show _ = some (Value.int .i64 (nextC c e s.2)); rw [hnx]; rfl), rfl, rfl, rfl, trivial⟩
          ·
            have hno : turnE (c.ad).es (c.ad).cyc lo = none := by
              cases h : turnE (c.ad).es (c.ad).cyc lo with
              | none => rfl
              | some u => rw [h] at hb; exact absurd rfl hb
            have hnx := next_none hgl hbg hen hlo hno
            refine t_skip ?_
            refine k_then ?_
            refine b0 ?_
            refine o1 rfl (det_move rfl) rfl rfl trivial ?_
            refine o1 rfl (det_assign rfl) rfl rfl trivial ?_
            refine be rfl ?_
            refine k_blk ?_
            refine k_then ?_
            refine loop_backG2 hF1 (s.1 + 1, nextC c e s.2) ⟨hd2, by show s.1 + 1 ≤ _; omega, by show t ≤ nextC c e s.2; omega, hJ⟩ (by show (e - nextC c e s.2).toNat < (e - s.2).toNat; omega) ⟨(by show _ = some (Value.int .i64 (nextC c e s.2)); rw [hnx]; rfl), rfl, rfl, rfl, trivial⟩
        ·
          refine o1 rfl (det_not rfl) rfl rfl trivial ?_
          refine be rfl ?_
          refine k_then ?_
          refine t_condT rfl ?_
          refine t_ret (k_thenR (k_blkR (k_thenR (k_blkR (?_)))))
          refine ret_any (vs := []) rfl rfl trivial rfl (fun w1 hs => ?_)
          obtain ⟨ids, hX⟩ := hX
          exact ⟨_, rfl, ids, .inr (hR.stx _ _ _ hX hs.keep)⟩
      ·
        have hon : onAd c s.2 = false := by simpa using hb
        refine t_seq ?_
        refine b0 ?_
        refine o1 rfl (det_fieldAddr fld34_2 rfl) rfl rfl trivial ?_
        refine o1 rfl (det_loadK t1_4 rfl (ch_cell h3 3 (by decide) rfl)) rfl rfl trivial ?_
        refine be rfl ?_
        refine k_then ?_
        refine t_condP Iff.rfl rfl (fun hb => ?_) (fun hb => ?_)
        ·
          have hpe : c.pe = true := hb
          --note:pe
          refine b0 ?_
          refine o1 rfl (det_move rfl) rfl rfl trivial ?_
          refine o1 rfl (det_fieldAddr fld34_4 rfl) rfl rfl trivial ?_
          refine o1 rfl (det_loadK t1_3 rfl (ch_cell h3 6 (by decide) rfl)) rfl rfl trivial ?_
          refine o1 rfl (det_min2 rfl rfl) rfl rfl trivial ?_
          refine o1 rfl (det_assign rfl) rfl rfl trivial ?_
          refine be rfl ?_
          refine k_then ?_
          refine t_seq ?_
          refine b0 ?_
          have hgl : glC c s.2 = c.op := by unfold glC; rw [hon]; rfl
          have hbg : begC c s.2 = c.base := by unfold begC; rw [hon]; rfl
          have hen : endC c e s.2 = (min e c.wh) := by simp [endC, hon, hpe]
          have hG : okG (c.op).es (c.op).cyc = true := by rw [← hgl]; exact hO.gl s.2
          have hcy := okG_cyc hG
          have hbs := hO.base
          have hwh := hO.wh
          refine o1 rfl (det_move rfl) rfl rfl trivial ?_
          refine o1 rfl (det_move rfl) rfl rfl trivial ?_
          first | (refine o1 rfl (det_subI rfl rfl ?_) rfl rfl trivial ?_; (· omega)) | refine o1 rfl (det_sub rfl rfl) rfl rfl trivial ?_
          refine o1 rfl (det_fieldAddr fld30_1 rfl) rfl rfl trivial ?_
          refine o1 rfl (det_load1 t1_3 rfl rfl (.head _) rfl) rfl rfl trivial ?_
          refine o1 rfl (det_call hb50 rfl rfl (fun w1 hs => mod_ok hs.know hcy (by omega))) rfl rfl trivial ?_
          refine o1 rfl (det_assign rfl) rfl rfl trivial ?_
          refine be rfl ?_
          refine k_then ?_
          refine t_seq ?_
          refine b0 ?_
          obtain ⟨lo, hlo⟩ : ∃ lo, (s.2 - c.base) % (c.op).cyc = lo := ⟨_, rfl⟩
          have hlb : 0 ≤ lo ∧ lo < (c.op).cyc := by rw [← hlo]; exact ⟨Int.emod_nonneg _ (by omega), Int.emod_lt_of_pos _ (by omega)⟩
          rw [hlo]
          refine o1 rfl (det_loadN tN30 rfl rfl (.head _) rfl) rfl rfl trivial ?_
          refine o1 rfl (det_move rfl) rfl rfl trivial ?_
          refine o1 rfl (det_call hb80 rfl rfl (fun w1 hs => mask_at hs.know hC.op hG (by omega))) rfl rfl trivial ?_
          refine o1 rfl (det_move rfl) rfl rfl trivial ?_
          refine o1 rfl (det_extract rfl rfl) rfl rfl trivial ?_
          refine o1 rfl (det_extract rfl rfl) rfl rfl trivial ?_
          refine o1 rfl (det_assign rfl) rfl rfl trivial ?_
          refine o1 rfl (det_assign rfl) rfl rfl trivial ?_
          refine be rfl ?_
          refine k_then ?_
          refine t_seq ?_
          refine t_seq ?_
          refine b0 ?_
          refine o1 rfl (det_move rfl) rfl rfl trivial ?_
          refine o1 rfl (det_move rfl) rfl rfl trivial ?_
          rw [at_lo hgl hbg hlo]
          refine oY2 hR hJ (by rw [List.length_map]; exact hlt) nofun rfl rfl rfl rfl trivial (by rw [List.getElem_map, hget]; rfl) (fun w1 hJ F1 hF1 hO1 hK1 => ?_) (fun w1 hX => ?_)
          ·
            refine o1 rfl (det_not rfl) rfl rfl trivial ?_
            refine be rfl ?_
            refine k_then ?_
            refine t_condF rfl ?_
            refine t_skip ?_
            refine k_then ?_
            refine t_seq ?_
            refine t_seq ?_
            refine b0 ?_
            refine o1 rfl (det_loadKN tN30 rfl rfl (kn_all (vs := glv (c.op)) (hO1 _ _ _ _ (.head _)) 0 2 (at2 rfl rfl) (at2 rfl rfl))) rfl rfl trivial ?_
            refine o1 rfl (det_move rfl) rfl rfl trivial ?_
            refine o1 rfl (det_call hb46 rfl rfl (fun w1 hs => turn_at hs.know (hC.op.mono hF1) hG (by omega))) rfl rfl trivial ?_
            refine o1 rfl (det_move rfl) rfl rfl trivial ?_
            refine o1 rfl (det_extract rfl rfl) rfl rfl trivial ?_
            refine o1 rfl (det_extract rfl rfl) rfl rfl trivial ?_
            refine o1 rfl (det_assign rfl) rfl rfl trivial ?_
            refine o1 rfl (det_assign rfl) rfl rfl trivial ?_
            refine be rfl ?_
            refine k_then ?_
            refine t_seq ?_
            refine b0 ?_
            refine o1 rfl (det_move rfl) rfl rfl trivial ?_
            refine o1 rfl (det_eql rfl rfl) rfl rfl trivial ?_
            refine be rfl ?_
            refine k_then ?_
            refine t_condP beq_iff_eq rfl (fun hb => ?_) (fun hb => ?_)
            ·
              obtain ⟨u, hu⟩ : ∃ u, turnE (c.op).es (c.op).cyc lo = some u := by
                cases h : turnE (c.op).es (c.op).cyc lo with
                | none => rw [h] at hb; cases hb
                | some u => exact ⟨u, rfl⟩
              have htu := turn_some hG hu
              rw [hu, show (orErr (some u)).1 = u from rfl]
              have hnx := next_some hgl hbg hen hlo hu
              refine b0 ?_
              refine o1 rfl (det_move rfl) rfl rfl trivial ?_
              refine o1 rfl (det_move rfl) rfl rfl trivial ?_
              refine o1 rfl (det_move rfl) rfl rfl trivial ?_
              first | (refine o1 rfl (det_addI rfl rfl ?_) rfl rfl trivial ?_; (· omega)) | refine o1 rfl (det_add rfl rfl) rfl rfl trivial ?_
              refine o1 rfl (det_move rfl) rfl rfl trivial ?_
              first | (refine o1 rfl (det_subI rfl rfl ?_) rfl rfl trivial ?_; (· omega)) | refine o1 rfl (det_sub rfl rfl) rfl rfl trivial ?_
              refine o1 rfl (det_min2 rfl rfl) rfl rfl trivial ?_
              refine o1 rfl (det_assign rfl) rfl rfl trivial ?_
              refine be rfl ?_
              refine k_then ?_
              refine b0 ?_
              refine o1 rfl (det_move rfl) rfl rfl trivial ?_
              refine o1 rfl (det_assign rfl) rfl rfl trivial ?_
              refine be rfl ?_
              refine k_blk ?_
              refine k_then ?_
              refine loop_backG2 hF1 (s.1 + 1, nextC c e s.2) ⟨hd2, by show s.1 + 1 ≤ _; omega, by show t ≤ nextC c e s.2; omega, hJ⟩ (by show (e - nextC c e s.2).toNat < (e - s.2).toNat; omega) ⟨(by show _ = some (Value.int .i64 (nextC c e s.2)); rw [hnx]; rfl), rfl, rfl, rfl, trivial⟩
            ·
              have hno : turnE (c.op).es (c.op).cyc lo = none := by
                cases h : turnE (c.op).es (c.op).cyc lo with
                | none => rfl
                | some u => rw [h] at hb; exact absurd rfl hb
              have hnx := next_none hgl hbg hen hlo hno
              refine t_skip ?_
              refine k_then ?_
              refine b0 ?_
              refine o1 rfl (det_move rfl) rfl rfl trivial ?_
              refine o1 rfl (det_assign rfl) rfl rfl trivial ?_
              refine be rfl ?_
              refine k_blk ?_
              refine k_then ?_
              refine loop_backG2 hF1 (s.1 + 1, nextC c e s.2) ⟨hd2, by show s.1 + 1 ≤ _; omega, by show t ≤ nextC c e s.2; omega, hJ⟩ (by show (e - nextC c e s.2).toNat < (e - s.2).toNat; omega) ⟨(by show _ = some (Value.int .i64 (nextC c e s.2)); rw [hnx]; rfl), rfl, rfl, rfl, trivial⟩
          ·
            refine o1 rfl (det_not rfl) rfl rfl trivial ?_
            refine be rfl ?_
            refine k_then ?_
            refine t_condT rfl ?_
            refine t_ret (k_thenR (k_blkR (k_thenR (k_blkR (?_)))))
            refine ret_any (vs := []) rfl rfl trivial rfl (fun w1 hs => ?_)
            obtain ⟨ids, hX⟩ := hX
            exact ⟨_, rfl, ids, .inr (hR.stx _ _ _ hX hs.keep)⟩
        ·
          have hpe : c.pe = false := by simpa using hb
          refine t_skip ?_
          refine k_then ?_
          refine t_seq ?_
          refine b0 ?_
          have hgl : glC c s.2 = c.op := by unfold glC; rw [hon]; rfl
          have hbg : begC c s.2 = c.base := by unfold begC; rw [hon]; rfl
          have hen : endC c e s.2 = e := by simp [endC, hon, hpe]
          have hG : okG (c.op).es (c.op).cyc = true := by rw [← hgl]; exact hO.gl s.2
          have hcy := okG_cyc hG
          have hbs := hO.base
          have hwh := hO.wh
          refine o1 rfl (det_move rfl) rfl rfl trivial ?_
          refine o1 rfl (det_move rfl) rfl rfl trivial ?_
          first | (refine o1 rfl (det_subI rfl rfl ?_) rfl rfl trivial ?_; (· omega)) | refine o1 rfl (det_sub rfl rfl) rfl rfl trivial ?_
          refine o1 rfl (det_fieldAddr fld30_1 rfl) rfl rfl trivial ?_
          refine o1 rfl (det_load1 t1_3 rfl rfl (.head _) rfl) rfl rfl trivial ?_
          refine o1 rfl (det_call hb50 rfl rfl (fun w1 hs => mod_ok hs.know hcy (by omega))) rfl rfl trivial ?_
          refine o1 rfl (det_assign rfl) rfl rfl trivial ?_
          refine be rfl ?_
          refine k_then ?_
          refine t_seq ?_
          refine b0 ?_
          obtain ⟨lo, hlo⟩ : ∃ lo, (s.2 - c.base) % (c.op).cyc = lo := ⟨_, rfl⟩
          have hlb : 0 ≤ lo ∧ lo < (c.op).cyc := by rw [← hlo]; exact ⟨Int.emod_nonneg _ (by omega), Int.emod_lt_of_pos _ (by omega)⟩
          rw [hlo]
          refine o1 rfl (det_loadN tN30 rfl rfl (.head _) rfl) rfl rfl trivial ?_
          refine o1 rfl (det_move rfl) rfl rfl trivial ?_
          refine o1 rfl (det_call hb80 rfl rfl (fun w1 hs => mask_at hs.know hC.op hG (by omega))) rfl rfl trivial ?_
          refine o1 rfl (det_move rfl) rfl rfl trivial ?_
          refine o1 rfl (det_extract rfl rfl) rfl rfl trivial ?_
          refine o1 rfl (det_extract rfl rfl) rfl rfl trivial ?_
          refine o1 rfl (det_assign rfl) rfl rfl trivial ?_
          refine o1 rfl (det_assign rfl) rfl rfl trivial ?_
          refine be rfl ?_
          refine k_then ?_
          refine t_seq ?_
          refine t_seq ?_
          refine b0 ?_
          refine o1 rfl (det_move rfl) rfl rfl trivial ?_
          refine o1 rfl (det_move rfl) rfl rfl trivial ?_
          rw [at_lo hgl hbg hlo]
          refine oY2 hR hJ (by rw [List.length_map]; exact hlt) nofun rfl rfl rfl rfl trivial (by rw [List.getElem_map, hget]; rfl) (fun w1 hJ F1 hF1 hO1 hK1 => ?_) (fun w1 hX => ?_)
          ·
            refine o1 rfl (det_not rfl) rfl rfl trivial ?_
            refine be rfl ?_
            refine k_then ?_
            refine t_condF rfl ?_
            refine t_skip ?_
            refine k_then ?_
            refine t_seq ?_
            refine t_seq ?_
            refine b0 ?_
            refine o1 rfl (det_loadKN tN30 rfl rfl (kn_all (vs := glv (c.op)) (hO1 _ _ _ _ (.head _)) 0 2 (at2 rfl rfl) (at2 rfl rfl))) rfl rfl trivial ?_
            refine o1 rfl (det_move rfl) rfl rfl trivial ?_
            refine o1 rfl (det_call hb46 rfl rfl (fun w1 hs => turn_at hs.know (hC.op.mono hF1) hG (by omega))) rfl rfl trivial ?_
            refine o1 rfl (det_move rfl) rfl rfl trivial ?_
            refine o1 rfl (det_extract rfl rfl) rfl rfl trivial ?_
            refine o1 rfl (det_extract rfl rfl) rfl rfl trivial ?_
            refine o1 rfl (det_assign rfl) rfl rfl trivial ?_
            refine o1 rfl (det_assign rfl) rfl rfl trivial ?_
            refine be rfl ?_
            refine k_then ?_
            refine t_seq ?_
            refine b0 ?_
            refine o1 rfl (det_move rfl) rfl rfl trivial ?_
            refine o1 rfl (det_eql rfl rfl) rfl rfl trivial ?_
            refine be rfl ?_
            refine k_then ?_
            refine t_condP beq_iff_eq rfl (fun hb => ?_) (fun hb => ?_)
            ·
              obtain ⟨u, hu⟩ : ∃ u, turnE (c.op).es (c.op).cyc lo = some u := by
                cases h : turnE (c.op).es (c.op).cyc lo with
                | none => rw [h] at hb; cases hb
                | some u => exact ⟨u, rfl⟩
              have htu := turn_some hG hu
              rw [hu, show (orErr (some u)).1 = u from rfl]
              have hnx := next_some hgl hbg hen hlo hu
              refine b0 ?_
              refine o1 rfl (det_move rfl) rfl rfl trivial ?_
              refine o1 rfl (det_move rfl) rfl rfl trivial ?_
              refine o1 rfl (det_move rfl) rfl rfl trivial ?_
              first | (refine o1 rfl (det_addI rfl rfl ?_) rfl rfl trivial ?_; (· omega)) | refine o1 rfl (det_add rfl rfl) rfl rfl trivial ?_
              refine o1 rfl (det_move rfl) rfl rfl trivial ?_
              first | (refine o1 rfl (det_subI rfl rfl ?_) rfl rfl trivial ?_; (· omega)) | refine o1 rfl (det_sub rfl rfl) rfl rfl trivial ?_
              refine o1 rfl (det_min2 rfl rfl) rfl rfl trivial ?_
              refine o1 rfl (det_assign rfl) rfl rfl trivial ?_
              refine be rfl ?_
              refine k_then ?_
              refine b0 ?_
              refine o1 rfl (det_move rfl) rfl rfl trivial ?_
              refine o1 rfl (det_assign rfl) rfl rfl trivial ?_
              refine be rfl ?_
              refine k_blk ?_
              refine k_then ?_
              refine loop_backG2 hF1 (s.1 + 1, nextC c e s.2) ⟨hd2, by show s.1 + 1 ≤ _; omega, by show t ≤ nextC c e s.2; omega, hJ⟩ (by show (e - nextC c e s.2).toNat < (e - s.2).toNat; omega) ⟨(by show _ = some (Value.int .i64 (nextC c e s.2)); rw [hnx]; rfl), rfl, rfl, rfl, trivial⟩
            ·
              have hno : turnE (c.op).es (c.op).cyc lo = none := by
                cases h : turnE (c.op).es (c.op).cyc lo with
                | none => rfl
                | some u => rw [h] at hb; exact absurd rfl hb
              have hnx := next_none hgl hbg hen hlo hno
              refine t_skip ?_
              refine k_then ?_
              refine b0 ?_
              refine o1 rfl (det_move rfl) rfl rfl trivial ?_
              refine o1 rfl (det_assign rfl) rfl rfl trivial ?_
              refine be rfl ?_
              refine k_blk ?_
              refine k_then ?_
              refine loop_backG2 hF1 (s.1 + 1, nextC c e s.2) ⟨hd2, by show s.1 + 1 ≤ _; omega, by show t ≤ nextC c e s.2; omega, hJ⟩ (by show (e - nextC c e s.2).toNat < (e - s.2).toNat; omega) ⟨(by show _ = some (Value.int .i64 (nextC c e s.2)); rw [hnx]; rfl), rfl, rfl, rfl, trivial⟩
          ·
            refine o1 rfl (det_not rfl) rfl rfl trivial ?_
            refine be rfl ?_
            refine k_then ?_
            refine t_condT rfl ?_
            refine t_ret (k_thenR (k_blkR (k_thenR (k_blkR (?_)))))
            refine ret_any (vs := []) rfl rfl trivial rfl (fun w1 hs => ?_)
            obtain ⟨ids, hX⟩ := hX
            exact ⟨_, rfl, ids, .inr (hR.stx _ _ _ hX hs.keep)⟩
    ·
      refine b0 ?_
      refine o1 rfl (det_fieldAddr fld34_2 rfl) rfl rfl trivial ?_
      refine o1 rfl (det_loadK t1_4 rfl (ch_cell h3 3 (by decide) rfl)) rfl rfl trivial ?_
      refine o2P Iff.rfl rfl (det_move rfl) rfl rfl trivial (fun hb => ?_) (fun hb => ?_)
      ·
        refine o1 rfl (det_move rfl) rfl rfl ⟨_, rfl, rfl⟩ ?_
        refine o1 rfl (det_fieldAddr fld34_4 rfl) rfl rfl ⟨_, rfl, rfl⟩ ?_
        refine o1 rfl (det_loadK t1_3 rfl (ch_cell h3 6 (by decide) rfl)) rfl rfl ⟨_, rfl, rfl⟩ ?_
        refine o1 rfl (det_geq rfl rfl) rfl rfl ⟨_, rfl, rfl⟩ ?_
        refine o1 rfl (det_pickT rfl rfl) rfl rfl trivial ?_
        refine be rfl ?_
        refine tk_drop ?_ (.refl _) hK
        exact ⟨(mb rfl (by grind [onAd])), rfl, rfl, rfl, rfl, rfl, rfl, rfl, trivial⟩
      ·
        refine on rfl rfl rfl ⟨_, rfl, .inl rfl⟩ ?_
        refine on rfl rfl rfl ⟨_, rfl, .inl rfl⟩ ?_
        refine on rfl rfl rfl ⟨_, rfl, .inl rfl⟩ ?_
        refine on rfl rfl rfl ⟨_, rfl, .inl rfl⟩ ?_
        refine o1 rfl (det_pickF rfl rfl) rfl rfl trivial ?_
        refine be rfl ?_
        refine tk_drop ?_ (.refl _) hK
        exact ⟨(mb rfl (by grind [onAd])), rfl, rfl, rfl, rfl, rfl, rfl, rfl, trivial⟩
  ·
    rw [stW_end c hb] at hdr
    have hse := drop_nil hdr hsl
    refine t_exit ?_
    refine k_thenE ?_
    refine k_thenE ?_
    refine k_blkE ?_
    refine end_none rfl rfl (fun w1 hs => ?_)
    obtain ⟨ids, hJ⟩ := hJ
    exact ⟨_, rfl, ids, .inl (hR.st _ _ _ _ (by rw [List.length_map, ← hse]; exact hJ) hs.keep)⟩

end Go.Proofs.Sw
