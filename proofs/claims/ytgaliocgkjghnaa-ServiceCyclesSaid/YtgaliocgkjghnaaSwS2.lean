/-
  Walks through layer 30 and its reference.
-/
import Derived.Test.YtgaliocgkjghnaaSwS1
namespace Go.Proofs.Sw
open Go Go.Eng Go.Gt Go.Proofs.Gt Go.Sw Go.Sv
set_option maxRecDepth 4000

theorem open6_at {w : World} {F : Know} (hF : ∀ a v, F a = some v → w.cell? a = some v) {g : Gl} (hE : GlK F g) (hG : okG g.es g.cyc = true) {t : Int} (ht : -1099511627776 ≤ t ∧ t ≤ 1099511627776) :
    Pure Try.prog 45 [.agg (glv g).toArray, .int .i64 6, .int .i64 t] w (.tuple [.int .i64 (spanE g.es g.cyc 6 t), .int .i64 0].toArray) := by
  have := Open_ok (cap := g.cap) hF hE 6 (by decide) t (cyc := g.cyc)
  rw [openA, if_pos (errG_ok hG (by decide) ht (by decide))] at this
  exact this
theorem fit6_at {w : World} {F : Know} (hF : ∀ a v, F a = some v → w.cell? a = some v) {g : Gl} (hE : GlK F g) (hG : okG g.es g.cyc = true) {t : Int} (ht : -1099511627776 ≤ t ∧ t ≤ 1099511627776) :
    Pure Try.prog 85 [.agg (glv g).toArray, .int .i64 6, .int .i64 t, .int .i64 1] w (.tuple [.int .i64 (orErr (fitE g.es g.cyc 6 t 1)).1, .int .i64 (orErr (fitE g.es g.cyc 6 t 1)).2].toArray) := by
  have := Fit_ok (cap := g.cap) hF hE 6 (by decide) t 1 (cyc := g.cyc)
  rw [fitA_eq hG (by decide) ht (by decide)] at this
  exact this
/-- openings. -/
theorem openings_ok {w : World} {F : Know} (hF : ∀ a v, F a = some v → w.cell? a = some v) {g : Gl} {f t : Int} : CallsF Try.prog 69 [.agg (glv g).toArray, .int .i64 f, .int .i64 t] w noK (fun v F2 => ∃ q1 q2 q3, v = .func (.func 84) [].toArray [.pointer (some ⟨q1, 0, none⟩), .pointer (some ⟨q2, 0, none⟩), .pointer (some ⟨q3, 0, none⟩)].toArray ∧ F2 ⟨q1, 0, none⟩ = some (.int .i64 f) ∧ F2 ⟨q2, 0, none⟩ = some (.int .i64 t) ∧ (∀ j, j < 2 → F2 ((⟨q3, 0, none⟩ : Addr).add j) = (glv g)[j]?)) := by
  refine fn_fresh (F := F) Try.func69 rfl Try.ntmps69 rfl hF ?_
  refine t_seq ?_
  refine b0 ?_
  refine om1 rfl (new_boxN rfl) rfl rfl trivial (fun p3 => ?_)
  refine om1 rfl (new_box1 rfl rfl) rfl rfl trivial (fun p4 => ?_)
  refine om1 rfl (new_box1 rfl rfl) rfl rfl trivial (fun p5 => ?_)
  refine o1 rfl (det_assign rfl) rfl rfl trivial ?_
  refine be rfl ?_
  refine k_then ?_
  refine t_seq ?_
  refine b0 ?_
  refine o1 rfl (det_makeFunc rfl rfl) rfl rfl trivial ?_
  refine o1 rfl (det_assign rfl) rfl rfl trivial ?_
  refine be rfl ?_
  refine k_then ?_
  refine t_ret ?_
  refine ret_tmp rfl rfl rfl (fun w1 hs => ?_)
  exact end_fresh hs fun F2 _ _ h => ⟨p4, p5, p3, rfl, h p4 _ _ _ 0 (.tail _ (.head _)) _ rfl, h p5 _ _ _ 0 (.head _) _ rfl, kn_all (h p3 _ _ _ · (.tail _ (.tail _ (.head _)))) 0 2 (fun j hj => by rw [Nat.zero_add, List.getElem?_toArray]) (at2 rfl rfl)⟩

/-- Its iterator. -/
theorem open_gives {F : Know} {g : Gl} {f t : Int} {q1 q2 q3 : Nat} (hE : GlK F g) (hG : okG g.es g.cyc = true) (hf : -1099511627776 ≤ f) (ht : t ≤ 1099511627776) (hft : t - f ≤ 1099511627776) (h1 : F ⟨q1, 0, none⟩ = some (.int .i64 f)) (h2 : F ⟨q2, 0, none⟩ = some (.int .i64 t)) (h3 : (∀ j, j < 2 → F ((⟨q3, 0, none⟩ : Addr).add j) = (glv g)[j]?)) : Gives2 Try.prog 84 [.pointer (some ⟨q1, 0, none⟩), .pointer (some ⟨q2, 0, none⟩), .pointer (some ⟨q3, 0, none⟩)] F ((runs (op6 g.es g.cyc) f t).map fun x => [Value.int .i64 x.1, .int .i64 x.2]) := by
  have hcy := okG_cyc hG
  obtain ⟨hl1, hl2, hall0, hsum, hc9, hc1⟩ := okG_parts hG
  refine fn_gives2 Try.func84 rfl Try.ntmps84 rfl fun l J Jx w hR hJ => ?_
  refine t_scope0 ?_
  refine t_seq ?_
  refine b0 ?_
  refine o1 rfl (det_loadK t1_3 rfl h1) rfl rfl trivial ?_
  refine o1 rfl (det_assign rfl) rfl rfl trivial ?_
  refine be rfl ?_
  refine k_then ?_
  refine t_seq ?_
  refine t_label ?_
  refine k_then ?_
  refine t_block ?_
  refine t_whileG (σ := Nat × Int) (fun s => [(5, .int .i64 s.2)]) (fun s => (t - s.2).toNat) (fun s => fun w1 => (runs (op6 g.es g.cyc) f t).drop s.1 = runs (op6 g.es g.cyc) s.2 t ∧ s.1 ≤ (runs (op6 g.es g.cyc) f t).length ∧ f ≤ s.2 ∧ ∃ ids, J s.1 ids w1) (0, f) (env0 := [(0, _), (2, _), (3, _)]) ⟨rfl, Nat.zero_le _, Int.le_refl _, hJ⟩ ⟨rfl, trivial⟩ ⟨rfl, rfl, rfl, trivial⟩ ?_
  rintro s w1 ⟨hdr, hsl, hts, hJ⟩
  refine t_seq ?_
  refine t_seq ?_
  refine b0 ?_
  refine o1 rfl (det_move rfl) rfl rfl trivial ?_
  refine o1 rfl (det_loadK t1_3 rfl h2) rfl rfl trivial ?_
  refine o1 rfl (det_lss rfl rfl) rfl rfl trivial ?_
  refine be rfl ?_
  refine k_then ?_
  refine t_condP decide_eq_true_iff rfl (fun hb => ?_) (fun hb => ?_)
  ·
    have hx : s.2 < t := hb
    have hsb := spanE_bounds hG 6 s.2
    unfold big at hsb
    refine t_skip ?_
    refine k_then ?_
    refine t_block ?_
    refine t_seq ?_
    refine b0 ?_
    refine o1 rfl (det_loadKN tN30 rfl rfl h3) rfl rfl trivial ?_
    refine o1 rfl (det_move rfl) rfl rfl trivial ?_
    refine o1 rfl (det_call hb45 rfl rfl (fun w1 hs => open6_at hs.know hE hG (by omega))) rfl rfl trivial ?_
    refine o1 rfl (det_move rfl) rfl rfl trivial ?_
    refine o1 rfl (det_extract rfl rfl) rfl rfl trivial ?_
    refine o1 rfl (det_extract rfl rfl) rfl rfl trivial ?_
    refine o1 rfl (det_assign rfl) rfl rfl trivial ?_
    refine o1 rfl (det_assign rfl) rfl rfl trivial ?_
    refine be rfl ?_
    refine k_then ?_
    refine t_seq ?_
    refine t_seq ?_
    refine b0 ?_
    refine o1 rfl (det_move rfl) rfl rfl trivial ?_
    refine o1 rfl (det_gtr rfl rfl) rfl rfl trivial ?_
    refine be rfl ?_
    refine k_then ?_
    refine t_condP decide_eq_true_iff rfl (fun hb => ?_) (fun hb => ?_)
    ·
      rw [runs_span hG hx hb (by unfold big; omega)] at hdr
      obtain ⟨hlt, hget, hd2⟩ := drop_head hdr
      refine t_seq ?_
      refine b0 ?_
      refine o1 rfl (det_move rfl) rfl rfl trivial ?_
      refine o1 rfl (det_move rfl) rfl rfl trivial ?_
      first | (refine o1 rfl (det_addI rfl rfl ?_) rfl rfl trivial ?_; (· omega)) | refine o1 rfl (det_add rfl rfl) rfl rfl trivial ?_
      refine o1 rfl (det_loadK t1_3 rfl h2) rfl rfl trivial ?_
      refine o1 rfl (det_min2 rfl rfl) rfl rfl trivial ?_
      refine o1 rfl (det_assign rfl) rfl rfl trivial ?_
      refine be rfl ?_
      refine k_then ?_
      refine t_seq ?_
      refine t_seq ?_
      refine b0 ?_
      refine o1 rfl (det_move rfl) rfl rfl trivial ?_
      refine o1 rfl (det_move rfl) rfl rfl trivial ?_
      refine o1 rfl (det_move rfl) rfl rfl trivial ?_
      refine oY2 hR hJ (by rw [List.length_map]; exact hlt) nofun rfl rfl rfl rfl trivial (by rw [List.getElem_map, hget]; rfl) (fun w1 hJ F1 hF1 hO1 hK1 => ?_) (fun w1 hX => ?_)
      ·
        refine o1 rfl (det_not rfl) rfl rfl trivial ?_
        refine be rfl ?_
        refine k_then ?_
        refine t_condF rfl ?_
        refine t_skip ?_
        refine k_then ?_
        refine t_seq ?_
        refine b0 ?_
        refine o1 rfl (det_move rfl) rfl rfl trivial ?_
        refine o1 rfl (det_assign rfl) rfl rfl trivial ?_
        refine be rfl ?_
        refine k_then ?_
        refine t_exit ?_
        refine k_thenE ?_
        refine k_blkE ?_
        refine k_then ?_
        refine loop_backG2 hF1 (s.1 + 1, (min (s.2 + spanE g.es g.cyc 6 s.2) t)) ⟨hd2, by show s.1 + 1 ≤ _; omega, by show f ≤ (min (s.2 + spanE g.es g.cyc 6 s.2) t); omega, hJ⟩ (by show (t - (min (s.2 + spanE g.es g.cyc 6 s.2) t)).toNat < (t - s.2).toNat; omega) ⟨rfl, rfl, rfl, rfl, trivial⟩
      ·
        refine o1 rfl (det_not rfl) rfl rfl trivial ?_
        refine be rfl ?_
        refine k_then ?_
        refine t_condT rfl ?_
        refine t_ret (k_thenR (k_thenR (k_blkR (k_thenR (k_blkR (k_nogR (?_)))))))
        refine ret_any (vs := []) rfl rfl trivial rfl (fun w1 hs => ?_)
        obtain ⟨ids, hX⟩ := hX
        exact ⟨_, rfl, ids, .inr (hR.stx _ _ _ hX hs.keep)⟩
    ·
      skip
      refine t_skip ?_
      refine k_then ?_
      refine t_seq ?_
      refine b0 ?_
      refine o1 rfl (det_loadKN tN30 rfl rfl h3) rfl rfl trivial ?_
      refine o1 rfl (det_move rfl) rfl rfl trivial ?_
      refine o1 rfl (det_call hb85 rfl rfl (fun w1 hs => fit6_at hs.know hE hG (by omega))) rfl rfl trivial ?_
      refine o1 rfl (det_move rfl) rfl rfl trivial ?_
      refine o1 rfl (det_extract rfl rfl) rfl rfl trivial ?_
      refine o1 rfl (det_extract rfl rfl) rfl rfl trivial ?_
      refine o1 rfl (det_assign rfl) rfl rfl trivial ?_
      refine o1 rfl (det_assign rfl) rfl rfl trivial ?_
      refine be rfl ?_
      refine k_then ?_
      refine t_seq ?_
      refine t_seq ?_
      refine b0 ?_
      refine o1 rfl (det_move rfl) rfl rfl trivial ?_
      refine o1 rfl (det_neq rfl rfl) rfl rfl trivial ?_
      refine be rfl ?_
      refine k_then ?_
      refine t_condP bne_iff_ne rfl (fun hb => ?_) (fun hb => ?_)
      ·
        have hno : fitE g.es g.cyc 6 s.2 1 = none := by
          cases h : fitE g.es g.cyc 6 s.2 1 with
          | none => rfl
          | some u => rw [h] at hb; exact absurd rfl hb
        rw [runs_nofit hG hno] at hdr
        have hse := drop_nil hdr hsl
        refine t_ret (k_thenR (k_blkR (k_thenR (k_blkR (k_nogR (?_))))))
        refine ret_any (vs := []) rfl rfl trivial rfl (fun w1 hs => ?_)
        obtain ⟨ids, hJ⟩ := hJ
        exact ⟨_, rfl, ids, .inl (hR.st _ _ _ _ (by rw [List.length_map, ← hse]; exact hJ) hs.keep)⟩
      ·
        obtain ⟨o, ho⟩ : ∃ o, fitE g.es g.cyc 6 s.2 1 = some o := by
          cases h : fitE g.es g.cyc 6 s.2 1 with
          | none => rw [h] at hb; exact absurd (by decide) hb
          | some u => exact ⟨u, rfl⟩
        have hno : ¬ 0 < spanE g.es g.cyc 6 s.2 := by omega
        obtain ⟨hso, hoc, hrr⟩ := runs_fit (b := t) hG hno ho
        rw [hrr] at hdr
        rw [ho, show (orErr (some o)).1 = o from rfl]
        refine t_skip ?_
        refine k_then ?_
        refine b0 ?_
        refine o1 rfl (det_move rfl) rfl rfl trivial ?_
        refine o1 rfl (det_assign rfl) rfl rfl trivial ?_
        refine be rfl ?_
        refine k_blk ?_
        refine k_then ?_
        refine loop_backG2 incl_refl (s.1, o) ⟨hdr, hsl, by show f ≤ o; omega, hJ⟩ (by show (t - o).toNat < (t - s.2).toNat; omega) ⟨rfl, rfl, rfl, rfl, trivial⟩
  ·
    rw [runs_end hb] at hdr
    have hse := drop_nil hdr hsl
    refine t_exit ?_
    refine k_thenE ?_
    refine k_thenE ?_
    refine k_blkE ?_
    refine k_nog ?_
    refine end_none rfl rfl (fun w1 hs => ?_)
    obtain ⟨ids, hJ⟩ := hJ
    exact ⟨_, rfl, ids, .inl (hR.st _ _ _ _ (by rw [List.length_map, ← hse]; exact hJ) hs.keep)⟩

end Go.Proofs.Sw
