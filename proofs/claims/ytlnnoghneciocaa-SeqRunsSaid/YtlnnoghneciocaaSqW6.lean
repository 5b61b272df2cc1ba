/-
  Walks through layer 39 and its reference.
-/
import Derived.Test.YtlnnoghneciocaaSqW5
namespace Go.Proofs.Sq
open Go Go.Eng Go.Sq
set_option maxRecDepth 4000

/-- copied. -/
theorem copied_ok {w : World} {F : Know} (hF : ∀ a v, F a = some v → w.cell? a = some v) {A : Option Addr} {n c : Nat} {x : It} : CallsF Try.prog 28 [.agg (itv x).toArray, .slice A n c] w noK (fun v F2 => ∃ p q, v = .func (.func 32) [].toArray [.pointer (some ⟨q, 0, none⟩), .pointer (some ⟨p, 0, none⟩)].toArray ∧ (∀ j, j < 5 → F2 ((⟨p, 0, none⟩ : Addr).add j) = (itv x)[j]?) ∧ F2 ⟨q, 0, none⟩ = some (.slice A n c)) := by
  refine fn_fresh (F := F) Try.func28 rfl Try.ntmps28 rfl hF ?_
  refine t_seq ?_
  refine b0 ?_
  refine om1 rfl (new_boxN rfl) rfl rfl trivial (fun p2 => ?_)
  refine om1 rfl (new_box1 rfl rfl) rfl rfl trivial (fun p3 => ?_)
  refine o1 rfl (det_assign rfl) rfl rfl trivial ?_
  refine be rfl ?_
  refine k_then ?_
  refine t_seq ?_
  refine b0 ?_
  refine o1 rfl (det_makeFunc rfl rfl) rfl rfl trivial ?_
  refine o1 rfl (det_assign rfl) rfl rfl trivial ?_
  refine be rfl ?_
  refine k_then ?_
  refine t_ret ?_
  refine ret_tmp rfl rfl rfl (fun w1 hs => ?_)
  exact end_fresh hs fun F2 _ _ h => ⟨p2, p3, rfl, fun j hj => by rw [add_mk, Nat.zero_add, List.getElem?_eq_getElem (l := itv x) hj]; exact h p2 _ _ _ j (.tail _ (.head _)) _ (by rw [List.getElem?_toArray]; exact List.getElem?_eq_getElem (l := itv x) hj), h p3 _ _ _ 0 (.head _) _ rfl⟩

/-- Its iterator. -/
theorem copied_gives {F : Know} {A : Option Addr} {n c : Nat} {rs : List Rt} (hP : TK2 F A n rs) (hnb : n ≤ 65536) {x : It} {p q : Nat} (h0 : ∀ j, j < 5 → F ((⟨p, 0, none⟩ : Addr).add j) = (itv x)[j]?) (h1 : F ⟨q, 0, none⟩ = some (.slice A n c)) : Gives Try.prog 32 [.pointer (some ⟨q, 0, none⟩), .pointer (some ⟨p, 0, none⟩)] F (yldC x rs) := by
  refine fn_gives Try.func32 rfl Try.ntmps32 rfl fun l J Jx w hR hJ => ?_
  refine t_seq ?_
  refine b0 ?_
  refine o1 rfl (det_loadK t1_32 rfl h1) rfl rfl trivial ?_
  refine o1 rfl (det_lenS sl32 rfl) rfl rfl trivial ?_
  refine o1 rfl (det_move rfl) rfl rfl trivial ?_
  refine be rfl ?_
  refine k_then ?_
  refine t_block ?_
  refine t_whileG (σ := Nat) (fun s => [(8, .int .i64 s)]) (fun s => rs.length - s) (fun s => fun w1 => s ≤ rs.length ∧ J s w1) 0 (env0 := [(0, _), (2, _), (6, _), (7, _)]) ⟨Nat.zero_le _, hJ⟩ ⟨rfl, trivial⟩ ⟨rfl, rfl, rfl, rfl, trivial⟩ ?_
  rintro s w1 ⟨hsl, hJ⟩
  have hnl := hP.len
  refine t_seq ?_
  refine b0 ?_
  refine o1 rfl (det_lss rfl rfl) rfl rfl trivial ?_
  refine be rfl ?_
  refine k_then ?_
  refine t_seq ?_
  refine t_condP decide_eq_true_iff rfl (fun hb => ?_) (fun hb => ?_)
  ·
    have hlt : s < rs.length := by omega
    obtain ⟨A, rfl⟩ := hP.some hlt
    refine t_skip ?_
    refine k_then ?_
    refine t_seq ?_
    refine t_block ?_
    refine t_seq ?_
    refine b0 ?_
    first | (refine o1 rfl (det_indexAddr sl32 rfl rfl ?_) rfl rfl trivial ?_; (· (first | decide | omega)))
    refine o1 rfl (det_loadK t1_38 rfl (hP.cell1 (i := (s : Int)) (k := s) (u := rtV rs[s]) (Int.toNat_natCast s) hlt rfl)) rfl rfl trivial ?_
    refine o1 rfl (det_assign rfl) rfl rfl trivial ?_
    refine be rfl ?_
    refine k_then ?_
    refine t_seq ?_
    refine b0 ?_
    refine o1 rfl (det_move rfl) rfl rfl trivial ?_
    refine o1 rfl (det_loadKN tN31 rfl (itv_len x) h0) rfl rfl trivial ?_
    refine o1 rfl (det_move rfl) rfl rfl trivial ?_
    refine o1 rfl (det_build rfl (fun w => bld40_0_1 _ _ _ _ _ _ _ _ w)) rfl rfl trivial ?_
    refine oY hR hJ (by rw [yldC_len]; exact hlt) nofun rfl rfl rfl rfl trivial (by rw [yldC_get (by rw [yldC_len]; exact hlt), atR_get hlt]; rfl) (fun w1 hJ => ?_) (fun w1 hX => ?_)
    ·
      refine o1 rfl (det_not rfl) rfl rfl trivial ?_
      refine be rfl ?_
      refine k_then ?_
      refine t_condF rfl ?_
      refine t_skip ?_
      refine k_blk ?_
      refine k_then ?_
      refine b0 ?_
      first | (refine o1 rfl (det_addI rfl rfl ?_) rfl rfl trivial ?_; (· omega)) | refine o1 rfl (det_add rfl rfl) rfl rfl trivial ?_
      refine o1 rfl (det_move rfl) rfl rfl trivial ?_
      refine be rfl ?_
      refine k_then ?_
      refine loop_backG (s + 1) ⟨by omega, hJ⟩ (by omega) ⟨rfl, rfl, rfl, rfl, rfl, trivial⟩
    ·
      refine o1 rfl (det_not rfl) rfl rfl trivial ?_
      refine be rfl ?_
      refine k_then ?_
      refine t_condT rfl ?_
      refine t_ret (k_blkR (k_thenR (k_thenR (k_blkR (?_)))))
      refine ret_any (vs := []) rfl rfl trivial rfl (fun w1 hs => ?_)
      exact ⟨_, rfl, .inr (hR.stx _ _ hX hs.keep)⟩
  ·
    have hse : s = rs.length := by omega
    subst hse
    refine t_exit ?_
    refine k_thenE ?_
    refine k_thenE ?_
    refine k_blkE ?_
    refine end_none rfl rfl (fun w1 hs => ?_)
    exact ⟨_, rfl, .inl (hR.st _ _ _ (by rw [yldC_len]; exact hJ) hs.keep)⟩

/-- Copies. -/
theorem copies_ok {w : World} {F : Know} (hF : ∀ a v, F a = some v → w.cell? a = some v) {A : Option Addr} {n c : Nat} {rs : List Rt} (hP : TK2 F A n rs) (hnb : n ≤ 65536) {x : It} : CallsF Try.prog 15 [.agg (itv x).toArray, .slice A n c] w noK (fun v F2 => ∃ A1 n1 c1, v = .tuple [.slice A1 n1 c1, .int .i64 (if okCp x rs then 0 else 2)].toArray ∧ n1 ≤ c1 ∧ c1 ≤ maxLen ∧ RowsK (cpv x) 6 F2 A1 n1 (outCp x rs)) := by
  refine fn_fresh (F := F) Try.func15 rfl Try.ntmps15 rfl hF ?_
  refine t_seq ?_
  refine b0 ?_
  refine om1 rfl (new_boxN rfl) rfl rfl trivial (fun p2 => ?_)
  refine o1 rfl (det_assign rfl) rfl rfl trivial ?_
  refine o1 rfl (det_assign rfl) rfl rfl trivial ?_
  refine be rfl ?_
  refine k_then ?_
  refine t_seq ?_
  refine t_seq ?_
  refine b0 ?_
  refine o1 rfl (det_fieldAddr fld31_0 rfl) rfl rfl trivial ?_
  refine o1 rfl (det_load1 t1_3 rfl rfl (.head _) rfl) rfl rfl trivial ?_
  refine o1 rfl (det_call hb27 rfl rfl (fun w1 hs => in_ok hs.know)) rfl rfl trivial ?_
  refine o1 rfl (det_not rfl) rfl rfl trivial ?_
  refine o2P not_iff_false rfl (det_move rfl) rfl rfl trivial (fun hb => ?_) (fun hb => ?_)
  ·
    refine on rfl rfl rfl ⟨_, rfl, .inl rfl⟩ ?_
    refine on rfl rfl rfl ⟨_, rfl, .inl rfl⟩ ?_
    refine on rfl rfl rfl ⟨_, rfl, .inl rfl⟩ ?_
    refine on rfl rfl rfl ⟨_, rfl, .inl rfl⟩ ?_
    refine o1 rfl (det_pickT rfl rfl) rfl rfl trivial ?_
    refine o1 rfl (det_move rfl) rfl rfl trivial ?_
    refine on rfl rfl rfl ⟨_, rfl, .inl rfl⟩ ?_
    refine on rfl rfl rfl ⟨_, rfl, .inl rfl⟩ ?_
    refine on rfl rfl rfl ⟨_, rfl, .inl rfl⟩ ?_
    refine on rfl rfl rfl ⟨_, rfl, .inl rfl⟩ ?_
    refine o1 rfl (det_pickT rfl rfl) rfl rfl trivial ?_
    refine be rfl ?_
    refine k_then ?_
    refine t_condT rfl ?_
    refine t_seq ?_
    refine b0 ?_
    refine o1 rfl (det_assign rfl) rfl rfl trivial ?_
    refine o1 rfl (det_assign rfl) rfl rfl trivial ?_
    refine be rfl ?_
    refine k_then ?_
    refine t_ret (k_thenR (?_))
    refine ret_tmp2 rfl rfl rfl rfl (fun w1 hs => ?_)
    have hnl := hP.len
    have hno : okCp x rs = false := by grind [okCp, okN]
    exact end_fresh hs fun F2 h1 _ h3 => ⟨none, 0, 0, by rw [hno]; rfl, Nat.le_refl _, Nat.zero_le _, by rw [outCp, hno]; exact RowsK.nil⟩
  ·
    refine o1 rfl (det_fieldAddr fld31_1 rfl) rfl rfl ⟨_, rfl, rfl⟩ ?_
    refine o1 rfl (det_load1 t1_3 rfl rfl (.head _) rfl) rfl rfl ⟨_, rfl, rfl⟩ ?_
    refine o1 rfl (det_call hb25 rfl rfl (fun w1 hs => number_ok hs.know)) rfl rfl ⟨_, rfl, rfl⟩ ?_
    refine o1 rfl (det_not rfl) rfl rfl ⟨_, rfl, rfl⟩ ?_
    refine o1 rfl (det_pickF rfl rfl) rfl rfl trivial ?_
    refine o2P not_iff_false rfl (det_move rfl) rfl rfl trivial (fun hb => ?_) (fun hb => ?_)
    ·
      refine on rfl rfl rfl ⟨_, rfl, .inl rfl⟩ ?_
      refine on rfl rfl rfl ⟨_, rfl, .inl rfl⟩ ?_
      refine on rfl rfl rfl ⟨_, rfl, .inl rfl⟩ ?_
      refine on rfl rfl rfl ⟨_, rfl, .inl rfl⟩ ?_
      refine o1 rfl (det_pickT rfl rfl) rfl rfl trivial ?_
      refine be rfl ?_
      refine k_then ?_
      refine t_condT rfl ?_
      refine t_seq ?_
      refine b0 ?_
      refine o1 rfl (det_assign rfl) rfl rfl trivial ?_
      refine o1 rfl (det_assign rfl) rfl rfl trivial ?_
      refine be rfl ?_
      refine k_then ?_
      refine t_ret (k_thenR (?_))
      refine ret_tmp2 rfl rfl rfl rfl (fun w1 hs => ?_)
      have hnl := hP.len
      have hno : okCp x rs = false := by grind [okCp, okN]
      exact end_fresh hs fun F2 h1 _ h3 => ⟨none, 0, 0, by rw [hno]; rfl, Nat.le_refl _, Nat.zero_le _, by rw [outCp, hno]; exact RowsK.nil⟩
    ·
      refine o1 rfl (det_move rfl) rfl rfl ⟨_, rfl, rfl⟩ ?_
      refine o1 rfl (det_lenS sl32 rfl) rfl rfl ⟨_, rfl, rfl⟩ ?_
      refine o1 rfl (det_call hb27 rfl rfl (fun w1 hs => in_ok hs.know)) rfl rfl ⟨_, rfl, rfl⟩ ?_
      refine o1 rfl (det_not rfl) rfl rfl ⟨_, rfl, rfl⟩ ?_
      refine o1 rfl (det_pickF rfl rfl) rfl rfl trivial ?_
      refine be rfl ?_
      refine k_then ?_
      refine t_condP not_iff_false rfl (fun hb => ?_) (fun hb => ?_)
      ·
        refine t_seq ?_
        refine b0 ?_
        refine o1 rfl (det_assign rfl) rfl rfl trivial ?_
        refine o1 rfl (det_assign rfl) rfl rfl trivial ?_
        refine be rfl ?_
        refine k_then ?_
        refine t_ret (k_thenR (?_))
        refine ret_tmp2 rfl rfl rfl rfl (fun w1 hs => ?_)
        have hnl := hP.len
        have hno : okCp x rs = false := by grind [okCp, okN]
        exact end_fresh hs fun F2 h1 _ h3 => ⟨none, 0, 0, by rw [hno]; rfl, Nat.le_refl _, Nat.zero_le _, by rw [outCp, hno]; exact RowsK.nil⟩
      ·
        refine t_skip ?_
        refine k_then ?_
        refine t_seq ?_
        refine b0 ?_
        refine om1 rfl (new_alloc z34) rfl rfl trivial (fun p6 => ?_)
        refine be rfl ?_
        refine k_then ?_
        refine t_seq ?_
        refine t_seq ?_
        refine b0 ?_
        have hnl := hP.len
        have hok : okCp x rs = true := by grind [okCp, okN]
        refine o1 rfl (det_loadN tN31 rfl rfl (.tail _ (.head _)) rfl) rfl rfl trivial ?_
        refine o1 rfl (det_move rfl) rfl rfl trivial ?_
        refine oF nofun rfl hb28 rfl rfl rfl trivial (fun w1 hs => (copied_ok hs.know).any) (fun v F1 hF1 hN1 ⟨p, q, hv1, h0, h1⟩ => ?_)
        subst hv1
        replace hP := hP.mono hF1
        refine be rfl ?_
        refine k_then ?_
        refine t_block ?_
        refine t_rangeF (σ := Value × Own) (fun s => [(p6, .cells [s.1].toArray 34 (0, 0)), (p2, .cells (itv x).toArray 31 (0, 0))] ++ s.2) (fun k s => SlO 40 6 s.1 k (rowsV (cpv x) (rs.take k)) s.2) (fun _ s => False) (.slice none 0 0, []) (fun k => [.agg (cpv x (atR rs k)).toArray]) (xs := yldC x rs) (env0 := [(4, _), (5, _), (6, _)]) rfl hb32 (copied_gives hP hnb h0 h1) (fun k hk => yldC_get hk) (fun _ => rfl) rfl (SlO.nil 40 6) ⟨rfl, rfl, rfl, trivial⟩ (.refl _) ?_ ?_ ?_
        ·
          rintro l D r k s hr hk hS
          rw [yldC_len] at hk
          have hnl := hP.len
          have hok2 : rs.length ≤ 2 := by have := hok; simp [okCp] at this; omega
          refine b0 ?_
          refine om1 rfl (new_alloc z40) rfl rfl trivial (fun p7 => ?_)
          refine stN nofun rfl tN40 rfl rfl rfl .head rfl trivial rfl rfl ?_
          refine be rfl ?_
          refine k_then ?_
          refine k_begin (pre := _ :: _) hr.1 rfl ?_
          refine tk_out ?_
          refine t_block ?_
          refine b0 ?_
          refine o1 rfl (det_load1 t1_34 rfl rfl (.tail _ (.head _)) rfl) rfl rfl trivial ?_
          refine o1 rfl (det_loadN tN40 rfl rfl (.head _) rfl) rfl rfl trivial ?_
          refine om1 rfl (new_buildSlice rfl (fun w => bsl34_1_0 _ _ _ _ _ _ _ _ w)) rfl rfl trivial (fun p30 => ?_)
          refine oAppS (pre := [_, _, _, _, _, _]) (b := _) (m := 1) (news := cpv x (atR rs k)) nofun rfl ap34 rfl rfl rfl trivial hS rfl (fun w hs j u hj => hs.cellO (.head _) hj) (cpv_one _ _) (by omega) (by simp only [maxLen]; omega) (fun A9 c9 b9 hS9 => ?_)
          replace hS9 : SlO 40 6 (.slice A9 (k + 1) c9) (k + 1) (rowsV (cpv x) (rs.take (k + 1))) b9 := by rw [rows_takeS hk]; exact hS9
          refine st1 nofun rfl t1_34 rfl rfl rfl (.tail (.tail .head)) rfl trivial rfl ?_
          refine be rfl ?_
          refine k_blk ?_
          refine tk_in ?_
          refine round_next (.slice A9 (k + 1) c9, b9) hr hS9 (.cons _ (.cons _ (.refl _))) rfl rfl
        ·
          rintro D s hS
          rw [yldC_len] at hS
          rw [List.take_length] at hS
          refine k_blk ?_
          refine k_then ?_
          refine t_seq ?_
          refine b0 ?_
          refine o1 rfl (det_load1 t1_34 rfl rfl (.head _) rfl) rfl rfl trivial ?_
          refine o1 rfl (det_assign rfl) rfl rfl trivial ?_
          refine o1 rfl (det_assign rfl) rfl rfl trivial ?_
          refine be rfl ?_
          refine k_then ?_
          refine t_ret ?_
          refine ret_mark (pre := _) (vs := [_, _]) rfl rfl ⟨(.tmp rfl), (.tmp rfl), trivial⟩ rfl (fun w1 hs => ?_)
          exact end_fresh (P := Try.prog) (n := 33) (hs.ch rfl rfl) fun F2 h1 _ h3 => by
            obtain ⟨A1, c1, g0, g1, g2, g3⟩ := hS.rows (cpv_len x) (by decide) (fun p cs t fr k hm => h3 p cs t fr k (.tail _ (.tail _ hm)))
            rw [g0]
            exact ⟨A1, _, c1, by rw [hok]; rfl, g1, g2, by rw [outCp, hok]; exact g3⟩
        ·
          rintro D j s hX
          exact hX.elim

end Go.Proofs.Sq
