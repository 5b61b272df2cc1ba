/-
  Walks through layer 40 and its reference.
-/
import Derived.Test.YtichjhggoioenaaRcW7
namespace Go.Proofs.Rc
open Go Go.Eng Go.Rc
set_option maxRecDepth 4000

section
variable {c : Cx} {F : Know} {cp rest : Own} {w : World}
theorem sat_away (hs : Sat c F (cp ++ rest) w) : ∀ a v, F a = some v → a.block ∉ idsO cp := fun a v ha hm => hs.away a v ha (by rw [List.map_append]; exact List.mem_append_left _ hm)
theorem sat_nodup (hs : Sat c F (cp ++ rest) w) : (idsO cp).Nodup := by
  have h := hs.nodup
  rw [List.map_append, List.nodup_append] at h
  exact h.1
theorem sat_own (hs : Sat c F (cp ++ rest) w) : ∀ y ∈ cp, w.heap[y.1]? = some y.2 := fun y hy => hs.own y (List.mem_append_left _ hy)
end
theorem mp78 : WMap Try.prog 78 3 77 := ⟨Try.underlying78, Try.underlying3⟩
/-- rules. -/
theorem rules_ok {w : World} {F : Know} (hF : ∀ a v, F a = some v → w.cell? a = some v)  : CallsN Try.prog 26 [] w (fun v bs => ∃ p ob, v = .map (some p) ∧ bs = [(p, ob)] ∧ MpW rulesM ob) := by
  refine fn_new (F := F) Try.func26 rfl Try.ntmps26 rfl hF ?_
  refine t_seq ?_
  refine b0 ?_
  refine o1 rfl (det_assign rfl) rfl rfl trivial ?_
  refine be rfl ?_
  refine k_then ?_
  refine t_seq ?_
  refine b0 ?_
  refine om rfl new_mapW rfl rfl trivial (fun p1 v1 ob hv1 => ?_)
  obtain ⟨rfl, hM⟩ := hv1
  refine oInsert nofun rfl mp78 rfl rfl rfl trivial hM (List.perm_middle (l₁ := [])) rfl (fun ob hM => ?_)
  refine oInsert nofun rfl mp78 rfl rfl rfl trivial hM (List.perm_middle (l₁ := [])) rfl (fun ob hM => ?_)
  refine oInsert nofun rfl mp78 rfl rfl rfl trivial hM (List.perm_middle (l₁ := [])) rfl (fun ob hM => ?_)
  refine oInsert nofun rfl mp78 rfl rfl rfl trivial hM (List.perm_middle (l₁ := [])) rfl (fun ob hM => ?_)
  refine o1 rfl (det_move rfl) rfl rfl trivial ?_
  refine o1 rfl (det_assign rfl) rfl rfl trivial ?_
  refine be rfl ?_
  refine k_then ?_
  refine t_ret ?_
  refine ret_tmp rfl rfl rfl (fun w1 hs => ?_)
  exact end_new hs (.refl _) ⟨p1, ob, rfl, rfl, hM⟩

theorem far_bd {r : Rc} {n t : Int} (h : farB ⟨r, n, t, 0⟩ = false) : -r.ln < delta r.la n ∧ delta r.la n < r.ln := by
  simp [farB] at h; omega
/-- Accept. -/
theorem accept_ok {w : World} {F : Know} (hF : ∀ a v, F a = some v → w.cell? a = some v) {r : Rc} (hse : r.se < 18446744073709551616) {n t : Int} {r2 : Rc} {b : Bool} {er : Int} (he : accA r n t = ((r2, b), er)) : Pure Try.prog 18 [.agg (rcv r).toArray, .int .i64 n, .int .i64 t] w (.tuple [.agg (rcv r2).toArray, .bool b, .int .i64 er].toArray) := by
  refine fn_pure (F := F) Try.func18 rfl Try.ntmps18 rfl hF ?_
  refine t_seq ?_
  refine b0 ?_
  refine om1 rfl (new_boxN rfl) rfl rfl trivial (fun p3 => ?_)
  refine om1 rfl (new_alloc z24) rfl rfl trivial (fun p6 => ?_)
  refine o1 rfl (det_assign rfl) rfl rfl trivial ?_
  refine o1 rfl (det_assign rfl) rfl rfl trivial ?_
  refine be rfl ?_
  refine k_then ?_
  refine t_scope0 ?_
  refine t_seq ?_
  refine t_seq ?_
  refine b0 ?_
  refine o1 rfl (det_loadN tN24 rfl rfl (.tail _ (.head _)) rfl) rfl rfl trivial ?_
  refine o1 rfl (det_call hb13 rfl rfl (fun w1 hs => check_ok hs.know hse)) rfl rfl trivial ?_
  refine o1 rfl (det_assign rfl) rfl rfl trivial ?_
  refine be rfl ?_
  refine k_then ?_
  refine t_seq ?_
  refine b0 ?_
  refine o1 rfl (det_move rfl) rfl rfl trivial ?_
  refine o1 rfl (det_neq rfl rfl) rfl rfl trivial ?_
  refine be rfl ?_
  refine k_then ?_
  refine t_condP bne_iff_ne rfl (fun hb => ?_) (fun hb => ?_)
  ·
    have hno : okR r = false := by grind
    refine t_seq ?_
    refine b0 ?_
    refine o1 rfl (det_build rfl (fun w => bld24_ w)) rfl rfl trivial ?_
    refine o1 rfl (det_move rfl) rfl rfl trivial ?_
    refine stN nofun rfl tN24 rfl rfl rfl .head rfl trivial rfl rfl ?_
    refine o1 rfl (det_assign rfl) rfl rfl trivial ?_
    refine o1 rfl (det_assign rfl) rfl rfl trivial ?_
    refine be rfl ?_
    refine k_then ?_
    refine t_ret (k_thenR (k_nogR (?_)))
    refine ret_any (vs := [_, _, _]) rfl rfl ⟨(.cellN tN24 rfl rfl (.head _) rfl), (.tmp rfl), (.tmp rfl), trivial⟩ rfl (fun w1 hs => ?_)
    exact ⟨by rw [accA, hno] at he; cases he; rw [hno]; rfl, hs.keep⟩
  ·
    have hok : okR r = true := by grind
    refine t_skip ?_
    refine k_then ?_
    refine t_seq ?_
    refine t_seq ?_
    refine t_merge (env0 := [(1, _), (2, _), (3, _), (6, _), (7, _), (8, _)]) ⟨rfl, rfl, rfl, rfl, rfl, rfl, trivial⟩ 40 (.bool (decide (argB r n t = false))) ?_ (fun hK => ?_)
    ·
      refine k_then ?_
      refine t_condP decide_eq_true_iff rfl (fun hb => ?_) (fun hb => ?_)
      ·
        have hbad : argB r n t = false := by simpa using hb
        refine t_seq ?_
        refine b0 ?_
        refine o1 rfl (det_build rfl (fun w => bld24_ w)) rfl rfl trivial ?_
        refine stN nofun rfl tN24 rfl rfl rfl .head rfl trivial rfl rfl ?_
        refine o1 rfl (det_assign rfl) rfl rfl trivial ?_
        refine o1 rfl (det_assign rfl) rfl rfl trivial ?_
        refine be rfl ?_
        refine k_then ?_
        refine t_ret (k_thenR (k_nogR (?_)))
        refine ret_any (vs := [_, _, _]) rfl rfl ⟨(.cellN tN24 rfl rfl (.head _) rfl), (.tmp rfl), (.tmp rfl), trivial⟩ rfl (fun w1 hs => ?_)
        exact ⟨by rw [accA, hok, hbad] at he; cases he; rfl, hs.keep⟩
      ·
        have harg : argB r n t = true := by simpa using hb
        have hln := okR_ln hok
        have hat := okR_at hok
        obtain ⟨hn1, hn2, ht1, ht2, ht3⟩ : 0 ≤ n ∧ n ≤ 65535 ∧ r.at_ ≤ t ∧ t ≤ 1099511627776 ∧ 0 ≤ t := by simpa [argB] using harg
        clear hb
        refine t_skip ?_
        refine k_then ?_
        refine t_seq ?_
        refine b0 ?_
        refine o1 rfl (det_loadN tN24 rfl rfl (.tail _ (.head _)) rfl) rfl rfl trivial ?_
        refine o1 rfl (det_move rfl) rfl rfl trivial ?_
        refine o1 rfl (det_move rfl) rfl rfl trivial ?_
        refine o1 rfl (det_build rfl (fun w => bld75_0_1_2 _ _ _ _ _ _ _ _ w)) rfl rfl trivial ?_
        refine om1 rfl (new_boxN rfl) rfl rfl trivial (fun p46 => ?_)
        refine o1 rfl (det_assign rfl) rfl rfl trivial ?_
        refine be rfl ?_
        refine k_then ?_
        refine t_seq ?_
        refine b0 ?_
        refine o1 rfl (det_assign rfl) rfl rfl trivial ?_
        refine be rfl ?_
        refine k_then ?_
        refine t_seq ?_
        refine t_label ?_
        refine k_then ?_
        refine t_seq ?_
        refine t_seq ?_
        refine b0 ?_
        refine o1 rfl (det_assign rfl) rfl rfl trivial ?_
        refine be rfl ?_
        refine k_then ?_
        refine t_block ?_
        refine t_whileM (σ := Nat × Wn) (fun s => [(12, .int .i64 s.1), (11, .bool false)]) (fun s => [(p46, .cells (wnv s.2).toArray 75 (0, 0)), (p6, .cells (rcv zR).toArray 24 (0, 0)), (p3, .cells (rcv r).toArray 24 (0, 0))]) (fun s => 4 - s.1) (fun s => JW r n t s.1 s.2) (0, ⟨r, n, t, 0⟩) (env0 := [(6, _), (7, _), (8, _), (10, _)]) rfl ⟨rfl, rfl, trivial⟩ ⟨rfl, rfl, rfl, rfl, trivial⟩ (.refl _) ?_
        rintro ⟨s, x⟩ hJ
        replace hJ : JW r n t s x := hJ
        refine t_seq ?_
        refine t_seq ?_
        refine b0 ?_
        refine o1 rfl (det_move rfl) rfl rfl trivial ?_
        refine o1 rfl (det_leq rfl rfl) rfl rfl trivial ?_
        refine be rfl ?_
        refine k_then ?_
        refine t_condP decide_eq_true_iff rfl (fun hb => ?_) (fun hb => ?_)
        ·
          skip
          refine t_skip ?_
          refine k_then ?_
          refine t_seq ?_
          refine t_block ?_
          refine t_seq ?_
          refine b0 ?_
          refine oNL nofun rfl hb26 rfl rfl rfl trivial (fun w1 hs => rules_ok hs.know) (fun v bs ⟨pm, ob, hv, hbs, hM⟩ => ?_)
          subst hv
          subst hbs
          refine o1 rfl (det_move rfl) rfl rfl trivial ?_
          rcases s with _ | _ | _ | _ | s
          ·
            have hx : x = ⟨r, n, t, 0⟩ := hJ
            subst hx
            refine o1 rfl (det_lookupW mp78 rfl rfl (.tail _ (.tail _ (.tail _ (.head _)))) hM rfl) rfl rfl trivial ?_
            refine o1 rfl (det_move rfl) rfl rfl trivial ?_
            refine oOn (cp := [_]) (rest := [_, _, _]) nofun rfl hb30 rfl rfl rfl trivial (fun w1 hs => (fresh_on (x := ⟨r, n, t, 0⟩) hs.know (by show -1125899906842624 ≤ t ∧ t ≤ _; omega) (by show -1125899906842624 ≤ r.at_ ∧ r.at_ ≤ _; omega) (sat_away hs) (sat_nodup hs) (sat_own hs))) (fun v cp1 hv hi1 => ?_)
            obtain ⟨rfl, rfl⟩ := hv
            refine o1 rfl (det_move rfl) rfl rfl trivial ?_
            refine o1 rfl (det_extract rfl rfl) rfl rfl trivial ?_
            refine o1 rfl (det_extract rfl rfl) rfl rfl trivial ?_
            refine o1 rfl (det_assign rfl) rfl rfl trivial ?_
            refine o1 rfl (det_assign rfl) rfl rfl trivial ?_
            refine be rfl ?_
            refine k_then ?_
            refine t_seq ?_
            refine b0 ?_
            refine o1 rfl (det_move rfl) rfl rfl trivial ?_
            refine be rfl ?_
            refine k_then ?_
            refine t_condP Iff.rfl rfl (fun hb => ?_) (fun hb => ?_)
            ·
              have hfr : freshB ⟨r, n, t, 0⟩ = true := hb
              have hres : accR r n t = ((beginR ⟨r, n, t, 0⟩).r, true) := by unfold accR; rw [if_pos hfr]
              rw [if_pos hfr]
              refine t_seq ?_
              refine b0 ?_
              refine o1 rfl (det_move rfl) rfl rfl trivial ?_
              refine o1 rfl (det_assign rfl) rfl rfl trivial ?_
              refine be rfl ?_
              refine k_then ?_
              refine t_exit ?_
              refine k_blkN (by decide) ?_
              refine k_thenE ?_
              refine k_thenE ?_
              refine k_blkE ?_
              refine k_then ?_
              refine t_seq ?_
              refine b0 ?_
              refine o1 rfl (det_move rfl) rfl rfl trivial ?_
              refine o1 rfl (det_nilCheck rfl) rfl rfl trivial ?_
              refine o1 rfl (det_fieldAddr fld75_0 rfl) rfl rfl trivial ?_
              refine o1 rfl (det_loadN tN24 rfl rfl (.head _) rfl) rfl rfl trivial ?_
              refine o1 rfl (det_move rfl) rfl rfl trivial ?_
              refine stN nofun rfl tN24 rfl rfl rfl (.tail .head) rfl trivial rfl rfl ?_
              refine o1 rfl (det_assign rfl) rfl rfl trivial ?_
              refine o1 rfl (det_assign rfl) rfl rfl trivial ?_
              refine be rfl ?_
              refine k_then ?_
              refine t_ret (k_nogR (?_))
              refine ret_any (vs := [_, _, _]) rfl rfl ⟨(.cellN tN24 rfl rfl (.tail _ (.head _)) rfl), (.tmp rfl), (.tmp rfl), trivial⟩ rfl (fun w1 hs => ?_)
              exact ⟨by rw [accA, hok, harg] at he; replace he : (accR r n t, (0 : Int)) = ((r2, b), er) := he; rw [hres] at he; (cases he; rw [hfr]; rfl), hs.keep⟩
            ·
              have hfr : freshB ⟨r, n, t, 0⟩ = false := by simpa using hb
              rw [if_neg hb]
              refine t_skip ?_
              refine k_blk ?_
              refine k_then ?_
              refine b0 ?_
              refine o1 rfl (det_move rfl) rfl rfl trivial ?_
              first | (refine o1 rfl (det_addI rfl rfl ?_) rfl rfl trivial ?_; (· omega)) | refine o1 rfl (det_add rfl rfl) rfl rfl trivial ?_
              refine o1 rfl (det_assign rfl) rfl rfl trivial ?_
              refine be rfl ?_
              refine k_then ?_
              refine loop_back (1, ⟨r, n, t, 0⟩) ⟨rfl, hfr⟩ (by simp only; omega) ⟨rfl, rfl, rfl, rfl, rfl, rfl, trivial⟩ (.cons_cons _ (.cons_cons _ (.cons_cons _ (.cons _ (.refl _)))))
          ·
            obtain ⟨hx, hfr⟩ := hJ
            subst hx
            have han := fresh_an hfr
            replace han : r.an = false := han
            have hA := okR_an hok han
            refine o1 rfl (det_lookupW mp78 rfl rfl (.tail _ (.tail _ (.tail _ (.head _)))) hM rfl) rfl rfl trivial ?_
            refine o1 rfl (det_move rfl) rfl rfl trivial ?_
            refine oOn (cp := [_]) (rest := [_, _, _]) nofun rfl hb31 rfl rfl rfl trivial (fun w1 hs => (far_on (x := ⟨r, n, t, 0⟩) hs.know (by show 0 ≤ r.la ∧ r.la ≤ _; omega) (by show 0 ≤ n ∧ n ≤ _; omega) (by show 1 ≤ r.ln ∧ r.ln ≤ _; omega) (sat_away hs) (sat_nodup hs) (sat_own hs))) (fun v cp1 hv hi1 => ?_)
            obtain ⟨rfl, rfl⟩ := hv
            refine o1 rfl (det_move rfl) rfl rfl trivial ?_
            refine o1 rfl (det_extract rfl rfl) rfl rfl trivial ?_
            refine o1 rfl (det_extract rfl rfl) rfl rfl trivial ?_
            refine o1 rfl (det_assign rfl) rfl rfl trivial ?_
            refine o1 rfl (det_assign rfl) rfl rfl trivial ?_
            refine be rfl ?_
            refine k_then ?_
            refine t_seq ?_
            refine b0 ?_
            refine o1 rfl (det_move rfl) rfl rfl trivial ?_
            refine be rfl ?_
            refine k_then ?_
            refine t_condP Iff.rfl rfl (fun hb => ?_) (fun hb => ?_)
            ·
              have hfa : farB ⟨r, n, t, 0⟩ = true := hb
              have hres : accR r n t = (r, false) := by unfold accR; rw [if_neg (by simp [hfr]), if_pos hfa]
              refine t_seq ?_
              refine b0 ?_
              refine o1 rfl (det_move rfl) rfl rfl trivial ?_
              refine o1 rfl (det_assign rfl) rfl rfl trivial ?_
              refine be rfl ?_
              refine k_then ?_
              refine t_exit ?_
              refine k_blkN (by decide) ?_
              refine k_thenE ?_
              refine k_thenE ?_
              refine k_blkE ?_
              refine k_then ?_
              refine t_seq ?_
              refine b0 ?_
              refine o1 rfl (det_move rfl) rfl rfl trivial ?_
              refine o1 rfl (det_nilCheck rfl) rfl rfl trivial ?_
              refine o1 rfl (det_fieldAddr fld75_0 rfl) rfl rfl trivial ?_
              refine o1 rfl (det_loadN tN24 rfl rfl (.head _) rfl) rfl rfl trivial ?_
              refine o1 rfl (det_move rfl) rfl rfl trivial ?_
              refine stN nofun rfl tN24 rfl rfl rfl (.tail .head) rfl trivial rfl rfl ?_
              refine o1 rfl (det_assign rfl) rfl rfl trivial ?_
              refine o1 rfl (det_assign rfl) rfl rfl trivial ?_
              refine be rfl ?_
              refine k_then ?_
              refine t_ret (k_nogR (?_))
              refine ret_any (vs := [_, _, _]) rfl rfl ⟨(.cellN tN24 rfl rfl (.tail _ (.head _)) rfl), (.tmp rfl), (.tmp rfl), trivial⟩ rfl (fun w1 hs => ?_)
              exact ⟨by rw [accA, hok, harg] at he; replace he : (accR r n t, (0 : Int)) = ((r2, b), er) := he; rw [hres] at he; (cases he; rfl), hs.keep⟩
            ·
              have hfa : farB ⟨r, n, t, 0⟩ = false := by simpa using hb
              refine t_skip ?_
              refine k_blk ?_
              refine k_then ?_
              refine b0 ?_
              refine o1 rfl (det_move rfl) rfl rfl trivial ?_
              first | (refine o1 rfl (det_addI rfl rfl ?_) rfl rfl trivial ?_; (· omega)) | refine o1 rfl (det_add rfl rfl) rfl rfl trivial ?_
              refine o1 rfl (det_assign rfl) rfl rfl trivial ?_
              refine be rfl ?_
              refine k_then ?_
              refine loop_back (2, dWn ⟨r, n, t, 0⟩) ⟨rfl, hfr, hfa⟩ (by simp only; omega) ⟨rfl, rfl, rfl, rfl, rfl, rfl, trivial⟩ (.cons_cons _ (.cons_cons _ (.cons_cons _ (.cons _ (.refl _)))))
          ·
            obtain ⟨hx, hfr, hfa⟩ := hJ
            subst hx
            have han := fresh_an hfr
            replace han : r.an = false := han
            have hA := okR_an hok han
            have hfb := far_bd hfa
            have hsgn : 0 < delta r.la n ∨ ¬ 0 < delta r.la n := Classical.em _
            refine o1 rfl (det_lookupW mp78 rfl rfl (.tail _ (.tail _ (.tail _ (.head _)))) hM rfl) rfl rfl trivial ?_
            refine o1 rfl (det_move rfl) rfl rfl trivial ?_
            rcases hsgn with hpos | hneg
            ·
              skip
              refine oOn (cp := [_]) (rest := [_, _, _]) nofun rfl hb32 rfl rfl rfl trivial (fun w1 hs => (past0_on (x := dWn ⟨r, n, t, 0⟩) hs.know hpos (sat_away hs) (sat_nodup hs) (sat_own hs))) (fun v cp1 hv hi1 => ?_)
              obtain ⟨rfl, rfl⟩ := hv
              refine o1 rfl (det_move rfl) rfl rfl trivial ?_
              refine o1 rfl (det_extract rfl rfl) rfl rfl trivial ?_
              refine o1 rfl (det_extract rfl rfl) rfl rfl trivial ?_
              refine o1 rfl (det_assign rfl) rfl rfl trivial ?_
              refine o1 rfl (det_assign rfl) rfl rfl trivial ?_
              refine be rfl ?_
              refine k_then ?_
              refine t_seq ?_
              refine b0 ?_
              refine o1 rfl (det_move rfl) rfl rfl trivial ?_
              refine be rfl ?_
              refine k_then ?_
              refine t_condP Iff.rfl rfl (fun hb => ?_) (fun hb => ?_)
              · exfalso; cases hb
              refine t_skip ?_
              refine k_blk ?_
              refine k_then ?_
              refine b0 ?_
              refine o1 rfl (det_move rfl) rfl rfl trivial ?_
              first | (refine o1 rfl (det_addI rfl rfl ?_) rfl rfl trivial ?_; (· omega)) | refine o1 rfl (det_add rfl rfl) rfl rfl trivial ?_
              refine o1 rfl (det_assign rfl) rfl rfl trivial ?_
              refine be rfl ?_
              refine k_then ?_
              refine loop_back (3, dWn ⟨r, n, t, 0⟩) ⟨rfl, hfr, hfa, hpos⟩ (by simp only; omega) ⟨rfl, rfl, rfl, rfl, rfl, rfl, trivial⟩ (.cons_cons _ (.cons_cons _ (.cons_cons _ (.cons _ (.refl _)))))
            ·
              obtain ⟨i, hi⟩ : ∃ i : Nat, delta r.la n = -(i : Int) := ⟨(-delta r.la n).toNat, by omega⟩
              have hdi : (dWn ⟨r, n, t, 0⟩).d = -(i : Int) := hi
              refine oOn (cp := [_]) (rest := [_, _, _]) nofun rfl hb32 rfl rfl rfl trivial (fun w1 hs => (past_on (x := dWn ⟨r, n, t, 0⟩) (i := i) hs.know hdi (by omega) hse (sat_away hs) (sat_nodup hs) (sat_own hs))) (fun v cp1 hv hi1 => ?_)
              obtain ⟨rfl, rfl⟩ := hv
              refine o1 rfl (det_move rfl) rfl rfl trivial ?_
              refine o1 rfl (det_extract rfl rfl) rfl rfl trivial ?_
              refine o1 rfl (det_extract rfl rfl) rfl rfl trivial ?_
              refine o1 rfl (det_assign rfl) rfl rfl trivial ?_
              refine o1 rfl (det_assign rfl) rfl rfl trivial ?_
              refine be rfl ?_
              refine k_then ?_
              refine t_seq ?_
              refine b0 ?_
              refine o1 rfl (det_move rfl) rfl rfl trivial ?_
              refine be rfl ?_
              refine k_then ?_
              refine t_condP Iff.rfl rfl (fun hb => ?_) (fun hb => ?_)
              ·
                have hres : accR r n t = if r.se.testBit i then (r, false) else ((hitR (dWn ⟨r, n, t, 0⟩) i).r, true) := by unfold accR; rw [if_neg (by simp [hfr]), if_neg (by simp [hfa]), if_neg hneg, hi, show (- -(i : Int)).toNat = i by omega]
                refine t_seq ?_
                refine b0 ?_
                refine o1 rfl (det_move rfl) rfl rfl trivial ?_
                refine o1 rfl (det_assign rfl) rfl rfl trivial ?_
                refine be rfl ?_
                refine k_then ?_
                refine t_exit ?_
                refine k_blkN (by decide) ?_
                refine k_thenE ?_
                refine k_thenE ?_
                refine k_blkE ?_
                refine k_then ?_
                refine t_seq ?_
                refine b0 ?_
                refine o1 rfl (det_move rfl) rfl rfl trivial ?_
                refine o1 rfl (det_nilCheck rfl) rfl rfl trivial ?_
                refine o1 rfl (det_fieldAddr fld75_0 rfl) rfl rfl trivial ?_
                refine o1 rfl (det_loadN tN24 rfl rfl (.head _) rfl) rfl rfl trivial ?_
                refine o1 rfl (det_move rfl) rfl rfl trivial ?_
                refine stN nofun rfl tN24 rfl rfl rfl (.tail .head) rfl trivial rfl rfl ?_
                refine o1 rfl (det_assign rfl) rfl rfl trivial ?_
                refine o1 rfl (det_assign rfl) rfl rfl trivial ?_
                refine be rfl ?_
                refine k_then ?_
                refine t_ret (k_nogR (?_))
                refine ret_any (vs := [_, _, _]) rfl rfl ⟨(.cellN tN24 rfl rfl (.tail _ (.head _)) rfl), (.tmp rfl), (.tmp rfl), trivial⟩ rfl (fun w1 hs => ?_)
                exact ⟨by rw [accA, hok, harg] at he; replace he : (accR r n t, (0 : Int)) = ((r2, b), er) := he; rw [hres] at he; (cases hbit : r.se.testBit i <;> rw [hbit] at he <;> cases he <;> (rw [show (dWn ⟨r, n, t, 0⟩).r.se.testBit i = _ from hbit]; rfl)), hs.keep⟩
              ·
                exact absurd rfl hb --end
          ·
            obtain ⟨hx, hfr, hfa, hpos⟩ := hJ
            subst hx
            have han := fresh_an hfr
            replace han : r.an = false := han
            have hA := okR_an hok han
            have hfb := far_bd hfa
            obtain ⟨k, hk⟩ : ∃ k : Nat, delta r.la n = k := ⟨(delta r.la n).toNat, by omega⟩
            have hdk : (dWn ⟨r, n, t, 0⟩).d = k := hk
            refine o1 rfl (det_lookupW mp78 rfl rfl (.tail _ (.tail _ (.tail _ (.head _)))) hM rfl) rfl rfl trivial ?_
            refine o1 rfl (det_move rfl) rfl rfl trivial ?_
            refine oOn (cp := [_]) (rest := [_, _, _]) nofun rfl hb33 rfl rfl rfl trivial (fun w1 hs => (next_on (x := dWn ⟨r, n, t, 0⟩) (k := k) (l := r.ln.toNat) hs.know hdk (by omega) (by show r.ln = _; omega) (by omega) hse (sat_away hs) (sat_nodup hs) (sat_own hs))) (fun v cp1 hv hi1 => ?_)
            obtain ⟨rfl, rfl⟩ := hv
            refine o1 rfl (det_move rfl) rfl rfl trivial ?_
            refine o1 rfl (det_extract rfl rfl) rfl rfl trivial ?_
            refine o1 rfl (det_extract rfl rfl) rfl rfl trivial ?_
            refine o1 rfl (det_assign rfl) rfl rfl trivial ?_
            refine o1 rfl (det_assign rfl) rfl rfl trivial ?_
            refine be rfl ?_
            refine k_then ?_
            refine t_seq ?_
            refine b0 ?_
            refine o1 rfl (det_move rfl) rfl rfl trivial ?_
            refine be rfl ?_
            refine k_then ?_
            refine t_condP Iff.rfl rfl (fun hb => ?_) (fun hb => ?_)
            ·
              have hres : accR r n t = ((nextR (dWn ⟨r, n, t, 0⟩) k).r, true) := by unfold accR; rw [if_neg (by simp [hfr]), if_neg (by simp [hfa]), if_pos hpos, hk, Int.toNat_natCast]
              refine t_seq ?_
              refine b0 ?_
              refine o1 rfl (det_move rfl) rfl rfl trivial ?_
              refine o1 rfl (det_assign rfl) rfl rfl trivial ?_
              refine be rfl ?_
              refine k_then ?_
              refine t_exit ?_
              refine k_blkN (by decide) ?_
              refine k_thenE ?_
              refine k_thenE ?_
              refine k_blkE ?_
              refine k_then ?_
              refine t_seq ?_
              refine b0 ?_
              refine o1 rfl (det_move rfl) rfl rfl trivial ?_
              refine o1 rfl (det_nilCheck rfl) rfl rfl trivial ?_
              refine o1 rfl (det_fieldAddr fld75_0 rfl) rfl rfl trivial ?_
              refine o1 rfl (det_loadN tN24 rfl rfl (.head _) rfl) rfl rfl trivial ?_
              refine o1 rfl (det_move rfl) rfl rfl trivial ?_
              refine stN nofun rfl tN24 rfl rfl rfl (.tail .head) rfl trivial rfl rfl ?_
              refine o1 rfl (det_assign rfl) rfl rfl trivial ?_
              refine o1 rfl (det_assign rfl) rfl rfl trivial ?_
              refine be rfl ?_
              refine k_then ?_
              refine t_ret (k_nogR (?_))
              refine ret_any (vs := [_, _, _]) rfl rfl ⟨(.cellN tN24 rfl rfl (.tail _ (.head _)) rfl), (.tmp rfl), (.tmp rfl), trivial⟩ rfl (fun w1 hs => ?_)
              exact ⟨by rw [accA, hok, harg] at he; replace he : (accR r n t, (0 : Int)) = ((r2, b), er) := he; rw [hres] at he; (cases he; rfl), hs.keep⟩
            ·
              exact absurd rfl hb --end
          ·
            exact absurd hJ (by simp [JW])
        ·
          exfalso
          have : ∃ j, s = j + 4 := ⟨s - 4, by omega⟩
          obtain ⟨j, rfl⟩ := this
          exact absurd hJ (by simp [JW]) --end
    ·
      refine b0 ?_
      refine o1 rfl (det_move rfl) rfl rfl trivial ?_
      refine o1 rfl (det_lss rfl rfl) rfl rfl trivial ?_
      refine o2P decide_eq_true_iff rfl (det_move rfl) rfl rfl trivial (fun hb => ?_) (fun hb => ?_)
      ·
        refine on rfl rfl rfl ⟨_, rfl, .inl rfl⟩ ?_
        refine on rfl rfl rfl ⟨_, rfl, .inl rfl⟩ ?_
        refine o1 rfl (det_pickT rfl rfl) rfl rfl trivial ?_
        refine o1 rfl (det_move rfl) rfl rfl trivial ?_
        refine on rfl rfl rfl ⟨_, rfl, .inl rfl⟩ ?_
        refine on rfl rfl rfl ⟨_, rfl, .inl rfl⟩ ?_
        refine on rfl rfl rfl ⟨_, rfl, .inl rfl⟩ ?_
        refine on rfl rfl rfl ⟨_, rfl, .inl rfl⟩ ?_
        refine o1 rfl (det_pickT rfl rfl) rfl rfl trivial ?_
        refine o1 rfl (det_move rfl) rfl rfl trivial ?_
        refine on rfl rfl rfl ⟨_, rfl, .inl rfl⟩ ?_
        refine on rfl rfl rfl ⟨_, rfl, .inl rfl⟩ ?_
        refine o1 rfl (det_pickT rfl rfl) rfl rfl trivial ?_
        refine o1 rfl (det_move rfl) rfl rfl trivial ?_
        refine on rfl rfl rfl ⟨_, rfl, .inl rfl⟩ ?_
        refine on rfl rfl rfl ⟨_, rfl, .inl rfl⟩ ?_
        refine o1 rfl (det_pickT rfl rfl) rfl rfl trivial ?_
        refine be rfl ?_
        refine tk_drop ?_ (.refl _) hK
        exact ⟨(mb rfl (by grind [argB])), rfl, rfl, rfl, rfl, rfl, rfl, trivial⟩
      ·
        refine o1 rfl (det_move rfl) rfl rfl ⟨_, rfl, rfl⟩ ?_
        refine o1 rfl (det_geq rfl rfl) rfl rfl ⟨_, rfl, rfl⟩ ?_
        refine o1 rfl (det_pickF rfl rfl) rfl rfl trivial ?_
        refine o2P decide_eq_true_iff rfl (det_move rfl) rfl rfl trivial (fun hb => ?_) (fun hb => ?_)
        ·
          refine on rfl rfl rfl ⟨_, rfl, .inl rfl⟩ ?_
          refine on rfl rfl rfl ⟨_, rfl, .inl rfl⟩ ?_
          refine on rfl rfl rfl ⟨_, rfl, .inl rfl⟩ ?_
          refine on rfl rfl rfl ⟨_, rfl, .inl rfl⟩ ?_
          refine o1 rfl (det_pickT rfl rfl) rfl rfl trivial ?_
          refine o1 rfl (det_move rfl) rfl rfl trivial ?_
          refine on rfl rfl rfl ⟨_, rfl, .inl rfl⟩ ?_
          refine on rfl rfl rfl ⟨_, rfl, .inl rfl⟩ ?_
          refine o1 rfl (det_pickT rfl rfl) rfl rfl trivial ?_
          refine o1 rfl (det_move rfl) rfl rfl trivial ?_
          refine on rfl rfl rfl ⟨_, rfl, .inl rfl⟩ ?_
          refine on rfl rfl rfl ⟨_, rfl, .inl rfl⟩ ?_
          refine o1 rfl (det_pickT rfl rfl) rfl rfl trivial ?_
          refine be rfl ?_
          refine tk_drop ?_ (.refl _) hK
          exact ⟨(mb rfl (by grind [argB])), rfl, rfl, rfl, rfl, rfl, rfl, trivial⟩
        ·
          refine o1 rfl (det_move rfl) rfl rfl ⟨_, rfl, rfl⟩ ?_
          refine o1 rfl (det_fieldAddr fld24_4 rfl) rfl rfl ⟨_, rfl, rfl⟩ ?_
          refine o1 rfl (det_load1 t1_3 rfl rfl (.tail _ (.head _)) rfl) rfl rfl ⟨_, rfl, rfl⟩ ?_
          refine o1 rfl (det_lss rfl rfl) rfl rfl ⟨_, rfl, rfl⟩ ?_
          refine o1 rfl (det_pickF rfl rfl) rfl rfl trivial ?_
          refine o2P decide_eq_true_iff rfl (det_move rfl) rfl rfl trivial (fun hb => ?_) (fun hb => ?_)
          ·
            refine on rfl rfl rfl ⟨_, rfl, .inl rfl⟩ ?_
            refine on rfl rfl rfl ⟨_, rfl, .inl rfl⟩ ?_
            refine o1 rfl (det_pickT rfl rfl) rfl rfl trivial ?_
            refine o1 rfl (det_move rfl) rfl rfl trivial ?_
            refine on rfl rfl rfl ⟨_, rfl, .inl rfl⟩ ?_
            refine on rfl rfl rfl ⟨_, rfl, .inl rfl⟩ ?_
            refine o1 rfl (det_pickT rfl rfl) rfl rfl trivial ?_
            refine be rfl ?_
            refine tk_drop ?_ (.refl _) hK
            exact ⟨(mb rfl (by grind [argB])), rfl, rfl, rfl, rfl, rfl, rfl, trivial⟩
          ·
            refine o1 rfl (det_move rfl) rfl rfl ⟨_, rfl, rfl⟩ ?_
            refine o1 rfl (det_gtr rfl rfl) rfl rfl ⟨_, rfl, rfl⟩ ?_
            refine o1 rfl (det_pickF rfl rfl) rfl rfl trivial ?_
            refine o2P decide_eq_true_iff rfl (det_move rfl) rfl rfl trivial (fun hb => ?_) (fun hb => ?_)
            ·
              refine on rfl rfl rfl ⟨_, rfl, .inl rfl⟩ ?_
              refine on rfl rfl rfl ⟨_, rfl, .inl rfl⟩ ?_
              refine o1 rfl (det_pickT rfl rfl) rfl rfl trivial ?_
              refine be rfl ?_
              refine tk_drop ?_ (.refl _) hK
              exact ⟨(mb rfl (by grind [argB])), rfl, rfl, rfl, rfl, rfl, rfl, trivial⟩
            ·
              refine o1 rfl (det_move rfl) rfl rfl ⟨_, rfl, rfl⟩ ?_
              refine o1 rfl (det_lss rfl rfl) rfl rfl ⟨_, rfl, rfl⟩ ?_
              refine o1 rfl (det_pickF rfl rfl) rfl rfl trivial ?_
              refine be rfl ?_
              refine tk_drop ?_ (.refl _) hK
              exact ⟨(mb rfl (by grind [argB])), rfl, rfl, rfl, rfl, rfl, rfl, trivial⟩

end Go.Proofs.Rc
