/-
  Walks through layers 36, 37 and 38 and their references.
-/
import Derived.Test.YtffocfffggfenaaCpC9
import Derived.Test.YtffocfffggfenaaChPlain6
namespace Go.Proofs.Cp
open Go Go.Eng Go.Gt Go.Proofs.Gt Go.Sw Go.Qu Go.Ch
set_option maxRecDepth 4000

/-- May. -/
theorem may_ok {w : World} {F : Know} (hF : ∀ a v, F a = some v → w.cell? a = some v) {l : Ln} (hl : LnK F l) {A : Option Addr} {n c : Nat} {hs0 : List Pt} (hP : PK F A n hs0) (hnb : n ≤ 100000) {cl t : Int} : Pure Try.prog 21 [.agg (lnv l).toArray, .slice A n c, .int .i64 cl, .int .i64 t] w (.tuple [.bool (mayA l hs0 cl t).1, .int .i64 (mayA l hs0 cl t).2].toArray) := by
  refine fn_pure (F := F) Try.func21 rfl Try.ntmps21 rfl hF ?_
  refine t_seq ?_
  refine b0 ?_
  refine om1 rfl (new_boxN rfl) rfl rfl trivial (fun p4 => ?_)
  refine o1 rfl (det_assign rfl) rfl rfl trivial ?_
  refine o1 rfl (det_assign rfl) rfl rfl trivial ?_
  refine be rfl ?_
  refine k_then ?_
  refine t_seq ?_
  refine t_seq ?_
  refine b0 ?_
  refine o1 rfl (det_loadN tN26 rfl rfl (.head _) rfl) rfl rfl trivial ?_
  refine o1 rfl (det_move rfl) rfl rfl trivial ?_
  refine o1 rfl (det_move rfl) rfl rfl trivial ?_
  refine o1 rfl (det_call hb56 rfl rfl (fun w1 hs => cvalid_ok hs.know hl hP hnb)) rfl rfl trivial ?_
  refine o1 rfl (det_assign rfl) rfl rfl trivial ?_
  refine be rfl ?_
  refine k_then ?_
  refine t_seq ?_
  refine b0 ?_
  refine o1 rfl (det_move rfl) rfl rfl trivial ?_
  refine o1 rfl (det_neq rfl rfl) rfl rfl trivial ?_
  refine be rfl ?_
  refine k_then ?_
  refine t_condP bne_iff_ne rfl (fun hb => ?_) (fun hb => ?_)
  ·
    have he : errC l hs0 t ≠ 0 := hb
    refine t_seq ?_
    refine b0 ?_
    refine o1 rfl (det_move rfl) rfl rfl trivial ?_
    refine o1 rfl (det_assign rfl) rfl rfl trivial ?_
    refine o1 rfl (det_assign rfl) rfl rfl trivial ?_
    refine be rfl ?_
    refine k_then ?_
    refine t_ret (k_thenR (?_))
    refine ret_tmp2 rfl rfl rfl rfl (fun w1 hs => ?_)
    exact ⟨by unfold mayA mayC; grind, hs.keep⟩
  ·
    have he : errC l hs0 t = 0 := by simpa using hb
    obtain ⟨hL, hH, ht⟩ := errC_zero he
    have hLp := okL_parts hL
    have h8 := (okH_parts hH).1
    refine t_skip ?_
    refine k_then ?_
    refine t_seq ?_
    refine t_seq ?_
    refine b0 ?_
    refine o1 rfl (det_move rfl) rfl rfl trivial ?_
    refine o1 rfl (det_lss rfl rfl) rfl rfl trivial ?_
    refine o2P decide_eq_true_iff rfl (det_move rfl) rfl rfl trivial (fun hb => ?_) (fun hb => ?_)
    ·
      refine on rfl rfl rfl ⟨_, rfl, .inl rfl⟩ ?_
      refine on rfl rfl rfl ⟨_, rfl, .inl rfl⟩ ?_
      refine o1 rfl (det_pickT rfl rfl) rfl rfl trivial ?_
      refine be rfl ?_
      refine k_then ?_
      refine t_condT rfl ?_
      refine t_seq ?_
      refine b0 ?_
      refine o1 rfl (det_assign rfl) rfl rfl trivial ?_
      refine o1 rfl (det_assign rfl) rfl rfl trivial ?_
      refine be rfl ?_
      refine k_then ?_
      refine t_ret (k_thenR (?_))
      refine ret_tmp2 rfl rfl rfl rfl (fun w1 hs => ?_)
      exact ⟨by unfold mayA mayC; grind, hs.keep⟩
    ·
      refine o1 rfl (det_move rfl) rfl rfl ⟨_, rfl, rfl⟩ ?_
      refine o1 rfl (det_geq rfl rfl) rfl rfl ⟨_, rfl, rfl⟩ ?_
      refine o1 rfl (det_pickF rfl rfl) rfl rfl trivial ?_
      refine be rfl ?_
      refine k_then ?_
      refine t_condP decide_eq_true_iff rfl (fun hb => ?_) (fun hb => ?_)
      ·
        have hcl : ¬ (0 ≤ cl ∧ cl ≤ 7) := by grind
        refine t_seq ?_
        refine b0 ?_
        refine o1 rfl (det_assign rfl) rfl rfl trivial ?_
        refine o1 rfl (det_assign rfl) rfl rfl trivial ?_
        refine be rfl ?_
        refine k_then ?_
        refine t_ret (k_thenR (?_))
        refine ret_tmp2 rfl rfl rfl rfl (fun w1 hs => ?_)
        exact ⟨by unfold mayA mayC; grind, hs.keep⟩
      ·
        have hcl : 0 ≤ cl ∧ cl ≤ 7 := by grind
        refine t_skip ?_
        refine k_then ?_
        refine t_seq ?_
        refine b0 ?_
        refine o1 rfl (det_loadN tN26 rfl rfl (.head _) rfl) rfl rfl trivial ?_
        refine o1 rfl (det_move rfl) rfl rfl trivial ?_
        refine o1 rfl (det_build rfl (fun w => bld107_0_1 _ _ _ _ _ _ _ _ _ w)) rfl rfl trivial ?_
        refine om1 rfl (new_alloc z107) rfl rfl trivial (fun p11 => ?_)
        refine stN nofun rfl tN107 rfl rfl rfl .head rfl trivial rfl rfl ?_
        refine be rfl ?_
        refine k_then ?_
        refine t_seq ?_
        refine b0 ?_
        refine o1 rfl (det_loadN tN107 rfl rfl (.head _) rfl) rfl rfl trivial ?_
        refine o1 rfl (det_move rfl) rfl rfl trivial ?_
        refine o1 rfl (det_call hb57 rfl rfl (fun w1 hs => waits_ok (l := l) hs.know hP h8 hcl)) rfl rfl trivial ?_
        refine o2P Iff.rfl rfl (det_move rfl) rfl rfl trivial (fun hb => ?_) (fun hb => ?_)
        ·
          refine o1 rfl (det_loadN tN107 rfl rfl (.head _) rfl) rfl rfl ⟨_, rfl, rfl⟩ ?_
          refine o1 rfl (det_move rfl) rfl rfl ⟨_, rfl, rfl⟩ ?_
          refine o1 rfl (det_move rfl) rfl rfl ⟨_, rfl, rfl⟩ ?_
          refine o1 rfl (det_call hb58 rfl rfl (fun w1 hs => vfits_ok hs.know hl hP h8 hcl hLp.2.1 (okH_left hH hcl) hLp.2.2 (by omega))) rfl rfl ⟨_, rfl, rfl⟩ ?_
          refine o1 rfl (det_pickT rfl rfl) rfl rfl trivial ?_
          refine o1 rfl (det_assign rfl) rfl rfl trivial ?_
          refine o1 rfl (det_assign rfl) rfl rfl trivial ?_
          refine be rfl ?_
          refine k_then ?_
          refine t_ret ?_
          refine ret_tmp2 rfl rfl rfl rfl (fun w1 hs => ?_)
          exact ⟨by unfold mayA mayC; grind, hs.keep⟩
        ·
          refine on rfl rfl rfl ⟨_, rfl, .inl rfl⟩ ?_
          refine on rfl rfl rfl ⟨_, rfl, .inl rfl⟩ ?_
          refine on rfl rfl rfl ⟨_, rfl, .inl rfl⟩ ?_
          refine on rfl rfl rfl ⟨_, rfl, .inl rfl⟩ ?_
          refine o1 rfl (det_pickF rfl rfl) rfl rfl trivial ?_
          refine o1 rfl (det_assign rfl) rfl rfl trivial ?_
          refine o1 rfl (det_assign rfl) rfl rfl trivial ?_
          refine be rfl ?_
          refine k_then ?_
          refine t_ret ?_
          refine ret_tmp2 rfl rfl rfl rfl (fun w1 hs => ?_)
          exact ⟨by unfold mayA mayC; grind, hs.keep⟩

/-- Start. -/
theorem start_ok {w : World} {F : Know} (hF : ∀ a v, F a = some v → w.cell? a = some v) {l : Ln} (hl : LnK F l) {A : Option Addr} {n c : Nat} {hs0 : List Pt} (hP : PK F A n hs0) (hnb : n ≤ 100000) {t : Int} : Pure Try.prog 22 [.agg (lnv l).toArray, .slice A n c, .int .i64 t] w (.tuple [.int .i64 (startA l hs0 t).1, .int .i64 (startA l hs0 t).2].toArray) := by
  refine fn_pure (F := F) Try.func22 rfl Try.ntmps22 rfl hF ?_
  refine t_seq ?_
  refine b0 ?_
  refine om1 rfl (new_boxN rfl) rfl rfl trivial (fun p3 => ?_)
  refine om1 rfl (new_box1 rfl rfl) rfl rfl trivial (fun p5 => ?_)
  refine o1 rfl (det_assign rfl) rfl rfl trivial ?_
  refine o1 rfl (det_assign rfl) rfl rfl trivial ?_
  refine be rfl ?_
  refine k_then ?_
  refine t_scope0 ?_
  refine t_seq ?_
  refine t_seq ?_
  refine b0 ?_
  refine o1 rfl (det_loadN tN26 rfl rfl (.tail _ (.head _)) rfl) rfl rfl trivial ?_
  refine o1 rfl (det_move rfl) rfl rfl trivial ?_
  refine o1 rfl (det_load1 t1_3 rfl rfl (.head _) rfl) rfl rfl trivial ?_
  refine o1 rfl (det_call hb56 rfl rfl (fun w1 hs => cvalid_ok hs.know hl hP hnb)) rfl rfl trivial ?_
  refine o1 rfl (det_assign rfl) rfl rfl trivial ?_
  refine be rfl ?_
  refine k_then ?_
  refine t_seq ?_
  refine b0 ?_
  refine o1 rfl (det_move rfl) rfl rfl trivial ?_
  refine o1 rfl (det_neq rfl rfl) rfl rfl trivial ?_
  refine be rfl ?_
  refine k_then ?_
  refine t_condP bne_iff_ne rfl (fun hb => ?_) (fun hb => ?_)
  ·
    have he : errC l hs0 t ≠ 0 := hb
    refine t_seq ?_
    refine b0 ?_
    refine o1 rfl (det_move rfl) rfl rfl trivial ?_
    refine o1 rfl (det_assign rfl) rfl rfl trivial ?_
    refine o1 rfl (det_assign rfl) rfl rfl trivial ?_
    refine be rfl ?_
    refine k_then ?_
    refine t_ret (k_thenR (k_nogR (?_)))
    refine ret_tmp2 rfl rfl rfl rfl (fun w1 hs => ?_)
    first
    | exact ⟨by unfold startA; rw [if_pos he], hs.keep⟩
    | exact ⟨by unfold startA; rw [if_neg (by simp [he]), hno]; rfl, hs.keep⟩
    | exact ⟨by unfold startA; rw [if_neg (by simp [he]), hse]; rfl, hs.keep⟩
    | (exfalso; omega)
  ·
    have he : errC l hs0 t = 0 := by simpa using hb
    obtain ⟨hL, hH, ht⟩ := errC_zero he
    have hLp := okL_parts hL
    have h8 := (okH_parts hH).1
    refine t_skip ?_
    refine k_then ?_
    refine t_seq ?_
    refine b0 ?_
    refine o1 rfl (det_loadN tN26 rfl rfl (.tail _ (.head _)) rfl) rfl rfl trivial ?_
    refine o1 rfl (det_move rfl) rfl rfl trivial ?_
    refine o1 rfl (det_build rfl (fun w => bld107_0_1 _ _ _ _ _ _ _ _ _ w)) rfl rfl trivial ?_
    refine om1 rfl (new_alloc z107) rfl rfl trivial (fun p9 => ?_)
    refine stN nofun rfl tN107 rfl rfl rfl .head rfl trivial rfl rfl ?_
    refine be rfl ?_
    refine k_then ?_
    refine t_seq ?_
    refine b0 ?_
    refine om1 rfl (new_alloc z3) rfl rfl trivial (fun p10 => ?_)
    refine st1 nofun rfl t1_3 rfl rfl rfl .head rfl trivial rfl ?_
    refine be rfl ?_
    refine k_then ?_
    refine t_seq ?_
    refine t_label ?_
    refine k_then ?_
    refine t_seq ?_
    refine t_seq ?_
    refine b0 ?_
    refine o1 rfl (det_loadN tN107 rfl rfl (.tail _ (.head _)) rfl) rfl rfl trivial ?_
    refine oF nofun rfl hb59 rfl rfl rfl trivial (fun w1 hs => (classes_ok hs.know).any) (fun v F1 hF1 hN1 ⟨q, hv, hq⟩ => ?_)
    subst hv
    refine be rfl ?_
    refine k_then ?_
    refine t_block ?_
    refine t_rangeF2 (σ := Int) (fun s => [(p10, .cells [.int .i64 s].toArray 3 (0, 0)), (p9, .cells [.slice l.g.A l.g.n l.g.cap, .int .i64 l.g.cyc, .int .i64 l.per, .int .i64 l.sh, .slice A n c].toArray 107 (0, 0)), (p5, .cells [.int .i64 t].toArray 3 (0, 0)), (p3, .cells (lnv l).toArray 26 (0, 0))]) (fun k s => s = -1 ∧ ∀ i, i < k → fitC l hs0 ((classL hs0).getD i 0) t = false) (fun j s => j = .exit 0 ∧ startL l hs0 t = some s) (-1) (fun k => [.int .i64 ((classL hs0).getD k 0)]) (xs := (classL hs0).map fun x => [Value.int .i64 x]) (env0 := [(5, _), (6, _), (7, _), (9, _), (10, _)]) rfl hb90 (class_gives (hP.mono hF1) h8 hq) (fun k hk => by rw [List.getElem_map]; rw [List.length_map] at hk; simp [hk]) (fun _ => rfl) rfl ⟨rfl, fun i hi => absurd hi (Nat.not_lt_zero i)⟩ ⟨rfl, rfl, rfl, rfl, rfl, trivial⟩ (.refl _) ?_ ?_ ?_
    ·
      rintro W2 S2 l D r k s hr hk ⟨hs0e, hI⟩
      rw [List.length_map] at hk
      refine b0 ?_
      refine o1 rfl (det_assign rfl) rfl rfl trivial ?_
      refine be rfl ?_
      refine k_then ?_
      refine k_begin (pre := [_, _, _, _]) hr.1 rfl ?_
      refine t_block ?_
      refine t_seq ?_
      refine b0 ?_
      refine o1 rfl (det_loadN tN107 rfl rfl (.tail _ (.head _)) rfl) rfl rfl trivial ?_
      refine o1 rfl (det_move rfl) rfl rfl trivial ?_
      refine o1 rfl (det_load1 t1_3 rfl rfl (.tail _ (.tail _ (.head _))) rfl) rfl rfl trivial ?_
      refine o1 rfl (det_call hb58 rfl rfl (fun w1 hs => vfits_ok hs.know (EntK.mono hl hF1) (hP.mono hF1) h8 (class_at hk).1 hLp.2.1 (okH_left hH (class_at hk).1) hLp.2.2 (by omega))) rfl rfl trivial ?_
      refine be rfl ?_
      refine k_then ?_
      refine t_condP Iff.rfl rfl (fun hb => ?_) (fun hb => ?_)
      ·
        refine t_seq ?_
        refine b0 ?_
        refine o1 rfl (det_move rfl) rfl rfl trivial ?_
        refine st1 nofun rfl t1_3 rfl rfl rfl .head rfl trivial rfl ?_
        refine be rfl ?_
        refine k_then ?_
        refine t_exit ?_
        refine k_blkN (by decide) ?_
        refine round_exit ((classL hs0).getD k 0) ⟨rfl, start_some hk hI hb⟩ (.refl _) rfl rfl
      ·
        refine t_skip ?_
        refine k_blk ?_
        refine round_next s hr ⟨hs0e, fun i hi => by
            by_cases e : i = k
            · subst e; simpa using hb
            · exact hI i (by omega)⟩ (.refl _) rfl rfl
    ·
      rintro D s ⟨hs0e, hI⟩
      rw [List.length_map] at hI
      have hno := start_none hI
      refine k_blk ?_
      refine k_then ?_
      refine t_seq ?_
      refine t_seq ?_
      refine b0 ?_
      refine o1 rfl (det_load1 t1_3 rfl rfl (.head _) rfl) rfl rfl trivial ?_
      refine o1 rfl (det_lss rfl rfl) rfl rfl trivial ?_
      refine be rfl ?_
      refine k_then ?_
      refine t_condP decide_eq_true_iff rfl (fun hb => ?_) (fun hb => ?_)
      ·
        skip
        refine t_seq ?_
        refine b0 ?_
        refine o1 rfl (det_assign rfl) rfl rfl trivial ?_
        refine o1 rfl (det_assign rfl) rfl rfl trivial ?_
        refine be rfl ?_
        refine k_then ?_
        refine t_ret (k_thenR (k_nogR (?_)))
        refine ret_mark (pre := [_, _, _, _]) (vs := [_, _]) rfl rfl ⟨(.tmp rfl), (.tmp rfl), trivial⟩ rfl (fun w1 hs => ?_)
        first
        | exact ⟨by unfold startA; rw [if_pos he], hs.keep⟩
        | exact ⟨by unfold startA; rw [if_neg (by simp [he]), hno]; rfl, hs.keep⟩
        | exact ⟨by unfold startA; rw [if_neg (by simp [he]), hse]; rfl, hs.keep⟩
        | (exfalso; omega)
      ·
        skip
        refine t_skip ?_
        refine k_then ?_
        refine t_seq ?_
        refine b0 ?_
        refine o1 rfl (det_load1 t1_3 rfl rfl (.head _) rfl) rfl rfl trivial ?_
        refine o1 rfl (det_assign rfl) rfl rfl trivial ?_
        refine o1 rfl (det_assign rfl) rfl rfl trivial ?_
        refine be rfl ?_
        refine k_then ?_
        refine t_ret (k_nogR (?_))
        refine ret_mark (pre := [_, _, _, _]) (vs := [_, _]) rfl rfl ⟨(.tmp rfl), (.tmp rfl), trivial⟩ rfl (fun w1 hs => ?_)
        first
        | exact ⟨by unfold startA; rw [if_pos he], hs.keep⟩
        | exact ⟨by unfold startA; rw [if_neg (by simp [he]), hno]; rfl, hs.keep⟩
        | exact ⟨by unfold startA; rw [if_neg (by simp [he]), hse]; rfl, hs.keep⟩
        | (exfalso; omega)
    ·
      rintro D j s ⟨hj, hse⟩
      subst hj
      have hsr := startL_rng hse
      --note:x
      refine t_exit ?_
      refine k_blkE ?_
      refine k_then ?_
      refine t_seq ?_
      refine t_seq ?_
      refine b0 ?_
      refine o1 rfl (det_load1 t1_3 rfl rfl (.head _) rfl) rfl rfl trivial ?_
      refine o1 rfl (det_lss rfl rfl) rfl rfl trivial ?_
      refine be rfl ?_
      refine k_then ?_
      refine t_condP decide_eq_true_iff rfl (fun hb => ?_) (fun hb => ?_)
      ·
        skip
        refine t_seq ?_
        refine b0 ?_
        refine o1 rfl (det_assign rfl) rfl rfl trivial ?_
        refine o1 rfl (det_assign rfl) rfl rfl trivial ?_
        refine be rfl ?_
        refine k_then ?_
        refine t_ret (k_thenR (k_nogR (?_)))
        refine ret_mark (pre := [_, _, _, _]) (vs := [_, _]) rfl rfl ⟨(.tmp rfl), (.tmp rfl), trivial⟩ rfl (fun w1 hs => ?_)
        first
        | exact ⟨by unfold startA; rw [if_pos he], hs.keep⟩
        | exact ⟨by unfold startA; rw [if_neg (by simp [he]), hno]; rfl, hs.keep⟩
        | exact ⟨by unfold startA; rw [if_neg (by simp [he]), hse]; rfl, hs.keep⟩
        | (exfalso; omega)
      ·
        skip
        refine t_skip ?_
        refine k_then ?_
        refine t_seq ?_
        refine b0 ?_
        refine o1 rfl (det_load1 t1_3 rfl rfl (.head _) rfl) rfl rfl trivial ?_
        refine o1 rfl (det_assign rfl) rfl rfl trivial ?_
        refine o1 rfl (det_assign rfl) rfl rfl trivial ?_
        refine be rfl ?_
        refine k_then ?_
        refine t_ret (k_nogR (?_))
        refine ret_mark (pre := [_, _, _, _]) (vs := [_, _]) rfl rfl ⟨(.tmp rfl), (.tmp rfl), trivial⟩ rfl (fun w1 hs => ?_)
        first
        | exact ⟨by unfold startA; rw [if_pos he], hs.keep⟩
        | exact ⟨by unfold startA; rw [if_neg (by simp [he]), hno]; rfl, hs.keep⟩
        | exact ⟨by unfold startA; rw [if_neg (by simp [he]), hse]; rfl, hs.keep⟩
        | (exfalso; omega)

end Go.Proofs.Cp
