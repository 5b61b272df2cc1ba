/-
  Walks through layer 36 and its reference.
-/
import Derived.Test.YtopaidnhgkejiaaQuW5
namespace Go.Proofs.Qu
open Go Go.Eng Go.Qu
set_option maxRecDepth 4000

/-- frame. -/
theorem frame_ok {w : World} {F : Know} (hF : ∀ a v, F a = some v → w.cell? a = some v) {z : Int} : Pure Try.prog 28 [.int .i64 z] w (.agg [.int .i64 0, .int .i64 0, .int .i64 3, .int .i64 z, .int .i64 0].toArray) := by
  refine fn_pure (F := F) Try.func28 rfl Try.ntmps28 rfl hF ?_
  refine t_seq ?_
  refine b0 ?_
  refine om1 rfl (new_alloc z26) rfl rfl trivial (fun p2 => ?_)
  refine be rfl ?_
  refine k_then ?_
  refine t_seq ?_
  refine b0 ?_
  refine o1 rfl (det_move rfl) rfl rfl trivial ?_
  refine o1 rfl (det_build rfl (fun w => bld26_2_3 _ _ w)) rfl rfl trivial ?_
  refine stN nofun rfl tN26 rfl rfl rfl .head rfl trivial rfl rfl ?_
  refine be rfl ?_
  refine k_then ?_
  refine t_ret ?_
  refine ret_any (vs := [_]) rfl rfl ⟨(.cellN tN26 rfl rfl (.head _) rfl), trivial⟩ rfl (fun w1 hs => ?_)
  exact ⟨rfl, hs.keep⟩

/-- few. -/
theorem few_ok {w : World} {F : Know} (hF : ∀ a v, F a = some v → w.cell? a = some v) {A : Option Addr} {n c : Nat} {cap : Int} (hnc : n ≤ c) : Pure Try.prog 10 [.agg [.int .i64 cap, .slice A n c].toArray] w (.agg [.int .i64 cap, .slice A (min (n : Int) 60).toNat c].toArray) := by
  refine fn_pure (F := F) Try.func10 rfl Try.ntmps10 rfl hF ?_
  refine t_seq ?_
  refine b0 ?_
  refine om1 rfl (new_boxN rfl) rfl rfl trivial (fun p1 => ?_)
  refine om1 rfl (new_alloc z24) rfl rfl trivial (fun p2 => ?_)
  refine be rfl ?_
  refine k_then ?_
  refine t_seq ?_
  refine b0 ?_
  refine o1 rfl (det_fieldAddr fld24_1 rfl) rfl rfl trivial ?_
  refine o1 rfl (det_load1 t1_22 rfl rfl (.tail _ (.head _)) rfl) rfl rfl trivial ?_
  refine o1 rfl (det_fieldAddr fld24_1 rfl) rfl rfl trivial ?_
  refine o1 rfl (det_load1 t1_22 rfl rfl (.tail _ (.head _)) rfl) rfl rfl trivial ?_
  refine o1 rfl (det_lenS sl22 rfl) rfl rfl trivial ?_
  refine o1 rfl (det_min2 rfl rfl) rfl rfl trivial ?_
  first | (refine o1 rfl (det_sliceTo sl22 rfl rfl ?_) rfl rfl trivial ?_; (· omega))
  refine o1 rfl (det_fieldAddr fld24_1 rfl) rfl rfl trivial ?_
  refine st1 nofun rfl t1_22 rfl rfl rfl (.tail .head) rfl trivial rfl ?_
  refine be rfl ?_
  refine k_then ?_
  refine t_seq ?_
  refine b0 ?_
  refine o1 rfl (det_loadN tN24 rfl rfl (.tail _ (.head _)) rfl) rfl rfl trivial ?_
  refine stN nofun rfl tN24 rfl rfl rfl .head rfl trivial rfl rfl ?_
  refine be rfl ?_
  refine k_then ?_
  refine t_ret ?_
  refine ret_any (vs := [_]) rfl rfl ⟨(.cellN tN24 rfl rfl (.head _) rfl), trivial⟩ rfl (fun w1 hs => ?_)
  exact ⟨rfl, hs.keep⟩

/-- Push. -/
theorem push_ok {w : World} {F : Know} (hF : ∀ a v, F a = some v → w.cell? a = some v) {A : Option Addr} {n c : Nat} {cap : Int} {ps : List Pt} (hP : PK F A n ps) (hnb : n ≤ 65536) (hnc : n ≤ c) (hcm : c ≤ maxLen) {x : It} : CallsF Try.prog 21 [.agg [.int .i64 cap, .slice A n c].toArray, .agg [.int .i64 x.st, .int .i64 x.sq, .int .i64 x.cl, .int .i64 x.sz, .int .i64 x.sn].toArray] w F (fun v F2 => ∃ q, v = .tuple [q, .bool (pushQ cap ps x).2.1, .int .i64 (pushQ cap ps x).2.2].toArray ∧ QV F2 q (pushQ cap ps x).1.1 (pushQ cap ps x).1.2) := by
  refine fn_fresh (F := F) Try.func21 rfl Try.ntmps21 rfl hF ?_
  refine t_seq ?_
  refine b0 ?_
  refine om1 rfl (new_boxN rfl) rfl rfl trivial (fun p2 => ?_)
  refine om1 rfl (new_boxN rfl) rfl rfl trivial (fun p3 => ?_)
  refine om1 rfl (new_alloc z24) rfl rfl trivial (fun p4 => ?_)
  refine o1 rfl (det_assign rfl) rfl rfl trivial ?_
  refine o1 rfl (det_assign rfl) rfl rfl trivial ?_
  refine be rfl ?_
  refine k_then ?_
  refine t_seq ?_
  refine t_seq ?_
  refine b0 ?_
  refine o1 rfl (det_loadN tN24 rfl rfl (.tail _ (.tail _ (.head _))) rfl) rfl rfl trivial ?_
  refine o1 rfl (det_call hb12 rfl rfl (fun w1 hs => check_ok hs.know hP hnb)) rfl rfl trivial ?_
  refine o1 rfl (det_assign rfl) rfl rfl trivial ?_
  refine be rfl ?_
  refine k_then ?_
  refine t_seq ?_
  refine b0 ?_
  refine o1 rfl (det_move rfl) rfl rfl trivial ?_
  refine o1 rfl (det_neq rfl rfl) rfl rfl trivial ?_
  refine be rfl ?_
  refine k_then ?_
  refine t_condP bne_iff_ne rfl (fun hb => ?_) (fun hb => ?_)
  ·
    refine t_seq ?_
    refine b0 ?_
    refine o1 rfl (det_build rfl (fun w => bld24_ w)) rfl rfl trivial ?_
    refine o1 rfl (det_move rfl) rfl rfl trivial ?_
    refine stN nofun rfl tN24 rfl rfl rfl .head rfl trivial rfl rfl ?_
    refine o1 rfl (det_assign rfl) rfl rfl trivial ?_
    refine o1 rfl (det_assign rfl) rfl rfl trivial ?_
    refine be rfl ?_
    refine k_then ?_
    refine t_ret (k_thenR (?_))
    refine ret_any (vs := [_, _, _]) rfl rfl ⟨(.cellN tN24 rfl rfl (.head _) rfl), (.tmp rfl), (.tmp rfl), trivial⟩ rfl (fun w1 hs => ?_)
    have hR0 : rightQ cap ps = false := by grind
    have hq : pushQ cap ps x = ((0, []), false, 461) := by unfold pushQ; rw [if_pos hR0]
    exact end_fresh hs fun F2 _ _ _ => ⟨_, by rw [hq, hR0]; rfl, by rw [hq]; exact QV.nil⟩
  ·
    refine t_skip ?_
    refine k_then ?_
    refine t_seq ?_
    refine t_seq ?_
    refine b0 ?_
    have hR : rightQ cap ps = true := by grind
    refine o1 rfl (det_loadN tN26 rfl rfl (.tail _ (.head _)) rfl) rfl rfl trivial ?_
    refine o1 rfl (det_call hb15 rfl rfl (fun w1 hs => citem_ok hs.know)) rfl rfl trivial ?_
    refine o1 rfl (det_assign rfl) rfl rfl trivial ?_
    refine be rfl ?_
    refine k_then ?_
    refine t_seq ?_
    refine b0 ?_
    refine o1 rfl (det_move rfl) rfl rfl trivial ?_
    refine o1 rfl (det_neq rfl rfl) rfl rfl trivial ?_
    refine be rfl ?_
    refine k_then ?_
    refine t_condP bne_iff_ne rfl (fun hb => ?_) (fun hb => ?_)
    ·
      refine t_seq ?_
      refine b0 ?_
      refine o1 rfl (det_build rfl (fun w => bld24_ w)) rfl rfl trivial ?_
      refine o1 rfl (det_move rfl) rfl rfl trivial ?_
      refine stN nofun rfl tN24 rfl rfl rfl .head rfl trivial rfl rfl ?_
      refine o1 rfl (det_assign rfl) rfl rfl trivial ?_
      refine o1 rfl (det_assign rfl) rfl rfl trivial ?_
      refine be rfl ?_
      refine k_then ?_
      refine t_ret (k_thenR (?_))
      refine ret_any (vs := [_, _, _]) rfl rfl ⟨(.cellN tN24 rfl rfl (.head _) rfl), (.tmp rfl), (.tmp rfl), trivial⟩ rfl (fun w1 hs => ?_)
      have hI0 : okI x = false := by grind
      have hq : pushQ cap ps x = ((0, []), false, 460) := by unfold pushQ; rw [if_neg (by rw [hR]; simp), if_pos hI0]
      exact end_fresh hs fun F2 _ _ _ => ⟨_, by rw [hq, hI0]; rfl, by rw [hq]; exact QV.nil⟩
    ·
      refine t_skip ?_
      refine k_then ?_
      refine t_seq ?_
      refine t_seq ?_
      refine bD mixed ?_
      refine r_seg 9 9 [] [0, 1, 2, 3, 4, 5, 6, 7, 8] (by kernel_rfl) ?_
      have hI : okI x = true := by grind
      have hV : validP ps = true := by grind [rightQ]
      have hob := octs_bd hV
      have hnl := hP.len
      have hsz : 84 ≤ x.sz ∧ x.sz ≤ 1542 := by grind [okI]
      refine s1 rfl (det_loadN tN24 rfl rfl (.tail _ (.tail _ (.head _))) rfl) rfl rfl trivial rfl ?_
      refine s1 rfl (det_build rfl (fun w => bld66_0 _ _ _ _ w)) rfl rfl trivial rfl ?_
      refine s1 rfl (det_call hb31 rfl rfl (fun w1 hs => oct_ok hs.know hP hnb hV)) rfl rfl trivial rfl ?_
      refine s1 rfl (det_fieldAddr fld26_3 rfl) rfl rfl trivial rfl ?_
      refine s1 rfl (det_load1 t1_3 rfl rfl (.tail _ (.head _)) rfl) rfl rfl trivial rfl ?_
      first | (refine s1 rfl (det_addI rfl rfl ?_) rfl rfl trivial rfl ?_; (· omega)) | refine s1 rfl (det_add rfl rfl) rfl rfl trivial rfl ?_
      refine s1 rfl (det_fieldAddr fld24_0 rfl) rfl rfl trivial rfl ?_
      refine s1 rfl (det_load1 t1_3 rfl rfl (.tail _ (.tail _ (.head _))) rfl) rfl rfl trivial rfl ?_
      refine s1 rfl (det_gtr rfl rfl) rfl rfl trivial rfl ?_
      refine sg_nil ?_
      refine be rfl ?_
      refine k_then ?_
      refine t_condP decide_eq_true_iff rfl (fun hb => ?_) (fun hb => ?_)
      ·
        refine t_seq ?_
        refine b0 ?_
        refine o1 rfl (det_loadN tN24 rfl rfl (.tail _ (.tail _ (.head _))) rfl) rfl rfl trivial ?_
        refine stN nofun rfl tN24 rfl rfl rfl .head rfl trivial rfl rfl ?_
        refine o1 rfl (det_assign rfl) rfl rfl trivial ?_
        refine o1 rfl (det_assign rfl) rfl rfl trivial ?_
        refine be rfl ?_
        refine k_then ?_
        refine t_ret (k_thenR (?_))
        refine ret_any (vs := [_, _, _]) rfl rfl ⟨(.cellN tN24 rfl rfl (.head _) rfl), (.tmp rfl), (.tmp rfl), trivial⟩ rfl (fun w1 hs => ?_)
        have hq : pushQ cap ps x = ((cap, ps), false, 0) := by unfold pushQ; rw [if_neg (by rw [hR]; simp), if_neg (by rw [hI]; simp), if_pos hb]
        exact end_fresh hs fun F2 h1 _ _ => ⟨_, by rw [hq]; rfl, by rw [hq]; exact QV.mk (hP.mono h1) hnc hcm⟩
      ·
        refine t_skip ?_
        refine k_then ?_
        refine t_seq ?_
        refine bD mixed ?_
        refine r_seg 15 12 [11] [0, 1, 2, 3, 4, 5, 6, 7, 8, 9, 10, 11] (by kernel_rfl) ?_
        refine s1 rfl (det_fieldAddr fld24_1 rfl) rfl rfl trivial rfl ?_
        refine s1 rfl (det_load1 t1_22 rfl rfl (.tail _ (.tail _ (.head _))) rfl) rfl rfl trivial rfl ?_
        refine s1 rfl (det_fieldAddr fld24_1 rfl) rfl rfl trivial rfl ?_
        refine s1 rfl (det_load1 t1_22 rfl rfl (.tail _ (.tail _ (.head _))) rfl) rfl rfl trivial rfl ?_
        refine s1 rfl (det_lenS sl22 rfl) rfl rfl trivial rfl ?_
        refine s1 rfl (det_fieldAddr fld24_1 rfl) rfl rfl trivial rfl ?_
        refine s1 rfl (det_load1 t1_22 rfl rfl (.tail _ (.tail _ (.head _))) rfl) rfl rfl trivial rfl ?_
        refine s1 rfl (det_lenS sl22 rfl) rfl rfl trivial rfl ?_
        refine s1 rfl (det_slice3 sl22 rfl rfl rfl hnc) rfl rfl trivial rfl ?_
        refine s1 rfl (det_loadN tN26 rfl rfl (.tail _ (.head _)) rfl) rfl rfl trivial rfl ?_
        refine s1 rfl (det_call hb32 rfl rfl (fun w1 hs => whole_ok hs.know)) rfl rfl trivial rfl ?_
        refine sm1 rfl (new_buildSlice rfl (fun w => bsl22_1_0 _ _ _ _ _ _ _ w)) rfl rfl trivial rfl (fun p42 => ?_)
        refine sg_nil ?_
        refine dm rfl (by kernel_rfl) (new_appK (xs := rowsV ptv ps) (news := ptv (whole x)) (n := n) (m := 1) ap22 rfl rfl (by rw [rowsV_len ptv_len, hP.len]) rfl (by decide) (fun w hs j u hj => by obtain ⟨b, hb, h⟩ := hP.flat ptv_len (by decide) j u hj; exact ⟨b, hb, hs.know _ _ h⟩) (fun w hs j u hj => hs.cellO (.head _) hj) (by omega) (by simp only [maxLen]; omega)) rfl rfl trivial (fun p43 v43 ob43 hS43 => ?_)
        obtain ⟨A1, c1, hv1, hn1, hm1, -⟩ := hS43.slice
        subst hv1
        have hS2 : SlO 28 7 (.slice A1 (n + 1) c1) (n + 1) (rowsV ptv (ps ++ [whole x])) [(p43, ob43)] := by rw [rowsV_app, rowsV_one]; exact hS43
        refine r_seg 15 14 [] [13] (by kernel_rfl) ?_
        refine s1 rfl (det_fieldAddr fld24_1 rfl) rfl rfl trivial rfl ?_
        refine sg_nil ?_
        refine st1 (fun _ => by kernel_rfl) rfl t1_22 rfl rfl rfl (.tail (.tail (.tail (.tail .head)))) rfl trivial rfl ?_
        refine be rfl ?_
        refine k_then ?_
        refine t_seq ?_
        refine b0 ?_
        refine o1 rfl (det_loadN tN24 rfl rfl (.tail _ (.tail _ (.tail _ (.tail _ (.head _))))) rfl) rfl rfl trivial ?_
        refine stN nofun rfl tN24 rfl rfl rfl (.tail (.tail .head)) rfl trivial rfl rfl ?_
        refine o1 rfl (det_assign rfl) rfl rfl trivial ?_
        refine o1 rfl (det_assign rfl) rfl rfl trivial ?_
        refine be rfl ?_
        refine k_then ?_
        refine t_ret ?_
        refine ret_any (vs := [_, _, _]) rfl rfl ⟨(.cellN tN24 rfl rfl (.tail _ (.tail _ (.head _))) rfl), (.tmp rfl), (.tmp rfl), trivial⟩ rfl (fun w1 hs => ?_)
        have hq : pushQ cap ps x = ((cap, ps ++ [whole x]), true, 0) := by unfold pushQ; rw [if_neg (by rw [hR]; simp), if_neg (by rw [hI]; simp), if_neg hb]
        exact end_fresh hs fun F2 h1 _ h3 => ⟨_, by rw [hq]; rfl, by rw [hq]; exact SlO.qv hS2 (fun p cs t fr k hm => h3 p cs t fr k (List.mem_cons.2 (.inl (List.mem_singleton.1 hm)))) rfl⟩

end Go.Proofs.Qu
