/-
  Walks through layer 36 and its reference.
-/
import Derived.Test.YtopaidnhgkejiaaQuW6
namespace Go.Proofs.Qu
open Go Go.Eng Go.Qu
set_option maxRecDepth 4000

/-- Head. -/
theorem head_ok {w : World} {F : Know} (hF : ∀ a v, F a = some v → w.cell? a = some v) {A : Option Addr} {n c : Nat} {cap : Int} {ps : List Pt} (hP : PK F A n ps) (hnb : n ≤ 65536) : Pure Try.prog 23 [.agg [.int .i64 cap, .slice A n c].toArray] w (.tuple [.agg [.int .i64 (headQ cap ps).1.it.st, .int .i64 (headQ cap ps).1.it.sq, .int .i64 (headQ cap ps).1.it.cl, .int .i64 (headQ cap ps).1.it.sz, .int .i64 (headQ cap ps).1.it.sn, .int .i64 (headQ cap ps).1.left, .bool (headQ cap ps).1.rest].toArray, .bool (headQ cap ps).2].toArray) := by
  refine fn_pure (F := F) Try.func23 rfl Try.ntmps23 rfl hF ?_
  refine t_seq ?_
  refine b0 ?_
  refine om1 rfl (new_boxN rfl) rfl rfl trivial (fun p1 => ?_)
  refine om1 rfl (new_alloc z28) rfl rfl trivial (fun p2 => ?_)
  refine o1 rfl (det_assign rfl) rfl rfl trivial ?_
  refine be rfl ?_
  refine k_then ?_
  refine t_seq ?_
  refine t_seq ?_
  refine b0 ?_
  have hnl := hP.len
  refine o1 rfl (det_loadN tN24 rfl rfl (.tail _ (.head _)) rfl) rfl rfl trivial ?_
  refine o1 rfl (det_call hb12 rfl rfl (fun w1 hs => check_ok hs.know hP hnb)) rfl rfl trivial ?_
  refine o1 rfl (det_neq rfl rfl) rfl rfl trivial ?_
  refine o2P bne_iff_ne rfl (det_move rfl) rfl rfl trivial (fun hb => ?_) (fun hb => ?_)
  ·
    refine on rfl rfl rfl ⟨_, rfl, .inl rfl⟩ ?_
    refine on rfl rfl rfl ⟨_, rfl, .inl rfl⟩ ?_
    refine on rfl rfl rfl ⟨_, rfl, .inl rfl⟩ ?_
    refine on rfl rfl rfl ⟨_, rfl, .inl rfl⟩ ?_
    refine o1 rfl (det_pickT rfl rfl) rfl rfl trivial ?_
    refine be rfl ?_
    refine k_then ?_
    refine t_condT rfl ?_
    refine t_seq ?_
    refine b0 ?_
    refine o1 rfl (det_build rfl (fun w => bld28_ w)) rfl rfl trivial ?_
    refine stN nofun rfl tN28 rfl rfl rfl .head rfl trivial rfl rfl ?_
    refine o1 rfl (det_assign rfl) rfl rfl trivial ?_
    refine be rfl ?_
    refine k_then ?_
    refine t_ret (k_thenR (?_))
    refine ret_any (vs := [_, _]) rfl rfl ⟨(.cellN tN28 rfl rfl (.head _) rfl), (.tmp rfl), trivial⟩ rfl (fun w1 hs => ?_)
    have hq : headQ cap ps = (dPt, false) := by unfold headQ; rw [if_neg (by grind)]
    exact ⟨by rw [hq]; rfl, hs.keep⟩
  ·
    refine o1 rfl (det_fieldAddr fld24_1 rfl) rfl rfl ⟨_, rfl, rfl⟩ ?_
    refine o1 rfl (det_load1 t1_22 rfl rfl (.tail _ (.head _)) rfl) rfl rfl ⟨_, rfl, rfl⟩ ?_
    refine o1 rfl (det_lenS sl22 rfl) rfl rfl ⟨_, rfl, rfl⟩ ?_
    refine o1 rfl (det_eql rfl rfl) rfl rfl ⟨_, rfl, rfl⟩ ?_
    refine o1 rfl (det_pickF rfl rfl) rfl rfl trivial ?_
    refine be rfl ?_
    refine k_then ?_
    refine t_condP beq_iff_eq rfl (fun hb => ?_) (fun hb => ?_)
    ·
      refine t_seq ?_
      refine b0 ?_
      refine o1 rfl (det_build rfl (fun w => bld28_ w)) rfl rfl trivial ?_
      refine stN nofun rfl tN28 rfl rfl rfl .head rfl trivial rfl rfl ?_
      refine o1 rfl (det_assign rfl) rfl rfl trivial ?_
      refine be rfl ?_
      refine k_then ?_
      refine t_ret (k_thenR (?_))
      refine ret_any (vs := [_, _]) rfl rfl ⟨(.cellN tN28 rfl rfl (.head _) rfl), (.tmp rfl), trivial⟩ rfl (fun w1 hs => ?_)
      have hq : headQ cap ps = (dPt, false) := by unfold headQ; rw [if_neg (by grind)]
      exact ⟨by rw [hq]; rfl, hs.keep⟩
    ·
      refine t_skip ?_
      refine k_then ?_
      refine t_seq ?_
      refine b0 ?_
      refine o1 rfl (det_fieldAddr fld24_1 rfl) rfl rfl trivial ?_
      refine o1 rfl (det_load1 t1_22 rfl rfl (.tail _ (.head _)) rfl) rfl rfl trivial ?_
      have hR : rightQ cap ps = true := by grind
      have hlt0 : 0 < ps.length := by omega
      obtain ⟨A, rfl⟩ := hP.some hlt0
      have hat0 := atP_get hlt0
      first | (refine o1 rfl (det_indexAddr sl22 rfl rfl ?_) rfl rfl trivial ?_; (· (first | decide | omega)))
      refine o1 rfl (det_loadKN tN28 rfl (ptv_len ps[0]) (hP.cells (i := 0) (k := 0) rfl hlt0 (ptv_len _))) rfl rfl trivial ?_
      refine stN nofun rfl tN28 rfl rfl rfl .head rfl trivial rfl rfl ?_
      refine o1 rfl (det_assign rfl) rfl rfl trivial ?_
      refine be rfl ?_
      refine k_then ?_
      refine t_ret ?_
      refine ret_any (vs := [_, _]) rfl rfl ⟨(.cellN tN28 rfl rfl (.head _) rfl), (.tmp rfl), trivial⟩ rfl (fun w1 hs => ?_)
      have hq : headQ cap ps = (ps[0], true) := by unfold headQ; rw [if_pos ⟨hR, by omega⟩, hat0]
      exact ⟨by rw [hq]; rfl, hs.keep⟩

/-- Pop. -/
theorem pop_ok {w : World} {F : Know} (hF : ∀ a v, F a = some v → w.cell? a = some v) {A : Option Addr} {n c : Nat} {cap : Int} {ps : List Pt} (hP : PK F A n ps) (hnb : n ≤ 65536) (hnc : n ≤ c) (hcm : c ≤ maxLen) : CallsF Try.prog 24 [.agg [.int .i64 cap, .slice A n c].toArray] w F (fun v F2 => ∃ q, v = .tuple [q, .agg [.int .i64 (popQ cap ps).2.1.it.st, .int .i64 (popQ cap ps).2.1.it.sq, .int .i64 (popQ cap ps).2.1.it.cl, .int .i64 (popQ cap ps).2.1.it.sz, .int .i64 (popQ cap ps).2.1.it.sn, .int .i64 (popQ cap ps).2.1.left, .bool (popQ cap ps).2.1.rest].toArray, .int .i64 (popQ cap ps).2.2].toArray ∧ QV F2 q (popQ cap ps).1.1 (popQ cap ps).1.2) := by
  refine fn_fresh (F := F) Try.func24 rfl Try.ntmps24 rfl hF ?_
  refine t_seq ?_
  refine b0 ?_
  refine om1 rfl (new_boxN rfl) rfl rfl trivial (fun p1 => ?_)
  refine om1 rfl (new_alloc z24) rfl rfl trivial (fun p2 => ?_)
  refine om1 rfl (new_alloc z28) rfl rfl trivial (fun p3 => ?_)
  refine o1 rfl (det_assign rfl) rfl rfl trivial ?_
  refine be rfl ?_
  refine k_then ?_
  refine t_seq ?_
  refine t_seq ?_
  refine b0 ?_
  refine o1 rfl (det_loadN tN24 rfl rfl (.tail _ (.tail _ (.head _))) rfl) rfl rfl trivial ?_
  refine o1 rfl (det_call hb12 rfl rfl (fun w1 hs => check_ok hs.know hP hnb)) rfl rfl trivial ?_
  refine o1 rfl (det_assign rfl) rfl rfl trivial ?_
  refine be rfl ?_
  refine k_then ?_
  refine t_seq ?_
  refine b0 ?_
  refine o1 rfl (det_move rfl) rfl rfl trivial ?_
  refine o1 rfl (det_neq rfl rfl) rfl rfl trivial ?_
  refine be rfl ?_
  refine k_then ?_
  refine t_condP bne_iff_ne rfl (fun hb => ?_) (fun hb => ?_)
  ·
    refine t_seq ?_
    refine b0 ?_
    refine o1 rfl (det_build rfl (fun w => bld24_ w)) rfl rfl trivial ?_
    refine o1 rfl (det_build rfl (fun w => bld28_ w)) rfl rfl trivial ?_
    refine o1 rfl (det_move rfl) rfl rfl trivial ?_
    refine stN nofun rfl tN24 rfl rfl rfl (.tail .head) rfl trivial rfl rfl ?_
    refine stN nofun rfl tN28 rfl rfl rfl .head rfl trivial rfl rfl ?_
    refine o1 rfl (det_assign rfl) rfl rfl trivial ?_
    refine be rfl ?_
    refine k_then ?_
    refine t_ret (k_thenR (?_))
    refine ret_any (vs := [_, _, _]) rfl rfl ⟨(.cellN tN24 rfl rfl (.tail _ (.head _)) rfl), (.cellN tN28 rfl rfl (.head _) rfl), (.tmp rfl), trivial⟩ rfl (fun w1 hs => ?_)
    have hR0 : rightQ cap ps = false := by grind
    have hq : popQ cap ps = ((0, []), dPt, 461) := by unfold popQ; rw [if_pos hR0]
    exact end_fresh hs fun F2 _ _ _ => ⟨_, by rw [hq, hR0]; rfl, by rw [hq]; exact QV.nil⟩
  ·
    refine t_skip ?_
    refine k_then ?_
    refine t_seq ?_
    refine t_seq ?_
    refine b0 ?_
    have hR : rightQ cap ps = true := by grind
    have hnl := hP.len
    refine o1 rfl (det_fieldAddr fld24_1 rfl) rfl rfl trivial ?_
    refine o1 rfl (det_load1 t1_22 rfl rfl (.tail _ (.tail _ (.head _))) rfl) rfl rfl trivial ?_
    refine o1 rfl (det_lenS sl22 rfl) rfl rfl trivial ?_
    refine o1 rfl (det_eql rfl rfl) rfl rfl trivial ?_
    refine be rfl ?_
    refine k_then ?_
    refine t_condP beq_iff_eq rfl (fun hb => ?_) (fun hb => ?_)
    ·
      refine t_seq ?_
      refine b0 ?_
      refine o1 rfl (det_build rfl (fun w => bld24_ w)) rfl rfl trivial ?_
      refine o1 rfl (det_build rfl (fun w => bld28_ w)) rfl rfl trivial ?_
      refine stN nofun rfl tN24 rfl rfl rfl (.tail .head) rfl trivial rfl rfl ?_
      refine stN nofun rfl tN28 rfl rfl rfl .head rfl trivial rfl rfl ?_
      refine o1 rfl (det_assign rfl) rfl rfl trivial ?_
      refine be rfl ?_
      refine k_then ?_
      refine t_ret (k_thenR (?_))
      refine ret_any (vs := [_, _, _]) rfl rfl ⟨(.cellN tN24 rfl rfl (.tail _ (.head _)) rfl), (.cellN tN28 rfl rfl (.head _) rfl), (.tmp rfl), trivial⟩ rfl (fun w1 hs => ?_)
      have hq : popQ cap ps = ((0, []), dPt, 4) := by unfold popQ; rw [if_neg (by rw [hR]; simp), if_pos (by omega)]
      exact end_fresh hs fun F2 _ _ _ => ⟨_, by rw [hq]; rfl, by rw [hq]; exact QV.nil⟩
    ·
      refine t_skip ?_
      refine k_then ?_
      refine t_seq ?_
      refine b0 ?_
      refine o1 rfl (det_fieldAddr fld24_1 rfl) rfl rfl trivial ?_
      refine o1 rfl (det_load1 t1_22 rfl rfl (.tail _ (.tail _ (.head _))) rfl) rfl rfl trivial ?_
      have hlt0 : 0 < ps.length := by omega
      obtain ⟨A, rfl⟩ := hP.some hlt0
      have hat0 := atP_get hlt0
      first | (refine o1 rfl (det_indexAddr sl22 rfl rfl ?_) rfl rfl trivial ?_; (· (first | decide | omega)))
      refine o1 rfl (det_loadKN tN28 rfl (ptv_len ps[0]) (hP.cells (i := 0) (k := 0) rfl hlt0 (ptv_len _))) rfl rfl trivial ?_
      refine om1 rfl (new_alloc z28) rfl rfl trivial (fun p6 => ?_)
      refine stN nofun rfl tN28 rfl rfl rfl .head rfl trivial rfl rfl ?_
      refine be rfl ?_
      refine k_then ?_
      refine t_seq ?_
      refine b0 ?_
      refine o1 rfl (det_fieldAddr fld24_1 rfl) rfl rfl trivial ?_
      refine o1 rfl (det_load1 t1_22 rfl rfl (.tail _ (.tail _ (.tail _ (.head _)))) rfl) rfl rfl trivial ?_
      refine o1 rfl (det_sliceLo 1 sl22 rfl rfl rfl (by omega) hnc) rfl rfl trivial ?_
      refine o1 rfl (det_fieldAddr fld24_1 rfl) rfl rfl trivial ?_
      refine st1 nofun rfl t1_22 rfl rfl rfl (.tail (.tail (.tail .head))) rfl trivial rfl ?_
      refine be rfl ?_
      refine k_then ?_
      refine t_seq ?_
      refine bD mixed ?_
      refine r_bar 5 2 [] [0, 1] _ (by kernel_rfl) (.cons_cons _ (.cons_cons _ (.cons _ (.refl _)))) ?_
      refine s1 rfl (det_loadN tN24 rfl rfl (.tail _ (.tail _ (.head _))) rfl) rfl rfl trivial rfl ?_
      refine s1 rfl (det_loadN tN28 rfl rfl (.head _) rfl) rfl rfl trivial rfl ?_
      refine sg_nil ⟨?_, ?_⟩
      rotate_left
      ·
        exact bar_stN rfl tN24 rfl rfl rfl (.tail (.tail .head)) rfl trivial rfl rfl (.tail _ (.tail _ (.head _))) (.cons_cons _ (.cons_cons _ (.cons _ (.refl _))))
      refine stN (fun _ => by kernel_rfl) rfl tN24 rfl rfl rfl (.tail (.tail .head)) rfl trivial rfl rfl ?_
      refine stN (fun _ => by kernel_rfl) rfl tN28 rfl rfl rfl (.tail .head) rfl trivial rfl rfl ?_
      refine r_seg 5 5 [] [4] (by kernel_rfl) ?_
      refine s1 rfl (det_assign rfl) rfl rfl trivial rfl ?_
      refine sg_nil ?_
      refine be rfl ?_
      refine k_then ?_
      refine t_ret ?_
      refine ret_any (vs := [_, _, _]) rfl rfl ⟨(.cellN tN24 rfl rfl (.tail _ (.tail _ (.head _))) rfl), (.cellN tN28 rfl rfl (.tail _ (.head _)) rfl), (.tmp rfl), trivial⟩ rfl (fun w1 hs => ?_)
      have hq : popQ cap ps = ((cap, ps.drop 1), ps[0], 0) := by unfold popQ; rw [if_neg (by rw [hR]; simp), if_neg (by omega), hat0]
      exact end_fresh hs fun F2 h1 _ _ => ⟨_, by rw [hq]; rfl, by rw [hq]; exact QV.mk ((hP.mono h1).from 1 (by omega) hnc) (by omega) (by omega)⟩

/-- Return. -/
theorem return_ok {w : World} {F : Know} (hF : ∀ a v, F a = some v → w.cell? a = some v) {A : Option Addr} {n c : Nat} {cap : Int} {ps : List Pt} (hP : PK F A n ps) (hnb : n ≤ 65536) (hnc : n ≤ c) (hcm : c ≤ maxLen) {x : Pt} : CallsF Try.prog 25 [.agg [.int .i64 cap, .slice A n c].toArray, .agg [.int .i64 x.it.st, .int .i64 x.it.sq, .int .i64 x.it.cl, .int .i64 x.it.sz, .int .i64 x.it.sn, .int .i64 x.left, .bool x.rest].toArray] w F (fun v F2 => ∃ q, v = .tuple [q, .int .i64 (retQ cap ps x).2].toArray ∧ QV F2 q (retQ cap ps x).1.1 (retQ cap ps x).1.2) := by
  refine fn_fresh (F := F) Try.func25 rfl Try.ntmps25 rfl hF ?_
  refine t_seq ?_
  refine b0 ?_
  refine om1 rfl (new_boxN rfl) rfl rfl trivial (fun p2 => ?_)
  refine om1 rfl (new_boxN rfl) rfl rfl trivial (fun p3 => ?_)
  refine om1 rfl (new_alloc z24) rfl rfl trivial (fun p4 => ?_)
  refine o1 rfl (det_assign rfl) rfl rfl trivial ?_
  refine be rfl ?_
  refine k_then ?_
  refine t_seq ?_
  refine t_seq ?_
  refine b0 ?_
  refine o1 rfl (det_loadN tN24 rfl rfl (.tail _ (.tail _ (.head _))) rfl) rfl rfl trivial ?_
  refine o1 rfl (det_call hb12 rfl rfl (fun w1 hs => check_ok hs.know hP hnb)) rfl rfl trivial ?_
  refine o1 rfl (det_assign rfl) rfl rfl trivial ?_
  refine be rfl ?_
  refine k_then ?_
  refine t_seq ?_
  refine b0 ?_
  refine o1 rfl (det_move rfl) rfl rfl trivial ?_
  refine o1 rfl (det_neq rfl rfl) rfl rfl trivial ?_
  refine be rfl ?_
  refine k_then ?_
  refine t_condP bne_iff_ne rfl (fun hb => ?_) (fun hb => ?_)
  ·
    refine t_seq ?_
    refine b0 ?_
    refine o1 rfl (det_build rfl (fun w => bld24_ w)) rfl rfl trivial ?_
    refine o1 rfl (det_move rfl) rfl rfl trivial ?_
    refine stN nofun rfl tN24 rfl rfl rfl .head rfl trivial rfl rfl ?_
    refine o1 rfl (det_assign rfl) rfl rfl trivial ?_
    refine be rfl ?_
    refine k_then ?_
    refine t_ret (k_thenR (?_))
    refine ret_any (vs := [_, _]) rfl rfl ⟨(.cellN tN24 rfl rfl (.head _) rfl), (.tmp rfl), trivial⟩ rfl (fun w1 hs => ?_)
    have hR0 : rightQ cap ps = false := by grind
    have hq : retQ cap ps x = ((0, []), 461) := by unfold retQ; rw [if_pos hR0]
    exact end_fresh hs fun F2 _ _ _ => ⟨_, by rw [hq, hR0]; rfl, by rw [hq]; exact QV.nil⟩
  ·
    refine t_skip ?_
    refine k_then ?_
    refine t_seq ?_
    refine t_seq ?_
    refine b0 ?_
    have hR : rightQ cap ps = true := by grind
    have hnl := hP.len
    refine o1 rfl (det_loadN tN28 rfl rfl (.tail _ (.head _)) rfl) rfl rfl trivial ?_
    refine o1 rfl (det_call hb13 rfl rfl (fun w1 hs => cpart_ok hs.know)) rfl rfl trivial ?_
    refine o1 rfl (det_assign rfl) rfl rfl trivial ?_
    refine be rfl ?_
    refine k_then ?_
    refine t_seq ?_
    refine b0 ?_
    refine o1 rfl (det_move rfl) rfl rfl trivial ?_
    refine o1 rfl (det_neq rfl rfl) rfl rfl trivial ?_
    refine be rfl ?_
    refine k_then ?_
    refine t_condP bne_iff_ne rfl (fun hb => ?_) (fun hb => ?_)
    ·
      refine t_seq ?_
      refine b0 ?_
      refine o1 rfl (det_build rfl (fun w => bld24_ w)) rfl rfl trivial ?_
      refine o1 rfl (det_move rfl) rfl rfl trivial ?_
      refine stN nofun rfl tN24 rfl rfl rfl .head rfl trivial rfl rfl ?_
      refine o1 rfl (det_assign rfl) rfl rfl trivial ?_
      refine be rfl ?_
      refine k_then ?_
      refine t_ret (k_thenR (?_))
      refine ret_any (vs := [_, _]) rfl rfl ⟨(.cellN tN24 rfl rfl (.head _) rfl), (.tmp rfl), trivial⟩ rfl (fun w1 hs => ?_)
      have hX0 : okP x = false := by grind
      have hq : retQ cap ps x = ((0, []), 460) := by unfold retQ; rw [if_neg (by rw [hR]; simp), if_pos hX0]
      exact end_fresh hs fun F2 _ _ _ => ⟨_, by rw [hq, hX0]; rfl, by rw [hq]; exact QV.nil⟩
    ·
      refine t_skip ?_
      refine k_then ?_
      refine t_seq ?_
      refine t_seq ?_
      refine b0 ?_
      have hX : okP x = true := by grind
      refine o1 rfl (det_fieldAddr fld28_2 rfl) rfl rfl trivial ?_
      refine o1 rfl (det_load1 t1_4 rfl rfl (.tail _ (.head _)) rfl) rfl rfl trivial ?_
      refine o1 rfl (det_not rfl) rfl rfl trivial ?_
      refine o2P not_iff_false rfl (det_move rfl) rfl rfl trivial (fun hb => ?_) (fun hb => ?_)
      ·
        refine on rfl rfl rfl ⟨_, rfl, .inl rfl⟩ ?_
        refine on rfl rfl rfl ⟨_, rfl, .inl rfl⟩ ?_
        refine on rfl rfl rfl ⟨_, rfl, .inl rfl⟩ ?_
        refine on rfl rfl rfl ⟨_, rfl, .inl rfl⟩ ?_
        refine on rfl rfl rfl ⟨_, rfl, .inl rfl⟩ ?_
        refine on rfl rfl rfl ⟨_, rfl, .inr rfl⟩ ?_
        refine on rfl rfl rfl ⟨_, rfl, .inr rfl⟩ ?_
        refine on rfl rfl rfl ⟨_, rfl, .inr rfl⟩ ?_
        refine on rfl rfl rfl ⟨_, rfl, .inr rfl⟩ ?_
        refine on rfl rfl rfl ⟨_, rfl, .inr rfl⟩ ?_
        refine on rfl rfl rfl ⟨_, rfl, .inl rfl⟩ ?_
        refine o1 rfl (det_pickT rfl rfl) rfl rfl trivial ?_
        refine be rfl ?_
        refine k_then ?_
        refine t_condT rfl ?_
        refine t_seq ?_
        refine b0 ?_
        refine o1 rfl (det_build rfl (fun w => bld24_ w)) rfl rfl trivial ?_
        refine stN nofun rfl tN24 rfl rfl rfl .head rfl trivial rfl rfl ?_
        refine o1 rfl (det_assign rfl) rfl rfl trivial ?_
        refine be rfl ?_
        refine k_then ?_
        refine t_ret (k_thenR (?_))
        refine ret_any (vs := [_, _]) rfl rfl ⟨(.cellN tN24 rfl rfl (.head _) rfl), (.tmp rfl), trivial⟩ rfl (fun w1 hs => ?_)
        have hq : retQ cap ps x = ((0, []), 2) := by unfold retQ; rw [if_neg (by rw [hR]; simp), if_neg (by rw [hX]; simp), if_pos (by grind [restQ])]
        exact end_fresh hs fun F2 _ _ _ => ⟨_, by rw [hq]; rfl, by rw [hq]; exact QV.nil⟩
      ·
        refine o1 rfl (det_fieldAddr fld24_1 rfl) rfl rfl ⟨_, rfl, rfl⟩ ?_
        refine o1 rfl (det_load1 t1_22 rfl rfl (.tail _ (.tail _ (.head _))) rfl) rfl rfl ⟨_, rfl, rfl⟩ ?_
        refine o1 rfl (det_lenS sl22 rfl) rfl rfl ⟨_, rfl, rfl⟩ ?_
        refine o1 rfl (det_gtr rfl rfl) rfl rfl ⟨_, rfl, rfl⟩ ?_
        refine o2P decide_eq_true_iff rfl (det_move rfl) rfl rfl ⟨_, rfl, rfl⟩ (fun hb => ?_) (fun hb => ?_)
        ·
          refine o1 rfl (det_fieldAddr fld24_1 rfl) rfl rfl ⟨_, rfl, rfl⟩ ?_
          refine o1 rfl (det_load1 t1_22 rfl rfl (.tail _ (.tail _ (.head _))) rfl) rfl rfl ⟨_, rfl, rfl⟩ ?_
          have hlt0 : 0 < ps.length := by omega
          obtain ⟨A, rfl⟩ := hP.some hlt0
          have hat0 := atP_get hlt0
          first | (refine o1 rfl (det_indexAddr sl22 rfl rfl ?_) rfl rfl ⟨_, rfl, rfl⟩ ?_; (· (first | decide | omega)))
          refine o1 rfl (det_fieldAddr fld28_2 rfl) rfl rfl ⟨_, rfl, rfl⟩ ?_
          refine o1 rfl (det_loadK t1_4 rfl (hP.cell (i := 0) (k := 0) (j := 6) (u := .bool ps[0].rest) rfl hlt0 rfl)) rfl rfl ⟨_, rfl, rfl⟩ ?_
          refine o1 rfl (det_pickT rfl rfl) rfl rfl ⟨_, rfl, rfl⟩ ?_
          refine o1 rfl (det_pickF rfl rfl) rfl rfl trivial ?_
          refine be rfl ?_
          refine k_then ?_
          refine t_condP Iff.rfl rfl (fun hb => ?_) (fun hb => ?_)
          ·
            refine t_seq ?_
            refine b0 ?_
            refine o1 rfl (det_build rfl (fun w => bld24_ w)) rfl rfl trivial ?_
            refine stN nofun rfl tN24 rfl rfl rfl .head rfl trivial rfl rfl ?_
            refine o1 rfl (det_assign rfl) rfl rfl trivial ?_
            refine be rfl ?_
            refine k_then ?_
            refine t_ret (k_thenR (?_))
            refine ret_any (vs := [_, _]) rfl rfl ⟨(.cellN tN24 rfl rfl (.head _) rfl), (.tmp rfl), trivial⟩ rfl (fun w1 hs => ?_)
            have hq : retQ cap ps x = ((0, []), 2) := by unfold retQ; rw [if_neg (by rw [hR]; simp), if_neg (by rw [hX]; simp), if_pos (by grind [restQ])]
            exact end_fresh hs fun F2 _ _ _ => ⟨_, by rw [hq]; rfl, by rw [hq]; exact QV.nil⟩
          ·
            refine t_skip ?_
            refine k_then ?_
            refine t_seq ?_
            refine b0 ?_
            refine o1 rfl (det_loadN tN28 rfl rfl (.tail _ (.head _)) rfl) rfl rfl trivial ?_
            refine om1 rfl (new_buildSlice rfl (fun w => bsl22_1_0 _ _ _ _ _ _ _ w)) rfl rfl trivial (fun p38 => ?_)
            refine o1 rfl (det_fieldAddr fld24_1 rfl) rfl rfl trivial ?_
            refine o1 rfl (det_load1 t1_22 rfl rfl (.tail _ (.tail _ (.tail _ (.head _)))) rfl) rfl rfl trivial ?_
            refine oAppH (b := [_]) (post := [_, _, _]) (m := n) (news := rowsV ptv ps) nofun rfl ap22 rfl rfl rfl trivial (SlO.lit (n := 1) (xs := ptv x) rfl (by decide)) (by rw [rowsV_len ptv_len, hP.len]) (fun w hs j u hj => by obtain ⟨b, hb, h⟩ := hP.flat ptv_len (by decide) j u hj; exact ⟨b, hb, hs.know _ _ h⟩) (rowsV_one_cell ps) (by omega) (by simp only [maxLen]; omega) (fun A1 c1 b1 hS1 => ?_)
            replace hS1 : SlO 28 7 (.slice A1 (1 + n) c1) (1 + n) (rowsV ptv (x :: ps)) b1 := hS1
            obtain ⟨A2, c2, hv2, hn2, hm2, -⟩ := hS1.slice
            refine o1 rfl (det_fieldAddr fld24_1 rfl) rfl rfl trivial ?_
            refine st1 nofun rfl t1_22 rfl rfl rfl (.tail (.tail .head)) rfl trivial rfl ?_
            refine be rfl ?_
            refine k_then ?_
            refine t_seq ?_
            refine b0 ?_
            refine o1 rfl (det_loadN tN24 rfl rfl (.tail _ (.tail _ (.head _))) rfl) rfl rfl trivial ?_
            refine stN nofun rfl tN24 rfl rfl rfl .head rfl trivial rfl rfl ?_
            refine o1 rfl (det_assign rfl) rfl rfl trivial ?_
            refine be rfl ?_
            refine k_then ?_
            refine t_ret ?_
            refine ret_any (vs := [_, _]) rfl rfl ⟨(.cellN tN24 rfl rfl (.head _) rfl), (.tmp rfl), trivial⟩ rfl (fun w1 hs => ?_)
            have hq : retQ cap ps x = ((cap, x :: ps), 0) := by unfold retQ; rw [if_neg (by rw [hR]; simp), if_neg (by rw [hX]; simp), if_neg (by grind [restQ])]
            exact end_fresh hs fun F2 h1 _ h3 => ⟨_, by rw [hq]; rfl, by rw [hq]; exact SlO.qv hS1 (fun p cs t fr k hm => h3 p cs t fr k (.tail _ (.tail _ (.tail _ hm)))) rfl⟩
        ·
          refine on rfl rfl rfl ⟨_, rfl, .inl rfl⟩ ?_
          refine on rfl rfl rfl ⟨_, rfl, .inl rfl⟩ ?_
          refine on rfl rfl rfl ⟨_, rfl, .inl rfl⟩ ?_
          refine on rfl rfl rfl ⟨_, rfl, .inl rfl⟩ ?_
          refine on rfl rfl rfl ⟨_, rfl, .inl rfl⟩ ?_
          refine o1 rfl (det_pickF rfl rfl) rfl rfl ⟨_, rfl, rfl⟩ ?_
          refine o1 rfl (det_pickF rfl rfl) rfl rfl trivial ?_
          refine be rfl ?_
          refine k_then ?_
          refine t_condF rfl ?_
          refine t_skip ?_
          refine k_then ?_
          refine t_seq ?_
          refine b0 ?_
          refine o1 rfl (det_loadN tN28 rfl rfl (.tail _ (.head _)) rfl) rfl rfl trivial ?_
          refine om1 rfl (new_buildSlice rfl (fun w => bsl22_1_0 _ _ _ _ _ _ _ w)) rfl rfl trivial (fun p38 => ?_)
          refine o1 rfl (det_fieldAddr fld24_1 rfl) rfl rfl trivial ?_
          refine o1 rfl (det_load1 t1_22 rfl rfl (.tail _ (.tail _ (.tail _ (.head _)))) rfl) rfl rfl trivial ?_
          refine oAppH (b := [_]) (post := [_, _, _]) (m := n) (news := rowsV ptv ps) nofun rfl ap22 rfl rfl rfl trivial (SlO.lit (n := 1) (xs := ptv x) rfl (by decide)) (by rw [rowsV_len ptv_len, hP.len]) (fun w hs j u hj => by obtain ⟨b, hb, h⟩ := hP.flat ptv_len (by decide) j u hj; exact ⟨b, hb, hs.know _ _ h⟩) (rowsV_one_cell ps) (by omega) (by simp only [maxLen]; omega) (fun A1 c1 b1 hS1 => ?_)
          replace hS1 : SlO 28 7 (.slice A1 (1 + n) c1) (1 + n) (rowsV ptv (x :: ps)) b1 := hS1
          obtain ⟨A2, c2, hv2, hn2, hm2, -⟩ := hS1.slice
          refine o1 rfl (det_fieldAddr fld24_1 rfl) rfl rfl trivial ?_
          refine st1 nofun rfl t1_22 rfl rfl rfl (.tail (.tail .head)) rfl trivial rfl ?_
          refine be rfl ?_
          refine k_then ?_
          refine t_seq ?_
          refine b0 ?_
          refine o1 rfl (det_loadN tN24 rfl rfl (.tail _ (.tail _ (.head _))) rfl) rfl rfl trivial ?_
          refine stN nofun rfl tN24 rfl rfl rfl .head rfl trivial rfl rfl ?_
          refine o1 rfl (det_assign rfl) rfl rfl trivial ?_
          refine be rfl ?_
          refine k_then ?_
          refine t_ret ?_
          refine ret_any (vs := [_, _]) rfl rfl ⟨(.cellN tN24 rfl rfl (.head _) rfl), (.tmp rfl), trivial⟩ rfl (fun w1 hs => ?_)
          have hq : retQ cap ps x = ((cap, x :: ps), 0) := by unfold retQ; rw [if_neg (by rw [hR]; simp), if_neg (by rw [hX]; simp), if_neg (by grind [restQ])]
          exact end_fresh hs fun F2 h1 _ h3 => ⟨_, by rw [hq]; rfl, by rw [hq]; exact SlO.qv hS1 (fun p cs t fr k hm => h3 p cs t fr k (.tail _ (.tail _ (.tail _ hm)))) rfl⟩

end Go.Proofs.Qu
