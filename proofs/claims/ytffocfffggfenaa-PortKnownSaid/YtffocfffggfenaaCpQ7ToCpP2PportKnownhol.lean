/-
  The texts CpQ7 to CpP2, one after the other.
-/
import Derived.Test.YtffocfffggfenaaCpC6ToCpQ6PportKnownhol
import Derived.Test.YtffocfffggfenaaGtPlainToPoPlain14PportKnownhol
/-
  Walks through layers 36, 37 and 38 and their references.
-/
namespace Go.Proofs.Cp
open Go Go.Eng Go.Qu
set_option maxRecDepth 4000
theorem head_ok {w : World} {F : Know} (hF : ∀ a v, F a = some v → w.cell? a = some v) {A : Option Addr} {n c : Nat} {cap : Int} {ps : List Pt} (hP : PK F A n ps) (hnb : n ≤ 65536) : Pure Try.prog 76 [.agg [.int .i64 cap, .slice A n c].toArray] w (.tuple [.agg [.int .i64 (headQ cap ps).1.it.st, .int .i64 (headQ cap ps).1.it.sq, .int .i64 (headQ cap ps).1.it.cl, .int .i64 (headQ cap ps).1.it.sz, .int .i64 (headQ cap ps).1.it.sn, .int .i64 (headQ cap ps).1.left, .bool (headQ cap ps).1.rest].toArray, .bool (headQ cap ps).2].toArray) := by
  refine fn_pure (F := F) Try.func76 rfl Try.ntmps76 rfl hF ?_
  refine t_seq ?_
  refine b0 ?_
  refine om1 rfl (new_boxN rfl) rfl rfl trivial (fun p1 => ?_)
  refine om1 rfl (new_alloc z57) rfl rfl trivial (fun p2 => ?_)
  refine o1 rfl (det_assign rfl) rfl rfl trivial ?_
  refine be rfl ?_
  refine k_then ?_
  refine t_seq ?_
  refine t_seq ?_
  refine b0 ?_
  have hnl := hP.len
  refine o1 rfl (det_loadN tN73 rfl rfl (.tail _ (.head _)) rfl) rfl rfl trivial ?_
  refine o1 rfl (det_call hb73 rfl rfl (fun w1 hs => qcheck_ok hs.know hP hnb)) rfl rfl trivial ?_
  refine o1 rfl (det_neq rfl rfl) rfl rfl trivial ?_
  refine o2P bne_iff_ne rfl (det_move rfl) rfl rfl trivial (fun hb => ?_) (fun hb => ?_)
  ·
    refine on rfl rfl rfl ⟨_, rfl, .inl rfl⟩ ?_
    refine on rfl rfl rfl ⟨_, rfl, .inl rfl⟩ ?_
    refine on rfl rfl rfl ⟨_, rfl, .inl rfl⟩ ?_
    refine on rfl rfl rfl ⟨_, rfl, .inl rfl⟩ ?_
    refine o1 rfl (det_pickT rfl rfl) rfl rfl trivial ?_
    refine be rfl ?_
    refine k_then ?_
    refine t_condT rfl ?_
    refine t_seq ?_
    refine b0 ?_
    refine o1 rfl (det_build rfl (fun w => bld57_ w)) rfl rfl trivial ?_
    refine stN nofun rfl tN57 rfl rfl rfl .head rfl trivial rfl rfl ?_
    refine o1 rfl (det_assign rfl) rfl rfl trivial ?_
    refine be rfl ?_
    refine k_then ?_
    refine t_ret (k_thenR (?_))
    refine ret_any (vs := [_, _]) rfl rfl ⟨(.cellN tN57 rfl rfl (.head _) rfl), (.tmp rfl), trivial⟩ rfl (fun w1 hs => ?_)
    have hq : headQ cap ps = (dPt, false) := by unfold headQ; rw [if_neg (by grind)]
    exact ⟨by rw [hq]; rfl, hs.keep⟩
  ·
    refine o1 rfl (det_fieldAddr fld73_1 rfl) rfl rfl ⟨_, rfl, rfl⟩ ?_
    refine o1 rfl (det_load1 t1_27 rfl rfl (.tail _ (.head _)) rfl) rfl rfl ⟨_, rfl, rfl⟩ ?_
    refine o1 rfl (det_lenS sl27 rfl) rfl rfl ⟨_, rfl, rfl⟩ ?_
    refine o1 rfl (det_eql rfl rfl) rfl rfl ⟨_, rfl, rfl⟩ ?_
    refine o1 rfl (det_pickF rfl rfl) rfl rfl trivial ?_
    refine be rfl ?_
    refine k_then ?_
    refine t_condP beq_iff_eq rfl (fun hb => ?_) (fun hb => ?_)
    ·
      refine t_seq ?_
      refine b0 ?_
      refine o1 rfl (det_build rfl (fun w => bld57_ w)) rfl rfl trivial ?_
      refine stN nofun rfl tN57 rfl rfl rfl .head rfl trivial rfl rfl ?_
      refine o1 rfl (det_assign rfl) rfl rfl trivial ?_
      refine be rfl ?_
      refine k_then ?_
      refine t_ret (k_thenR (?_))
      refine ret_any (vs := [_, _]) rfl rfl ⟨(.cellN tN57 rfl rfl (.head _) rfl), (.tmp rfl), trivial⟩ rfl (fun w1 hs => ?_)
      have hq : headQ cap ps = (dPt, false) := by unfold headQ; rw [if_neg (by grind)]
      exact ⟨by rw [hq]; rfl, hs.keep⟩
    ·
      refine t_skip ?_
      refine k_then ?_
      refine t_seq ?_
      refine b0 ?_
      refine o1 rfl (det_fieldAddr fld73_1 rfl) rfl rfl trivial ?_
      refine o1 rfl (det_load1 t1_27 rfl rfl (.tail _ (.head _)) rfl) rfl rfl trivial ?_
      have hR : rightQ cap ps = true := by grind
      have hlt0 : 0 < ps.length := by omega
      obtain ⟨A, rfl⟩ := hP.some hlt0
      have hat0 := atP_get hlt0
      first | (refine o1 rfl (det_indexAddr sl27 rfl rfl ?_) rfl rfl trivial ?_; (· (first | decide | omega)))
      refine o1 rfl (det_loadKN tN57 rfl (ptv_len ps[0]) (hP.cells (i := 0) (k := 0) rfl hlt0 (ptv_len _))) rfl rfl trivial ?_
      refine stN nofun rfl tN57 rfl rfl rfl .head rfl trivial rfl rfl ?_
      refine o1 rfl (det_assign rfl) rfl rfl trivial ?_
      refine be rfl ?_
      refine k_then ?_
      refine t_ret ?_
      refine ret_any (vs := [_, _]) rfl rfl ⟨(.cellN tN57 rfl rfl (.head _) rfl), (.tmp rfl), trivial⟩ rfl (fun w1 hs => ?_)
      have hq : headQ cap ps = (ps[0], true) := by unfold headQ; rw [if_pos ⟨hR, by omega⟩, hat0]
      exact ⟨by rw [hq]; rfl, hs.keep⟩
theorem pop_ok {w : World} {F : Know} (hF : ∀ a v, F a = some v → w.cell? a = some v) {A : Option Addr} {n c : Nat} {cap : Int} {ps : List Pt} (hP : PK F A n ps) (hnb : n ≤ 65536) (hnc : n ≤ c) (hcm : c ≤ maxLen) : CallsF Try.prog 118 [.agg [.int .i64 cap, .slice A n c].toArray] w F (fun v F2 => ∃ q, v = .tuple [q, .agg [.int .i64 (popQ cap ps).2.1.it.st, .int .i64 (popQ cap ps).2.1.it.sq, .int .i64 (popQ cap ps).2.1.it.cl, .int .i64 (popQ cap ps).2.1.it.sz, .int .i64 (popQ cap ps).2.1.it.sn, .int .i64 (popQ cap ps).2.1.left, .bool (popQ cap ps).2.1.rest].toArray, .int .i64 (popQ cap ps).2.2].toArray ∧ QV F2 q (popQ cap ps).1.1 (popQ cap ps).1.2) := by
  refine fn_fresh (F := F) Try.func118 rfl Try.ntmps118 rfl hF ?_
  refine t_seq ?_
  refine b0 ?_
  refine om1 rfl (new_boxN rfl) rfl rfl trivial (fun p1 => ?_)
  refine om1 rfl (new_alloc z73) rfl rfl trivial (fun p2 => ?_)
  refine om1 rfl (new_alloc z57) rfl rfl trivial (fun p3 => ?_)
  refine o1 rfl (det_assign rfl) rfl rfl trivial ?_
  refine be rfl ?_
  refine k_then ?_
  refine t_seq ?_
  refine t_seq ?_
  refine b0 ?_
  refine o1 rfl (det_loadN tN73 rfl rfl (.tail _ (.tail _ (.head _))) rfl) rfl rfl trivial ?_
  refine o1 rfl (det_call hb73 rfl rfl (fun w1 hs => qcheck_ok hs.know hP hnb)) rfl rfl trivial ?_
  refine o1 rfl (det_assign rfl) rfl rfl trivial ?_
  refine be rfl ?_
  refine k_then ?_
  refine t_seq ?_
  refine b0 ?_
  refine o1 rfl (det_move rfl) rfl rfl trivial ?_
  refine o1 rfl (det_neq rfl rfl) rfl rfl trivial ?_
  refine be rfl ?_
  refine k_then ?_
  refine t_condP bne_iff_ne rfl (fun hb => ?_) (fun hb => ?_)
  ·
    refine t_seq ?_
    refine b0 ?_
    refine o1 rfl (det_build rfl (fun w => bld73_ w)) rfl rfl trivial ?_
    refine o1 rfl (det_build rfl (fun w => bld57_ w)) rfl rfl trivial ?_
    refine o1 rfl (det_move rfl) rfl rfl trivial ?_
    refine stN nofun rfl tN73 rfl rfl rfl (.tail .head) rfl trivial rfl rfl ?_
    refine stN nofun rfl tN57 rfl rfl rfl .head rfl trivial rfl rfl ?_
    refine o1 rfl (det_assign rfl) rfl rfl trivial ?_
    refine be rfl ?_
    refine k_then ?_
    refine t_ret (k_thenR (?_))
    refine ret_any (vs := [_, _, _]) rfl rfl ⟨(.cellN tN73 rfl rfl (.tail _ (.head _)) rfl), (.cellN tN57 rfl rfl (.head _) rfl), (.tmp rfl), trivial⟩ rfl (fun w1 hs => ?_)
    have hR0 : rightQ cap ps = false := by grind
    have hq : popQ cap ps = ((0, []), dPt, 461) := by unfold popQ; rw [if_pos hR0]
    exact end_fresh hs fun F2 _ _ _ => ⟨_, by rw [hq, hR0]; rfl, by rw [hq]; exact QV.nil⟩
  ·
    refine t_skip ?_
    refine k_then ?_
    refine t_seq ?_
    refine t_seq ?_
    refine b0 ?_
    have hR : rightQ cap ps = true := by grind
    have hnl := hP.len
    refine o1 rfl (det_fieldAddr fld73_1 rfl) rfl rfl trivial ?_
    refine o1 rfl (det_load1 t1_27 rfl rfl (.tail _ (.tail _ (.head _))) rfl) rfl rfl trivial ?_
    refine o1 rfl (det_lenS sl27 rfl) rfl rfl trivial ?_
    refine o1 rfl (det_eql rfl rfl) rfl rfl trivial ?_
    refine be rfl ?_
    refine k_then ?_
    refine t_condP beq_iff_eq rfl (fun hb => ?_) (fun hb => ?_)
    ·
      refine t_seq ?_
      refine b0 ?_
      refine o1 rfl (det_build rfl (fun w => bld73_ w)) rfl rfl trivial ?_
      refine o1 rfl (det_build rfl (fun w => bld57_ w)) rfl rfl trivial ?_
      refine stN nofun rfl tN73 rfl rfl rfl (.tail .head) rfl trivial rfl rfl ?_
      refine stN nofun rfl tN57 rfl rfl rfl .head rfl trivial rfl rfl ?_
      refine o1 rfl (det_assign rfl) rfl rfl trivial ?_
      refine be rfl ?_
      refine k_then ?_
      refine t_ret (k_thenR (?_))
      refine ret_any (vs := [_, _, _]) rfl rfl ⟨(.cellN tN73 rfl rfl (.tail _ (.head _)) rfl), (.cellN tN57 rfl rfl (.head _) rfl), (.tmp rfl), trivial⟩ rfl (fun w1 hs => ?_)
      have hq : popQ cap ps = ((0, []), dPt, 4) := by unfold popQ; rw [if_neg (by rw [hR]; simp), if_pos (by omega)]
      exact end_fresh hs fun F2 _ _ _ => ⟨_, by rw [hq]; rfl, by rw [hq]; exact QV.nil⟩
    ·
      refine t_skip ?_
      refine k_then ?_
      refine t_seq ?_
      refine b0 ?_
      refine o1 rfl (det_fieldAddr fld73_1 rfl) rfl rfl trivial ?_
      refine o1 rfl (det_load1 t1_27 rfl rfl (.tail _ (.tail _ (.head _))) rfl) rfl rfl trivial ?_
      have hlt0 : 0 < ps.length := by omega
      obtain ⟨A, rfl⟩ := hP.some hlt0
      have hat0 := atP_get hlt0
      first | (refine o1 rfl (det_indexAddr sl27 rfl rfl ?_) rfl rfl trivial ?_; (· (first | decide | omega)))
      refine o1 rfl (det_loadKN tN57 rfl (ptv_len ps[0]) (hP.cells (i := 0) (k := 0) rfl hlt0 (ptv_len _))) rfl rfl trivial ?_
      refine om1 rfl (new_alloc z57) rfl rfl trivial (fun p6 => ?_)
      refine stN nofun rfl tN57 rfl rfl rfl .head rfl trivial rfl rfl ?_
      refine be rfl ?_
      refine k_then ?_
      refine t_seq ?_
      refine b0 ?_
      refine o1 rfl (det_fieldAddr fld73_1 rfl) rfl rfl trivial ?_
      refine o1 rfl (det_load1 t1_27 rfl rfl (.tail _ (.tail _ (.tail _ (.head _)))) rfl) rfl rfl trivial ?_
      refine o1 rfl (det_sliceLo 1 sl27 rfl rfl rfl (by omega) hnc) rfl rfl trivial ?_
      refine o1 rfl (det_fieldAddr fld73_1 rfl) rfl rfl trivial ?_
      refine st1 nofun rfl t1_27 rfl rfl rfl (.tail (.tail (.tail .head))) rfl trivial rfl ?_
      refine be rfl ?_
      refine k_then ?_
      refine t_seq ?_
      refine bD mixed ?_
      refine r_bar 5 2 [] [0, 1] _ (by kernel_rfl) (.cons_cons _ (.cons_cons _ (.cons _ (.refl _)))) ?_
      refine s1 rfl (det_loadN tN73 rfl rfl (.tail _ (.tail _ (.head _))) rfl) rfl rfl trivial rfl ?_
      refine s1 rfl (det_loadN tN57 rfl rfl (.head _) rfl) rfl rfl trivial rfl ?_
      refine sg_nil ⟨?_, ?_⟩
      rotate_left
      ·
        exact bar_stN rfl tN73 rfl rfl rfl (.tail (.tail .head)) rfl trivial rfl rfl (.tail _ (.tail _ (.head _))) (.cons_cons _ (.cons_cons _ (.cons _ (.refl _))))
      refine stN (fun _ => by kernel_rfl) rfl tN73 rfl rfl rfl (.tail (.tail .head)) rfl trivial rfl rfl ?_
      refine stN (fun _ => by kernel_rfl) rfl tN57 rfl rfl rfl (.tail .head) rfl trivial rfl rfl ?_
      refine r_seg 5 5 [] [4] (by kernel_rfl) ?_
      refine s1 rfl (det_assign rfl) rfl rfl trivial rfl ?_
      refine sg_nil ?_
      refine be rfl ?_
      refine k_then ?_
      refine t_ret ?_
      refine ret_any (vs := [_, _, _]) rfl rfl ⟨(.cellN tN73 rfl rfl (.tail _ (.tail _ (.head _))) rfl), (.cellN tN57 rfl rfl (.tail _ (.head _)) rfl), (.tmp rfl), trivial⟩ rfl (fun w1 hs => ?_)
      have hq : popQ cap ps = ((cap, ps.drop 1), ps[0], 0) := by unfold popQ; rw [if_neg (by rw [hR]; simp), if_neg (by omega), hat0]
      exact end_fresh hs fun F2 h1 _ _ => ⟨_, by rw [hq]; rfl, by rw [hq]; exact QV.mk ((hP.mono h1).from 1 (by omega) hnc) (by omega) (by omega)⟩
theorem return_ok {w : World} {F : Know} (hF : ∀ a v, F a = some v → w.cell? a = some v) {A : Option Addr} {n c : Nat} {cap : Int} {ps : List Pt} (hP : PK F A n ps) (hnb : n ≤ 65536) (hnc : n ≤ c) (hcm : c ≤ maxLen) {x : Pt} : CallsF Try.prog 103 [.agg [.int .i64 cap, .slice A n c].toArray, .agg [.int .i64 x.it.st, .int .i64 x.it.sq, .int .i64 x.it.cl, .int .i64 x.it.sz, .int .i64 x.it.sn, .int .i64 x.left, .bool x.rest].toArray] w F (fun v F2 => ∃ q, v = .tuple [q, .int .i64 (retQ cap ps x).2].toArray ∧ QV F2 q (retQ cap ps x).1.1 (retQ cap ps x).1.2) := by
  refine fn_fresh (F := F) Try.func103 rfl Try.ntmps103 rfl hF ?_
  refine t_seq ?_
  refine b0 ?_
  refine om1 rfl (new_boxN rfl) rfl rfl trivial (fun p2 => ?_)
  refine om1 rfl (new_boxN rfl) rfl rfl trivial (fun p3 => ?_)
  refine om1 rfl (new_alloc z73) rfl rfl trivial (fun p4 => ?_)
  refine o1 rfl (det_assign rfl) rfl rfl trivial ?_
  refine be rfl ?_
  refine k_then ?_
  refine t_seq ?_
  refine t_seq ?_
  refine b0 ?_
  refine o1 rfl (det_loadN tN73 rfl rfl (.tail _ (.tail _ (.head _))) rfl) rfl rfl trivial ?_
  refine o1 rfl (det_call hb73 rfl rfl (fun w1 hs => qcheck_ok hs.know hP hnb)) rfl rfl trivial ?_
  refine o1 rfl (det_assign rfl) rfl rfl trivial ?_
  refine be rfl ?_
  refine k_then ?_
  refine t_seq ?_
  refine b0 ?_
  refine o1 rfl (det_move rfl) rfl rfl trivial ?_
  refine o1 rfl (det_neq rfl rfl) rfl rfl trivial ?_
  refine be rfl ?_
  refine k_then ?_
  refine t_condP bne_iff_ne rfl (fun hb => ?_) (fun hb => ?_)
  ·
    refine t_seq ?_
    refine b0 ?_
    refine o1 rfl (det_build rfl (fun w => bld73_ w)) rfl rfl trivial ?_
    refine o1 rfl (det_move rfl) rfl rfl trivial ?_
    refine stN nofun rfl tN73 rfl rfl rfl .head rfl trivial rfl rfl ?_
    refine o1 rfl (det_assign rfl) rfl rfl trivial ?_
    refine be rfl ?_
    refine k_then ?_
    refine t_ret (k_thenR (?_))
    refine ret_any (vs := [_, _]) rfl rfl ⟨(.cellN tN73 rfl rfl (.head _) rfl), (.tmp rfl), trivial⟩ rfl (fun w1 hs => ?_)
    have hR0 : rightQ cap ps = false := by grind
    have hq : retQ cap ps x = ((0, []), 461) := by unfold retQ; rw [if_pos hR0]
    exact end_fresh hs fun F2 _ _ _ => ⟨_, by rw [hq, hR0]; rfl, by rw [hq]; exact QV.nil⟩
  ·
    refine t_skip ?_
    refine k_then ?_
    refine t_seq ?_
    refine t_seq ?_
    refine b0 ?_
    have hR : rightQ cap ps = true := by grind
    have hnl := hP.len
    refine o1 rfl (det_loadN tN57 rfl rfl (.tail _ (.head _)) rfl) rfl rfl trivial ?_
    refine o1 rfl (det_call hb53 rfl rfl (fun w1 hs => cpart_ok hs.know)) rfl rfl trivial ?_
    refine o1 rfl (det_assign rfl) rfl rfl trivial ?_
    refine be rfl ?_
    refine k_then ?_
    refine t_seq ?_
    refine b0 ?_
    refine o1 rfl (det_move rfl) rfl rfl trivial ?_
    refine o1 rfl (det_neq rfl rfl) rfl rfl trivial ?_
    refine be rfl ?_
    refine k_then ?_
    refine t_condP bne_iff_ne rfl (fun hb => ?_) (fun hb => ?_)
    ·
      refine t_seq ?_
      refine b0 ?_
      refine o1 rfl (det_build rfl (fun w => bld73_ w)) rfl rfl trivial ?_
      refine o1 rfl (det_move rfl) rfl rfl trivial ?_
      refine stN nofun rfl tN73 rfl rfl rfl .head rfl trivial rfl rfl ?_
      refine o1 rfl (det_assign rfl) rfl rfl trivial ?_
      refine be rfl ?_
      refine k_then ?_
      refine t_ret (k_thenR (?_))
      refine ret_any (vs := [_, _]) rfl rfl ⟨(.cellN tN73 rfl rfl (.head _) rfl), (.tmp rfl), trivial⟩ rfl (fun w1 hs => ?_)
      have hX0 : okP x = false := by grind
      have hq : retQ cap ps x = ((0, []), 460) := by unfold retQ; rw [if_neg (by rw [hR]; simp), if_pos hX0]
      exact end_fresh hs fun F2 _ _ _ => ⟨_, by rw [hq, hX0]; rfl, by rw [hq]; exact QV.nil⟩
    ·
      refine t_skip ?_
      refine k_then ?_
      refine t_seq ?_
      refine t_seq ?_
      refine b0 ?_
      have hX : okP x = true := by grind
      refine o1 rfl (det_fieldAddr fld57_2 rfl) rfl rfl trivial ?_
      refine o1 rfl (det_load1 t1_4 rfl rfl (.tail _ (.head _)) rfl) rfl rfl trivial ?_
      refine o1 rfl (det_not rfl) rfl rfl trivial ?_
      refine o2P not_iff_false rfl (det_move rfl) rfl rfl trivial (fun hb => ?_) (fun hb => ?_)
      ·
        refine on rfl rfl rfl ⟨_, rfl, .inl rfl⟩ ?_
        refine on rfl rfl rfl ⟨_, rfl, .inl rfl⟩ ?_
        refine on rfl rfl rfl ⟨_, rfl, .inl rfl⟩ ?_
        refine on rfl rfl rfl ⟨_, rfl, .inl rfl⟩ ?_
        refine on rfl rfl rfl ⟨_, rfl, .inl rfl⟩ ?_
        refine on rfl rfl rfl ⟨_, rfl, .inr rfl⟩ ?_
        refine on rfl rfl rfl ⟨_, rfl, .inr rfl⟩ ?_
        refine on rfl rfl rfl ⟨_, rfl, .inr rfl⟩ ?_
        refine on rfl rfl rfl ⟨_, rfl, .inr rfl⟩ ?_
        refine on rfl rfl rfl ⟨_, rfl, .inr rfl⟩ ?_
        refine on rfl rfl rfl ⟨_, rfl, .inl rfl⟩ ?_
        refine o1 rfl (det_pickT rfl rfl) rfl rfl trivial ?_
        refine be rfl ?_
        refine k_then ?_
        refine t_condT rfl ?_
        refine t_seq ?_
        refine b0 ?_
        refine o1 rfl (det_build rfl (fun w => bld73_ w)) rfl rfl trivial ?_
        refine stN nofun rfl tN73 rfl rfl rfl .head rfl trivial rfl rfl ?_
        refine o1 rfl (det_assign rfl) rfl rfl trivial ?_
        refine be rfl ?_
        refine k_then ?_
        refine t_ret (k_thenR (?_))
        refine ret_any (vs := [_, _]) rfl rfl ⟨(.cellN tN73 rfl rfl (.head _) rfl), (.tmp rfl), trivial⟩ rfl (fun w1 hs => ?_)
        have hq : retQ cap ps x = ((0, []), 2) := by unfold retQ; rw [if_neg (by rw [hR]; simp), if_neg (by rw [hX]; simp), if_pos (by grind [restQ])]
        exact end_fresh hs fun F2 _ _ _ => ⟨_, by rw [hq]; rfl, by rw [hq]; exact QV.nil⟩
      ·
        refine o1 rfl (det_fieldAddr fld73_1 rfl) rfl rfl ⟨_, rfl, rfl⟩ ?_
        refine o1 rfl (det_load1 t1_27 rfl rfl (.tail _ (.tail _ (.head _))) rfl) rfl rfl ⟨_, rfl, rfl⟩ ?_
        refine o1 rfl (det_lenS sl27 rfl) rfl rfl ⟨_, rfl, rfl⟩ ?_
        refine o1 rfl (det_gtr rfl rfl) rfl rfl ⟨_, rfl, rfl⟩ ?_
        refine o2P decide_eq_true_iff rfl (det_move rfl) rfl rfl ⟨_, rfl, rfl⟩ (fun hb => ?_) (fun hb => ?_)
        ·
          refine o1 rfl (det_fieldAddr fld73_1 rfl) rfl rfl ⟨_, rfl, rfl⟩ ?_
          refine o1 rfl (det_load1 t1_27 rfl rfl (.tail _ (.tail _ (.head _))) rfl) rfl rfl ⟨_, rfl, rfl⟩ ?_
          have hlt0 : 0 < ps.length := by omega
          obtain ⟨A, rfl⟩ := hP.some hlt0
          have hat0 := atP_get hlt0
          first | (refine o1 rfl (det_indexAddr sl27 rfl rfl ?_) rfl rfl ⟨_, rfl, rfl⟩ ?_; (· (first | decide | omega)))
          refine o1 rfl (det_fieldAddr fld57_2 rfl) rfl rfl ⟨_, rfl, rfl⟩ ?_
          refine o1 rfl (det_loadK t1_4 rfl (hP.cell (i := 0) (k := 0) (j := 6) (u := .bool ps[0].rest) rfl hlt0 rfl)) rfl rfl ⟨_, rfl, rfl⟩ ?_
          refine o1 rfl (det_pickT rfl rfl) rfl rfl ⟨_, rfl, rfl⟩ ?_
          refine o1 rfl (det_pickF rfl rfl) rfl rfl trivial ?_
          refine be rfl ?_
          refine k_then ?_
          refine t_condP Iff.rfl rfl (fun hb => ?_) (fun hb => ?_)
          ·
            refine t_seq ?_
            refine b0 ?_
            refine o1 rfl (det_build rfl (fun w => bld73_ w)) rfl rfl trivial ?_
            refine stN nofun rfl tN73 rfl rfl rfl .head rfl trivial rfl rfl ?_
            refine o1 rfl (det_assign rfl) rfl rfl trivial ?_
            refine be rfl ?_
            refine k_then ?_
            refine t_ret (k_thenR (?_))
            refine ret_any (vs := [_, _]) rfl rfl ⟨(.cellN tN73 rfl rfl (.head _) rfl), (.tmp rfl), trivial⟩ rfl (fun w1 hs => ?_)
            have hq : retQ cap ps x = ((0, []), 2) := by unfold retQ; rw [if_neg (by rw [hR]; simp), if_neg (by rw [hX]; simp), if_pos (by grind [restQ])]
            exact end_fresh hs fun F2 _ _ _ => ⟨_, by rw [hq]; rfl, by rw [hq]; exact QV.nil⟩
          ·
            refine t_skip ?_
            refine k_then ?_
            refine t_seq ?_
            refine b0 ?_
            refine o1 rfl (det_loadN tN57 rfl rfl (.tail _ (.head _)) rfl) rfl rfl trivial ?_
            refine om1 rfl (new_buildSlice rfl (fun w => bsl27_1_0 _ _ _ _ _ _ _ w)) rfl rfl trivial (fun p38 => ?_)
            refine o1 rfl (det_fieldAddr fld73_1 rfl) rfl rfl trivial ?_
            refine o1 rfl (det_load1 t1_27 rfl rfl (.tail _ (.tail _ (.tail _ (.head _)))) rfl) rfl rfl trivial ?_
            refine oAppH (b := [_]) (post := [_, _, _]) (m := n) (news := rowsV ptv ps) nofun rfl ap27 rfl rfl rfl trivial (SlO.lit (n := 1) (xs := ptv x) rfl (by decide)) (by rw [rowsV_len ptv_len, hP.len]) (fun w hs j u hj => by obtain ⟨b, hb, h⟩ := hP.flat ptv_len (by decide) j u hj; exact ⟨b, hb, hs.know _ _ h⟩) (rowsV_one_cell ps) (by omega) (by simp only [maxLen]; omega) (fun A1 c1 b1 hS1 => ?_)
            replace hS1 : SlO 57 7 (.slice A1 (1 + n) c1) (1 + n) (rowsV ptv (x :: ps)) b1 := hS1
            obtain ⟨A2, c2, hv2, hn2, hm2, -⟩ := hS1.slice
            refine o1 rfl (det_fieldAddr fld73_1 rfl) rfl rfl trivial ?_
            refine st1 nofun rfl t1_27 rfl rfl rfl (.tail (.tail .head)) rfl trivial rfl ?_
            refine be rfl ?_
            refine k_then ?_
            refine t_seq ?_
            refine b0 ?_
            refine o1 rfl (det_loadN tN73 rfl rfl (.tail _ (.tail _ (.head _))) rfl) rfl rfl trivial ?_
            refine stN nofun rfl tN73 rfl rfl rfl .head rfl trivial rfl rfl ?_
            refine o1 rfl (det_assign rfl) rfl rfl trivial ?_
            refine be rfl ?_
            refine k_then ?_
            refine t_ret ?_
            refine ret_any (vs := [_, _]) rfl rfl ⟨(.cellN tN73 rfl rfl (.head _) rfl), (.tmp rfl), trivial⟩ rfl (fun w1 hs => ?_)
            have hq : retQ cap ps x = ((cap, x :: ps), 0) := by unfold retQ; rw [if_neg (by rw [hR]; simp), if_neg (by rw [hX]; simp), if_neg (by grind [restQ])]
            exact end_fresh hs fun F2 h1 _ h3 => ⟨_, by rw [hq]; rfl, by rw [hq]; exact SlO.qv hS1 (fun p cs t fr k hm => h3 p cs t fr k (.tail _ (.tail _ (.tail _ hm)))) rfl⟩
        ·
          refine on rfl rfl rfl ⟨_, rfl, .inl rfl⟩ ?_
          refine on rfl rfl rfl ⟨_, rfl, .inl rfl⟩ ?_
          refine on rfl rfl rfl ⟨_, rfl, .inl rfl⟩ ?_
          refine on rfl rfl rfl ⟨_, rfl, .inl rfl⟩ ?_
          refine on rfl rfl rfl ⟨_, rfl, .inl rfl⟩ ?_
          refine o1 rfl (det_pickF rfl rfl) rfl rfl ⟨_, rfl, rfl⟩ ?_
          refine o1 rfl (det_pickF rfl rfl) rfl rfl trivial ?_
          refine be rfl ?_
          refine k_then ?_
          refine t_condF rfl ?_
          refine t_skip ?_
          refine k_then ?_
          refine t_seq ?_
          refine b0 ?_
          refine o1 rfl (det_loadN tN57 rfl rfl (.tail _ (.head _)) rfl) rfl rfl trivial ?_
          refine om1 rfl (new_buildSlice rfl (fun w => bsl27_1_0 _ _ _ _ _ _ _ w)) rfl rfl trivial (fun p38 => ?_)
          refine o1 rfl (det_fieldAddr fld73_1 rfl) rfl rfl trivial ?_
          refine o1 rfl (det_load1 t1_27 rfl rfl (.tail _ (.tail _ (.tail _ (.head _)))) rfl) rfl rfl trivial ?_
          refine oAppH (b := [_]) (post := [_, _, _]) (m := n) (news := rowsV ptv ps) nofun rfl ap27 rfl rfl rfl trivial (SlO.lit (n := 1) (xs := ptv x) rfl (by decide)) (by rw [rowsV_len ptv_len, hP.len]) (fun w hs j u hj => by obtain ⟨b, hb, h⟩ := hP.flat ptv_len (by decide) j u hj; exact ⟨b, hb, hs.know _ _ h⟩) (rowsV_one_cell ps) (by omega) (by simp only [maxLen]; omega) (fun A1 c1 b1 hS1 => ?_)
          replace hS1 : SlO 57 7 (.slice A1 (1 + n) c1) (1 + n) (rowsV ptv (x :: ps)) b1 := hS1
          obtain ⟨A2, c2, hv2, hn2, hm2, -⟩ := hS1.slice
          refine o1 rfl (det_fieldAddr fld73_1 rfl) rfl rfl trivial ?_
          refine st1 nofun rfl t1_27 rfl rfl rfl (.tail (.tail .head)) rfl trivial rfl ?_
          refine be rfl ?_
          refine k_then ?_
          refine t_seq ?_
          refine b0 ?_
          refine o1 rfl (det_loadN tN73 rfl rfl (.tail _ (.tail _ (.head _))) rfl) rfl rfl trivial ?_
          refine stN nofun rfl tN73 rfl rfl rfl .head rfl trivial rfl rfl ?_
          refine o1 rfl (det_assign rfl) rfl rfl trivial ?_
          refine be rfl ?_
          refine k_then ?_
          refine t_ret ?_
          refine ret_any (vs := [_, _]) rfl rfl ⟨(.cellN tN73 rfl rfl (.head _) rfl), (.tmp rfl), trivial⟩ rfl (fun w1 hs => ?_)
          have hq : retQ cap ps x = ((cap, x :: ps), 0) := by unfold retQ; rw [if_neg (by rw [hR]; simp), if_neg (by rw [hX]; simp), if_neg (by grind [restQ])]
          exact end_fresh hs fun F2 h1 _ h3 => ⟨_, by rw [hq]; rfl, by rw [hq]; exact SlO.qv hS1 (fun p cs t fr k hm => h3 p cs t fr k (.tail _ (.tail _ (.tail _ hm)))) rfl⟩
end Go.Proofs.Cp

/-
  Walks through layers 36, 37 and 38 and their references.
-/
namespace Go.Proofs.Cp
open Go Go.Eng Go.Qu
set_option maxRecDepth 4000
end Go.Proofs.Cp

/-
  Walks through layer 38.
-/
namespace Go.Proofs.Cp
open Go Go.Eng Go.Gt Go.Proofs.Gt Go.Sw Go.Qu Go.Ch Go.Po
set_option maxRecDepth 4000
theorem pre1_ok {w : World} {F : Know} (hF : ∀ a v, F a = some v → w.cell? a = some v) {x : Pt} : Pure Try.prog 72 [.agg (ptv x).toArray] w (.bool (decide (x.it.cl < 6))) := by
  refine fn_pure (F := F) Try.func72 rfl Try.ntmps72 rfl hF ?_
  refine t_seq ?_
  refine b0 ?_
  refine om1 rfl (new_boxN rfl) rfl rfl trivial (fun p1 => ?_)
  refine o1 rfl (det_assign rfl) rfl rfl trivial ?_
  refine be rfl ?_
  refine k_then ?_
  refine t_seq ?_
  refine b0 ?_
  refine o1 rfl (det_fieldAddr fld57_0 rfl) rfl rfl trivial ?_
  refine o1 rfl (det_fieldAddr fld55_2 rfl) rfl rfl trivial ?_
  refine o1 rfl (det_load1 t1_3 rfl rfl (.head _) rfl) rfl rfl trivial ?_
  refine o1 rfl (det_lss rfl rfl) rfl rfl trivial ?_
  refine o1 rfl (det_assign rfl) rfl rfl trivial ?_
  refine be rfl ?_
  refine k_then ?_
  refine t_ret ?_
  refine ret_tmp rfl rfl rfl (fun w1 hs => ?_)
  exact ⟨by grind, hs.keep⟩
theorem vs_ok {w : World} {F : Know} (hF : ∀ a v, F a = some v → w.cell? a = some v) {q : Nat} {p : Ps} {B G : Option Addr} {m d k gk : Nat} (hg : ∀ j, j < 18 → F ((⟨q, 0, none⟩ : Addr).add j) = (pev p B m d G k gk)[j]?) (hper : 1 ≤ p.l.per ∧ p.l.per ≤ 1000) (hnow : 0 ≤ p.now ∧ p.now ≤ 549755813888) : Pure Try.prog 71 [.pointer (some ⟨q, 0, none⟩)] w (.bool (sendOk p)) := by
  refine fn_pure (F := F) Try.func71 rfl Try.ntmps71 rfl hF ?_
  refine t_seq ?_
  refine b0 ?_
  refine o1 rfl (det_assign rfl) rfl rfl trivial ?_
  refine be rfl ?_
  refine k_then ?_
  refine t_seq ?_
  refine t_seq ?_
  refine b0 ?_
  refine o1 rfl (det_move rfl) rfl rfl trivial ?_
  refine o1 rfl (det_nilCheck rfl) rfl rfl trivial ?_
  refine o1 rfl (det_fieldAddr fld125_0 rfl) rfl rfl trivial ?_
  refine o1 rfl (det_fieldAddr fld68_3 rfl) rfl rfl trivial ?_
  refine o1 rfl (det_loadK t1_4 rfl (hg 6 (by decide))) rfl rfl trivial ?_
  refine o1 rfl (det_not rfl) rfl rfl trivial ?_
  refine be rfl ?_
  refine k_then ?_
  refine t_condP not_iff_false rfl (fun hb => ?_) (fun hb => ?_)
  ·
    refine t_seq ?_
    refine b0 ?_
    refine o1 rfl (det_move rfl) rfl rfl trivial ?_
    refine o1 rfl (det_nilCheck rfl) rfl rfl trivial ?_
    refine o1 rfl (det_fieldAddr fld125_0 rfl) rfl rfl trivial ?_
    refine o1 rfl (det_fieldAddr fld68_4 rfl) rfl rfl trivial ?_
    refine o1 rfl (det_loadKN tN57 rfl (r := ptv p.snd) rfl (cells_sub hg 7 (by decide) rfl)) rfl rfl trivial ?_
    refine o1 rfl (det_build rfl (fun w => bld57_ w)) rfl rfl trivial ?_
    refine o1 rfl (det_eqlS rfl rfl eqg57 (fun w => eq57 _ _ _ _ _ _ _ _ _ _ _ _ _ _ w)) rfl rfl trivial ?_
    refine o2P Iff.rfl rfl (det_move rfl) rfl rfl trivial (fun hb => ?_) (fun hb => ?_)
    ·
      refine o1 rfl (det_move rfl) rfl rfl ⟨_, rfl, rfl⟩ ?_
      refine o1 rfl (det_nilCheck rfl) rfl rfl ⟨_, rfl, rfl⟩ ?_
      refine o1 rfl (det_fieldAddr fld125_0 rfl) rfl rfl ⟨_, rfl, rfl⟩ ?_
      refine o1 rfl (det_fieldAddr fld68_5 rfl) rfl rfl ⟨_, rfl, rfl⟩ ?_
      refine o1 rfl (det_loadK t1_3 rfl (hg 14 (by decide))) rfl rfl ⟨_, rfl, rfl⟩ ?_
      refine o1 rfl (det_eql rfl rfl) rfl rfl ⟨_, rfl, rfl⟩ ?_
      refine o1 rfl (det_pickT rfl rfl) rfl rfl trivial ?_
      refine o2P beq_iff_eq rfl (det_move rfl) rfl rfl trivial (fun hb => ?_) (fun hb => ?_)
      ·
        refine o1 rfl (det_move rfl) rfl rfl ⟨_, rfl, rfl⟩ ?_
        refine o1 rfl (det_nilCheck rfl) rfl rfl ⟨_, rfl, rfl⟩ ?_
        refine o1 rfl (det_fieldAddr fld125_0 rfl) rfl rfl ⟨_, rfl, rfl⟩ ?_
        refine o1 rfl (det_fieldAddr fld68_6 rfl) rfl rfl ⟨_, rfl, rfl⟩ ?_
        refine o1 rfl (det_loadK t1_3 rfl (hg 15 (by decide))) rfl rfl ⟨_, rfl, rfl⟩ ?_
        refine o1 rfl (det_eql rfl rfl) rfl rfl ⟨_, rfl, rfl⟩ ?_
        refine o1 rfl (det_pickT rfl rfl) rfl rfl trivial ?_
        refine o2P beq_iff_eq rfl (det_move rfl) rfl rfl trivial (fun hb => ?_) (fun hb => ?_)
        ·
          refine o1 rfl (det_move rfl) rfl rfl ⟨_, rfl, rfl⟩ ?_
          refine o1 rfl (det_nilCheck rfl) rfl rfl ⟨_, rfl, rfl⟩ ?_
          refine o1 rfl (det_fieldAddr fld125_0 rfl) rfl rfl ⟨_, rfl, rfl⟩ ?_
          refine o1 rfl (det_fieldAddr fld68_7 rfl) rfl rfl ⟨_, rfl, rfl⟩ ?_
          refine o1 rfl (det_loadK t1_3 rfl (hg 16 (by decide))) rfl rfl ⟨_, rfl, rfl⟩ ?_
          refine o1 rfl (det_eql rfl rfl) rfl rfl ⟨_, rfl, rfl⟩ ?_
          refine o1 rfl (det_pickT rfl rfl) rfl rfl trivial ?_
          refine o1 rfl (det_assign rfl) rfl rfl trivial ?_
          refine be rfl ?_
          refine k_then ?_
          refine t_ret (k_thenR (?_))
          refine ret_tmp rfl rfl rfl (fun w1 hs => ?_)
          exact ⟨by unfold sendOk; grind [noneP], hs.keep⟩
        ·
          refine on rfl rfl rfl ⟨_, rfl, .inl rfl⟩ ?_
          refine on rfl rfl rfl ⟨_, rfl, .inl rfl⟩ ?_
          refine on rfl rfl rfl ⟨_, rfl, .inl rfl⟩ ?_
          refine on rfl rfl rfl ⟨_, rfl, .inl rfl⟩ ?_
          refine on rfl rfl rfl ⟨_, rfl, .inl rfl⟩ ?_
          refine on rfl rfl rfl ⟨_, rfl, .inl rfl⟩ ?_
          refine o1 rfl (det_pickF rfl rfl) rfl rfl trivial ?_
          refine o1 rfl (det_assign rfl) rfl rfl trivial ?_
          refine be rfl ?_
          refine k_then ?_
          refine t_ret (k_thenR (?_))
          refine ret_tmp rfl rfl rfl (fun w1 hs => ?_)
          exact ⟨by unfold sendOk; grind [noneP], hs.keep⟩
      ·
        refine on rfl rfl rfl ⟨_, rfl, .inl rfl⟩ ?_
        refine on rfl rfl rfl ⟨_, rfl, .inl rfl⟩ ?_
        refine on rfl rfl rfl ⟨_, rfl, .inl rfl⟩ ?_
        refine on rfl rfl rfl ⟨_, rfl, .inl rfl⟩ ?_
        refine on rfl rfl rfl ⟨_, rfl, .inl rfl⟩ ?_
        refine on rfl rfl rfl ⟨_, rfl, .inl rfl⟩ ?_
        refine o1 rfl (det_pickF rfl rfl) rfl rfl trivial ?_
        refine o1 rfl (det_move rfl) rfl rfl trivial ?_
        refine on rfl rfl rfl ⟨_, rfl, .inl rfl⟩ ?_
        refine on rfl rfl rfl ⟨_, rfl, .inl rfl⟩ ?_
        refine on rfl rfl rfl ⟨_, rfl, .inl rfl⟩ ?_
        refine on rfl rfl rfl ⟨_, rfl, .inl rfl⟩ ?_
        refine on rfl rfl rfl ⟨_, rfl, .inl rfl⟩ ?_
        refine on rfl rfl rfl ⟨_, rfl, .inl rfl⟩ ?_
        refine o1 rfl (det_pickF rfl rfl) rfl rfl trivial ?_
        refine o1 rfl (det_assign rfl) rfl rfl trivial ?_
        refine be rfl ?_
        refine k_then ?_
        refine t_ret (k_thenR (?_))
        refine ret_tmp rfl rfl rfl (fun w1 hs => ?_)
        exact ⟨by unfold sendOk; grind [noneP], hs.keep⟩
    ·
      refine on rfl rfl rfl ⟨_, rfl, .inl rfl⟩ ?_
      refine on rfl rfl rfl ⟨_, rfl, .inl rfl⟩ ?_
      refine on rfl rfl rfl ⟨_, rfl, .inl rfl⟩ ?_
      refine on rfl rfl rfl ⟨_, rfl, .inl rfl⟩ ?_
      refine on rfl rfl rfl ⟨_, rfl, .inl rfl⟩ ?_
      refine on rfl rfl rfl ⟨_, rfl, .inl rfl⟩ ?_
      refine o1 rfl (det_pickF rfl rfl) rfl rfl trivial ?_
      refine o1 rfl (det_move rfl) rfl rfl trivial ?_
      refine on rfl rfl rfl ⟨_, rfl, .inl rfl⟩ ?_
      refine on rfl rfl rfl ⟨_, rfl, .inl rfl⟩ ?_
      refine on rfl rfl rfl ⟨_, rfl, .inl rfl⟩ ?_
      refine on rfl rfl rfl ⟨_, rfl, .inl rfl⟩ ?_
      refine on rfl rfl rfl ⟨_, rfl, .inl rfl⟩ ?_
      refine on rfl rfl rfl ⟨_, rfl, .inl rfl⟩ ?_
      refine o1 rfl (det_pickF rfl rfl) rfl rfl trivial ?_
      refine o1 rfl (det_move rfl) rfl rfl trivial ?_
      refine on rfl rfl rfl ⟨_, rfl, .inl rfl⟩ ?_
      refine on rfl rfl rfl ⟨_, rfl, .inl rfl⟩ ?_
      refine on rfl rfl rfl ⟨_, rfl, .inl rfl⟩ ?_
      refine on rfl rfl rfl ⟨_, rfl, .inl rfl⟩ ?_
      refine on rfl rfl rfl ⟨_, rfl, .inl rfl⟩ ?_
      refine on rfl rfl rfl ⟨_, rfl, .inl rfl⟩ ?_
      refine o1 rfl (det_pickF rfl rfl) rfl rfl trivial ?_
      refine o1 rfl (det_assign rfl) rfl rfl trivial ?_
      refine be rfl ?_
      refine k_then ?_
      refine t_ret (k_thenR (?_))
      refine ret_tmp rfl rfl rfl (fun w1 hs => ?_)
      exact ⟨by unfold sendOk; grind [noneP], hs.keep⟩
  ·
    refine t_skip ?_
    refine k_then ?_
    refine t_seq ?_
    refine t_seq ?_
    refine bD mixed ?_
    refine r_seg 41 41 [] [0, 1, 2, 3, 4, 5, 6, 7, 8, 9, 10, 11, 12, 13, 14, 15, 16, 17, 18, 19, 20, 21, 22, 23, 24, 25, 26, 27, 28, 29, 30, 31, 32, 33, 34, 35, 36, 37, 38, 39, 40] (by kernel_rfl) ?_
    refine s1 rfl (det_move rfl) rfl rfl trivial rfl ?_
    refine s1 rfl (det_nilCheck rfl) rfl rfl trivial rfl ?_
    refine s1 rfl (det_fieldAddr fld125_0 rfl) rfl rfl trivial rfl ?_
    refine s1 rfl (det_fieldAddr fld68_4 rfl) rfl rfl trivial rfl ?_
    refine s1 rfl (det_loadKN tN57 rfl (r := ptv p.snd) rfl (cells_sub hg 7 (by decide) rfl)) rfl rfl trivial rfl ?_
    refine s1 rfl (det_call hb53 rfl rfl (fun w1 hs => cpart_at hs.know)) rfl rfl trivial rfl ?_
    refine s1 rfl (det_neq rfl rfl) rfl rfl trivial rfl ?_
    refine s2P bne_iff_ne rfl (det_move rfl) rfl rfl trivial rfl (fun hb => ?_) (fun hb => ?_)
    ·
      refine sn rfl rfl rfl ⟨_, rfl, .inl rfl⟩ ?_
      refine sn rfl rfl rfl ⟨_, rfl, .inl rfl⟩ ?_
      refine sn rfl rfl rfl ⟨_, rfl, .inl rfl⟩ ?_
      refine sn rfl rfl rfl ⟨_, rfl, .inl rfl⟩ ?_
      refine sn rfl rfl rfl ⟨_, rfl, .inl rfl⟩ ?_
      refine sn rfl rfl rfl ⟨_, rfl, .inl rfl⟩ ?_
      refine s1 rfl (det_pickT rfl rfl) rfl rfl trivial rfl ?_
      refine s1 rfl (det_move rfl) rfl rfl trivial rfl ?_
      refine sn rfl rfl rfl ⟨_, rfl, .inl rfl⟩ ?_
      refine sn rfl rfl rfl ⟨_, rfl, .inl rfl⟩ ?_
      refine sn rfl rfl rfl ⟨_, rfl, .inl rfl⟩ ?_
      refine sn rfl rfl rfl ⟨_, rfl, .inl rfl⟩ ?_
      refine sn rfl rfl rfl ⟨_, rfl, .inl rfl⟩ ?_
      refine sn rfl rfl rfl ⟨_, rfl, .inl rfl⟩ ?_
      refine sn rfl rfl rfl ⟨_, rfl, .inl rfl⟩ ?_
      refine sn rfl rfl rfl ⟨_, rfl, .inl rfl⟩ ?_
      refine sn rfl rfl rfl ⟨_, rfl, .inl rfl⟩ ?_
      refine sn rfl rfl rfl ⟨_, rfl, .inl rfl⟩ ?_
      refine sn rfl rfl rfl ⟨_, rfl, .inl rfl⟩ ?_
      refine s1 rfl (det_pickT rfl rfl) rfl rfl trivial rfl ?_
      refine s1 rfl (det_move rfl) rfl rfl trivial rfl ?_
      refine sn rfl rfl rfl ⟨_, rfl, .inl rfl⟩ ?_
      refine sn rfl rfl rfl ⟨_, rfl, .inl rfl⟩ ?_
      refine sn rfl rfl rfl ⟨_, rfl, .inl rfl⟩ ?_
      refine sn rfl rfl rfl ⟨_, rfl, .inl rfl⟩ ?_
      refine sn rfl rfl rfl ⟨_, rfl, .inl rfl⟩ ?_
      refine sn rfl rfl rfl ⟨_, rfl, .inl rfl⟩ ?_
      refine sn rfl rfl rfl ⟨_, rfl, .inl rfl⟩ ?_
      refine sn rfl rfl rfl ⟨_, rfl, .inl rfl⟩ ?_
      refine sn rfl rfl rfl ⟨_, rfl, .inl rfl⟩ ?_
      refine sn rfl rfl rfl ⟨_, rfl, .inl rfl⟩ ?_
      refine sn rfl rfl rfl ⟨_, rfl, .inl rfl⟩ ?_
      refine s1 rfl (det_pickT rfl rfl) rfl rfl trivial rfl ?_
      refine sg_nil ?_
      refine be rfl ?_
      refine k_then ?_
      refine t_condT rfl ?_
      refine t_seq ?_
      refine b0 ?_
      refine o1 rfl (det_assign rfl) rfl rfl trivial ?_
      refine be rfl ?_
      refine k_then ?_
      refine t_ret (k_thenR (?_))
      refine ret_tmp rfl rfl rfl (fun w1 hs => ?_)
      exact ⟨by unfold sendOk; grind [noneP], hs.keep⟩
    ·
      refine s1 rfl (det_move rfl) rfl rfl ⟨_, rfl, rfl⟩ rfl ?_
      refine s1 rfl (det_nilCheck rfl) rfl rfl ⟨_, rfl, rfl⟩ rfl ?_
      refine s1 rfl (det_fieldAddr fld125_0 rfl) rfl rfl ⟨_, rfl, rfl⟩ rfl ?_
      refine s1 rfl (det_fieldAddr fld68_5 rfl) rfl rfl ⟨_, rfl, rfl⟩ rfl ?_
      refine s1 rfl (det_loadK t1_3 rfl (hg 14 (by decide))) rfl rfl ⟨_, rfl, rfl⟩ rfl ?_
      refine s1 rfl (det_lss rfl rfl) rfl rfl ⟨_, rfl, rfl⟩ rfl ?_
      refine s1 rfl (det_pickF rfl rfl) rfl rfl trivial rfl ?_
      refine s2P decide_eq_true_iff rfl (det_move rfl) rfl rfl trivial rfl (fun hb => ?_) (fun hb => ?_)
      ·
        refine sn rfl rfl rfl ⟨_, rfl, .inl rfl⟩ ?_
        refine sn rfl rfl rfl ⟨_, rfl, .inl rfl⟩ ?_
        refine sn rfl rfl rfl ⟨_, rfl, .inl rfl⟩ ?_
        refine sn rfl rfl rfl ⟨_, rfl, .inl rfl⟩ ?_
        refine sn rfl rfl rfl ⟨_, rfl, .inl rfl⟩ ?_
        refine sn rfl rfl rfl ⟨_, rfl, .inl rfl⟩ ?_
        refine sn rfl rfl rfl ⟨_, rfl, .inl rfl⟩ ?_
        refine sn rfl rfl rfl ⟨_, rfl, .inl rfl⟩ ?_
        refine sn rfl rfl rfl ⟨_, rfl, .inl rfl⟩ ?_
        refine sn rfl rfl rfl ⟨_, rfl, .inl rfl⟩ ?_
        refine sn rfl rfl rfl ⟨_, rfl, .inl rfl⟩ ?_
        refine s1 rfl (det_pickT rfl rfl) rfl rfl trivial rfl ?_
        refine s1 rfl (det_move rfl) rfl rfl trivial rfl ?_
        refine sn rfl rfl rfl ⟨_, rfl, .inl rfl⟩ ?_
        refine sn rfl rfl rfl ⟨_, rfl, .inl rfl⟩ ?_
        refine sn rfl rfl rfl ⟨_, rfl, .inl rfl⟩ ?_
        refine sn rfl rfl rfl ⟨_, rfl, .inl rfl⟩ ?_
        refine sn rfl rfl rfl ⟨_, rfl, .inl rfl⟩ ?_
        refine sn rfl rfl rfl ⟨_, rfl, .inl rfl⟩ ?_
        refine sn rfl rfl rfl ⟨_, rfl, .inl rfl⟩ ?_
        refine sn rfl rfl rfl ⟨_, rfl, .inl rfl⟩ ?_
        refine sn rfl rfl rfl ⟨_, rfl, .inl rfl⟩ ?_
        refine sn rfl rfl rfl ⟨_, rfl, .inl rfl⟩ ?_
        refine sn rfl rfl rfl ⟨_, rfl, .inl rfl⟩ ?_
        refine s1 rfl (det_pickT rfl rfl) rfl rfl trivial rfl ?_
        refine sg_nil ?_
        refine be rfl ?_
        refine k_then ?_
        refine t_condT rfl ?_
        refine t_seq ?_
        refine b0 ?_
        refine o1 rfl (det_assign rfl) rfl rfl trivial ?_
        refine be rfl ?_
        refine k_then ?_
        refine t_ret (k_thenR (?_))
        refine ret_tmp rfl rfl rfl (fun w1 hs => ?_)
        exact ⟨by unfold sendOk; grind [noneP], hs.keep⟩
      ·
        refine s1 rfl (det_move rfl) rfl rfl ⟨_, rfl, rfl⟩ rfl ?_
        refine s1 rfl (det_nilCheck rfl) rfl rfl ⟨_, rfl, rfl⟩ rfl ?_
        refine s1 rfl (det_fieldAddr fld125_0 rfl) rfl rfl ⟨_, rfl, rfl⟩ rfl ?_
        refine s1 rfl (det_fieldAddr fld68_5 rfl) rfl rfl ⟨_, rfl, rfl⟩ rfl ?_
        refine s1 rfl (det_loadK t1_3 rfl (hg 14 (by decide))) rfl rfl ⟨_, rfl, rfl⟩ rfl ?_
        refine s1 rfl (det_move rfl) rfl rfl ⟨_, rfl, rfl⟩ rfl ?_
        refine s1 rfl (det_nilCheck rfl) rfl rfl ⟨_, rfl, rfl⟩ rfl ?_
        refine s1 rfl (det_fieldAddr fld125_0 rfl) rfl rfl ⟨_, rfl, rfl⟩ rfl ?_
        refine s1 rfl (det_fieldAddr fld68_1 rfl) rfl rfl ⟨_, rfl, rfl⟩ rfl ?_
        refine s1 rfl (det_loadK t1_3 rfl (hg 4 (by decide))) rfl rfl ⟨_, rfl, rfl⟩ rfl ?_
        refine s1 rfl (det_gtr rfl rfl) rfl rfl ⟨_, rfl, rfl⟩ rfl ?_
        refine s1 rfl (det_pickF rfl rfl) rfl rfl trivial rfl ?_
        refine s2P decide_eq_true_iff rfl (det_move rfl) rfl rfl trivial rfl (fun hb => ?_) (fun hb => ?_)
        ·
          refine sn rfl rfl rfl ⟨_, rfl, .inl rfl⟩ ?_
          refine sn rfl rfl rfl ⟨_, rfl, .inl rfl⟩ ?_
          refine sn rfl rfl rfl ⟨_, rfl, .inl rfl⟩ ?_
          refine sn rfl rfl rfl ⟨_, rfl, .inl rfl⟩ ?_
          refine sn rfl rfl rfl ⟨_, rfl, .inl rfl⟩ ?_
          refine sn rfl rfl rfl ⟨_, rfl, .inl rfl⟩ ?_
          refine sn rfl rfl rfl ⟨_, rfl, .inl rfl⟩ ?_
          refine sn rfl rfl rfl ⟨_, rfl, .inl rfl⟩ ?_
          refine sn rfl rfl rfl ⟨_, rfl, .inl rfl⟩ ?_
          refine sn rfl rfl rfl ⟨_, rfl, .inl rfl⟩ ?_
          refine sn rfl rfl rfl ⟨_, rfl, .inl rfl⟩ ?_
          refine s1 rfl (det_pickT rfl rfl) rfl rfl trivial rfl ?_
          refine sg_nil ?_
          refine be rfl ?_
          refine k_then ?_
          refine t_condT rfl ?_
          refine t_seq ?_
          refine b0 ?_
          refine o1 rfl (det_assign rfl) rfl rfl trivial ?_
          refine be rfl ?_
          refine k_then ?_
          refine t_ret (k_thenR (?_))
          refine ret_tmp rfl rfl rfl (fun w1 hs => ?_)
          exact ⟨by unfold sendOk; grind [noneP], hs.keep⟩
        ·
          refine s1 rfl (det_move rfl) rfl rfl ⟨_, rfl, rfl⟩ rfl ?_
          refine s1 rfl (det_nilCheck rfl) rfl rfl ⟨_, rfl, rfl⟩ rfl ?_
          refine s1 rfl (det_fieldAddr fld125_0 rfl) rfl rfl ⟨_, rfl, rfl⟩ rfl ?_
          refine s1 rfl (det_fieldAddr fld68_6 rfl) rfl rfl ⟨_, rfl, rfl⟩ rfl ?_
          refine s1 rfl (det_loadK t1_3 rfl (hg 15 (by decide))) rfl rfl ⟨_, rfl, rfl⟩ rfl ?_
          refine s1 rfl (det_move rfl) rfl rfl ⟨_, rfl, rfl⟩ rfl ?_
          refine s1 rfl (det_nilCheck rfl) rfl rfl ⟨_, rfl, rfl⟩ rfl ?_
          refine s1 rfl (det_fieldAddr fld125_0 rfl) rfl rfl ⟨_, rfl, rfl⟩ rfl ?_
          refine s1 rfl (det_fieldAddr fld68_1 rfl) rfl rfl ⟨_, rfl, rfl⟩ rfl ?_
          refine s1 rfl (det_loadK t1_3 rfl (hg 4 (by decide))) rfl rfl ⟨_, rfl, rfl⟩ rfl ?_
          refine s1 rfl (det_lss rfl rfl) rfl rfl ⟨_, rfl, rfl⟩ rfl ?_
          refine s1 rfl (det_pickF rfl rfl) rfl rfl trivial rfl ?_
          refine sg_nil ?_
          refine be rfl ?_
          refine k_then ?_
          refine t_condP decide_eq_true_iff rfl (fun hb => ?_) (fun hb => ?_)
          ·
            skip
            refine t_seq ?_
            refine b0 ?_
            refine o1 rfl (det_assign rfl) rfl rfl trivial ?_
            refine be rfl ?_
            refine k_then ?_
            refine t_ret (k_thenR (?_))
            refine ret_tmp rfl rfl rfl (fun w1 hs => ?_)
            exact ⟨by unfold sendOk; grind [noneP], hs.keep⟩
          ·
            have hok : okP p.snd = true := by grind
            have hlf := okP_bd hok
            refine t_skip ?_
            refine k_then ?_
            refine t_seq ?_
            refine t_seq ?_
            refine b0 ?_
            refine o1 rfl (det_move rfl) rfl rfl trivial ?_
            refine o1 rfl (det_nilCheck rfl) rfl rfl trivial ?_
            refine o1 rfl (det_fieldAddr fld125_0 rfl) rfl rfl trivial ?_
            refine o1 rfl (det_fieldAddr fld68_7 rfl) rfl rfl trivial ?_
            refine o1 rfl (det_loadK t1_3 rfl (hg 16 (by decide))) rfl rfl trivial ?_
            refine o1 rfl (det_eql rfl rfl) rfl rfl trivial ?_
            refine be rfl ?_
            refine k_then ?_
            refine t_condP beq_iff_eq rfl (fun hb => ?_) (fun hb => ?_)
            ·
              refine t_seq ?_
              refine bD mixed ?_
              refine r_seg 26 26 [] [0, 1, 2, 3, 4, 5, 6, 7, 8, 9, 10, 11, 12, 13, 14, 15, 16, 17, 18, 19, 20, 21, 22, 23, 24, 25] (by kernel_rfl) ?_
              refine s1 rfl (det_move rfl) rfl rfl trivial rfl ?_
              refine s1 rfl (det_nilCheck rfl) rfl rfl trivial rfl ?_
              refine s1 rfl (det_fieldAddr fld125_0 rfl) rfl rfl trivial rfl ?_
              refine s1 rfl (det_fieldAddr fld68_6 rfl) rfl rfl trivial rfl ?_
              refine s1 rfl (det_loadK t1_3 rfl (hg 15 (by decide))) rfl rfl trivial rfl ?_
              refine s1 rfl (det_move rfl) rfl rfl trivial rfl ?_
              refine s1 rfl (det_nilCheck rfl) rfl rfl trivial rfl ?_
              refine s1 rfl (det_fieldAddr fld125_0 rfl) rfl rfl trivial rfl ?_
              refine s1 rfl (det_fieldAddr fld68_5 rfl) rfl rfl trivial rfl ?_
              refine s1 rfl (det_loadK t1_3 rfl (hg 14 (by decide))) rfl rfl trivial rfl ?_
              refine s1 rfl (det_move rfl) rfl rfl trivial rfl ?_
              refine s1 rfl (det_nilCheck rfl) rfl rfl trivial rfl ?_
              refine s1 rfl (det_fieldAddr fld125_0 rfl) rfl rfl trivial rfl ?_
              refine s1 rfl (det_fieldAddr fld68_4 rfl) rfl rfl trivial rfl ?_
              refine s1 rfl (det_fieldAddr fld57_1 rfl) rfl rfl trivial rfl ?_
              refine s1 rfl (det_loadK t1_3 rfl (hg 12 (by decide))) rfl rfl trivial rfl ?_
              refine s1 rfl (det_move rfl) rfl rfl trivial rfl ?_
              refine s1 rfl (det_nilCheck rfl) rfl rfl trivial rfl ?_
              refine s1 rfl (det_fieldAddr fld125_0 rfl) rfl rfl trivial rfl ?_
              refine s1 rfl (det_fieldAddr fld68_0 rfl) rfl rfl trivial rfl ?_
              refine s1 rfl (det_fieldAddr fld26_1 rfl) rfl rfl trivial rfl ?_
              refine s1 rfl (det_loadK t1_3 rfl (hg 2 (by decide))) rfl rfl trivial rfl ?_
              have hm : 0 ≤ p.snd.left * p.l.per ∧ p.snd.left * p.l.per ≤ 1542 * 1000 := ⟨Int.mul_nonneg (by omega) (by omega), Int.mul_le_mul hlf.2 hper.2 (by omega) (by decide)⟩
              first | (refine s1 rfl (det_mulI rfl rfl ?_) rfl rfl trivial rfl ?_; (· omega)) | refine s1 rfl (det_mul rfl rfl) rfl rfl trivial rfl ?_
              first | (refine s1 rfl (det_addI rfl rfl ?_) rfl rfl trivial rfl ?_; (· omega)) | refine s1 rfl (det_add rfl rfl) rfl rfl trivial rfl ?_
              refine s1 rfl (det_eql rfl rfl) rfl rfl trivial rfl ?_
              refine s1 rfl (det_assign rfl) rfl rfl trivial rfl ?_
              refine sg_nil ?_
              refine be rfl ?_
              refine k_then ?_
              refine t_ret (k_thenR (?_))
              refine ret_tmp rfl rfl rfl (fun w1 hs => ?_)
              exact ⟨by unfold sendOk; grind [noneP], hs.keep⟩
            ·
              refine t_skip ?_
              refine k_then ?_
              refine t_seq ?_
              refine bD mixed ?_
              refine r_seg 65 65 [] [0, 1, 2, 3, 4, 5, 6, 7, 8, 9, 10, 11, 12, 13, 14, 15, 16, 17, 18, 19, 20, 21, 22, 23, 24, 25, 26, 27, 28, 29, 30, 31, 32, 33, 34, 35, 36, 37, 38, 39, 40, 41, 42, 43, 44, 45, 46, 47, 48, 49, 50, 51, 52, 53, 54, 55, 56, 57, 58, 59, 60, 61, 62, 63, 64] (by kernel_rfl) ?_
              refine s1 rfl (det_move rfl) rfl rfl trivial rfl ?_
              refine s1 rfl (det_nilCheck rfl) rfl rfl trivial rfl ?_
              refine s1 rfl (det_fieldAddr fld125_0 rfl) rfl rfl trivial rfl ?_
              refine s1 rfl (det_fieldAddr fld68_4 rfl) rfl rfl trivial rfl ?_
              refine s1 rfl (det_loadKN tN57 rfl (r := ptv p.snd) rfl (cells_sub hg 7 (by decide) rfl)) rfl rfl trivial rfl ?_
              refine s1 rfl (det_call hb72 rfl rfl (fun w1 hs => pre1_ok hs.know)) rfl rfl trivial rfl ?_
              refine s2P Iff.rfl rfl (det_move rfl) rfl rfl trivial rfl (fun hb => ?_) (fun hb => ?_)
              ·
                refine s1 rfl (det_move rfl) rfl rfl ⟨_, rfl, rfl⟩ rfl ?_
                refine s1 rfl (det_nilCheck rfl) rfl rfl ⟨_, rfl, rfl⟩ rfl ?_
                refine s1 rfl (det_fieldAddr fld125_0 rfl) rfl rfl ⟨_, rfl, rfl⟩ rfl ?_
                refine s1 rfl (det_fieldAddr fld68_7 rfl) rfl rfl ⟨_, rfl, rfl⟩ rfl ?_
                refine s1 rfl (det_loadK t1_3 rfl (hg 16 (by decide))) rfl rfl ⟨_, rfl, rfl⟩ rfl ?_
                refine s1 rfl (det_geq rfl rfl) rfl rfl ⟨_, rfl, rfl⟩ rfl ?_
                refine s1 rfl (det_pickT rfl rfl) rfl rfl trivial rfl ?_
                refine s2P decide_eq_true_iff rfl (det_move rfl) rfl rfl trivial rfl (fun hb => ?_) (fun hb => ?_)
                ·
                  refine s1 rfl (det_move rfl) rfl rfl ⟨_, rfl, rfl⟩ rfl ?_
                  refine s1 rfl (det_nilCheck rfl) rfl rfl ⟨_, rfl, rfl⟩ rfl ?_
                  refine s1 rfl (det_fieldAddr fld125_0 rfl) rfl rfl ⟨_, rfl, rfl⟩ rfl ?_
                  refine s1 rfl (det_fieldAddr fld68_7 rfl) rfl rfl ⟨_, rfl, rfl⟩ rfl ?_
                  refine s1 rfl (det_loadK t1_3 rfl (hg 16 (by decide))) rfl rfl ⟨_, rfl, rfl⟩ rfl ?_
                  refine s1 rfl (det_move rfl) rfl rfl ⟨_, rfl, rfl⟩ rfl ?_
                  refine s1 rfl (det_nilCheck rfl) rfl rfl ⟨_, rfl, rfl⟩ rfl ?_
                  refine s1 rfl (det_fieldAddr fld125_0 rfl) rfl rfl ⟨_, rfl, rfl⟩ rfl ?_
                  refine s1 rfl (det_fieldAddr fld68_4 rfl) rfl rfl ⟨_, rfl, rfl⟩ rfl ?_
                  refine s1 rfl (det_fieldAddr fld57_1 rfl) rfl rfl ⟨_, rfl, rfl⟩ rfl ?_
                  refine s1 rfl (det_loadK t1_3 rfl (hg 12 (by decide))) rfl rfl ⟨_, rfl, rfl⟩ rfl ?_
                  first | (refine s1 rfl (det_subI rfl rfl ?_) rfl rfl ⟨_, rfl, rfl⟩ rfl ?_; (· omega)) | refine s1 rfl (det_sub rfl rfl) rfl rfl ⟨_, rfl, rfl⟩ rfl ?_
                  first | (refine s1 rfl (det_addI rfl rfl ?_) rfl rfl ⟨_, rfl, rfl⟩ rfl ?_; (· omega)) | refine s1 rfl (det_add rfl rfl) rfl rfl ⟨_, rfl, rfl⟩ rfl ?_
                  refine s1 rfl (det_leq rfl rfl) rfl rfl ⟨_, rfl, rfl⟩ rfl ?_
                  refine s1 rfl (det_pickT rfl rfl) rfl rfl trivial rfl ?_
                  refine s2P decide_eq_true_iff rfl (det_move rfl) rfl rfl trivial rfl (fun hb => ?_) (fun hb => ?_)
                  ·
                    refine s1 rfl (det_move rfl) rfl rfl ⟨_, rfl, rfl⟩ rfl ?_
                    refine s1 rfl (det_nilCheck rfl) rfl rfl ⟨_, rfl, rfl⟩ rfl ?_
                    refine s1 rfl (det_fieldAddr fld125_0 rfl) rfl rfl ⟨_, rfl, rfl⟩ rfl ?_
                    refine s1 rfl (det_fieldAddr fld68_6 rfl) rfl rfl ⟨_, rfl, rfl⟩ rfl ?_
                    refine s1 rfl (det_loadK t1_3 rfl (hg 15 (by decide))) rfl rfl ⟨_, rfl, rfl⟩ rfl ?_
                    refine s1 rfl (det_move rfl) rfl rfl ⟨_, rfl, rfl⟩ rfl ?_
                    refine s1 rfl (det_nilCheck rfl) rfl rfl ⟨_, rfl, rfl⟩ rfl ?_
                    refine s1 rfl (det_fieldAddr fld125_0 rfl) rfl rfl ⟨_, rfl, rfl⟩ rfl ?_
                    refine s1 rfl (det_fieldAddr fld68_5 rfl) rfl rfl ⟨_, rfl, rfl⟩ rfl ?_
                    refine s1 rfl (det_loadK t1_3 rfl (hg 14 (by decide))) rfl rfl ⟨_, rfl, rfl⟩ rfl ?_
                    refine s1 rfl (det_move rfl) rfl rfl ⟨_, rfl, rfl⟩ rfl ?_
                    refine s1 rfl (det_nilCheck rfl) rfl rfl ⟨_, rfl, rfl⟩ rfl ?_
                    refine s1 rfl (det_fieldAddr fld125_0 rfl) rfl rfl ⟨_, rfl, rfl⟩ rfl ?_
                    refine s1 rfl (det_fieldAddr fld68_4 rfl) rfl rfl ⟨_, rfl, rfl⟩ rfl ?_
                    refine s1 rfl (det_fieldAddr fld57_1 rfl) rfl rfl ⟨_, rfl, rfl⟩ rfl ?_
                    refine s1 rfl (det_loadK t1_3 rfl (hg 12 (by decide))) rfl rfl ⟨_, rfl, rfl⟩ rfl ?_
                    refine s1 rfl (det_move rfl) rfl rfl ⟨_, rfl, rfl⟩ rfl ?_
                    refine s1 rfl (det_nilCheck rfl) rfl rfl ⟨_, rfl, rfl⟩ rfl ?_
                    refine s1 rfl (det_fieldAddr fld125_0 rfl) rfl rfl ⟨_, rfl, rfl⟩ rfl ?_
                    refine s1 rfl (det_fieldAddr fld68_7 rfl) rfl rfl ⟨_, rfl, rfl⟩ rfl ?_
                    refine s1 rfl (det_loadK t1_3 rfl (hg 16 (by decide))) rfl rfl ⟨_, rfl, rfl⟩ rfl ?_
                    first | (refine s1 rfl (det_subI rfl rfl ?_) rfl rfl ⟨_, rfl, rfl⟩ rfl ?_; (· omega)) | refine s1 rfl (det_sub rfl rfl) rfl rfl ⟨_, rfl, rfl⟩ rfl ?_
                    first | (refine s1 rfl (det_addI rfl rfl ?_) rfl rfl ⟨_, rfl, rfl⟩ rfl ?_; (· omega)) | refine s1 rfl (det_add rfl rfl) rfl rfl ⟨_, rfl, rfl⟩ rfl ?_
                    refine s1 rfl (det_move rfl) rfl rfl ⟨_, rfl, rfl⟩ rfl ?_
                    refine s1 rfl (det_nilCheck rfl) rfl rfl ⟨_, rfl, rfl⟩ rfl ?_
                    refine s1 rfl (det_fieldAddr fld125_0 rfl) rfl rfl ⟨_, rfl, rfl⟩ rfl ?_
                    refine s1 rfl (det_fieldAddr fld68_0 rfl) rfl rfl ⟨_, rfl, rfl⟩ rfl ?_
                    refine s1 rfl (det_fieldAddr fld26_1 rfl) rfl rfl ⟨_, rfl, rfl⟩ rfl ?_
                    refine s1 rfl (det_loadK t1_3 rfl (hg 2 (by decide))) rfl rfl ⟨_, rfl, rfl⟩ rfl ?_
                    have hm : 0 ≤ (p.snd.left - p.rest + 48) * p.l.per ∧ (p.snd.left - p.rest + 48) * p.l.per ≤ 1550 * 1000 := ⟨Int.mul_nonneg (by omega) (by omega), Int.mul_le_mul (by omega) hper.2 (by omega) (by decide)⟩
                    first | (refine s1 rfl (det_mulI rfl rfl ?_) rfl rfl ⟨_, rfl, rfl⟩ rfl ?_; (· omega)) | refine s1 rfl (det_mul rfl rfl) rfl rfl ⟨_, rfl, rfl⟩ rfl ?_
                    first | (refine s1 rfl (det_addI rfl rfl ?_) rfl rfl ⟨_, rfl, rfl⟩ rfl ?_; (· omega)) | refine s1 rfl (det_add rfl rfl) rfl rfl ⟨_, rfl, rfl⟩ rfl ?_
                    refine s1 rfl (det_eql rfl rfl) rfl rfl ⟨_, rfl, rfl⟩ rfl ?_
                    refine s1 rfl (det_pickT rfl rfl) rfl rfl trivial rfl ?_
                    refine s1 rfl (det_assign rfl) rfl rfl trivial rfl ?_
                    refine sg_nil ?_
                    refine be rfl ?_
                    refine k_then ?_
                    refine t_ret ?_
                    refine ret_tmp rfl rfl rfl (fun w1 hs => ?_)
                    exact ⟨by unfold sendOk; grind [noneP], hs.keep⟩
                  ·
                    refine sn rfl rfl rfl ⟨_, rfl, .inl rfl⟩ ?_
                    refine sn rfl rfl rfl ⟨_, rfl, .inl rfl⟩ ?_
                    refine sn rfl rfl rfl ⟨_, rfl, .inl rfl⟩ ?_
                    refine sn rfl rfl rfl ⟨_, rfl, .inl rfl⟩ ?_
                    refine sn rfl rfl rfl ⟨_, rfl, .inl rfl⟩ ?_
                    refine sn rfl rfl rfl ⟨_, rfl, .inl rfl⟩ ?_
                    refine sn rfl rfl rfl ⟨_, rfl, .inl rfl⟩ ?_
                    refine sn rfl rfl rfl ⟨_, rfl, .inl rfl⟩ ?_
                    refine sn rfl rfl rfl ⟨_, rfl, .inl rfl⟩ ?_
                    refine sn rfl rfl rfl ⟨_, rfl, .inl rfl⟩ ?_
                    refine sn rfl rfl rfl ⟨_, rfl, .inl rfl⟩ ?_
                    refine sn rfl rfl rfl ⟨_, rfl, .inl rfl⟩ ?_
                    refine sn rfl rfl rfl ⟨_, rfl, .inl rfl⟩ ?_
                    refine sn rfl rfl rfl ⟨_, rfl, .inl rfl⟩ ?_
                    refine sn rfl rfl rfl ⟨_, rfl, .inl rfl⟩ ?_
                    refine sn rfl rfl rfl ⟨_, rfl, .inl rfl⟩ ?_
                    refine sn rfl rfl rfl ⟨_, rfl, .inl rfl⟩ ?_
                    refine sn rfl rfl rfl ⟨_, rfl, .inl rfl⟩ ?_
                    refine sn rfl rfl rfl ⟨_, rfl, .inl rfl⟩ ?_
                    refine sn rfl rfl rfl ⟨_, rfl, .inl rfl⟩ ?_
                    refine sn rfl rfl rfl ⟨_, rfl, .inl rfl⟩ ?_
                    refine sn rfl rfl rfl ⟨_, rfl, .inl rfl⟩ ?_
                    refine sn rfl rfl rfl ⟨_, rfl, .inl rfl⟩ ?_
                    refine sn rfl rfl rfl ⟨_, rfl, .inl rfl⟩ ?_
                    refine sn rfl rfl rfl ⟨_, rfl, .inl rfl⟩ ?_
                    refine sn rfl rfl rfl ⟨_, rfl, .inl rfl⟩ ?_
                    refine sn rfl rfl rfl ⟨_, rfl, .inl rfl⟩ ?_
                    refine sn rfl rfl rfl ⟨_, rfl, .inl rfl⟩ ?_
                    refine sn rfl rfl rfl ⟨_, rfl, .inl rfl⟩ ?_
                    refine sn rfl rfl rfl ⟨_, rfl, .inl rfl⟩ ?_
                    refine sn rfl rfl rfl ⟨_, rfl, .inl rfl⟩ ?_
                    refine sn rfl rfl rfl ⟨_, rfl, .inl rfl⟩ ?_
                    refine s1 rfl (det_pickF rfl rfl) rfl rfl trivial rfl ?_
                    refine s1 rfl (det_assign rfl) rfl rfl trivial rfl ?_
                    refine sg_nil ?_
                    refine be rfl ?_
                    refine k_then ?_
                    refine t_ret ?_
                    refine ret_tmp rfl rfl rfl (fun w1 hs => ?_)
                    exact ⟨by unfold sendOk; grind [noneP], hs.keep⟩
                ·
                  refine sn rfl rfl rfl ⟨_, rfl, .inl rfl⟩ ?_
                  refine sn rfl rfl rfl ⟨_, rfl, .inl rfl⟩ ?_
                  refine sn rfl rfl rfl ⟨_, rfl, .inl rfl⟩ ?_
                  refine sn rfl rfl rfl ⟨_, rfl, .inl rfl⟩ ?_
                  refine sn rfl rfl rfl ⟨_, rfl, .inl rfl⟩ ?_
                  refine sn rfl rfl rfl ⟨_, rfl, .inl rfl⟩ ?_
                  refine sn rfl rfl rfl ⟨_, rfl, .inl rfl⟩ ?_
                  refine sn rfl rfl rfl ⟨_, rfl, .inl rfl⟩ ?_
                  refine sn rfl rfl rfl ⟨_, rfl, .inl rfl⟩ ?_
                  refine sn rfl rfl rfl ⟨_, rfl, .inl rfl⟩ ?_
                  refine sn rfl rfl rfl ⟨_, rfl, .inl rfl⟩ ?_
                  refine sn rfl rfl rfl ⟨_, rfl, .inl rfl⟩ ?_
                  refine sn rfl rfl rfl ⟨_, rfl, .inl rfl⟩ ?_
                  refine sn rfl rfl rfl ⟨_, rfl, .inl rfl⟩ ?_
                  refine s1 rfl (det_pickF rfl rfl) rfl rfl trivial rfl ?_
                  refine s1 rfl (det_move rfl) rfl rfl trivial rfl ?_
                  refine sn rfl rfl rfl ⟨_, rfl, .inl rfl⟩ ?_
                  refine sn rfl rfl rfl ⟨_, rfl, .inl rfl⟩ ?_
                  refine sn rfl rfl rfl ⟨_, rfl, .inl rfl⟩ ?_
                  refine sn rfl rfl rfl ⟨_, rfl, .inl rfl⟩ ?_
                  refine sn rfl rfl rfl ⟨_, rfl, .inl rfl⟩ ?_
                  refine sn rfl rfl rfl ⟨_, rfl, .inl rfl⟩ ?_
                  refine sn rfl rfl rfl ⟨_, rfl, .inl rfl⟩ ?_
                  refine sn rfl rfl rfl ⟨_, rfl, .inl rfl⟩ ?_
                  refine sn rfl rfl rfl ⟨_, rfl, .inl rfl⟩ ?_
                  refine sn rfl rfl rfl ⟨_, rfl, .inl rfl⟩ ?_
                  refine sn rfl rfl rfl ⟨_, rfl, .inl rfl⟩ ?_
                  refine sn rfl rfl rfl ⟨_, rfl, .inl rfl⟩ ?_
                  refine sn rfl rfl rfl ⟨_, rfl, .inl rfl⟩ ?_
                  refine sn rfl rfl rfl ⟨_, rfl, .inl rfl⟩ ?_
                  refine sn rfl rfl rfl ⟨_, rfl, .inl rfl⟩ ?_
                  refine sn rfl rfl rfl ⟨_, rfl, .inl rfl⟩ ?_
                  refine sn rfl rfl rfl ⟨_, rfl, .inl rfl⟩ ?_
                  refine sn rfl rfl rfl ⟨_, rfl, .inl rfl⟩ ?_
                  refine sn rfl rfl rfl ⟨_, rfl, .inl rfl⟩ ?_
                  refine sn rfl rfl rfl ⟨_, rfl, .inl rfl⟩ ?_
                  refine sn rfl rfl rfl ⟨_, rfl, .inl rfl⟩ ?_
                  refine sn rfl rfl rfl ⟨_, rfl, .inl rfl⟩ ?_
                  refine sn rfl rfl rfl ⟨_, rfl, .inl rfl⟩ ?_
                  refine sn rfl rfl rfl ⟨_, rfl, .inl rfl⟩ ?_
                  refine sn rfl rfl rfl ⟨_, rfl, .inl rfl⟩ ?_
                  refine sn rfl rfl rfl ⟨_, rfl, .inl rfl⟩ ?_
                  refine sn rfl rfl rfl ⟨_, rfl, .inl rfl⟩ ?_
                  refine sn rfl rfl rfl ⟨_, rfl, .inl rfl⟩ ?_
                  refine sn rfl rfl rfl ⟨_, rfl, .inl rfl⟩ ?_
                  refine sn rfl rfl rfl ⟨_, rfl, .inl rfl⟩ ?_
                  refine sn rfl rfl rfl ⟨_, rfl, .inl rfl⟩ ?_
                  refine sn rfl rfl rfl ⟨_, rfl, .inl rfl⟩ ?_
                  refine s1 rfl (det_pickF rfl rfl) rfl rfl trivial rfl ?_
                  refine s1 rfl (det_assign rfl) rfl rfl trivial rfl ?_
                  refine sg_nil ?_
                  refine be rfl ?_
                  refine k_then ?_
                  refine t_ret ?_
                  refine ret_tmp rfl rfl rfl (fun w1 hs => ?_)
                  exact ⟨by unfold sendOk; grind [noneP], hs.keep⟩
              ·
                refine sn rfl rfl rfl ⟨_, rfl, .inl rfl⟩ ?_
                refine sn rfl rfl rfl ⟨_, rfl, .inl rfl⟩ ?_
                refine sn rfl rfl rfl ⟨_, rfl, .inl rfl⟩ ?_
                refine sn rfl rfl rfl ⟨_, rfl, .inl rfl⟩ ?_
                refine sn rfl rfl rfl ⟨_, rfl, .inl rfl⟩ ?_
                refine sn rfl rfl rfl ⟨_, rfl, .inl rfl⟩ ?_
                refine s1 rfl (det_pickF rfl rfl) rfl rfl trivial rfl ?_
                refine s1 rfl (det_move rfl) rfl rfl trivial rfl ?_
                refine sn rfl rfl rfl ⟨_, rfl, .inl rfl⟩ ?_
                refine sn rfl rfl rfl ⟨_, rfl, .inl rfl⟩ ?_
                refine sn rfl rfl rfl ⟨_, rfl, .inl rfl⟩ ?_
                refine sn rfl rfl rfl ⟨_, rfl, .inl rfl⟩ ?_
                refine sn rfl rfl rfl ⟨_, rfl, .inl rfl⟩ ?_
                refine sn rfl rfl rfl ⟨_, rfl, .inl rfl⟩ ?_
                refine sn rfl rfl rfl ⟨_, rfl, .inl rfl⟩ ?_
                refine sn rfl rfl rfl ⟨_, rfl, .inl rfl⟩ ?_
                refine sn rfl rfl rfl ⟨_, rfl, .inl rfl⟩ ?_
                refine sn rfl rfl rfl ⟨_, rfl, .inl rfl⟩ ?_
                refine sn rfl rfl rfl ⟨_, rfl, .inl rfl⟩ ?_
                refine sn rfl rfl rfl ⟨_, rfl, .inl rfl⟩ ?_
                refine sn rfl rfl rfl ⟨_, rfl, .inl rfl⟩ ?_
                refine sn rfl rfl rfl ⟨_, rfl, .inl rfl⟩ ?_
                refine s1 rfl (det_pickF rfl rfl) rfl rfl trivial rfl ?_
                refine s1 rfl (det_move rfl) rfl rfl trivial rfl ?_
                refine sn rfl rfl rfl ⟨_, rfl, .inl rfl⟩ ?_
                refine sn rfl rfl rfl ⟨_, rfl, .inl rfl⟩ ?_
                refine sn rfl rfl rfl ⟨_, rfl, .inl rfl⟩ ?_
                refine sn rfl rfl rfl ⟨_, rfl, .inl rfl⟩ ?_
                refine sn rfl rfl rfl ⟨_, rfl, .inl rfl⟩ ?_
                refine sn rfl rfl rfl ⟨_, rfl, .inl rfl⟩ ?_
                refine sn rfl rfl rfl ⟨_, rfl, .inl rfl⟩ ?_
                refine sn rfl rfl rfl ⟨_, rfl, .inl rfl⟩ ?_
                refine sn rfl rfl rfl ⟨_, rfl, .inl rfl⟩ ?_
                refine sn rfl rfl rfl ⟨_, rfl, .inl rfl⟩ ?_
                refine sn rfl rfl rfl ⟨_, rfl, .inl rfl⟩ ?_
                refine sn rfl rfl rfl ⟨_, rfl, .inl rfl⟩ ?_
                refine sn rfl rfl rfl ⟨_, rfl, .inl rfl⟩ ?_
                refine sn rfl rfl rfl ⟨_, rfl, .inl rfl⟩ ?_
                refine sn rfl rfl rfl ⟨_, rfl, .inl rfl⟩ ?_
                refine sn rfl rfl rfl ⟨_, rfl, .inl rfl⟩ ?_
                refine sn rfl rfl rfl ⟨_, rfl, .inl rfl⟩ ?_
                refine sn rfl rfl rfl ⟨_, rfl, .inl rfl⟩ ?_
                refine sn rfl rfl rfl ⟨_, rfl, .inl rfl⟩ ?_
                refine sn rfl rfl rfl ⟨_, rfl, .inl rfl⟩ ?_
                refine sn rfl rfl rfl ⟨_, rfl, .inl rfl⟩ ?_
                refine sn rfl rfl rfl ⟨_, rfl, .inl rfl⟩ ?_
                refine sn rfl rfl rfl ⟨_, rfl, .inl rfl⟩ ?_
                refine sn rfl rfl rfl ⟨_, rfl, .inl rfl⟩ ?_
                refine sn rfl rfl rfl ⟨_, rfl, .inl rfl⟩ ?_
                refine sn rfl rfl rfl ⟨_, rfl, .inl rfl⟩ ?_
                refine sn rfl rfl rfl ⟨_, rfl, .inl rfl⟩ ?_
                refine sn rfl rfl rfl ⟨_, rfl, .inl rfl⟩ ?_
                refine sn rfl rfl rfl ⟨_, rfl, .inl rfl⟩ ?_
                refine sn rfl rfl rfl ⟨_, rfl, .inl rfl⟩ ?_
                refine sn rfl rfl rfl ⟨_, rfl, .inl rfl⟩ ?_
                refine sn rfl rfl rfl ⟨_, rfl, .inl rfl⟩ ?_
                refine s1 rfl (det_pickF rfl rfl) rfl rfl trivial rfl ?_
                refine s1 rfl (det_assign rfl) rfl rfl trivial rfl ?_
                refine sg_nil ?_
                refine be rfl ?_
                refine k_then ?_
                refine t_ret ?_
                refine ret_tmp rfl rfl rfl (fun w1 hs => ?_)
                exact ⟨by unfold sendOk; grind [noneP], hs.keep⟩
theorem citem_at {w : World} {F : Know} (hF : ∀ a v, F a = some v → w.cell? a = some v) {x : It} : Pure Try.prog 77 [.agg (itv x).toArray] w (.int .i64 (if okI x then 0 else 460)) := citem_ok hF
end Go.Proofs.Cp

/-
  Walks through layer 38.
-/
namespace Go.Proofs.Cp
open Go Go.Eng Go.Gt Go.Proofs.Gt Go.Sw Go.Qu Go.Ch Go.Po
set_option maxRecDepth 4000
section
variable {cx : Cx} {F : Know} {own : Own} {w : World}
theorem satC (hs : Sat cx F own w) {q : Nat} {cs : List Value} {T : TypeId} (hm : (q, Obj.cells cs.toArray T (0, 0)) ∈ own) (j : Nat) {u : Value} (hu : cs[j]? = some u) : w.cell? ⟨q, j, none⟩ = some u := by
  have h := hs.own _ hm
  simp [World.cell?, h, hu]
theorem satCs (hs : Sat cx F own w) {q N : Nat} {cs : List Value} {T : TypeId} (hm : (q, Obj.cells cs.toArray T (0, 0)) ∈ own) (hN : cs.length = N) : ∀ j, j < N → (fun a => w.cell? a) ((⟨q, 0, none⟩ : Addr).add j) = cs[j]? := fun j hj => by
  obtain ⟨u, hu⟩ : ∃ u, cs[j]? = some u := ⟨_, List.getElem?_eq_getElem (by rw [hN]; exact hj)⟩
  rw [hu, add_mk, Nat.zero_add]
  exact satC hs hm j hu
end
theorem ck1_ok {w : World} {F : Know} (hF : ∀ a v, F a = some v → w.cell? a = some v) {x : Pt} {q : Nat} {cl : Int} (h1 : F ⟨q, 0, none⟩ = some (.int .i64 cl)) : Pure Try.prog 75 [.agg (ptv x).toArray, .pointer (some ⟨q, 0, none⟩)] w (.bool (decide (x.it.cl ≠ cl))) := by
  refine fn_pure (F := F) Try.func75 rfl Try.ntmps75 rfl hF ?_
  refine t_seq ?_
  refine b0 ?_
  refine om1 rfl (new_boxN rfl) rfl rfl trivial (fun p2 => ?_)
  refine o1 rfl (det_assign rfl) rfl rfl trivial ?_
  refine be rfl ?_
  refine k_then ?_
  refine t_seq ?_
  refine b0 ?_
  refine o1 rfl (det_fieldAddr fld57_0 rfl) rfl rfl trivial ?_
  refine o1 rfl (det_fieldAddr fld55_2 rfl) rfl rfl trivial ?_
  refine o1 rfl (det_load1 t1_3 rfl rfl (.head _) rfl) rfl rfl trivial ?_
  refine o1 rfl (det_loadK t1_3 rfl h1) rfl rfl trivial ?_
  refine o1 rfl (det_neq rfl rfl) rfl rfl trivial ?_
  refine o1 rfl (det_assign rfl) rfl rfl trivial ?_
  refine be rfl ?_
  refine k_then ?_
  refine t_ret ?_
  refine ret_tmp rfl rfl rfl (fun w1 hs => ?_)
  exact ⟨by grind, hs.keep⟩
theorem idx_ok {w : World} {F : Know} (hF : ∀ a v, F a = some v → w.cell? a = some v) {A : Option Addr} {n c : Nat} {ps : List Pt} (hP : PK F A n ps) (hnb : n ≤ 65536) {q : Nat} {cl : Int} (h1 : F ⟨q, 0, none⟩ = some (.int .i64 cl)) : Pure Try.prog 99 [.slice A n c, .func (.func 75) [].toArray [.pointer (some ⟨q, 0, none⟩)].toArray] w (.int .i64 (idxF cl ps 0)) := by
  refine fn_pure (F := F) Try.func99 rfl Try.ntmps99 rfl hF ?_
  refine t_seq ?_
  refine b0 ?_
  refine o1 rfl (det_assign rfl) rfl rfl trivial ?_
  refine be rfl ?_
  refine k_then ?_
  refine t_seq ?_
  refine t_seq ?_
  refine b0 ?_
  refine o1 rfl (det_move rfl) rfl rfl trivial ?_
  refine o1 rfl (det_lenS sl27 rfl) rfl rfl trivial ?_
  refine o1 rfl (det_move rfl) rfl rfl trivial ?_
  refine be rfl ?_
  refine k_then ?_
  refine t_block ?_
  refine t_whileM (σ := Nat) (fun s => [(8, .int .i64 (s : Int))]) (fun _ => _) (fun s => n - s) (fun s => s ≤ n ∧ ∀ j, j < s → (atP ps j).it.cl = cl) 0 (env0 := [(0, _), (1, _), (7, _)]) ⟨Nat.zero_le _, fun j hj => absurd hj (Nat.not_lt_zero j)⟩ ⟨rfl, trivial⟩ ⟨rfl, rfl, rfl, trivial⟩ (.refl _) ?_
  rintro s ⟨hsn, hI⟩
  have hnl := hP.len
  refine t_seq ?_
  refine b0 ?_
  refine o1 rfl (det_lss rfl rfl) rfl rfl trivial ?_
  refine be rfl ?_
  refine k_then ?_
  refine t_seq ?_
  refine t_condP decide_eq_true_iff rfl (fun hb => ?_) (fun hb => ?_)
  ·
    have hlt : s < ps.length := by omega
    obtain ⟨A, rfl⟩ := hP.some hlt
    have hat := atP_get hlt
    refine t_skip ?_
    refine k_then ?_
    refine t_seq ?_
    refine t_block ?_
    refine t_seq ?_
    refine b0 ?_
    refine o1 rfl (det_move rfl) rfl rfl trivial ?_
    refine o1 rfl (det_assign rfl) rfl rfl trivial ?_
    refine be rfl ?_
    refine k_then ?_
    refine t_seq ?_
    refine b0 ?_
    refine o1 rfl (det_move rfl) rfl rfl trivial ?_
    refine o1 rfl (det_move rfl) rfl rfl trivial ?_
    refine o1 rfl (det_move rfl) rfl rfl trivial ?_
    first | (refine o1 rfl (det_indexAddr sl27 rfl rfl ?_) rfl rfl trivial ?_; (· (first | decide | omega)))
    refine o1 rfl (det_loadKN tN57 rfl (ptv_len ps[s]) (hP.cells (i := (s : Int)) (k := s) (Int.toNat_natCast s) hlt (ptv_len _))) rfl rfl trivial ?_
    refine o1 rfl (det_call hb75 rfl rfl (fun w1 hs => ck1_ok hs.know h1)) rfl rfl trivial ?_
    refine be rfl ?_
    refine k_then ?_
    refine t_condP Iff.rfl rfl (fun hb => ?_) (fun hb => ?_)
    ·
      refine t_seq ?_
      refine b0 ?_
      refine o1 rfl (det_move rfl) rfl rfl trivial ?_
      refine o1 rfl (det_assign rfl) rfl rfl trivial ?_
      refine be rfl ?_
      refine k_then ?_
      refine t_ret (k_blkR (k_thenR (k_thenR (k_blkR (k_thenR (?_))))))
      refine ret_tmp rfl rfl rfl (fun w1 hs => ?_)
      exact ⟨by rw [idxF_at ps 0 s hlt hI (by rw [hat]; grind), Nat.zero_add], hs.keep⟩
    ·
      refine t_skip ?_
      refine k_blk ?_
      refine k_then ?_
      refine b0 ?_
      first | (refine o1 rfl (det_addI rfl rfl ?_) rfl rfl trivial ?_; (· omega)) | refine o1 rfl (det_add rfl rfl) rfl rfl trivial ?_
      refine o1 rfl (det_move rfl) rfl rfl trivial ?_
      refine be rfl ?_
      refine k_then ?_
      refine loop_back (s + 1) ⟨by omega, fun j hj => by
          by_cases e : j = s
          · subst e; rw [hat]; grind
          · exact hI j (by omega)⟩ (by omega) ⟨rfl, rfl, rfl, rfl, trivial⟩ (.refl _)
  ·
    skip
    refine t_exit ?_
    refine k_thenE ?_
    refine k_thenE ?_
    refine k_blkE ?_
    refine k_then ?_
    refine t_seq ?_
    refine b0 ?_
    refine o1 rfl (det_assign rfl) rfl rfl trivial ?_
    refine be rfl ?_
    refine k_then ?_
    refine t_ret ?_
    refine ret_tmp rfl rfl rfl (fun w1 hs => ?_)
    exact ⟨by rw [idxF_all ps 0 (all_at fun j hj => hI j (by omega))], hs.keep⟩
theorem has_ok {w : World} {F : Know} (hF : ∀ a v, F a = some v → w.cell? a = some v) {A : Option Addr} {n c : Nat} {ps : List Pt} (hP : PK F A n ps) (hnb : n ≤ 65536) {q : Nat} {cl : Int} (h1 : F ⟨q, 0, none⟩ = some (.int .i64 cl)) : Pure Try.prog 74 [.slice A n c, .func (.func 75) [].toArray [.pointer (some ⟨q, 0, none⟩)].toArray] w (.bool (!(ps.all fun x => decide (x.it.cl = cl)))) := by
  refine fn_pure (F := F) Try.func74 rfl Try.ntmps74 rfl hF ?_
  refine t_seq ?_
  refine b0 ?_
  refine o1 rfl (det_assign rfl) rfl rfl trivial ?_
  refine be rfl ?_
  refine k_then ?_
  refine t_seq ?_
  refine b0 ?_
  refine o1 rfl (det_move rfl) rfl rfl trivial ?_
  refine o1 rfl (det_move rfl) rfl rfl trivial ?_
  refine o1 rfl (det_call hb99 rfl rfl (fun w1 hs => idx_ok hs.know hP hnb h1)) rfl rfl trivial ?_
  refine o1 rfl (det_geq rfl rfl) rfl rfl trivial ?_
  refine o1 rfl (det_assign rfl) rfl rfl trivial ?_
  refine be rfl ?_
  refine k_then ?_
  refine t_ret ?_
  refine ret_tmp rfl rfl rfl (fun w1 hs => ?_)
  exact ⟨by rw [← idxF_pos], hs.keep⟩
end Go.Proofs.Cp
