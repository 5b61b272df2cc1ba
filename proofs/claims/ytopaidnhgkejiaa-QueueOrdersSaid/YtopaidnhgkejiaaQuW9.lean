/-
  Walks through layer 36 and its reference.
-/
import Derived.Test.YtopaidnhgkejiaaQuW8
namespace Go.Proofs.Qu
open Go Go.Eng Go.Qu
set_option maxRecDepth 4000

/-- Same. -/
theorem same_ok {w : World} {F : Know} (hF : ∀ a v, F a = some v → w.cell? a = some v) {A : Option Addr} {n c : Nat} {cap : Int} {ps : List Pt} (hP : PK F A n ps) (hnb : n ≤ 65536) {B : Option Addr} {m d : Nat} {dap : Int} {qs : List Pt} (hR : PK F B m qs) : Pure Try.prog 20 [.agg [.int .i64 cap, .slice A n c].toArray, .agg [.int .i64 dap, .slice B m d].toArray] w (.bool (decide (cap = dap ∧ ps = qs))) := by
  refine fn_pure (F := F) Try.func20 rfl Try.ntmps20 rfl hF ?_
  refine t_seq ?_
  refine b0 ?_
  refine om1 rfl (new_boxN rfl) rfl rfl trivial (fun p2 => ?_)
  refine om1 rfl (new_boxN rfl) rfl rfl trivial (fun p3 => ?_)
  refine o1 rfl (det_assign rfl) rfl rfl trivial ?_
  refine be rfl ?_
  refine k_then ?_
  refine t_seq ?_
  refine t_seq ?_
  refine b0 ?_
  refine o1 rfl (det_fieldAddr fld24_0 rfl) rfl rfl trivial ?_
  refine o1 rfl (det_load1 t1_3 rfl rfl (.tail _ (.head _)) rfl) rfl rfl trivial ?_
  refine o1 rfl (det_fieldAddr fld24_0 rfl) rfl rfl trivial ?_
  refine o1 rfl (det_load1 t1_3 rfl rfl (.head _) rfl) rfl rfl trivial ?_
  refine o1 rfl (det_neq rfl rfl) rfl rfl trivial ?_
  refine o2P bne_iff_ne rfl (det_move rfl) rfl rfl trivial (fun hb => ?_) (fun hb => ?_)
  ·
    refine on rfl rfl rfl ⟨_, rfl, .inl rfl⟩ ?_
    refine on rfl rfl rfl ⟨_, rfl, .inl rfl⟩ ?_
    refine on rfl rfl rfl ⟨_, rfl, .inl rfl⟩ ?_
    refine on rfl rfl rfl ⟨_, rfl, .inl rfl⟩ ?_
    refine on rfl rfl rfl ⟨_, rfl, .inl rfl⟩ ?_
    refine on rfl rfl rfl ⟨_, rfl, .inl rfl⟩ ?_
    refine on rfl rfl rfl ⟨_, rfl, .inl rfl⟩ ?_
    refine o1 rfl (det_pickT rfl rfl) rfl rfl trivial ?_
    refine be rfl ?_
    refine k_then ?_
    refine t_condT rfl ?_
    refine t_seq ?_
    refine b0 ?_
    refine o1 rfl (det_assign rfl) rfl rfl trivial ?_
    refine be rfl ?_
    refine k_then ?_
    refine t_ret (k_thenR (?_))
    refine ret_tmp rfl rfl rfl (fun w1 hs => ?_)
    exact ⟨by rw [decide_eq_false (fun h => by simp_all)], hs.keep⟩
  ·
    refine o1 rfl (det_fieldAddr fld24_1 rfl) rfl rfl ⟨_, rfl, rfl⟩ ?_
    refine o1 rfl (det_load1 t1_22 rfl rfl (.tail _ (.head _)) rfl) rfl rfl ⟨_, rfl, rfl⟩ ?_
    refine o1 rfl (det_lenS sl22 rfl) rfl rfl ⟨_, rfl, rfl⟩ ?_
    refine o1 rfl (det_fieldAddr fld24_1 rfl) rfl rfl ⟨_, rfl, rfl⟩ ?_
    refine o1 rfl (det_load1 t1_22 rfl rfl (.head _) rfl) rfl rfl ⟨_, rfl, rfl⟩ ?_
    refine o1 rfl (det_lenS sl22 rfl) rfl rfl ⟨_, rfl, rfl⟩ ?_
    refine o1 rfl (det_neq rfl rfl) rfl rfl ⟨_, rfl, rfl⟩ ?_
    refine o1 rfl (det_pickF rfl rfl) rfl rfl trivial ?_
    refine be rfl ?_
    refine k_then ?_
    refine t_condP bne_iff_ne rfl (fun hb => ?_) (fun hb => ?_)
    ·
      refine t_seq ?_
      refine b0 ?_
      refine o1 rfl (det_assign rfl) rfl rfl trivial ?_
      refine be rfl ?_
      refine k_then ?_
      refine t_ret (k_thenR (?_))
      refine ret_tmp rfl rfl rfl (fun w1 hs => ?_)
      have hne : ps ≠ qs := fun e => by have := congrArg List.length e; have := hP.len; have := hR.len; omega
      exact ⟨by rw [decide_eq_false (fun h => hne h.2)], hs.keep⟩
    ·
      refine t_skip ?_
      refine k_then ?_
      refine t_seq ?_
      refine t_seq ?_
      refine b0 ?_
      refine o1 rfl (det_assign rfl) rfl rfl trivial ?_
      refine be rfl ?_
      refine k_then ?_
      refine t_block ?_
      refine t_whileM (σ := Nat) (fun s => [(5, .int .i64 s)]) (fun _ => _) (fun s => ps.length - s) (fun s => s ≤ ps.length ∧ ∀ i, i < s → atP ps i = atP qs i) 0 (env0 := [(2, _), (3, _)]) ⟨Nat.zero_le _, fun i hi => absurd hi (Nat.not_lt_zero i)⟩ ⟨rfl, trivial⟩ ⟨rfl, rfl, trivial⟩ (.refl _) ?_
      rintro s ⟨hsl, hI⟩
      have hnl := hP.len
      have hml := hR.len
      refine t_seq ?_
      refine t_seq ?_
      refine b0 ?_
      refine o1 rfl (det_move rfl) rfl rfl trivial ?_
      refine o1 rfl (det_fieldAddr fld24_1 rfl) rfl rfl trivial ?_
      refine o1 rfl (det_load1 t1_22 rfl rfl (.tail _ (.head _)) rfl) rfl rfl trivial ?_
      refine o1 rfl (det_lenS sl22 rfl) rfl rfl trivial ?_
      refine o1 rfl (det_lss rfl rfl) rfl rfl trivial ?_
      refine be rfl ?_
      refine k_then ?_
      refine t_condP decide_eq_true_iff rfl (fun hb => ?_) (fun hb => ?_)
      ·
        have hlt : s < ps.length := by omega
        have hlt2 : s < qs.length := by omega
        obtain ⟨A, rfl⟩ := hP.some hlt
        obtain ⟨B, rfl⟩ := hR.some hlt2
        have hat := (atP_get hlt).symm
        have hat2 := (atP_get hlt2).symm
        refine t_skip ?_
        refine k_then ?_
        refine t_seq ?_
        refine t_block ?_
        refine t_seq ?_
        refine bD mixed ?_
        refine r_seg 11 11 [] [0, 1, 2, 3, 4, 5, 6, 7, 8, 9, 10] (by kernel_rfl) ?_
        refine s1 rfl (det_fieldAddr fld24_1 rfl) rfl rfl trivial rfl ?_
        refine s1 rfl (det_load1 t1_22 rfl rfl (.tail _ (.head _)) rfl) rfl rfl trivial rfl ?_
        refine s1 rfl (det_move rfl) rfl rfl trivial rfl ?_
        first | (refine s1 rfl (det_indexAddr sl22 rfl rfl ?_) rfl rfl trivial rfl ?_; (· (first | decide | omega)))
        refine s1 rfl (det_loadKN tN28 rfl (ptv_len ps[s]) (hP.cells (i := (s : Int)) (k := s) (Int.toNat_natCast s) hlt (ptv_len _))) rfl rfl trivial rfl ?_
        refine s1 rfl (det_fieldAddr fld24_1 rfl) rfl rfl trivial rfl ?_
        refine s1 rfl (det_load1 t1_22 rfl rfl (.head _) rfl) rfl rfl trivial rfl ?_
        refine s1 rfl (det_move rfl) rfl rfl trivial rfl ?_
        first | (refine s1 rfl (det_indexAddr sl22 rfl rfl ?_) rfl rfl trivial rfl ?_; (· (first | decide | omega)))
        refine s1 rfl (det_loadKN tN28 rfl (ptv_len qs[s]) (hR.cells (i := (s : Int)) (k := s) (Int.toNat_natCast s) hlt2 (ptv_len _))) rfl rfl trivial rfl ?_
        refine s1 rfl (det_neqS rfl rfl eqg28 (fun w => eq28 _ _ _ _ _ _ _ _ _ _ _ _ _ _ w)) rfl rfl trivial rfl ?_
        refine sg_nil ?_
        refine be rfl ?_
        refine k_then ?_
        refine t_condP Iff.rfl rfl (fun hb => ?_) (fun hb => ?_)
        ·
          replace hb : (!eqP ps[s] qs[s]) = true := hb
          have hne : ps ≠ qs := fun e => by subst e; have := eqP_iff.2 (rfl : ps[s] = ps[s]); rw [this] at hb; cases hb
          refine t_seq ?_
          refine b0 ?_
          refine o1 rfl (det_assign rfl) rfl rfl trivial ?_
          refine be rfl ?_
          refine k_then ?_
          refine t_ret (k_blkR (k_thenR (k_thenR (k_blkR (k_thenR (?_))))))
          refine ret_tmp rfl rfl rfl (fun w1 hs => ?_)
          exact ⟨by rw [decide_eq_false (fun h => hne h.2)], hs.keep⟩
        ·
          replace hb : ¬ (!eqP ps[s] qs[s]) = true := hb
          have heq : atP ps s = atP qs s := by rw [← hat, ← hat2]; exact eqP_iff.1 (by simpa using hb)
          refine t_skip ?_
          refine k_blk ?_
          refine k_then ?_
          refine b0 ?_
          refine o1 rfl (det_move rfl) rfl rfl trivial ?_
          first | (refine o1 rfl (det_addI rfl rfl ?_) rfl rfl trivial ?_; (· omega)) | refine o1 rfl (det_add rfl rfl) rfl rfl trivial ?_
          refine o1 rfl (det_assign rfl) rfl rfl trivial ?_
          refine be rfl ?_
          refine k_then ?_
          refine loop_back (s + 1) ⟨by omega, fun i hi => by
              rcases Nat.lt_or_ge i s with h1 | h1
              · exact hI i h1
              · rw [show i = s by omega]; exact heq⟩ (by omega) ⟨rfl, rfl, rfl, trivial⟩ (.refl _)
      ·
        have hse : s = ps.length := by omega
        subst hse
        have heq := eqPs_of (ps := ps) (qs := qs) (by omega) hI
        refine t_exit ?_
        refine k_thenE ?_
        refine k_thenE ?_
        refine k_blkE ?_
        refine k_then ?_
        refine t_seq ?_
        refine b0 ?_
        refine o1 rfl (det_assign rfl) rfl rfl trivial ?_
        refine be rfl ?_
        refine k_then ?_
        refine t_ret ?_
        refine ret_tmp rfl rfl rfl (fun w1 hs => ?_)
        exact ⟨by rw [decide_eq_true ⟨by grind, heq⟩], hs.keep⟩

/-- The reference's Push. -/
theorem rpush_ok {w : World} {F : Know} (hF : ∀ a v, F a = some v → w.cell? a = some v) {A : Option Addr} {n c : Nat} {cap : Int} {ps : List Pt} (hP : PK F A n ps) (hnb : n ≤ 65536) (hnc : n ≤ c) (hcm : c ≤ maxLen) {x : It} (hR : rightQ cap ps = true) (hI : okI x = true) : CallsF Try.prog 22 [.agg [.int .i64 cap, .slice A n c].toArray, .agg [.int .i64 x.st, .int .i64 x.sq, .int .i64 x.cl, .int .i64 x.sz, .int .i64 x.sn].toArray] w F (fun v F2 => ∃ q, v = .tuple [q, .bool (pushQ cap ps x).2.1].toArray ∧ QV F2 q (pushQ cap ps x).1.1 (pushQ cap ps x).1.2) := by
  refine fn_fresh (F := F) Try.func22 rfl Try.ntmps22 rfl hF ?_
  refine t_seq ?_
  refine b0 ?_
  refine om1 rfl (new_boxN rfl) rfl rfl trivial (fun p2 => ?_)
  refine om1 rfl (new_boxN rfl) rfl rfl trivial (fun p3 => ?_)
  refine om1 rfl (new_alloc z24) rfl rfl trivial (fun p4 => ?_)
  refine o1 rfl (det_assign rfl) rfl rfl trivial ?_
  refine be rfl ?_
  refine k_then ?_
  refine t_seq ?_
  refine t_seq ?_
  refine bD mixed ?_
  refine r_seg 8 8 [] [0, 1, 2, 3, 4, 5, 6, 7] (by kernel_rfl) ?_
  have hV : validP ps = true := by grind [rightQ]
  have hob := octs_bd hV
  have hnl := hP.len
  have hsz : 84 ≤ x.sz ∧ x.sz ≤ 1542 := by grind [okI]
  refine s1 rfl (det_loadN tN24 rfl rfl (.tail _ (.tail _ (.head _))) rfl) rfl rfl trivial rfl ?_
  refine s1 rfl (det_call hb18 rfl rfl (fun w1 hs => roct_ok hs.know hP hnb hV)) rfl rfl trivial rfl ?_
  refine s1 rfl (det_fieldAddr fld26_3 rfl) rfl rfl trivial rfl ?_
  refine s1 rfl (det_load1 t1_3 rfl rfl (.tail _ (.head _)) rfl) rfl rfl trivial rfl ?_
  first | (refine s1 rfl (det_addI rfl rfl ?_) rfl rfl trivial rfl ?_; (· omega)) | refine s1 rfl (det_add rfl rfl) rfl rfl trivial rfl ?_
  refine s1 rfl (det_fieldAddr fld24_0 rfl) rfl rfl trivial rfl ?_
  refine s1 rfl (det_load1 t1_3 rfl rfl (.tail _ (.tail _ (.head _))) rfl) rfl rfl trivial rfl ?_
  refine s1 rfl (det_gtr rfl rfl) rfl rfl trivial rfl ?_
  refine sg_nil ?_
  refine be rfl ?_
  refine k_then ?_
  refine t_condP decide_eq_true_iff rfl (fun hb => ?_) (fun hb => ?_)
  ·
    refine t_seq ?_
    refine b0 ?_
    refine o1 rfl (det_loadN tN24 rfl rfl (.tail _ (.tail _ (.head _))) rfl) rfl rfl trivial ?_
    refine stN nofun rfl tN24 rfl rfl rfl .head rfl trivial rfl rfl ?_
    refine o1 rfl (det_assign rfl) rfl rfl trivial ?_
    refine be rfl ?_
    refine k_then ?_
    refine t_ret (k_thenR (?_))
    refine ret_any (vs := [_, _]) rfl rfl ⟨(.cellN tN24 rfl rfl (.head _) rfl), (.tmp rfl), trivial⟩ rfl (fun w1 hs => ?_)
    have hq : pushQ cap ps x = ((cap, ps), false, 0) := by unfold pushQ; rw [if_neg (by rw [hR]; simp), if_neg (by rw [hI]; simp), if_pos hb]
    exact end_fresh hs fun F2 h1 _ _ => ⟨_, by rw [hq]; rfl, by rw [hq]; exact QV.mk (hP.mono h1) hnc hcm⟩
  ·
    refine t_skip ?_
    refine k_then ?_
    refine t_seq ?_
    refine b0 ?_
    refine o1 rfl (det_assign rfl) rfl rfl trivial ?_
    refine be rfl ?_
    refine k_then ?_
    refine t_seq ?_
    refine b0 ?_
    refine o1 rfl (det_move rfl) rfl rfl trivial ?_
    refine o1 rfl (det_fieldAddr fld24_1 rfl) rfl rfl trivial ?_
    refine o1 rfl (det_load1 t1_22 rfl rfl (.tail _ (.tail _ (.head _))) rfl) rfl rfl trivial ?_
    refine oAppS (pre := [_, _, _]) (b := []) (m := n) (news := rowsV ptv ps) nofun rfl ap22 rfl rfl rfl trivial (SlO.nil 28 7) (by rw [rowsV_len ptv_len, hP.len]) (fun w hs j u hj => by obtain ⟨b, hb, h⟩ := hP.flat ptv_len (by decide) j u hj; exact ⟨b, hb, hs.know _ _ h⟩) (rowsV_one_cell ps) (by omega) (by simp only [maxLen]; omega) (fun A1 c1 b1 hS1 => ?_)
    rw [Nat.zero_add n] at hS1 ⊢
    replace hS1 : SlO 28 7 (.slice A1 n c1) n (rowsV ptv ps) b1 := hS1
    refine o1 rfl (det_assign rfl) rfl rfl trivial ?_
    refine be rfl ?_
    refine k_then ?_
    refine t_seq ?_
    refine b0 ?_
    refine o1 rfl (det_move rfl) rfl rfl trivial ?_
    refine o1 rfl (det_loadN tN26 rfl rfl (.tail _ (.head _)) rfl) rfl rfl trivial ?_
    refine o1 rfl (det_fieldAddr fld26_3 rfl) rfl rfl trivial ?_
    refine o1 rfl (det_load1 t1_3 rfl rfl (.tail _ (.head _)) rfl) rfl rfl trivial ?_
    refine o1 rfl (det_build rfl (fun w => bld28_0_1 _ _ _ _ _ _ w)) rfl rfl trivial ?_
    refine om1 rfl (new_buildSlice rfl (fun w => bsl22_1_0 _ _ _ _ _ _ _ w)) rfl rfl trivial (fun p25 => ?_)
    refine oAppS (pre := [_, _, _, _]) (b := b1) (m := 1) (news := ptv (whole x)) nofun rfl ap22 rfl rfl rfl trivial hS1 rfl (fun w hs j u hj => hs.cellO (.head _) hj) (rowsV_one_cell [whole x]) (by omega) (by simp only [maxLen]; omega) (fun A2 c2 b2 hS2 => ?_)
    replace hS2 : SlO 28 7 (.slice A2 (n + 1) c2) (n + 1) (rowsV ptv (ps ++ [whole x])) b2 := by rw [rowsV_app, rowsV_one]; exact hS2
    refine o1 rfl (det_fieldAddr fld24_1 rfl) rfl rfl trivial ?_
    refine st1 nofun rfl t1_22 rfl rfl rfl (.tail (.tail (.tail .head))) rfl trivial rfl ?_
    refine be rfl ?_
    refine k_then ?_
    refine t_seq ?_
    refine b0 ?_
    refine o1 rfl (det_loadN tN24 rfl rfl (.tail _ (.tail _ (.tail _ (.head _)))) rfl) rfl rfl trivial ?_
    refine stN nofun rfl tN24 rfl rfl rfl (.tail .head) rfl trivial rfl rfl ?_
    refine o1 rfl (det_assign rfl) rfl rfl trivial ?_
    refine be rfl ?_
    refine k_then ?_
    refine t_ret ?_
    refine ret_any (vs := [_, _]) rfl rfl ⟨(.cellN tN24 rfl rfl (.tail _ (.head _)) rfl), (.tmp rfl), trivial⟩ rfl (fun w1 hs => ?_)
    have hq : pushQ cap ps x = ((cap, ps ++ [whole x]), true, 0) := by unfold pushQ; rw [if_neg (by rw [hR]; simp), if_neg (by rw [hI]; simp), if_neg hb]
    exact end_fresh hs fun F2 h1 _ h3 => ⟨_, by rw [hq]; rfl, by rw [hq]; exact SlO.qv hS2 (fun p cs t fr k hm => h3 p cs t fr k (.tail _ (.tail _ (.tail _ (.tail _ hm))))) rfl⟩

/-- The reference's Return. -/
theorem rreturn_ok {w : World} {F : Know} (hF : ∀ a v, F a = some v → w.cell? a = some v) {A : Option Addr} {n c : Nat} {cap : Int} {ps : List Pt} (hP : PK F A n ps) (hnb : n ≤ 65536) (hnc : n ≤ c) (hcm : c ≤ maxLen) {x : Pt} : CallsF Try.prog 27 [.agg [.int .i64 cap, .slice A n c].toArray, .agg [.int .i64 x.it.st, .int .i64 x.it.sq, .int .i64 x.it.cl, .int .i64 x.it.sz, .int .i64 x.it.sn, .int .i64 x.left, .bool x.rest].toArray] w F (fun v F2 => QV F2 v cap (x :: ps)) := by
  refine fn_fresh (F := F) Try.func27 rfl Try.ntmps27 rfl hF ?_
  refine t_seq ?_
  refine b0 ?_
  refine om1 rfl (new_boxN rfl) rfl rfl trivial (fun p2 => ?_)
  refine om1 rfl (new_boxN rfl) rfl rfl trivial (fun p3 => ?_)
  refine om1 rfl (new_alloc z24) rfl rfl trivial (fun p4 => ?_)
  refine be rfl ?_
  refine k_then ?_
  refine t_seq ?_
  refine b0 ?_
  refine o1 rfl (det_loadN tN28 rfl rfl (.tail _ (.head _)) rfl) rfl rfl trivial ?_
  refine om1 rfl (new_buildSlice rfl (fun w => bsl22_1_0 _ _ _ _ _ _ _ w)) rfl rfl trivial (fun p7 => ?_)
  refine o1 rfl (det_assign rfl) rfl rfl trivial ?_
  refine be rfl ?_
  refine k_then ?_
  refine t_seq ?_
  refine b0 ?_
  refine o1 rfl (det_move rfl) rfl rfl trivial ?_
  refine o1 rfl (det_fieldAddr fld24_1 rfl) rfl rfl trivial ?_
  refine o1 rfl (det_load1 t1_22 rfl rfl (.tail _ (.tail _ (.tail _ (.head _)))) rfl) rfl rfl trivial ?_
  refine oAppH (b := [_]) (post := [_, _, _]) (m := n) (news := rowsV ptv ps) nofun rfl ap22 rfl rfl rfl trivial (SlO.lit (n := 1) (xs := ptv x) rfl (by decide)) (by rw [rowsV_len ptv_len, hP.len]) (fun w hs j u hj => by obtain ⟨b, hb, h⟩ := hP.flat ptv_len (by decide) j u hj; exact ⟨b, hb, hs.know _ _ h⟩) (rowsV_one_cell ps) (by omega) (by simp only [maxLen]; omega) (fun A1 c1 b1 hS1 => ?_)
  replace hS1 : SlO 28 7 (.slice A1 (1 + n) c1) (1 + n) (rowsV ptv (x :: ps)) b1 := hS1
  obtain ⟨A2, c2, hv2, hn2, hm2, -⟩ := hS1.slice
  refine o1 rfl (det_fieldAddr fld24_1 rfl) rfl rfl trivial ?_
  refine st1 nofun rfl t1_22 rfl rfl rfl (.tail (.tail .head)) rfl trivial rfl ?_
  refine be rfl ?_
  refine k_then ?_
  refine t_seq ?_
  refine b0 ?_
  refine o1 rfl (det_loadN tN24 rfl rfl (.tail _ (.tail _ (.head _))) rfl) rfl rfl trivial ?_
  refine stN nofun rfl tN24 rfl rfl rfl .head rfl trivial rfl rfl ?_
  refine be rfl ?_
  refine k_then ?_
  refine t_ret ?_
  refine ret_any (vs := [_]) rfl rfl ⟨(.cellN tN24 rfl rfl (.head _) rfl), trivial⟩ rfl (fun w1 hs => ?_)
  exact end_fresh hs fun F2 h1 _ h3 => SlO.qv hS1 (fun p cs t fr k hm => h3 p cs t fr k (.tail _ (.tail _ (.tail _ hm)))) rfl

end Go.Proofs.Qu
