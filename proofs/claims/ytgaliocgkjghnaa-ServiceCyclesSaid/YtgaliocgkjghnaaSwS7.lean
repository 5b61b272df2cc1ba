/-
  Walks through layer 30 and its reference.
-/
import Derived.Test.YtgaliocgkjghnaaSwS6
namespace Go.Proofs.Sw
open Go Go.Eng Go.Gt Go.Proofs.Gt Go.Sw Go.Sv
set_option maxRecDepth 4000

/-- Of. -/
theorem Of_ok {w : World} {F : Know} (hF : ∀ a v, F a = some v → w.cell? a = some v) {g : Gl} (hE : GlK F g) {per most : Int} : Pure Try.prog 40 [.agg (glv g).toArray, .int .i64 per, .int .i64 most] w (.tuple [.agg [.int .i64 (ofS g.es g.cyc per most).1.1, .int .i64 (ofS g.es g.cyc per most).1.2].toArray, .int .i64 (ofS g.es g.cyc per most).2].toArray) := by
  refine fn_pure (F := F) Try.func40 rfl Try.ntmps40 rfl hF ?_
  refine t_seq ?_
  refine b0 ?_
  refine om1 rfl (new_boxN rfl) rfl rfl trivial (fun p3 => ?_)
  refine om1 rfl (new_box1 rfl rfl) rfl rfl trivial (fun p4 => ?_)
  refine om1 rfl (new_alloc z75) rfl rfl trivial (fun p6 => ?_)
  refine o1 rfl (det_assign rfl) rfl rfl trivial ?_
  refine be rfl ?_
  refine k_then ?_
  refine t_seq ?_
  refine t_seq ?_
  refine b0 ?_
  refine o1 rfl (det_loadN tN30 rfl rfl (.tail _ (.tail _ (.head _))) rfl) rfl rfl trivial ?_
  refine o1 rfl (det_load1 t1_3 rfl rfl (.tail _ (.head _)) rfl) rfl rfl trivial ?_
  refine o1 rfl (det_move rfl) rfl rfl trivial ?_
  refine o1 rfl (det_call hb60 rfl rfl (fun w1 hs => svalid_ok hs.know hE)) rfl rfl trivial ?_
  refine o1 rfl (det_assign rfl) rfl rfl trivial ?_
  refine be rfl ?_
  refine k_then ?_
  refine t_seq ?_
  refine b0 ?_
  refine o1 rfl (det_move rfl) rfl rfl trivial ?_
  refine o1 rfl (det_neq rfl rfl) rfl rfl trivial ?_
  refine be rfl ?_
  refine k_then ?_
  refine t_condP bne_iff_ne rfl (fun hb => ?_) (fun hb => ?_)
  ·
    have he : errS g.es g.cyc per most ≠ 0 := hb
    refine t_seq ?_
    refine b0 ?_
    refine o1 rfl (det_build rfl (fun w => bld75_ w)) rfl rfl trivial ?_
    refine o1 rfl (det_move rfl) rfl rfl trivial ?_
    refine stN nofun rfl tN75 rfl rfl rfl .head rfl trivial rfl rfl ?_
    refine o1 rfl (det_assign rfl) rfl rfl trivial ?_
    refine be rfl ?_
    refine k_then ?_
    refine t_ret (k_thenR (?_))
    refine ret_any (vs := [_, _]) rfl rfl ⟨(.cellN tN75 rfl rfl (.head _) rfl), (.tmp rfl), trivial⟩ rfl (fun w1 hs => ?_)
    exact ⟨by unfold ofS; rw [if_neg he]; rfl, hs.keep⟩
  ·
    have he : errS g.es g.cyc per most = 0 := by simpa using hb
    obtain ⟨hG, hA⟩ := errS_zero he
    have hcy := okG_cyc hG
    have hAb := of_decide_eq_true (show decide _ = true from hA)
    have hml : 84 ≤ most * per ∧ most * per ≤ 1542000 := mul_rng hAb
    obtain ⟨lost, hlo⟩ : ∃ lost, most * per = lost := ⟨_, rfl⟩
    have hmc : per * most = lost := by rw [← hlo]; exact Int.mul_comm _ _
    rw [hlo] at hml
    have hrt := rate_rng (es := g.es) (cyc := g.cyc) (lost := lost) (per := per) (by omega) (by omega) (by omega)
    have hyr := yield_rng (es := g.es) (cyc := g.cyc) (lost := lost) (by omega) (by omega)
    have hcp : 1 ≤ g.cyc * per ∧ g.cyc * per ≤ 9600000000 := by
      have h1 : 1 * 1 ≤ g.cyc * per := Int.mul_le_mul hcy.1 hAb.1 (by decide) (by omega)
      have h2 : g.cyc * per ≤ 9600000 * 1000 := Int.mul_le_mul hcy.2 hAb.2.1 (by omega) (by decide)
      omega
    refine t_skip ?_
    refine k_then ?_
    refine t_seq ?_
    refine b0 ?_
    refine o1 rfl (det_move rfl) rfl rfl trivial ?_
    refine o1 rfl (det_load1 t1_3 rfl rfl (.tail _ (.head _)) rfl) rfl rfl trivial ?_
    first | (refine o1 rfl (det_mulI rfl rfl ?_) rfl rfl trivial ?_; (· omega)) | refine o1 rfl (det_mul rfl rfl) rfl rfl trivial ?_
    refine om1 rfl (new_alloc z3) rfl rfl trivial (fun p9 => ?_)
    refine st1 nofun rfl t1_3 rfl rfl rfl .head rfl trivial rfl ?_
    refine be rfl ?_
    refine k_then ?_
    refine t_seq ?_
    refine bD mixed ?_
    refine r_seg 11 10 [9] [0, 1, 2, 3, 4, 5, 6, 7, 8, 9] (by kernel_rfl) ?_
    rw [hlo]
    refine s1 rfl (det_loadN tN30 rfl rfl (.tail _ (.tail _ (.tail _ (.head _)))) rfl) rfl rfl trivial rfl ?_
    refine s1 rfl (det_load1 t1_3 rfl rfl (.head _) rfl) rfl rfl trivial rfl ?_
    refine s1 rfl (det_call hb61 rfl rfl (fun w1 hs => yield30_ok hs.know hE hG (by omega))) rfl rfl trivial rfl ?_
    first | (refine s1 rfl (det_mulI rfl rfl ?_) rfl rfl trivial rfl ?_; (· omega)) | refine s1 rfl (det_mul rfl rfl) rfl rfl trivial rfl ?_
    refine s1 rfl (det_fieldAddr fld30_1 rfl) rfl rfl trivial rfl ?_
    refine s1 rfl (det_load1 t1_3 rfl rfl (.tail _ (.tail _ (.tail _ (.head _)))) rfl) rfl rfl trivial rfl ?_
    refine s1 rfl (det_load1 t1_3 rfl rfl (.tail _ (.tail _ (.head _))) rfl) rfl rfl trivial rfl ?_
    first | (refine s1 rfl (det_mulI rfl rfl ?_) rfl rfl trivial rfl ?_; (· omega)) | refine s1 rfl (det_mul rfl rfl) rfl rfl trivial rfl ?_
    first | (refine s1 rfl (det_quoP rfl rfl ?_ ?_) rfl rfl trivial rfl ?_; (· omega); (· omega)) | (refine s1 rfl (det_quoI rfl rfl ?_ ?_) rfl rfl trivial rfl ?_; (· (first | decide | omega)); (· omega)) | (refine s1 rfl (det_quo rfl rfl ?_) rfl rfl trivial rfl ?_; (· (first | decide | omega)))
    refine sm1 rfl (new_alloc z3) rfl rfl trivial rfl (fun p10 => ?_)
    refine sg_nil ?_
    refine st1 (fun _ => by kernel_rfl) rfl t1_3 rfl rfl rfl .head rfl trivial rfl ?_
    refine be rfl ?_
    refine k_then ?_
    refine t_seq ?_
    refine t_seq ?_
    refine b0 ?_
    have hdv : yieldS g.es g.cyc lost * 1048576 / (g.cyc * per) = rateS g.es g.cyc lost per := rfl
    rw [hdv]
    obtain ⟨R, hRR⟩ : ∃ R, rateS g.es g.cyc lost per = R := ⟨_, rfl⟩
    rw [hRR] at hrt ⊢
    refine tk_freeze (pre := [_, _, _, _]) rfl (fun Fa hFa hNFa hKFa => ?_)
    refine tk_freeze (pre := [_, _, _]) rfl (fun Fb hFb hNFb hKFb => ?_)
    refine tk_freeze (pre := [_]) rfl (fun Fc hFc hNFc hKFc => ?_)
    refine tk_freeze (pre := []) rfl (fun Fd hFd hNFd hKFd => ?_)
    have h4 : Fd ⟨p4, 0, none⟩ = some (.int .i64 per) := hFd _ _ (hFc _ _ (hKFb 0 _ rfl))
    have h9 : Fd ⟨p9, 0, none⟩ = some (.int .i64 lost) := hFd _ _ (hKFc 0 _ rfl)
    have h10 : Fd ⟨p10, 0, none⟩ = some (.int .i64 R) := hKFd 0 _ rfl
    have hg3 : ∀ j, j < 2 → Fd ((⟨p3, 0, none⟩ : Addr).add j) = (glv g)[j]? := by
      intro j hj
      obtain ⟨u, hu⟩ : ∃ u, (glv g)[j]? = some u := ⟨_, List.getElem?_eq_getElem (by rw [glv_len]; exact hj)⟩
      rw [hu, add_mk, Nat.zero_add]
      exact hFd _ _ (hFc _ _ (hFb _ _ (hKFa j u hu)))
    have hEd : GlK Fd g := EntK.mono hE fun a u h => hFd _ _ (hFc _ _ (hFb _ _ (hFa _ _ h)))
    refine o1 rfl (det_loadK t1_3 rfl h10) rfl rfl trivial ?_
    refine o1 rfl (det_lss rfl rfl) rfl rfl trivial ?_
    refine be rfl ?_
    refine k_then ?_
    refine t_condP decide_eq_true_iff rfl (fun hb => ?_) (fun hb => ?_)
    ·
      have hr1 : R < 1 := hb
      refine t_seq ?_
      refine b0 ?_
      refine o1 rfl (det_build rfl (fun w => bld75_ w)) rfl rfl trivial ?_
      refine stN nofun rfl tN75 rfl rfl rfl .head rfl trivial rfl rfl ?_
      refine o1 rfl (det_assign rfl) rfl rfl trivial ?_
      refine be rfl ?_
      refine k_then ?_
      refine t_ret (k_thenR (?_))
      refine ret_any (vs := [_, _]) rfl rfl ⟨(.cellN tN75 rfl rfl (.head _) rfl), (.tmp rfl), trivial⟩ rfl (fun w1 hs => ?_)
      exact ⟨by unfold ofS; rw [if_pos he, hlo, hRR, if_pos hr1]; rfl, hs.keep⟩
    ·
      have hr1 : 1 ≤ R := by omega
      have hRp1 : 1 * 1 ≤ R * per := Int.mul_le_mul hr1 hAb.1 (by decide) (by omega)
      refine t_skip ?_
      refine k_then ?_
      refine t_seq ?_
      refine b0 ?_
      refine o1 rfl (det_loadK t1_3 rfl h4) rfl rfl trivial ?_
      first | (refine o1 rfl (det_mulI rfl rfl ?_) rfl rfl trivial ?_; (· omega)) | refine o1 rfl (det_mul rfl rfl) rfl rfl trivial ?_
      first | (refine o1 rfl (det_mulI rfl rfl ?_) rfl rfl trivial ?_; (· omega)) | refine o1 rfl (det_mul rfl rfl) rfl rfl trivial ?_
      refine om1 rfl (new_alloc z3) rfl rfl trivial (fun p12 => ?_)
      refine o1 rfl (det_assign rfl) rfl rfl trivial ?_
      refine st1 nofun rfl t1_3 rfl rfl rfl .head rfl trivial rfl ?_
      refine be rfl ?_
      refine k_then ?_
      refine t_seq ?_
      refine t_seq ?_
      refine b0 ?_
      refine o1 rfl (det_loadKN tN30 rfl rfl hg3) rfl rfl trivial ?_
      refine o1 rfl (det_call hb65 rfl rfl (fun w1 hs => always_ok hs.know hEd hG)) rfl rfl trivial ?_
      refine o1 rfl (det_not rfl) rfl rfl trivial ?_
      refine be rfl ?_
      refine k_then ?_
      refine t_condP not_iff_false rfl (fun hb => ?_) (fun hb => ?_)
      ·
        have hal : alwE g.es = false := by simpa using hb
        have hcf := closed_facts hG hal
        have hlen := (round_is hG).1.len (by omega)
        refine t_seq ?_
        refine b0 ?_
        refine om1 rfl (new_alloc z111) rfl rfl trivial (fun p13 => ?_)
        refine be rfl ?_
        refine k_then ?_
        refine t_seq ?_
        refine b0 ?_
        refine o1 rfl (det_loadKN tN30 rfl rfl hg3) rfl rfl trivial ?_
        refine o1 rfl (det_call hb68 rfl rfl (fun w1 hs => closed_ok hs.know hEd hG)) rfl rfl trivial ?_
        refine o1 rfl (det_assign rfl) rfl rfl trivial ?_
        refine be rfl ?_
        refine k_then ?_
        refine t_seq ?_
        refine t_seq ?_
        refine b0 ?_
        refine o1 rfl (det_loadKN tN30 rfl rfl hg3) rfl rfl trivial ?_
        refine o1 rfl (det_move rfl) rfl rfl trivial ?_
        refine o1 rfl (det_move rfl) rfl rfl trivial ?_
        refine o1 rfl (det_fieldAddr fld30_1 rfl) rfl rfl trivial ?_
        refine o1 rfl (det_loadK t1_3 rfl (hg3 1 (by decide))) rfl rfl trivial ?_
        first | (refine o1 rfl (det_addI rfl rfl ?_) rfl rfl trivial ?_; (· omega)) | refine o1 rfl (det_add rfl rfl) rfl rfl trivial ?_
        refine oF nofun rfl hb69 rfl rfl rfl trivial (fun w1 hs => (openings_ok hs.know).any) (fun v F2 hF2 hNF2 ⟨q1, q2, q3, hv, h1, h2, h3⟩ => ?_)
        subst hv
        refine be rfl ?_
        refine k_then ?_
        refine t_block ?_
        refine t_rangeF2 (σ := GS) (fun s => [(p13, .cells [.slice s.A s.n s.cp].toArray 111 (0, 0)), (p12, .cells [.int .i64 (0)].toArray 3 (0, 0)), (p6, .cells [.int .i64 0, .int .i64 0].toArray 75 (0, 0))] ++ s.b) (fun k s => s.n = k ∧ SlO 117 2 (.slice s.A s.n s.cp) s.n (rowsV o2 ((runs (op6 g.es g.cyc) (closedE g.es) (closedE g.es + g.cyc)).take k)) s.b) (fun _ s => False) ⟨0, none, 0, []⟩ (fun k => [.int .i64 (atR (runs (op6 g.es g.cyc) (closedE g.es) (closedE g.es + g.cyc)) k).1, .int .i64 (atR (runs (op6 g.es g.cyc) (closedE g.es) (closedE g.es + g.cyc)) k).2]) (xs := (runs (op6 g.es g.cyc) (closedE g.es) (closedE g.es + g.cyc)).map fun x => [Value.int .i64 x.1, .int .i64 x.2]) (env0 := [(3, _), (4, _), (6, _), (7, _), (9, _), (10, _), (11, _), (12, _), (13, _)]) rfl hb84 (open_gives (hEd.mono hF2) hG (by omega) (by omega) (by omega) h1 h2 h3) (fun k hk => by rw [List.getElem_map]; rw [List.length_map] at hk; simp [hk]) (fun _ => rfl) rfl ⟨rfl, SlO.nil _ _⟩ ⟨rfl, rfl, rfl, rfl, rfl, rfl, rfl, rfl, rfl, trivial⟩ (.refl _) ?_ ?_ ?_
        ·
          rintro W2 S2 l D r k s hr hk ⟨hn, hS⟩
          rw [List.length_map] at hk
          have hlen2 : ((runs (op6 g.es g.cyc) (closedE g.es) (closedE g.es + g.cyc)).length : Int) ≤ g.cyc := by have := hlen; unfold roundR at this; omega
          refine t_seq ?_
          refine b0 ?_
          refine o1 rfl (det_assign rfl) rfl rfl trivial ?_
          refine be rfl ?_
          refine k_then ?_
          refine b0 ?_
          refine o1 rfl (det_assign rfl) rfl rfl trivial ?_
          refine be rfl ?_
          refine k_then ?_
          refine k_begin (pre := _ :: _) hr.1 rfl ?_
          refine tk_outB (pre := [_, _, _]) (b := s.b) (post := [_, _]) ?_
          refine t_block ?_
          refine b0 ?_
          refine o1 rfl (det_load1 t1_111 rfl rfl (.head _) rfl) rfl rfl trivial ?_
          refine o1 rfl (det_move rfl) rfl rfl trivial ?_
          refine o1 rfl (det_move rfl) rfl rfl trivial ?_
          refine o1 rfl (det_build rfl (fun w => bld117_0_1 _ _ w)) rfl rfl trivial ?_
          refine om1 rfl (new_buildSlice rfl (fun w => bsl111_1_0 _ _ w)) rfl rfl trivial (fun p68 => ?_)
          refine oAppS (pre := [_, _, _, _, _, _]) (b := _) (m := 1) (news := [.int .i64 (atR (runs (op6 g.es g.cyc) (closedE g.es) (closedE g.es + g.cyc)) k).1, .int .i64 (atR (runs (op6 g.es g.cyc) (closedE g.es) (closedE g.es + g.cyc)) k).2]) nofun rfl ap111 rfl rfl rfl trivial hS rfl (fun w hs j u hj => hs.cellO (.head _) hj) (by simp [Value.oneCell']) (by omega) (by simp only [maxLen]; omega) (fun A9 c9 b9 hS9 => ?_)
          replace hS9 : SlO 117 2 (.slice A9 (s.n + 1) c9) (s.n + 1) (rowsV o2 ((runs (op6 g.es g.cyc) (closedE g.es) (closedE g.es + g.cyc)).take (k + 1))) b9 := by rw [rows_takeR hk]; exact hS9
          refine st1 nofun rfl t1_111 rfl rfl rfl (.tail .head) rfl trivial rfl ?_
          refine be rfl ?_
          refine k_blk ?_
          refine tk_inB (news := [_]) (pre := [_, _, _]) (b := b9) (post := [_, _]) ?_
          refine round_next (⟨s.n + 1, A9, c9, b9⟩ : GS) hr ⟨by rw [hn], hS9⟩ (.cons _ (.refl _)) rfl rfl
        ·
          rintro D s ⟨hn, hS⟩
          rw [List.length_map] at hn hS
          rw [List.take_length] at hS
          replace hS : SlO 117 2 (.slice s.A s.n s.cp) s.n (rowsV o2 (roundR g.es g.cyc)) s.b := hS
          replace hn : s.n = (roundR g.es g.cyc).length := hn
          refine k_blk ?_
          refine k_then ?_
          refine t_seq ?_
          refine b0 ?_
          refine tk_outB (pre := [_, _, _]) (b := s.b) (post := [_]) ?_
          have hln0 : (roundR g.es g.cyc).length = s.n := hn.symm
          obtain ⟨n, hnn⟩ : ∃ n, s.n = n := ⟨_, rfl⟩
          rw [hnn] at hS ⊢
          have hln : (roundR g.es g.cyc).length = n := by rw [← hnn]; exact hln0
          refine o1 rfl (det_load1 t1_111 rfl rfl (.head _) rfl) rfl rfl trivial ?_
          refine o1 rfl (det_lenS sl111 rfl) rfl rfl trivial ?_
          refine o1 rfl (det_assign rfl) rfl rfl trivial ?_
          refine be rfl ?_
          refine k_then ?_
          refine t_seq ?_
          refine t_seq ?_
          refine b0 ?_
          refine o1 rfl (det_load1 t1_111 rfl rfl (.head _) rfl) rfl rfl trivial ?_
          refine o1 rfl (det_lenS sl111 rfl) rfl rfl trivial ?_
          refine o1 rfl (det_move rfl) rfl rfl trivial ?_
          refine be rfl ?_
          refine k_then ?_
          refine t_block ?_
          refine t_whileM (σ := KS) (fun t => [(74, .int .i64 (t.j : Int))]) (fun t => [(p13, .cells [.slice t.A (n + t.j) t.cp].toArray 111 (0, 0)), (p12, .cells [.int .i64 (0)].toArray 3 (0, 0)), (p6, .cells [.int .i64 0, .int .i64 0].toArray 75 (0, 0)), deadO D] ++ (t.b0 ++ t.b)) (fun t => n - t.j) (fun t => t.j ≤ n ∧ SlO 117 2 (.slice t.A (n + t.j) t.cp) (n + t.j) (rowsV o2 ((roundR g.es g.cyc) ++ (shl g.cyc (roundR g.es g.cyc)).take t.j)) t.b ∧ Old t.b0 s.A (rowsV o2 (roundR g.es g.cyc)) t.A (rowsV o2 ((roundR g.es g.cyc) ++ (shl g.cyc (roundR g.es g.cyc)).take t.j))) ⟨0, s.A, s.cp, [], s.b⟩ (env0 := [(3, _), (4, _), (6, _), (7, _), (9, _), (10, _), (11, _), (12, _), (13, _), (17, _), (72, _), (73, _)]) ⟨Nat.zero_le _, by simpa using hS, by have := Old.start hS; simpa using this⟩ ⟨rfl, trivial⟩ ⟨rfl, rfl, rfl, rfl, rfl, rfl, rfl, rfl, rfl, rfl, rfl, rfl, trivial⟩ (.refl _) ?_
          rintro t ⟨htj, hS2, hO2⟩
          refine t_seq ?_
          refine b0 ?_
          refine o1 rfl (det_lss rfl rfl) rfl rfl trivial ?_
          refine be rfl ?_
          refine k_then ?_
          refine t_seq ?_
          refine t_condP decide_eq_true_iff rfl (fun hb => ?_) (fun hb => ?_)
          ·
            have hlt : t.j < (roundR g.es g.cyc).length := by omega
            obtain ⟨a0, ha0⟩ : ∃ a0, s.A = some a0 := slo_some hS (by omega)
            rw [ha0] at hO2
            have hL0 := hO2.lies hS2
            have hbx := (round_is hG).1.at_ hlt
            refine t_skip ?_
            refine k_then ?_
            refine t_seq ?_
            refine t_block ?_
            refine t_seq ?_
            refine b0 ?_
            rw [ha0]
            first | (refine o1 rfl (det_indexAddr sl111 rfl rfl ?_) rfl rfl trivial ?_; (· (first | decide | omega)))
            refine o1 rfl (det_loadWN tN117 rfl (o2_len _) (fun w hs => lies_row hL0 hs (fun x hx => List.mem_append_right _ hx) hlt)) rfl rfl trivial ?_
            refine om1 rfl (new_alloc z117) rfl rfl trivial (fun p19 => ?_)
            refine stN nofun rfl tN117 rfl rfl rfl .head rfl trivial rfl rfl ?_
            refine be rfl ?_
            refine k_then ?_
            refine b0 ?_
            refine o1 rfl (det_load1 t1_111 rfl rfl (.tail _ (.head _)) rfl) rfl rfl trivial ?_
            refine o1 rfl (det_fieldAddr fld117_0 rfl) rfl rfl trivial ?_
            refine o1 rfl (det_load1 t1_3 rfl rfl (.head _) rfl) rfl rfl trivial ?_
            refine o1 rfl (det_fieldAddr fld30_1 rfl) rfl rfl trivial ?_
            refine o1 rfl (det_loadK t1_3 rfl (hF2 _ _ (hg3 1 (by decide)))) rfl rfl trivial ?_
            first | (refine o1 rfl (det_addI rfl rfl ?_) rfl rfl trivial ?_; (· omega)) | refine o1 rfl (det_add rfl rfl) rfl rfl trivial ?_
            refine o1 rfl (det_fieldAddr fld117_1 rfl) rfl rfl trivial ?_
            refine o1 rfl (det_load1 t1_3 rfl rfl (.head _) rfl) rfl rfl trivial ?_
            refine o1 rfl (det_fieldAddr fld30_1 rfl) rfl rfl trivial ?_
            refine o1 rfl (det_loadK t1_3 rfl (hF2 _ _ (hg3 1 (by decide)))) rfl rfl trivial ?_
            first | (refine o1 rfl (det_addI rfl rfl ?_) rfl rfl trivial ?_; (· omega)) | refine o1 rfl (det_add rfl rfl) rfl rfl trivial ?_
            refine o1 rfl (det_build rfl (fun w => bld117_0_1 _ _ w)) rfl rfl trivial ?_
            refine om1 rfl (new_buildSlice rfl (fun w => bsl111_1_0 _ _ w)) rfl rfl trivial (fun p90 => ?_)
            refine oAppK (pre := [_, _, _, _, _, _]) (b0 := t.b0) (b := t.b) (news := [.int .i64 ((atR (roundR g.es g.cyc) t.j).1 + g.cyc), .int .i64 ((atR (roundR g.es g.cyc) t.j).2 + g.cyc)]) rfl ap111 rfl rfl rfl trivial hS2 hO2 rfl (fun w1 hs j u hj => hs.cellO (.head _) hj) (by simp [Value.oneCell']) (by omega) (by simp only [maxLen]; omega) (fun A8 c8 b80 b8 hS8 hO8 => ?_)
            rw [← rows_dbl hlt] at hS8 hO8
            refine st1 nofun rfl t1_111 rfl rfl rfl (.tail (.tail .head)) rfl trivial rfl ?_
            refine be rfl ?_
            refine k_blk ?_
            refine k_then ?_
            refine b0 ?_
            first | (refine o1 rfl (det_addI rfl rfl ?_) rfl rfl trivial ?_; (· omega)) | refine o1 rfl (det_add rfl rfl) rfl rfl trivial ?_
            refine o1 rfl (det_move rfl) rfl rfl trivial ?_
            refine be rfl ?_
            refine k_then ?_
            refine loop_back (⟨t.j + 1, A8, c8, b80, b8⟩ : KS) ⟨by show t.j + 1 ≤ n; omega, hS8, hO8⟩ (by show n - (t.j + 1) < n - t.j; omega) ⟨rfl, rfl, rfl, rfl, rfl, rfl, rfl, rfl, rfl, rfl, rfl, rfl, rfl, trivial⟩ (.cons _ (.cons _ (.refl _)))
          ·
            have hje : t.j = n := by omega
            have hdbl : (roundR g.es g.cyc) ++ (shl g.cyc (roundR g.es g.cyc)).take t.j = dblR g.cyc (roundR g.es g.cyc) := by rw [hje, ← hln, List.take_of_length_le (by unfold shl; simp)]; rfl
            refine t_exit ?_
            refine k_thenE ?_
            refine k_thenE ?_
            refine k_blkE ?_
            refine k_then ?_
            refine t_seq ?_
            refine b0 ?_
            refine tk_freezeM (pre := [_, _, _, _]) (b0 := t.b0) (b := t.b) hS2 rfl (fun Fe hFe hNFe hKFe => ?_)
            simp only [List.cons_append, List.nil_append]
            refine tk_freeze (pre := []) rfl (fun Ff hFf hNFf hKFf => ?_)
            have h13 : Ff ⟨p13, 0, none⟩ = some (.slice t.A (n + t.j) t.cp) := hKFf 0 _ rfl
            have hLL : RowsK o2 2 Ff t.A (n + t.j) (dblR g.cyc (roundR g.es g.cyc)) := rowsK_of o2_len (by decide) (fun j u hj => by rw [hdbl] at hKFe; obtain ⟨a, ha, h⟩ := hKFe j u hj; exact ⟨a, ha, hFf _ _ h⟩) (by rw [dbl_len, hln, hje]; omega)
            replace h4 := hFf _ _ (hFe _ _ (hF2 _ _ h4))
            replace h9 := hFf _ _ (hFe _ _ (hF2 _ _ h9))
            replace h10 := hFf _ _ (hFe _ _ (hF2 _ _ h10))
            obtain ⟨L, hLe⟩ : ∃ L, dblR g.cyc (roundR g.es g.cyc) = L := ⟨_, rfl⟩
            have hD := dbl_facts hG (lost := lost) (by omega)
            have hLn : L.length = 2 * n := by rw [← hLe, dbl_len, hln]
            rw [hLe] at hLL hD
            refine o1 rfl (det_makeFunc rfl rfl) rfl rfl trivial ?_
            refine o1 rfl (det_assign rfl) rfl rfl trivial ?_
            refine be rfl ?_
            refine k_then ?_
            refine t_seq ?_
            refine b0 ?_
            refine o1 rfl (det_move rfl) rfl rfl trivial ?_
            refine o1 rfl (det_move rfl) rfl rfl trivial ?_
            refine be rfl ?_
            refine k_then ?_
            refine t_block ?_
            refine t_whileM (σ := Nat) (fun i => [(95, .int .i64 (i : Int))]) (fun i => [(p12, .cells [.int .i64 (wOut L lost R per n i)].toArray 3 (0, 0)), (p6, .cells [.int .i64 0, .int .i64 0].toArray 75 (0, 0)), deadO D]) (fun i => n - i) (fun i => i ≤ n) 0 (env0 := [(4, _), (6, _), (7, _), (9, _), (10, _), (11, _), (12, _), (13, _), (17, _), (20, _), (94, _)]) (Nat.zero_le _) ⟨rfl, trivial⟩ ⟨rfl, rfl, rfl, rfl, rfl, rfl, rfl, rfl, rfl, rfl, rfl, trivial⟩ (List.sublist_append_left _ _) ?_
            rintro i hin
            have hwo := wOut_rng hD hLn (by omega) hrt.1 hAb.1 hrt.2.1 i hin
            refine t_seq ?_
            refine b0 ?_
            refine o1 rfl (det_lss rfl rfl) rfl rfl trivial ?_
            refine be rfl ?_
            refine k_then ?_
            refine t_seq ?_
            refine t_condP decide_eq_true_iff rfl (fun hb => ?_) (fun hb => ?_)
            ·
              have hi3 : i < n := by omega
              have hi2 : i < L.length := by omega
              refine t_skip ?_
              refine k_then ?_
              refine t_seq ?_
              refine t_block ?_
              refine t_seq ?_
              refine b0 ?_
              refine o1 rfl (det_move rfl) rfl rfl trivial ?_
              refine o1 rfl (det_assign rfl) rfl rfl trivial ?_
              refine be rfl ?_
              refine k_then ?_
              refine t_seq ?_
              refine b0 ?_
              refine o1 rfl (det_assign rfl) rfl rfl trivial ?_
              refine be rfl ?_
              refine k_then ?_
              refine t_seq ?_
              refine b0 ?_
              refine o1 rfl (det_move rfl) rfl rfl trivial ?_
              first | (refine o1 rfl (det_addI rfl rfl ?_) rfl rfl trivial ?_; (· omega)) | refine o1 rfl (det_add rfl rfl) rfl rfl trivial ?_
              refine o1 rfl (det_assign rfl) rfl rfl trivial ?_
              refine be rfl ?_
              refine k_then ?_
              refine t_block ?_
              refine t_whileM (σ := Nat) (fun m => [(22, .int .i64 (gotP L lost i m)), (23, .int .i64 ((i : Int) + 1 + (m : Int)))]) (fun m => [(p12, .cells [.int .i64 (wIn L lost R per i (wOut L lost R per n i) m)].toArray 3 (0, 0)), (p6, .cells [.int .i64 0, .int .i64 0].toArray 75 (0, 0)), deadO D]) (fun m => n - m) (fun m => m ≤ n) 0 (env0 := [(4, _), (6, _), (7, _), (9, _), (10, _), (11, _), (12, _), (13, _), (17, _), (20, _), (21, _), (94, _), (95, _)]) (Nat.zero_le _) ⟨rfl, (by rw [show (i : Int) + 1 + ((0 : Nat) : Int) = (i : Int) + 1 by simp]; rfl), trivial⟩ ⟨rfl, rfl, rfl, rfl, rfl, rfl, rfl, rfl, rfl, rfl, rfl, rfl, rfl, trivial⟩ (.refl _) ?_
              rintro m hmn
              refine t_seq ?_
              refine t_seq ?_
              refine t_merge (env0 := [(4, _), (6, _), (7, _), (9, _), (10, _), (11, _), (12, _), (13, _), (17, _), (20, _), (21, _), (22, _), (23, _), (94, _), (95, _)]) ⟨rfl, rfl, rfl, rfl, rfl, rfl, rfl, rfl, rfl, rfl, rfl, rfl, rfl, rfl, rfl, trivial⟩ 110 (.bool (decide (m < n))) ?_ (fun hK => ?_)
              ·
                refine k_then ?_
                refine t_condP decide_eq_true_iff rfl (fun hb => ?_) (fun hb => ?_)
                ·
                  have hm3 : m < n := by simpa using hb
                  have hk2 : i + 1 + m < L.length := by omega
                  have hgr := got_rng (i := i) (m := m) hD (by omega)
                  have hwi := wIn_rng (i := i) hD (by omega) hrt.1 hAb.1 hrt.2.1 hwo m (by omega)
                  have hbk := hD.at_ _ hk2
                  obtain ⟨aL, haL⟩ := hLL.some hk2
                  rw [haL] at hLL h13
                  refine t_skip ?_
                  refine k_then ?_
                  refine t_seq ?_
                  refine t_block ?_
                  refine t_seq ?_
                  refine b0 ?_
                  refine o1 rfl (det_move rfl) rfl rfl trivial ?_
                  refine o1 rfl (det_move rfl) rfl rfl trivial ?_
                  refine o1 rfl (det_move rfl) rfl rfl trivial ?_
                  refine o1 rfl (det_move rfl) rfl rfl trivial ?_
                  refine oOn (cp := [_]) (rest := _) nofun rfl hb70 rfl rfl rfl trivial (fun w1 hs => (gap_on (k := i + 1 + m) hs.know hLL hD (by omega) hrt.1 (by omega) hrt.2.1 hgr hi2 hk2 h13 h9 h10 h4 (satA hs) (satN hs) (satO hs))) (fun v cp1 hv hi1 => ?_)
                  obtain ⟨rfl, rfl⟩ := hv
                  refine be rfl ?_
                  refine k_then ?_
                  refine bD mixed ?_
                  refine r_seg 17 17 [] [0, 1, 2, 3, 4, 5, 6, 7, 8, 9, 10, 11, 12, 13, 14, 15, 16] (by kernel_rfl) ?_
                  refine s1 rfl (det_move rfl) rfl rfl trivial rfl ?_
                  refine s1 rfl (det_loadK t1_111 rfl h13) rfl rfl trivial rfl ?_
                  refine s1 rfl (det_move rfl) rfl rfl trivial rfl ?_
                  first | (refine s1 rfl (det_indexAddr sl111 rfl rfl ?_) rfl rfl trivial rfl ?_; (· (first | decide | omega)))
                  refine s1 rfl (det_fieldAddr fld117_1 rfl) rfl rfl trivial rfl ?_
                  refine s1 rfl (det_loadK t1_3 rfl (hLL.cell (k := i + 1 + m) (by omega) hk2 (u := .int .i64 (atR L (i + 1 + m)).2) (by rw [atR_get hk2]; rfl))) rfl rfl trivial rfl ?_
                  refine s1 rfl (det_loadK t1_111 rfl h13) rfl rfl trivial rfl ?_
                  refine s1 rfl (det_move rfl) rfl rfl trivial rfl ?_
                  first | (refine s1 rfl (det_indexAddr sl111 rfl rfl ?_) rfl rfl trivial rfl ?_; (· (first | decide | omega)))
                  refine s1 rfl (det_fieldAddr fld117_0 rfl) rfl rfl trivial rfl ?_
                  refine s1 rfl (det_loadK t1_3 rfl (hLL.cell (k := i + 1 + m) (by omega) hk2 (u := .int .i64 (atR L (i + 1 + m)).1) (by rw [atR_get hk2]; rfl))) rfl rfl trivial rfl ?_
                  first | (refine s1 rfl (det_subI rfl rfl ?_) rfl rfl trivial rfl ?_; (· omega)) | refine s1 rfl (det_sub rfl rfl) rfl rfl trivial rfl ?_
                  refine s1 rfl (det_loadK t1_3 rfl h9) rfl rfl trivial rfl ?_
                  first | (refine s1 rfl (det_subI rfl rfl ?_) rfl rfl trivial rfl ?_; (· omega)) | refine s1 rfl (det_sub rfl rfl) rfl rfl trivial rfl ?_
                  refine s1 rfl (det_max2 rfl rfl) rfl rfl trivial rfl ?_
                  first | (refine s1 rfl (det_addI rfl rfl ?_) rfl rfl trivial rfl ?_; (· omega)) | refine s1 rfl (det_add rfl rfl) rfl rfl trivial rfl ?_
                  refine s1 rfl (det_assign rfl) rfl rfl trivial rfl ?_
                  refine sg_nil ?_
                  refine be rfl ?_
                  refine k_blk ?_
                  refine k_then ?_
                  refine b0 ?_
                  refine o1 rfl (det_move rfl) rfl rfl trivial ?_
                  first | (refine o1 rfl (det_addI rfl rfl ?_) rfl rfl trivial ?_; (· omega)) | refine o1 rfl (det_add rfl rfl) rfl rfl trivial ?_
                  refine o1 rfl (det_assign rfl) rfl rfl trivial ?_
                  refine be rfl ?_
                  refine k_then ?_
                  refine loop_back (m + 1) (by omega) (by omega) ⟨rfl, (by rw [Int.natCast_add, ← Int.add_assoc]; rfl), rfl, rfl, rfl, rfl, rfl, rfl, rfl, rfl, rfl, rfl, rfl, rfl, rfl, trivial⟩ (.refl _)
                ·
                  have hme : m = n := by simp at hb; omega
                  refine t_exit ?_
                  refine k_thenE ?_
                  refine k_thenE ?_
                  refine k_blkE ?_
                  refine k_blk ?_
                  refine k_then ?_
                  refine b0 ?_
                  first | (refine o1 rfl (det_addI rfl rfl ?_) rfl rfl trivial ?_; (· omega)) | refine o1 rfl (det_add rfl rfl) rfl rfl trivial ?_
                  refine o1 rfl (det_move rfl) rfl rfl trivial ?_
                  refine be rfl ?_
                  refine k_then ?_
                  subst hme
                  refine loop_back (i + 1) (by omega) (by omega) ⟨rfl, rfl, rfl, rfl, rfl, rfl, rfl, rfl, rfl, rfl, rfl, rfl, trivial⟩ (.refl _)
              ·
                refine b0 ?_
                refine o1 rfl (det_move rfl) rfl rfl trivial ?_
                refine o1 rfl (det_move rfl) rfl rfl trivial ?_
                refine o1 rfl (det_move rfl) rfl rfl trivial ?_
                first | (refine o1 rfl (det_addI rfl rfl ?_) rfl rfl trivial ?_; (· omega)) | refine o1 rfl (det_add rfl rfl) rfl rfl trivial ?_
                refine o1 rfl (det_leq rfl rfl) rfl rfl trivial ?_
                refine o2P decide_eq_true_iff rfl (det_move rfl) rfl rfl trivial (fun hb => ?_) (fun hb => ?_)
                ·
                  refine o1 rfl (det_move rfl) rfl rfl ⟨_, rfl, rfl⟩ ?_
                  refine o1 rfl (det_loadK t1_111 rfl h13) rfl rfl ⟨_, rfl, rfl⟩ ?_
                  refine o1 rfl (det_lenS sl111 rfl) rfl rfl ⟨_, rfl, rfl⟩ ?_
                  refine o1 rfl (det_lss rfl rfl) rfl rfl ⟨_, rfl, rfl⟩ ?_
                  refine o1 rfl (det_pickT rfl rfl) rfl rfl trivial ?_
                  refine be rfl ?_
                  refine tk_drop ?_ (.refl _) hK
                  exact ⟨(mb rfl (by grind)), rfl, rfl, rfl, rfl, rfl, rfl, rfl, rfl, rfl, rfl, rfl, rfl, rfl, rfl, rfl, trivial⟩
                ·
                  refine on rfl rfl rfl ⟨_, rfl, .inl rfl⟩ ?_
                  refine on rfl rfl rfl ⟨_, rfl, .inl rfl⟩ ?_
                  refine on rfl rfl rfl ⟨_, rfl, .inl rfl⟩ ?_
                  refine on rfl rfl rfl ⟨_, rfl, .inl rfl⟩ ?_
                  refine o1 rfl (det_pickF rfl rfl) rfl rfl trivial ?_
                  refine be rfl ?_
                  refine tk_drop ?_ (.refl _) hK
                  exact ⟨(mb rfl (by grind)), rfl, rfl, rfl, rfl, rfl, rfl, rfl, rfl, rfl, rfl, rfl, rfl, rfl, rfl, rfl, trivial⟩
            ·
              have hie : i = n := by omega
              rw [hie] at hwo ⊢
              refine t_exit ?_
              refine k_thenE ?_
              refine k_thenE ?_
              refine k_blkE ?_
              refine k_then ?_
              refine t_seq ?_
              refine bD mixed ?_
              refine r_seg 16 14 [] [0, 1, 2, 3, 4, 5, 6, 7, 8, 9, 10, 11, 12, 13] (by kernel_rfl) ?_
              refine s1 rfl (det_loadK t1_3 rfl h10) rfl rfl trivial rfl ?_
              refine s1 rfl (det_move rfl) rfl rfl trivial rfl ?_
              refine s1 rfl (det_load1 t1_3 rfl rfl (.head _) rfl) rfl rfl trivial rfl ?_
              first | (refine s1 rfl (det_addI rfl rfl ?_) rfl rfl trivial rfl ?_; (· omega)) | refine s1 rfl (det_add rfl rfl) rfl rfl trivial rfl ?_
              refine s1 rfl (det_loadK t1_3 rfl h10) rfl rfl trivial rfl ?_
              refine s1 rfl (det_loadK t1_3 rfl h4) rfl rfl trivial rfl ?_
              skip
              first | (refine s1 rfl (det_mulI rfl rfl ?_) rfl rfl trivial rfl ?_; (· omega)) | refine s1 rfl (det_mul rfl rfl) rfl rfl trivial rfl ?_
              first | (refine s1 rfl (det_addI rfl rfl ?_) rfl rfl trivial rfl ?_; (· omega)) | refine s1 rfl (det_add rfl rfl) rfl rfl trivial rfl ?_
              first | (refine s1 rfl (det_subI rfl rfl ?_) rfl rfl trivial rfl ?_; (· omega)) | refine s1 rfl (det_sub rfl rfl) rfl rfl trivial rfl ?_
              refine s1 rfl (det_loadK t1_3 rfl h10) rfl rfl trivial rfl ?_
              refine s1 rfl (det_loadK t1_3 rfl h4) rfl rfl trivial rfl ?_
              first | (refine s1 rfl (det_mulI rfl rfl ?_) rfl rfl trivial rfl ?_; (· omega)) | refine s1 rfl (det_mul rfl rfl) rfl rfl trivial rfl ?_
              first | (refine s1 rfl (det_quoP rfl rfl ?_ ?_) rfl rfl trivial rfl ?_; (· omega); (· omega)) | (refine s1 rfl (det_quoI rfl rfl ?_ ?_) rfl rfl trivial rfl ?_; (· (first | decide | omega)); (· omega)) | (refine s1 rfl (det_quo rfl rfl ?_) rfl rfl trivial rfl ?_; (· (first | decide | omega)))
              refine s1 rfl (det_build rfl (fun w => bld75_0_1 _ _ w)) rfl rfl trivial rfl ?_
              refine sg_nil ?_
              refine stN (fun _ => by kernel_rfl) rfl tN75 rfl rfl rfl (.tail .head) rfl trivial rfl rfl ?_
              refine r_seg 16 16 [] [15] (by kernel_rfl) ?_
              refine s1 rfl (det_assign rfl) rfl rfl trivial rfl ?_
              refine sg_nil ?_
              refine be rfl ?_
              refine k_then ?_
              refine t_ret ?_
              refine ret_mark (pre := [_, _]) (vs := [_, _]) rfl rfl ⟨(.cellN tN75 rfl rfl (.tail _ (.head _)) rfl), (.tmp rfl), trivial⟩ rfl (fun w1 hs => ?_)
              refine ⟨?_, hs.keep⟩
              have hwv : worstP g.es g.cyc lost R per = wOut L lost R per n n := by unfold worstP; rw [hal]; rw [← hLe, ← hln]; rfl
              unfold ofS
              rw [if_pos he, hlo, hRR, if_neg (by omega), hwv]
              rfl
        ·
          rintro D j s hX
          exact hX.elim
      ·
        have hal : alwE g.es = true := by simpa using hb
        refine t_skip ?_
        refine k_then ?_
        refine t_seq ?_
        refine bD mixed ?_
        refine r_seg 16 14 [] [0, 1, 2, 3, 4, 5, 6, 7, 8, 9, 10, 11, 12, 13] (by kernel_rfl) ?_
        refine s1 rfl (det_loadK t1_3 rfl h10) rfl rfl trivial rfl ?_
        refine s1 rfl (det_move rfl) rfl rfl trivial rfl ?_
        refine s1 rfl (det_load1 t1_3 rfl rfl (.head _) rfl) rfl rfl trivial rfl ?_
        first | (refine s1 rfl (det_addI rfl rfl ?_) rfl rfl trivial rfl ?_; (· omega)) | refine s1 rfl (det_add rfl rfl) rfl rfl trivial rfl ?_
        refine s1 rfl (det_loadK t1_3 rfl h10) rfl rfl trivial rfl ?_
        refine s1 rfl (det_loadK t1_3 rfl h4) rfl rfl trivial rfl ?_
        skip
        first | (refine s1 rfl (det_mulI rfl rfl ?_) rfl rfl trivial rfl ?_; (· omega)) | refine s1 rfl (det_mul rfl rfl) rfl rfl trivial rfl ?_
        first | (refine s1 rfl (det_addI rfl rfl ?_) rfl rfl trivial rfl ?_; (· omega)) | refine s1 rfl (det_add rfl rfl) rfl rfl trivial rfl ?_
        first | (refine s1 rfl (det_subI rfl rfl ?_) rfl rfl trivial rfl ?_; (· omega)) | refine s1 rfl (det_sub rfl rfl) rfl rfl trivial rfl ?_
        refine s1 rfl (det_loadK t1_3 rfl h10) rfl rfl trivial rfl ?_
        refine s1 rfl (det_loadK t1_3 rfl h4) rfl rfl trivial rfl ?_
        first | (refine s1 rfl (det_mulI rfl rfl ?_) rfl rfl trivial rfl ?_; (· omega)) | refine s1 rfl (det_mul rfl rfl) rfl rfl trivial rfl ?_
        first | (refine s1 rfl (det_quoP rfl rfl ?_ ?_) rfl rfl trivial rfl ?_; (· omega); (· omega)) | (refine s1 rfl (det_quoI rfl rfl ?_ ?_) rfl rfl trivial rfl ?_; (· (first | decide | omega)); (· omega)) | (refine s1 rfl (det_quo rfl rfl ?_) rfl rfl trivial rfl ?_; (· (first | decide | omega)))
        refine s1 rfl (det_build rfl (fun w => bld75_0_1 _ _ w)) rfl rfl trivial rfl ?_
        refine sg_nil ?_
        refine stN (fun _ => by kernel_rfl) rfl tN75 rfl rfl rfl (.tail .head) rfl trivial rfl rfl ?_
        refine r_seg 16 16 [] [15] (by kernel_rfl) ?_
        refine s1 rfl (det_assign rfl) rfl rfl trivial rfl ?_
        refine sg_nil ?_
        refine be rfl ?_
        refine k_then ?_
        refine t_ret ?_
        refine ret_any (vs := [_, _]) rfl rfl ⟨(.cellN tN75 rfl rfl (.tail _ (.head _)) rfl), (.tmp rfl), trivial⟩ rfl (fun w1 hs => ?_)
        refine ⟨?_, hs.keep⟩
        have hwv : worstP g.es g.cyc lost R per = 0 := by unfold worstP; rw [hal]; rfl
        unfold ofS
        rw [if_pos he, hlo, hRR, if_neg (by omega), hwv]
        rfl

end Go.Proofs.Sw
