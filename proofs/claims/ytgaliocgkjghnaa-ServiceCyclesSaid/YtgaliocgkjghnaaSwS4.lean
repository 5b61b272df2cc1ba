/-
  Walks through layer 30 and its reference.
-/
import Derived.Test.YtgaliocgkjghnaaSwS3
import Derived.Test.YtgaliocgkjghnaaSvPlain4
namespace Go.Proofs.Sw
open Go Go.Eng Go.Gt Go.Proofs.Gt Go.Sw Go.Sv
set_option maxRecDepth 4000

/-- Openings. -/
theorem ropenings_ok {w : World} {F : Know} (hF : ∀ a v, F a = some v → w.cell? a = some v) {g : Gl} (hE : GlK F g) (hG : okG g.es g.cyc = true) {f t : Int} (hab : f ≤ t) (hf : -2199023255552 ≤ f) (ht : t ≤ 2199023255552) (hft : t - f ≤ 1099511627776) : CallsF Try.prog 83 [.agg (glv g).toArray, .int .i64 f, .int .i64 t] w noK (fun v F1 => ∃ A cap, v = .slice A (runs (op6 g.es g.cyc) f t).length cap ∧ RowsK o2 2 F1 A (runs (op6 g.es g.cyc) f t).length (runs (op6 g.es g.cyc) f t)) := by
  have hcy := okG_cyc hG
  obtain ⟨hl1, hl2, hall0, hsum, hc9, hc1⟩ := okG_parts hG
  refine fn_fresh (F := F) Try.func83 rfl Try.ntmps83 rfl hF ?_
  refine t_seq ?_
  refine b0 ?_
  refine om1 rfl (new_boxN rfl) rfl rfl trivial (fun p3 => ?_)
  refine o1 rfl (det_assign rfl) rfl rfl trivial ?_
  refine be rfl ?_
  refine k_then ?_
  refine t_seq ?_
  refine b0 ?_
  refine o1 rfl (det_assign rfl) rfl rfl trivial ?_
  refine be rfl ?_
  refine k_then ?_
  refine t_seq ?_
  refine b0 ?_
  refine o1 rfl (det_assign rfl) rfl rfl trivial ?_
  refine be rfl ?_
  refine k_then ?_
  refine t_seq ?_
  refine t_seq ?_
  refine b0 ?_
  refine o1 rfl (det_move rfl) rfl rfl trivial ?_
  refine o1 rfl (det_assign rfl) rfl rfl trivial ?_
  refine be rfl ?_
  refine k_then ?_
  refine t_block ?_
  refine t_whileM (σ := RS) (fun s => [(7, .slice s.A s.out.length s.cp), (8, .bool s.op), (9, .int .i64 s.at_)]) (fun s => (p3, .cells (glv g).toArray 30 (0, 0)) :: s.b) (fun s => (t - s.at_).toNat) (fun s => RsI (op6 g.es g.cyc) f t s ∧ SlO 122 2 (.slice s.A s.out.length s.cp) s.out.length (rowsV o2 s.out) s.b) ⟨f, false, [], none, 0, []⟩ (env0 := [(2, _), (3, _), (6, _)]) ⟨RsI.start hab, SlO.nil _ _⟩ ⟨rfl, rfl, rfl, trivial⟩ ⟨rfl, rfl, rfl, trivial⟩ (.refl _) ?_
  rintro s ⟨hI, hS⟩
  have hle := hI.le
  refine t_seq ?_
  refine t_seq ?_
  refine b0 ?_
  refine o1 rfl (det_move rfl) rfl rfl trivial ?_
  refine o1 rfl (det_move rfl) rfl rfl trivial ?_
  refine o1 rfl (det_lss rfl rfl) rfl rfl trivial ?_
  refine be rfl ?_
  refine k_then ?_
  refine t_condP decide_eq_true_iff rfl (fun hb => ?_) (fun hb => ?_)
  ·
    have hx : s.at_ < t := hb
    refine t_skip ?_
    refine k_then ?_
    refine t_block ?_
    refine t_seq ?_
    refine b0 ?_
    obtain ⟨hlt, hyb, hr, hxe, hsame⟩ := ref_step hG hx
    have hgn := hE.len
    obtain ⟨A, hA0⟩ := EntK.some hE hlt
    have hE2 : EntK F (some A) g.n g.es := by have h0 := hE; unfold GlK at h0; rwa [hA0] at h0
    refine o1 rfl (det_loadN tN30 rfl rfl (.head _) rfl) rfl rfl trivial ?_
    refine o1 rfl (det_move rfl) rfl rfl trivial ?_
    refine o1 rfl (det_call hb57 rfl rfl (fun w1 hs => at_ok hs.know hE hG _)) rfl rfl trivial ?_
    refine o1 rfl (det_move rfl) rfl rfl trivial ?_
    refine o1 rfl (det_extract rfl rfl) rfl rfl trivial ?_
    refine o1 rfl (det_extract rfl rfl) rfl rfl trivial ?_
    refine o1 rfl (det_assign rfl) rfl rfl trivial ?_
    refine o1 rfl (det_assign rfl) rfl rfl trivial ?_
    refine be rfl ?_
    refine k_then ?_
    refine t_seq ?_
    refine b0 ?_
    refine o1 rfl (det_move rfl) rfl rfl trivial ?_
    refine o1 rfl (det_move rfl) rfl rfl trivial ?_
    first | (refine o1 rfl (det_subI rfl rfl ?_) rfl rfl trivial ?_; (· omega)) | refine o1 rfl (det_sub rfl rfl) rfl rfl trivial ?_
    refine o1 rfl (det_fieldAddr fld30_0 rfl) rfl rfl trivial ?_
    refine o1 rfl (det_load1 t1_28 rfl rfl (.head _) rfl) rfl rfl trivial ?_
    refine o1 rfl (det_move rfl) rfl rfl trivial ?_
    rw [hA0]
    first | (refine o1 rfl (det_indexAddr sl28 rfl rfl ?_) rfl rfl trivial ?_; (· (first | decide | omega)))
    refine o1 rfl (det_fieldAddr fld100_1 rfl) rfl rfl trivial ?_
    refine o1 rfl (det_loadK t1_3 rfl (by have := hE2.cells hlt 1 (by omega); rw [add_add] at this ⊢; simpa using this)) rfl rfl trivial ?_
    first | (refine o1 rfl (det_addI rfl rfl ?_) rfl rfl trivial ?_; (· omega)) | refine o1 rfl (det_add rfl rfl) rfl rfl trivial ?_
    refine o1 rfl (det_move rfl) rfl rfl trivial ?_
    refine o1 rfl (det_min2 rfl rfl) rfl rfl trivial ?_
    refine o1 rfl (det_assign rfl) rfl rfl trivial ?_
    refine be rfl ?_
    refine k_then ?_
    refine t_seq ?_
    refine b0 ?_
    refine o1 rfl (det_fieldAddr fld30_0 rfl) rfl rfl trivial ?_
    refine o1 rfl (det_load1 t1_28 rfl rfl (.head _) rfl) rfl rfl trivial ?_
    refine o1 rfl (det_move rfl) rfl rfl trivial ?_
    rw [hA0]
    first | (refine o1 rfl (det_indexAddr sl28 rfl rfl ?_) rfl rfl trivial ?_; (· (first | decide | omega)))
    refine o1 rfl (det_fieldAddr fld100_0 rfl) rfl rfl trivial ?_
    refine o1 rfl (det_loadK t1_3 rfl (by have := hE2.cells hlt 0 (by omega); rw [add_add] at this ⊢; simpa using this)) rfl rfl trivial ?_
    refine o1 rfl (det_call hb58 rfl rfl (fun w1 hs => bit_ok hs.know _ _ (by decide))) rfl rfl trivial ?_
    rw [bitE_tmod ⟨hr.1, hr.2.1⟩ (by decide)]
    obtain ⟨is, his⟩ : ∃ is, (bitE (g.es[(loc g.es g.cyc s.at_).1]).1 6) = is := ⟨_, rfl⟩
    obtain ⟨e, hee⟩ : ∃ e, (min (s.at_ - (loc g.es g.cyc s.at_).2 + (g.es[(loc g.es g.cyc s.at_).1]).2) t) = e := ⟨_, rfl⟩
    rw [his] at hsame ⊢
    rw [hee] at hsame hxe ⊢
    have hel : e ≤ t := by omega
    have hlen := hI.run.len hI.le.1
    refine o1 rfl (det_assign rfl) rfl rfl trivial ?_
    refine be rfl ?_
    refine k_then ?_
    refine t_seq ?_
    refine t_seq ?_
    refine t_merge (env0 := [(2, _), (3, _), (6, _), (7, _), (8, _), (9, _), (12, _), (13, _)]) ⟨rfl, rfl, rfl, rfl, rfl, rfl, rfl, rfl, trivial⟩ 46 (.bool (is && s.op)) ?_ (fun hK => ?_)
    ·
      refine k_then ?_
      refine t_condP Iff.rfl rfl (fun hb => ?_) (fun hb => ?_)
      ·
        have hon : is = true ∧ s.op = true := by simpa using hb
        --note:on
        refine b0 ?_
        obtain ⟨m, sb, hout⟩ := hI.last hon.2
        have hrun := hI.run
        rw [hout] at hS hrun hlen
        have hln1 : (m ++ [(sb, s.at_)]).length = m.length + 1 := by simp
        have hln2 : (m ++ [(sb, e)]).length = m.length + 1 := by simp
        rw [hln1] at hS hlen
        rw [hout, hln1]
        obtain ⟨q9, cs1, cs2, hAq, hbq, _, hset, hS9⟩ := slo_last (x := e) hS
        rw [hbq, hAq]
        refine o1 rfl (det_move rfl) rfl rfl trivial ?_
        refine o1 rfl (det_move rfl) rfl rfl trivial ?_
        refine o1 rfl (det_lenS sl119 rfl) rfl rfl trivial ?_
        first | (refine o1 rfl (det_subI rfl rfl ?_) rfl rfl trivial ?_; (· omega)) | refine o1 rfl (det_sub rfl rfl) rfl rfl trivial ?_
        refine o1 rfl (det_move rfl) rfl rfl trivial ?_
        first | (refine o1 rfl (det_indexAddr sl119 rfl rfl ?_) rfl rfl trivial ?_; (· (first | decide | omega)))
        refine o1 rfl (det_fieldAddr fld122_1 rfl) rfl rfl trivial ?_
        refine st1 (p := q9) nofun rfl t1_3 rfl (by rw [add_mk, add_mk, Nat.zero_add, show ((((m.length + 1 : Nat) : Int) - 1).toNat * 2 + 1) = m.length * 2 + 1 by omega]) rfl (.tail .head) hset trivial rfl ?_
        refine be rfl ?_
        refine k_then ?_
        refine t_seq ?_
        refine t_seq ?_
        refine t_merge (env0 := [(2, _), (3, _), (6, _), (7, _), (8, _), (9, _), (12, _), (13, _)]) ⟨rfl, rfl, rfl, rfl, rfl, rfl, rfl, rfl, trivial⟩ 58 (.bool (is && !s.op)) ?_ (fun hK => ?_)
        ·
          refine k_then ?_
          refine t_condP Iff.rfl rfl (fun hb => ?_) (fun hb => ?_)
          · exfalso; rw [hon.1, hon.2] at hb; simp at hb
          refine t_skip ?_
          refine k_then ?_
          refine t_seq ?_
          refine b0 ?_
          refine o1 rfl (det_move rfl) rfl rfl trivial ?_
          refine o1 rfl (det_assign rfl) rfl rfl trivial ?_
          refine be rfl ?_
          refine k_then ?_
          refine b0 ?_
          refine o1 rfl (det_move rfl) rfl rfl trivial ?_
          refine o1 rfl (det_assign rfl) rfl rfl trivial ?_
          refine be rfl ?_
          refine k_blk ?_
          refine k_then ?_
          refine loop_back (⟨e, is, m ++ [(sb, e)], s.A, s.cp, [(q9, .cells cs2.toArray 122 (0, 0))]⟩ : RS) ⟨hI.next hxe hel hsame (Runs.more_on hrun hxe (fun y k1 k2 => by rw [hsame y k1 k2, hon.1])), by show SlO _ _ (.slice s.A (m ++ [(sb, e)]).length s.cp) _ _ _; rw [hln2]; exact hS9⟩ (by show (t - e).toNat < (t - s.at_).toNat; omega) ⟨(by show _ = some (Value.slice s.A (m ++ [(sb, e)]).length s.cp); rw [hln2, hAq]; rfl), rfl, rfl, rfl, rfl, rfl, trivial⟩ (.refl _)
        ·
          refine b0 ?_
          refine o1 rfl (det_move rfl) rfl rfl trivial ?_
          refine o2P Iff.rfl rfl (det_move rfl) rfl rfl trivial (fun hb => ?_) (fun hb => ?_)
          ·
            refine o1 rfl (det_move rfl) rfl rfl ⟨_, rfl, rfl⟩ ?_
            refine o1 rfl (det_not rfl) rfl rfl ⟨_, rfl, rfl⟩ ?_
            refine o1 rfl (det_pickT rfl rfl) rfl rfl trivial ?_
            refine be rfl ?_
            refine tk_drop ?_ (.refl _) hK
            exact ⟨(mb rfl (by grind)), rfl, rfl, rfl, rfl, rfl, rfl, rfl, rfl, trivial⟩
          ·
            refine on rfl rfl rfl ⟨_, rfl, .inl rfl⟩ ?_
            refine on rfl rfl rfl ⟨_, rfl, .inl rfl⟩ ?_
            refine o1 rfl (det_pickF rfl rfl) rfl rfl trivial ?_
            refine be rfl ?_
            refine tk_drop ?_ (.refl _) hK
            exact ⟨(mb rfl (by grind)), rfl, rfl, rfl, rfl, rfl, rfl, rfl, rfl, trivial⟩
      ·
        have hoff : ¬ (is = true ∧ s.op = true) := by simpa using hb
        refine t_skip ?_
        refine k_then ?_
        refine t_seq ?_
        refine t_seq ?_
        refine t_merge (env0 := [(2, _), (3, _), (6, _), (7, _), (8, _), (9, _), (12, _), (13, _)]) ⟨rfl, rfl, rfl, rfl, rfl, rfl, rfl, rfl, trivial⟩ 58 (.bool (is && !s.op)) ?_ (fun hK => ?_)
        ·
          refine k_then ?_
          refine t_condP Iff.rfl rfl (fun hb => ?_) (fun hb => ?_)
          ·
            have hnw : is = true ∧ s.op = false := by simpa using hb
            --note:new
            refine b0 ?_
            refine o1 rfl (det_move rfl) rfl rfl trivial ?_
            refine o1 rfl (det_move rfl) rfl rfl trivial ?_
            refine o1 rfl (det_move rfl) rfl rfl trivial ?_
            refine o1 rfl (det_build rfl (fun w => bld122_0_1 _ _ w)) rfl rfl trivial ?_
            refine om1 rfl (new_buildSlice rfl (fun w => bsl119_1_0 _ _ w)) rfl rfl trivial (fun p63 => ?_)
            refine oAppS (pre := [_, _]) (b := s.b) (m := 1) (news := [.int .i64 _, .int .i64 _]) nofun rfl ap119 rfl rfl rfl trivial hS rfl (fun w1 hs j u hj => hs.cellO (.head _) hj) (by simp [Value.oneCell']) (by omega) (by simp only [maxLen]; omega) (fun A3 cp3 b3 hS3 => ?_)
            replace hS3 : SlO 122 2 (.slice A3 (s.out.length + 1) cp3) (s.out.length + 1) (rowsV o2 (s.out ++ [(s.at_, e)])) b3 := by
              rw [rowsV_app, rowsV_one]; exact hS3
            have hln : (s.out ++ [(s.at_, e)]).length = s.out.length + 1 := by simp
            refine o1 rfl (det_assign rfl) rfl rfl trivial ?_
            refine be rfl ?_
            refine k_then ?_
            refine t_seq ?_
            refine b0 ?_
            refine o1 rfl (det_move rfl) rfl rfl trivial ?_
            refine o1 rfl (det_assign rfl) rfl rfl trivial ?_
            refine be rfl ?_
            refine k_then ?_
            refine b0 ?_
            refine o1 rfl (det_move rfl) rfl rfl trivial ?_
            refine o1 rfl (det_assign rfl) rfl rfl trivial ?_
            refine be rfl ?_
            refine k_blk ?_
            refine k_then ?_
            refine loop_back (⟨e, is, s.out ++ [(s.at_, e)], A3, cp3, b3⟩ : RS) ⟨hI.next hxe hel hsame (hI.run.more_new hI.le.1 hxe (hI.off hnw.2) (fun y k1 k2 => by rw [hsame y k1 k2, hnw.1])), by show SlO _ _ (.slice A3 (s.out ++ [(s.at_, e)]).length cp3) _ _ _; rw [hln]; exact hS3⟩ (by show (t - e).toNat < (t - s.at_).toNat; omega) ⟨(by show _ = some (Value.slice A3 (s.out ++ [(s.at_, e)]).length cp3); rw [hln]; rfl), rfl, rfl, rfl, rfl, rfl, trivial⟩ (.cons _ (.refl _))
          ·
            skip
            refine t_skip ?_
            refine k_then ?_
            refine t_seq ?_
            refine b0 ?_
            refine o1 rfl (det_move rfl) rfl rfl trivial ?_
            refine o1 rfl (det_assign rfl) rfl rfl trivial ?_
            refine be rfl ?_
            refine k_then ?_
            refine b0 ?_
            refine o1 rfl (det_move rfl) rfl rfl trivial ?_
            refine o1 rfl (det_assign rfl) rfl rfl trivial ?_
            refine be rfl ?_
            refine k_blk ?_
            refine k_then ?_
            refine loop_back (⟨e, is, s.out, s.A, s.cp, s.b⟩ : RS) ⟨hI.next hxe hel hsame (hI.run.more_shut (by omega) (fun y k1 k2 => by rw [hsame y k1 k2]; cases his2 : is with | false => rfl | true => cases hop : s.op with | true => exact absurd ⟨his2, hop⟩ hoff | false => simp [his2, hop] at hb)), hS⟩ (by show (t - e).toNat < (t - s.at_).toNat; omega) ⟨rfl, rfl, rfl, rfl, rfl, rfl, trivial⟩ (.refl _)
        ·
          refine b0 ?_
          refine o1 rfl (det_move rfl) rfl rfl trivial ?_
          refine o2P Iff.rfl rfl (det_move rfl) rfl rfl trivial (fun hb => ?_) (fun hb => ?_)
          ·
            refine o1 rfl (det_move rfl) rfl rfl ⟨_, rfl, rfl⟩ ?_
            refine o1 rfl (det_not rfl) rfl rfl ⟨_, rfl, rfl⟩ ?_
            refine o1 rfl (det_pickT rfl rfl) rfl rfl trivial ?_
            refine be rfl ?_
            refine tk_drop ?_ (.refl _) hK
            exact ⟨(mb rfl (by grind)), rfl, rfl, rfl, rfl, rfl, rfl, rfl, rfl, trivial⟩
          ·
            refine on rfl rfl rfl ⟨_, rfl, .inl rfl⟩ ?_
            refine on rfl rfl rfl ⟨_, rfl, .inl rfl⟩ ?_
            refine o1 rfl (det_pickF rfl rfl) rfl rfl trivial ?_
            refine be rfl ?_
            refine tk_drop ?_ (.refl _) hK
            exact ⟨(mb rfl (by grind)), rfl, rfl, rfl, rfl, rfl, rfl, rfl, rfl, trivial⟩
    ·
      refine b0 ?_
      refine o1 rfl (det_move rfl) rfl rfl trivial ?_
      refine o2P Iff.rfl rfl (det_move rfl) rfl rfl trivial (fun hb => ?_) (fun hb => ?_)
      ·
        refine o1 rfl (det_move rfl) rfl rfl ⟨_, rfl, rfl⟩ ?_
        refine o1 rfl (det_pickT rfl rfl) rfl rfl trivial ?_
        refine be rfl ?_
        refine tk_drop ?_ (.refl _) hK
        exact ⟨(mb rfl (by grind)), rfl, rfl, rfl, rfl, rfl, rfl, rfl, rfl, trivial⟩
      ·
        refine on rfl rfl rfl ⟨_, rfl, .inl rfl⟩ ?_
        refine o1 rfl (det_pickF rfl rfl) rfl rfl trivial ?_
        refine be rfl ?_
        refine tk_drop ?_ (.refl _) hK
        exact ⟨(mb rfl (by grind)), rfl, rfl, rfl, rfl, rfl, rfl, rfl, rfl, trivial⟩
  ·
    have hend : s.at_ = t := by have := hI.le; omega
    have hrun := hI.run
    rw [hend] at hrun
    have hre := hrun.eq
    refine t_exit ?_
    refine k_thenE ?_
    refine k_thenE ?_
    refine k_blkE ?_
    refine k_then ?_
    refine t_seq ?_
    refine b0 ?_
    refine o1 rfl (det_move rfl) rfl rfl trivial ?_
    refine o1 rfl (det_assign rfl) rfl rfl trivial ?_
    refine be rfl ?_
    refine k_then ?_
    refine t_ret ?_
    refine ret_tmp rfl rfl rfl (fun w1 hs => ?_)
    refine end_fresh hs fun F1 g1 g2 g3 => ?_
    obtain ⟨A1, cap1, hv, _, _, hR⟩ := hS.rows o2_len (by decide) (F' := F1) fun p cs t fr k hm => g3 p cs t fr k (List.mem_cons_of_mem _ hm)
    rw [hre]
    cases hv
    exact ⟨_, _, rfl, hR⟩

end Go.Proofs.Sw
