/-
  Walks through layer 36 and its reference.
-/
import Derived.Test.YtopaidnhgkejiaaQuL0
namespace Go.Proofs.Qu
open Go Go.Eng Go.Qu
set_option maxRecDepth 4000

/-- QueuePops. -/
theorem pops_ok {w : World} {F : Know} (hF : ∀ a v, F a = some v → w.cell? a = some v) {A : Option Addr} {n c : Nat} {cap : Int} {ps : List Pt} (hP : PK F A n ps) (hnc : n ≤ c) (hcm : c ≤ maxLen) {p : Pt} : Pure Try.prog 5 [.agg [.int .i64 cap, .slice A n c].toArray, .agg [.int .i64 p.it.st, .int .i64 p.it.sq, .int .i64 p.it.cl, .int .i64 p.it.sz, .int .i64 p.it.sn, .int .i64 p.left, .bool p.rest].toArray] w (.bool true) := by
  refine fn_pure (F := F) Try.func5 rfl Try.ntmps5 rfl hF ?_
  refine t_seq ?_
  refine b0 ?_
  refine om1 rfl (new_boxN rfl) rfl rfl trivial (fun p2 => ?_)
  refine om1 rfl (new_boxN rfl) rfl rfl trivial (fun p3 => ?_)
  refine o1 rfl (det_assign rfl) rfl rfl trivial ?_
  refine be rfl ?_
  refine k_then ?_
  refine t_seq ?_
  refine t_seq ?_
  refine b0 ?_
  refine o1 rfl (det_call hb9 rfl rfl (fun w1 hs => wakes_ok hs.know)) rfl rfl trivial ?_
  refine o1 rfl (det_not rfl) rfl rfl trivial ?_
  refine be rfl ?_
  refine k_then ?_
  refine t_condP not_iff_false rfl (fun hb => ?_) (fun hb => ?_)
  · exfalso; simp at hb
  refine t_skip ?_
  refine k_then ?_
  refine t_seq ?_
  refine b0 ?_
  refine o1 rfl (det_loadN tN24 rfl rfl (.tail _ (.head _)) rfl) rfl rfl trivial ?_
  refine o1 rfl (det_call hb10 rfl rfl (fun w1 hs => few_ok hs.know hnc)) rfl rfl trivial ?_
  refine om1 rfl (new_alloc z24) rfl rfl trivial (fun p5 => ?_)
  refine stN nofun rfl tN24 rfl rfl rfl .head rfl trivial rfl rfl ?_
  refine be rfl ?_
  refine k_then ?_
  refine t_seq ?_
  refine b0 ?_
  obtain ⟨m, hm⟩ : ∃ m, (min (n : Int) 60).toNat = m := ⟨_, rfl⟩
  have hmn : m ≤ n := by omega
  have hm60 : m ≤ 60 := by omega
  rw [hm]
  obtain ⟨qs, hqs⟩ : ∃ qs, ps.take m = qs := ⟨_, rfl⟩
  replace hP : PK F A m qs := by rw [← hqs]; exact hP.take m hmn
  have hnb : m ≤ 65536 := by omega
  replace hnc : m ≤ c := by omega
  clear hqs hm
  have hql : qs.length ≤ 60 := by have := hP.len; omega
  obtain ⟨hp, hh, hhq⟩ : ∃ hp hh, headQ cap qs = (hp, hh) := ⟨_, _, rfl⟩
  obtain ⟨r1, r2, rp, re, hpq⟩ : ∃ r1 r2 rp re, popQ cap qs = ((r1, r2), rp, re) := ⟨_, _, _, _, rfl⟩
  obtain ⟨u1, u2, ue, hrq⟩ : ∃ u1 u2 ue, retQ cap qs p = ((u1, u2), ue) := ⟨_, _, _, rfl⟩
  have hpl := pop_len hpq
  have hrl := ret_len hrq
  refine o1 rfl (det_loadN tN24 rfl rfl (.head _) rfl) rfl rfl trivial ?_
  refine o1 rfl (det_call hb23 rfl rfl (fun w1 hs => head_at hs.know hP hnb hhq)) rfl rfl trivial ?_
  refine o1 rfl (det_move rfl) rfl rfl trivial ?_
  refine o1 rfl (det_extract rfl rfl) rfl rfl trivial ?_
  refine o1 rfl (det_extract rfl rfl) rfl rfl trivial ?_
  refine om1 rfl (new_alloc z28) rfl rfl trivial (fun p6 => ?_)
  refine stN nofun rfl tN28 rfl rfl rfl .head rfl trivial rfl rfl ?_
  refine o1 rfl (det_assign rfl) rfl rfl trivial ?_
  refine be rfl ?_
  refine k_then ?_
  refine t_seq ?_
  refine b0 ?_
  refine o1 rfl (det_loadN tN24 rfl rfl (.tail _ (.head _)) rfl) rfl rfl trivial ?_
  refine oF nofun rfl hb24 rfl rfl rfl trivial (fun w1 hs => pop_at hs.know hP hnb hnc hcm hpq) (fun v1 F1 hF1 hN1 ⟨A1, n1, c1, hv, hn1, hm1, hP1⟩ => ?_)
  subst hv
  replace hP := hP.mono hF1
  have hb1 : n1 ≤ 65536 := by have := hP1.len; omega
  refine o1 rfl (det_move rfl) rfl rfl trivial ?_
  refine o1 rfl (det_extract rfl rfl) rfl rfl trivial ?_
  refine o1 rfl (det_extract rfl rfl) rfl rfl trivial ?_
  refine o1 rfl (det_extract rfl rfl) rfl rfl trivial ?_
  refine om1 rfl (new_alloc z24) rfl rfl trivial (fun p8 => ?_)
  refine om1 rfl (new_alloc z28) rfl rfl trivial (fun p9 => ?_)
  refine stN nofun rfl tN24 rfl rfl rfl (.tail .head) rfl trivial rfl rfl ?_
  refine stN nofun rfl tN28 rfl rfl rfl .head rfl trivial rfl rfl ?_
  refine o1 rfl (det_assign rfl) rfl rfl trivial ?_
  refine be rfl ?_
  refine k_then ?_
  refine t_seq ?_
  refine b0 ?_
  refine o1 rfl (det_loadN tN24 rfl rfl (.tail _ (.tail _ (.tail _ (.head _)))) rfl) rfl rfl trivial ?_
  refine o1 rfl (det_loadN tN28 rfl rfl (.tail _ (.tail _ (.tail _ (.tail _ (.head _))))) rfl) rfl rfl trivial ?_
  refine oF nofun rfl hb25 rfl rfl rfl trivial (fun w1 hs => ret_at hs.know hP hnb hnc hcm hrq) (fun v2 F2 hF2 hN2 ⟨A2, n2, c2, hv, hn2, hm2, hP2⟩ => ?_)
  subst hv
  replace hP := hP.mono hF2
  replace hP1 := hP1.mono hF2
  have hb2 : n2 ≤ 65536 := by have := hP2.len; omega
  refine o1 rfl (det_move rfl) rfl rfl trivial ?_
  refine o1 rfl (det_extract rfl rfl) rfl rfl trivial ?_
  refine o1 rfl (det_extract rfl rfl) rfl rfl trivial ?_
  refine om1 rfl (new_alloc z24) rfl rfl trivial (fun p11 => ?_)
  refine stN nofun rfl tN24 rfl rfl rfl .head rfl trivial rfl rfl ?_
  refine o1 rfl (det_assign rfl) rfl rfl trivial ?_
  refine be rfl ?_
  refine k_then ?_
  refine t_seq ?_
  refine t_seq ?_
  refine b0 ?_
  refine o1 rfl (det_loadN tN24 rfl rfl (.tail _ (.tail _ (.tail _ (.tail _ (.head _))))) rfl) rfl rfl trivial ?_
  refine o1 rfl (det_call hb11 rfl rfl (fun w1 hs => right_ok hs.know hP hnb)) rfl rfl trivial ?_
  refine o1 rfl (det_not rfl) rfl rfl trivial ?_
  refine be rfl ?_
  refine k_then ?_
  refine t_condP not_iff_false rfl (fun hb => ?_) (fun hb => ?_)
  ·
    have hR : rightQ cap qs = false := by simpa using hb
    rw [head_bad hR] at hhq; cases hhq
    rw [pop_bad hR] at hpq; cases hpq
    rw [ret_bad hR] at hrq; cases hrq
    refine t_seq ?_
    refine t_merge (env0 := [(3, _), (5, _), (6, _), (7, _), (8, _), (9, _), (10, _), (11, _), (12, _)]) ⟨rfl, rfl, rfl, rfl, rfl, rfl, rfl, rfl, rfl, trivial⟩ 4 (.bool true) ?_ (fun hK => ?_)
    ·
      refine k_then ?_
      refine t_ret (k_thenR (?_))
      refine ret_tmp rfl rfl rfl (fun w1 hs => ?_)
      first | exact ⟨rfl, hs.keep⟩ | exact ⟨by grind [retQ], hs.keep⟩
    ·
      refine b0 ?_
      refine o1 rfl (det_loadN tN28 rfl rfl (.tail _ (.tail _ (.tail _ (.head _)))) rfl) rfl rfl trivial ?_
      refine o1 rfl (det_build rfl (fun w => bld28_ w)) rfl rfl trivial ?_
      refine o1 rfl (det_eqlS rfl rfl eqg28 (fun w => eq28 _ _ _ _ _ _ _ _ _ _ _ _ _ _ w)) rfl rfl trivial ?_
      refine o2P Iff.rfl rfl (det_move rfl) rfl rfl trivial (fun hb => ?_) (fun hb => ?_)
      ·
        refine o1 rfl (det_move rfl) rfl rfl ⟨_, rfl, rfl⟩ ?_
        refine o1 rfl (det_not rfl) rfl rfl ⟨_, rfl, rfl⟩ ?_
        refine o1 rfl (det_pickT rfl rfl) rfl rfl trivial ?_
        refine o2P not_iff_false rfl (det_move rfl) rfl rfl trivial (fun hb => ?_) (fun hb => ?_)
        ·
          refine o1 rfl (det_loadN tN24 rfl rfl (.tail _ (.tail _ (.head _))) rfl) rfl rfl ⟨_, rfl, rfl⟩ ?_
          refine o1 rfl (det_build rfl (fun w => bld24_ w)) rfl rfl ⟨_, rfl, rfl⟩ ?_
          refine o1 rfl (det_call hb20 rfl rfl (fun w1 hs => same_ok hs.know hP1 hb1 RowsK.nil)) rfl rfl ⟨_, rfl, rfl⟩ ?_
          refine o1 rfl (det_pickT rfl rfl) rfl rfl trivial ?_
          refine o2P Iff.rfl rfl (det_move rfl) rfl rfl trivial (fun hb => ?_) (fun hb => ?_)
          ·
            refine o1 rfl (det_loadN tN28 rfl rfl (.tail _ (.head _)) rfl) rfl rfl ⟨_, rfl, rfl⟩ ?_
            refine o1 rfl (det_build rfl (fun w => bld28_ w)) rfl rfl ⟨_, rfl, rfl⟩ ?_
            refine o1 rfl (det_eqlS rfl rfl eqg28 (fun w => eq28 _ _ _ _ _ _ _ _ _ _ _ _ _ _ w)) rfl rfl ⟨_, rfl, rfl⟩ ?_
            refine o1 rfl (det_pickT rfl rfl) rfl rfl trivial ?_
            refine o2P Iff.rfl rfl (det_move rfl) rfl rfl trivial (fun hb => ?_) (fun hb => ?_)
            ·
              refine o1 rfl (det_move rfl) rfl rfl ⟨_, rfl, rfl⟩ ?_
              refine o1 rfl (det_eql rfl rfl) rfl rfl ⟨_, rfl, rfl⟩ ?_
              refine o1 rfl (det_pickT rfl rfl) rfl rfl trivial ?_
              refine o2P beq_iff_eq rfl (det_move rfl) rfl rfl trivial (fun hb => ?_) (fun hb => ?_)
              ·
                refine o1 rfl (det_loadN tN24 rfl rfl (.head _) rfl) rfl rfl ⟨_, rfl, rfl⟩ ?_
                refine o1 rfl (det_build rfl (fun w => bld24_ w)) rfl rfl ⟨_, rfl, rfl⟩ ?_
                refine o1 rfl (det_call hb20 rfl rfl (fun w1 hs => same_ok hs.know hP2 hb2 RowsK.nil)) rfl rfl ⟨_, rfl, rfl⟩ ?_
                refine o1 rfl (det_pickT rfl rfl) rfl rfl trivial ?_
                refine o2P Iff.rfl rfl (det_move rfl) rfl rfl trivial (fun hb => ?_) (fun hb => ?_)
                ·
                  refine o1 rfl (det_move rfl) rfl rfl ⟨_, rfl, rfl⟩ ?_
                  refine o1 rfl (det_eql rfl rfl) rfl rfl ⟨_, rfl, rfl⟩ ?_
                  refine o1 rfl (det_pickT rfl rfl) rfl rfl trivial ?_
                  refine o1 rfl (det_assign rfl) rfl rfl trivial ?_
                  refine be rfl ?_
                  refine tk_drop ?_ (.refl _) hK
                  exact ⟨(mb rfl (by first | rfl | (exfalso; simp [dPt, dIt] at hb) | (exfalso; simp_all [dPt, dIt]))), rfl, rfl, rfl, rfl, rfl, rfl, rfl, rfl, rfl, trivial⟩
                ·
                  refine on rfl rfl rfl ⟨_, rfl, .inl rfl⟩ ?_
                  refine on rfl rfl rfl ⟨_, rfl, .inl rfl⟩ ?_
                  refine o1 rfl (det_pickF rfl rfl) rfl rfl trivial ?_
                  refine o1 rfl (det_assign rfl) rfl rfl trivial ?_
                  refine be rfl ?_
                  refine tk_drop ?_ (.refl _) hK
                  exact ⟨(mb rfl (by first | rfl | (exfalso; simp [dPt, dIt] at hb) | (exfalso; simp_all [dPt, dIt]))), rfl, rfl, rfl, rfl, rfl, rfl, rfl, rfl, rfl, trivial⟩
              ·
                refine on rfl rfl rfl ⟨_, rfl, .inl rfl⟩ ?_
                refine on rfl rfl rfl ⟨_, rfl, .inl rfl⟩ ?_
                refine on rfl rfl rfl ⟨_, rfl, .inl rfl⟩ ?_
                refine o1 rfl (det_pickF rfl rfl) rfl rfl trivial ?_
                refine o1 rfl (det_move rfl) rfl rfl trivial ?_
                refine on rfl rfl rfl ⟨_, rfl, .inl rfl⟩ ?_
                refine on rfl rfl rfl ⟨_, rfl, .inl rfl⟩ ?_
                refine o1 rfl (det_pickF rfl rfl) rfl rfl trivial ?_
                refine o1 rfl (det_assign rfl) rfl rfl trivial ?_
                refine be rfl ?_
                refine tk_drop ?_ (.refl _) hK
                exact ⟨(mb rfl (by first | rfl | (exfalso; simp [dPt, dIt] at hb) | (exfalso; simp_all [dPt, dIt]))), rfl, rfl, rfl, rfl, rfl, rfl, rfl, rfl, rfl, trivial⟩
            ·
              refine on rfl rfl rfl ⟨_, rfl, .inl rfl⟩ ?_
              refine on rfl rfl rfl ⟨_, rfl, .inl rfl⟩ ?_
              refine o1 rfl (det_pickF rfl rfl) rfl rfl trivial ?_
              refine o1 rfl (det_move rfl) rfl rfl trivial ?_
              refine on rfl rfl rfl ⟨_, rfl, .inl rfl⟩ ?_
              refine on rfl rfl rfl ⟨_, rfl, .inl rfl⟩ ?_
              refine on rfl rfl rfl ⟨_, rfl, .inl rfl⟩ ?_
              refine o1 rfl (det_pickF rfl rfl) rfl rfl trivial ?_
              refine o1 rfl (det_move rfl) rfl rfl trivial ?_
              refine on rfl rfl rfl ⟨_, rfl, .inl rfl⟩ ?_
              refine on rfl rfl rfl ⟨_, rfl, .inl rfl⟩ ?_
              refine o1 rfl (det_pickF rfl rfl) rfl rfl trivial ?_
              refine o1 rfl (det_assign rfl) rfl rfl trivial ?_
              refine be rfl ?_
              refine tk_drop ?_ (.refl _) hK
              exact ⟨(mb rfl (by first | rfl | (exfalso; simp [dPt, dIt] at hb) | (exfalso; simp_all [dPt, dIt]))), rfl, rfl, rfl, rfl, rfl, rfl, rfl, rfl, rfl, trivial⟩
          ·
            refine on rfl rfl rfl ⟨_, rfl, .inl rfl⟩ ?_
            refine on rfl rfl rfl ⟨_, rfl, .inl rfl⟩ ?_
            refine on rfl rfl rfl ⟨_, rfl, .inl rfl⟩ ?_
            refine o1 rfl (det_pickF rfl rfl) rfl rfl trivial ?_
            refine o1 rfl (det_move rfl) rfl rfl trivial ?_
            refine on rfl rfl rfl ⟨_, rfl, .inl rfl⟩ ?_
            refine on rfl rfl rfl ⟨_, rfl, .inl rfl⟩ ?_
            refine o1 rfl (det_pickF rfl rfl) rfl rfl trivial ?_
            refine o1 rfl (det_move rfl) rfl rfl trivial ?_
            refine on rfl rfl rfl ⟨_, rfl, .inl rfl⟩ ?_
            refine on rfl rfl rfl ⟨_, rfl, .inl rfl⟩ ?_
            refine on rfl rfl rfl ⟨_, rfl, .inl rfl⟩ ?_
            refine o1 rfl (det_pickF rfl rfl) rfl rfl trivial ?_
            refine o1 rfl (det_move rfl) rfl rfl trivial ?_
            refine on rfl rfl rfl ⟨_, rfl, .inl rfl⟩ ?_
            refine on rfl rfl rfl ⟨_, rfl, .inl rfl⟩ ?_
            refine o1 rfl (det_pickF rfl rfl) rfl rfl trivial ?_
            refine o1 rfl (det_assign rfl) rfl rfl trivial ?_
            refine be rfl ?_
            refine tk_drop ?_ (.refl _) hK
            exact ⟨(mb rfl (by first | rfl | (exfalso; simp [dPt, dIt] at hb) | (exfalso; simp_all [dPt, dIt]))), rfl, rfl, rfl, rfl, rfl, rfl, rfl, rfl, rfl, trivial⟩
        ·
          refine on rfl rfl rfl ⟨_, rfl, .inl rfl⟩ ?_
          refine on rfl rfl rfl ⟨_, rfl, .inl rfl⟩ ?_
          refine on rfl rfl rfl ⟨_, rfl, .inl rfl⟩ ?_
          refine o1 rfl (det_pickF rfl rfl) rfl rfl trivial ?_
          refine o1 rfl (det_move rfl) rfl rfl trivial ?_
          refine on rfl rfl rfl ⟨_, rfl, .inl rfl⟩ ?_
          refine on rfl rfl rfl ⟨_, rfl, .inl rfl⟩ ?_
          refine on rfl rfl rfl ⟨_, rfl, .inl rfl⟩ ?_
          refine o1 rfl (det_pickF rfl rfl) rfl rfl trivial ?_
          refine o1 rfl (det_move rfl) rfl rfl trivial ?_
          refine on rfl rfl rfl ⟨_, rfl, .inl rfl⟩ ?_
          refine on rfl rfl rfl ⟨_, rfl, .inl rfl⟩ ?_
          refine o1 rfl (det_pickF rfl rfl) rfl rfl trivial ?_
          refine o1 rfl (det_move rfl) rfl rfl trivial ?_
          refine on rfl rfl rfl ⟨_, rfl, .inl rfl⟩ ?_
          refine on rfl rfl rfl ⟨_, rfl, .inl rfl⟩ ?_
          refine on rfl rfl rfl ⟨_, rfl, .inl rfl⟩ ?_
          refine o1 rfl (det_pickF rfl rfl) rfl rfl trivial ?_
          refine o1 rfl (det_move rfl) rfl rfl trivial ?_
          refine on rfl rfl rfl ⟨_, rfl, .inl rfl⟩ ?_
          refine on rfl rfl rfl ⟨_, rfl, .inl rfl⟩ ?_
          refine o1 rfl (det_pickF rfl rfl) rfl rfl trivial ?_
          refine o1 rfl (det_assign rfl) rfl rfl trivial ?_
          refine be rfl ?_
          refine tk_drop ?_ (.refl _) hK
          exact ⟨(mb rfl (by first | rfl | (exfalso; simp [dPt, dIt] at hb) | (exfalso; simp_all [dPt, dIt]))), rfl, rfl, rfl, rfl, rfl, rfl, rfl, rfl, rfl, trivial⟩
      ·
        refine on rfl rfl rfl ⟨_, rfl, .inl rfl⟩ ?_
        refine on rfl rfl rfl ⟨_, rfl, .inl rfl⟩ ?_
        refine o1 rfl (det_pickF rfl rfl) rfl rfl trivial ?_
        refine o1 rfl (det_move rfl) rfl rfl trivial ?_
        refine on rfl rfl rfl ⟨_, rfl, .inl rfl⟩ ?_
        refine on rfl rfl rfl ⟨_, rfl, .inl rfl⟩ ?_
        refine on rfl rfl rfl ⟨_, rfl, .inl rfl⟩ ?_
        refine o1 rfl (det_pickF rfl rfl) rfl rfl trivial ?_
        refine o1 rfl (det_move rfl) rfl rfl trivial ?_
        refine on rfl rfl rfl ⟨_, rfl, .inl rfl⟩ ?_
        refine on rfl rfl rfl ⟨_, rfl, .inl rfl⟩ ?_
        refine on rfl rfl rfl ⟨_, rfl, .inl rfl⟩ ?_
        refine o1 rfl (det_pickF rfl rfl) rfl rfl trivial ?_
        refine o1 rfl (det_move rfl) rfl rfl trivial ?_
        refine on rfl rfl rfl ⟨_, rfl, .inl rfl⟩ ?_
        refine on rfl rfl rfl ⟨_, rfl, .inl rfl⟩ ?_
        refine o1 rfl (det_pickF rfl rfl) rfl rfl trivial ?_
        refine o1 rfl (det_move rfl) rfl rfl trivial ?_
        refine on rfl rfl rfl ⟨_, rfl, .inl rfl⟩ ?_
        refine on rfl rfl rfl ⟨_, rfl, .inl rfl⟩ ?_
        refine on rfl rfl rfl ⟨_, rfl, .inl rfl⟩ ?_
        refine o1 rfl (det_pickF rfl rfl) rfl rfl trivial ?_
        refine o1 rfl (det_move rfl) rfl rfl trivial ?_
        refine on rfl rfl rfl ⟨_, rfl, .inl rfl⟩ ?_
        refine on rfl rfl rfl ⟨_, rfl, .inl rfl⟩ ?_
        refine o1 rfl (det_pickF rfl rfl) rfl rfl trivial ?_
        refine o1 rfl (det_assign rfl) rfl rfl trivial ?_
        refine be rfl ?_
        refine tk_drop ?_ (.refl _) hK
        exact ⟨(mb rfl (by first | rfl | (exfalso; simp [dPt, dIt] at hb) | (exfalso; simp_all [dPt, dIt]))), rfl, rfl, rfl, rfl, rfl, rfl, rfl, rfl, rfl, trivial⟩
  ·
    have hR : rightQ cap qs = true := by simpa using hb
    refine t_skip ?_
    refine k_then ?_
    refine t_seq ?_
    refine t_seq ?_
    refine b0 ?_
    refine o1 rfl (det_fieldAddr fld24_1 rfl) rfl rfl trivial ?_
    refine o1 rfl (det_load1 t1_22 rfl rfl (.tail _ (.tail _ (.tail _ (.tail _ (.head _))))) rfl) rfl rfl trivial ?_
    refine o1 rfl (det_lenS sl22 rfl) rfl rfl trivial ?_
    refine o1 rfl (det_eql rfl rfl) rfl rfl trivial ?_
    refine be rfl ?_
    refine k_then ?_
    refine t_condP beq_iff_eq rfl (fun hb => ?_) (fun hb => ?_)
    ·
      have hnl := hP.len
      have hz : qs.length = 0 := by omega
      rw [head_nil hz] at hhq; cases hhq
      rw [pop_nil hR hz] at hpq; cases hpq
      refine t_seq ?_
      refine t_merge (env0 := [(3, _), (4, _), (5, _), (11, _), (12, _)]) ⟨rfl, rfl, rfl, rfl, rfl, trivial⟩ 92 (.bool false) ?_ (fun hK => ?_)
      ·
        refine k_then ?_
        refine t_condF rfl ?_
        refine t_skip ?_
        refine k_then ?_
        refine t_seq ?_
        refine b0 ?_
        refine o1 rfl (det_assign rfl) rfl rfl trivial ?_
        refine be rfl ?_
        refine k_then ?_
        refine t_seq ?_
        refine t_seq ?_
        refine b0 ?_
        refine o1 rfl (det_loadN tN28 rfl rfl (.tail _ (.tail _ (.tail _ (.tail _ (.tail _ (.head _)))))) rfl) rfl rfl trivial ?_
        refine o1 rfl (det_call hb14 rfl rfl (fun w1 hs => rpart_ok hs.know)) rfl rfl trivial ?_
        refine o1 rfl (det_not rfl) rfl rfl trivial ?_
        refine be rfl ?_
        refine k_then ?_
        refine t_condP not_iff_false rfl (fun hb => ?_) (fun hb => ?_)
        ·
          skip --note:np
          refine b0 ?_
          refine o1 rfl (det_assign rfl) rfl rfl trivial ?_
          refine be rfl ?_
          refine k_then ?_
          refine t_seq ?_
          refine t_seq ?_
          refine b0 ?_
          refine o1 rfl (det_move rfl) rfl rfl trivial ?_
          refine o1 rfl (det_neq rfl rfl) rfl rfl trivial ?_
          refine be rfl ?_
          refine k_then ?_
          refine t_condP bne_iff_ne rfl (fun hb => ?_) (fun hb => ?_)
          rotate_left
          · exfalso; exact absurd (by decide) hb
          refine t_seq ?_
          refine t_merge (env0 := [(3, _), (5, _), (11, _), (12, _)]) ⟨rfl, rfl, rfl, rfl, trivial⟩ 4 (.bool true) ?_ (fun hK => ?_)
          ·
            refine k_then ?_
            refine t_ret (k_thenR (?_))
            refine ret_tmp rfl rfl rfl (fun w1 hs => ?_)
            first | exact ⟨rfl, hs.keep⟩ | exact ⟨by grind [retQ], hs.keep⟩
          ·
            refine b0 ?_
            refine o1 rfl (det_loadN tN24 rfl rfl (.head _) rfl) rfl rfl trivial ?_
            refine o1 rfl (det_build rfl (fun w => bld24_ w)) rfl rfl trivial ?_
            refine o1 rfl (det_call hb20 rfl rfl (fun w1 hs => same_ok hs.know hP2 hb2 RowsK.nil)) rfl rfl trivial ?_
            refine o2P Iff.rfl rfl (det_move rfl) rfl rfl trivial (fun hb => ?_) (fun hb => ?_)
            ·
              refine o1 rfl (det_move rfl) rfl rfl ⟨_, rfl, rfl⟩ ?_
              refine o1 rfl (det_move rfl) rfl rfl ⟨_, rfl, rfl⟩ ?_
              refine o1 rfl (det_eql rfl rfl) rfl rfl ⟨_, rfl, rfl⟩ ?_
              refine o1 rfl (det_pickT rfl rfl) rfl rfl trivial ?_
              refine o1 rfl (det_assign rfl) rfl rfl trivial ?_
              refine be rfl ?_
              refine tk_drop ?_ (.refl _) hK
              exact ⟨(mb rfl (by grind [retQ])), rfl, rfl, rfl, rfl, trivial⟩
            ·
              refine on rfl rfl rfl ⟨_, rfl, .inl rfl⟩ ?_
              refine on rfl rfl rfl ⟨_, rfl, .inl rfl⟩ ?_
              refine on rfl rfl rfl ⟨_, rfl, .inl rfl⟩ ?_
              refine o1 rfl (det_pickF rfl rfl) rfl rfl trivial ?_
              refine o1 rfl (det_assign rfl) rfl rfl trivial ?_
              refine be rfl ?_
              refine tk_drop ?_ (.refl _) hK
              exact ⟨(mb rfl (by grind [retQ])), rfl, rfl, rfl, rfl, trivial⟩
        ·
          have hX : okP p = true := by simpa using hb
          refine t_seq ?_
          refine t_merge (env0 := [(3, _), (4, _), (5, _), (11, _), (12, _), (13, _)]) ⟨rfl, rfl, rfl, rfl, rfl, rfl, trivial⟩ 132 (.bool (decide (p.rest = false ∨ restQ qs = true))) ?_ (fun hK => ?_)
          ·
            refine k_then ?_
            refine t_condP decide_eq_true_iff rfl (fun hb => ?_) (fun hb => ?_)
            ·
              skip --note:na
              refine b0 ?_
              refine o1 rfl (det_assign rfl) rfl rfl trivial ?_
              refine be rfl ?_
              refine k_then ?_
              refine t_seq ?_
              refine t_seq ?_
              refine b0 ?_
              refine o1 rfl (det_move rfl) rfl rfl trivial ?_
              refine o1 rfl (det_neq rfl rfl) rfl rfl trivial ?_
              refine be rfl ?_
              refine k_then ?_
              refine t_condP bne_iff_ne rfl (fun hb => ?_) (fun hb => ?_)
              rotate_left
              · exfalso; exact absurd (by decide) hb
              refine t_seq ?_
              refine t_merge (env0 := [(3, _), (5, _), (11, _), (12, _)]) ⟨rfl, rfl, rfl, rfl, trivial⟩ 4 (.bool true) ?_ (fun hK => ?_)
              ·
                refine k_then ?_
                refine t_ret (k_thenR (?_))
                refine ret_tmp rfl rfl rfl (fun w1 hs => ?_)
                first | exact ⟨rfl, hs.keep⟩ | exact ⟨by grind [retQ], hs.keep⟩
              ·
                refine b0 ?_
                refine o1 rfl (det_loadN tN24 rfl rfl (.head _) rfl) rfl rfl trivial ?_
                refine o1 rfl (det_build rfl (fun w => bld24_ w)) rfl rfl trivial ?_
                refine o1 rfl (det_call hb20 rfl rfl (fun w1 hs => same_ok hs.know hP2 hb2 RowsK.nil)) rfl rfl trivial ?_
                refine o2P Iff.rfl rfl (det_move rfl) rfl rfl trivial (fun hb => ?_) (fun hb => ?_)
                ·
                  refine o1 rfl (det_move rfl) rfl rfl ⟨_, rfl, rfl⟩ ?_
                  refine o1 rfl (det_move rfl) rfl rfl ⟨_, rfl, rfl⟩ ?_
                  refine o1 rfl (det_eql rfl rfl) rfl rfl ⟨_, rfl, rfl⟩ ?_
                  refine o1 rfl (det_pickT rfl rfl) rfl rfl trivial ?_
                  refine o1 rfl (det_assign rfl) rfl rfl trivial ?_
                  refine be rfl ?_
                  refine tk_drop ?_ (.refl _) hK
                  exact ⟨(mb rfl (by grind [retQ])), rfl, rfl, rfl, rfl, trivial⟩
                ·
                  refine on rfl rfl rfl ⟨_, rfl, .inl rfl⟩ ?_
                  refine on rfl rfl rfl ⟨_, rfl, .inl rfl⟩ ?_
                  refine on rfl rfl rfl ⟨_, rfl, .inl rfl⟩ ?_
                  refine o1 rfl (det_pickF rfl rfl) rfl rfl trivial ?_
                  refine o1 rfl (det_assign rfl) rfl rfl trivial ?_
                  refine be rfl ?_
                  refine tk_drop ?_ (.refl _) hK
                  exact ⟨(mb rfl (by grind [retQ])), rfl, rfl, rfl, rfl, trivial⟩
            ·
              skip
              refine t_skip ?_
              refine k_then ?_
              refine t_seq ?_
              refine t_seq ?_
              refine b0 ?_
              refine o1 rfl (det_move rfl) rfl rfl trivial ?_
              refine o1 rfl (det_neq rfl rfl) rfl rfl trivial ?_
              refine be rfl ?_
              refine k_then ?_
              refine t_condP bne_iff_ne rfl (fun hb => ?_) (fun hb => ?_)
              · exfalso; exact hb rfl
              refine t_skip ?_
              refine k_then ?_
              refine t_seq ?_
              refine bD mixed ?_
              refine r_segF 10 10 [] [(3, Go.Eng.Told F2 (fun v F2 => ∃ A1 n1 c1, v = qA cap A1 n1 c1 ∧ n1 ≤ c1 ∧ c1 ≤ maxLen ∧ PK F2 A1 n1 (p :: qs)))] [0, 1, 2, 3, 4, 5, 6, 7, 8, 9] (by kernel_rfl) ?_
              refine s1 rfl (det_loadN tN24 rfl rfl (.head _) rfl) rfl rfl trivial rfl ?_
              refine s1 rfl (det_loadN tN24 rfl rfl (.tail _ (.tail _ (.tail _ (.tail _ (.head _))))) rfl) rfl rfl trivial rfl ?_
              refine s1 rfl (det_loadN tN28 rfl rfl (.tail _ (.tail _ (.tail _ (.tail _ (.tail _ (.head _)))))) rfl) rfl rfl trivial rfl ?_
              refine sM [] need0 rfl (fun F2 hF2 hN => mem_call hF2 hb27 rfl rfl (fun w1 hs => rret_at (fun a u h => hs.know a u (hF2 a u h)) hP hnb hnc hcm)) rfl rfl trivial rfl (fun v146 hv146 => ?_)
              obtain ⟨F9, A3, n3, c3, rfl, -⟩ := hv146
              refine s1N [_] (needC (.head _) rfl need0) rfl (fun F2 hF2 hN => det_call hb20 rfl rfl (fun w1 hs => (by obtain ⟨A9, n9, c9, hq, -, -, h9⟩ := hN _ (.head _); cases hq; exact same_ok (fun a u h => hs.know a u h) (hP2.mono hF2) hb2 h9))) rfl rfl trivial rfl ?_
              refine s2P Iff.rfl rfl (det_move rfl) rfl rfl trivial rfl (fun hb => ?_) (fun hb => ?_)
              rotate_left
              · exfalso; exact hb (decide_eq_true (by grind [retQ]))
              refine s1 rfl (det_move rfl) rfl rfl ⟨_, rfl, rfl⟩ rfl ?_
              refine s1 rfl (det_eql rfl rfl) rfl rfl ⟨_, rfl, rfl⟩ rfl ?_
              refine s1 rfl (det_pickT rfl rfl) rfl rfl trivial rfl ?_
              refine s1 rfl (det_assign rfl) rfl rfl trivial rfl ?_
              refine sg_nil ?_
              rintro F_21_10 hF_21_10 hN_21_10 ⟨hR146, -⟩
              refine be rfl ?_
              refine k_then ?_
              refine t_ret ?_
              refine ret_tmp rfl rfl rfl (fun w1 hs => ?_)
              first | exact ⟨rfl, hs.keep⟩ | exact ⟨by grind [retQ], hs.keep⟩
          ·
            refine b0 ?_
            refine o1 rfl (det_fieldAddr fld28_2 rfl) rfl rfl trivial ?_
            refine o1 rfl (det_load1 t1_4 rfl rfl (.tail _ (.tail _ (.tail _ (.tail _ (.tail _ (.head _)))))) rfl) rfl rfl trivial ?_
            refine o1 rfl (det_not rfl) rfl rfl trivial ?_
            refine o2P not_iff_false rfl (det_move rfl) rfl rfl trivial (fun hb => ?_) (fun hb => ?_)
            ·
              refine on rfl rfl rfl ⟨_, rfl, .inl rfl⟩ ?_
              refine on rfl rfl rfl ⟨_, rfl, .inl rfl⟩ ?_
              refine o1 rfl (det_pickT rfl rfl) rfl rfl trivial ?_
              refine be rfl ?_
              refine tk_drop ?_ (.refl _) hK
              exact ⟨(mb rfl (by grind)), rfl, rfl, rfl, rfl, rfl, rfl, trivial⟩
            ·
              refine o1 rfl (det_loadN tN24 rfl rfl (.tail _ (.tail _ (.tail _ (.tail _ (.head _))))) rfl) rfl rfl ⟨_, rfl, rfl⟩ ?_
              refine o1 rfl (det_call hb26 rfl rfl (fun w1 hs => rrest_ok hs.know hP hnb)) rfl rfl ⟨_, rfl, rfl⟩ ?_
              refine o1 rfl (det_pickF rfl rfl) rfl rfl trivial ?_
              refine be rfl ?_
              refine tk_drop ?_ (.refl _) hK
              exact ⟨(mb rfl (by grind)), rfl, rfl, rfl, rfl, rfl, rfl, trivial⟩
      ·
        refine b0 ?_
        refine o1 rfl (det_loadN tN28 rfl rfl (.tail _ (.tail _ (.tail _ (.head _)))) rfl) rfl rfl trivial ?_
        refine o1 rfl (det_build rfl (fun w => bld28_ w)) rfl rfl trivial ?_
        refine o1 rfl (det_neqS rfl rfl eqg28 (fun w => eq28 _ _ _ _ _ _ _ _ _ _ _ _ _ _ w)) rfl rfl trivial ?_
        refine o2P Iff.rfl rfl (det_move rfl) rfl rfl trivial (fun hb => ?_) (fun hb => ?_)
        ·
          refine on rfl rfl rfl ⟨_, rfl, .inl rfl⟩ ?_
          refine o1 rfl (det_pickT rfl rfl) rfl rfl trivial ?_
          refine o1 rfl (det_move rfl) rfl rfl trivial ?_
          refine on rfl rfl rfl ⟨_, rfl, .inl rfl⟩ ?_
          refine on rfl rfl rfl ⟨_, rfl, .inl rfl⟩ ?_
          refine on rfl rfl rfl ⟨_, rfl, .inl rfl⟩ ?_
          refine on rfl rfl rfl ⟨_, rfl, .inl rfl⟩ ?_
          refine o1 rfl (det_pickT rfl rfl) rfl rfl trivial ?_
          refine o1 rfl (det_move rfl) rfl rfl trivial ?_
          refine on rfl rfl rfl ⟨_, rfl, .inl rfl⟩ ?_
          refine on rfl rfl rfl ⟨_, rfl, .inl rfl⟩ ?_
          refine on rfl rfl rfl ⟨_, rfl, .inl rfl⟩ ?_
          refine o1 rfl (det_pickT rfl rfl) rfl rfl trivial ?_
          refine o1 rfl (det_move rfl) rfl rfl trivial ?_
          refine on rfl rfl rfl ⟨_, rfl, .inl rfl⟩ ?_
          refine on rfl rfl rfl ⟨_, rfl, .inl rfl⟩ ?_
          refine o1 rfl (det_pickT rfl rfl) rfl rfl trivial ?_
          refine be rfl ?_
          refine tk_drop ?_ (.refl _) hK
          exact ⟨(mb rfl (by first | rfl | (exfalso; simp [dPt, dIt] at hb) | (exfalso; simp_all [dPt, dIt]))), rfl, rfl, rfl, rfl, rfl, trivial⟩
        ·
          refine o1 rfl (det_move rfl) rfl rfl ⟨_, rfl, rfl⟩ ?_
          refine o1 rfl (det_pickF rfl rfl) rfl rfl trivial ?_
          refine o2P Iff.rfl rfl (det_move rfl) rfl rfl trivial (fun hb => ?_) (fun hb => ?_)
          ·
            refine on rfl rfl rfl ⟨_, rfl, .inl rfl⟩ ?_
            refine on rfl rfl rfl ⟨_, rfl, .inl rfl⟩ ?_
            refine on rfl rfl rfl ⟨_, rfl, .inl rfl⟩ ?_
            refine on rfl rfl rfl ⟨_, rfl, .inl rfl⟩ ?_
            refine o1 rfl (det_pickT rfl rfl) rfl rfl trivial ?_
            refine o1 rfl (det_move rfl) rfl rfl trivial ?_
            refine on rfl rfl rfl ⟨_, rfl, .inl rfl⟩ ?_
            refine on rfl rfl rfl ⟨_, rfl, .inl rfl⟩ ?_
            refine on rfl rfl rfl ⟨_, rfl, .inl rfl⟩ ?_
            refine o1 rfl (det_pickT rfl rfl) rfl rfl trivial ?_
            refine o1 rfl (det_move rfl) rfl rfl trivial ?_
            refine on rfl rfl rfl ⟨_, rfl, .inl rfl⟩ ?_
            refine on rfl rfl rfl ⟨_, rfl, .inl rfl⟩ ?_
            refine o1 rfl (det_pickT rfl rfl) rfl rfl trivial ?_
            refine be rfl ?_
            refine tk_drop ?_ (.refl _) hK
            exact ⟨(mb rfl (by first | rfl | (exfalso; simp [dPt, dIt] at hb) | (exfalso; simp_all [dPt, dIt]))), rfl, rfl, rfl, rfl, rfl, trivial⟩
          ·
            refine o1 rfl (det_loadN tN24 rfl rfl (.tail _ (.tail _ (.head _))) rfl) rfl rfl ⟨_, rfl, rfl⟩ ?_
            refine o1 rfl (det_build rfl (fun w => bld24_ w)) rfl rfl ⟨_, rfl, rfl⟩ ?_
            refine o1 rfl (det_call hb20 rfl rfl (fun w1 hs => same_ok hs.know hP1 hb1 RowsK.nil)) rfl rfl ⟨_, rfl, rfl⟩ ?_
            refine o1 rfl (det_not rfl) rfl rfl ⟨_, rfl, rfl⟩ ?_
            refine o1 rfl (det_pickF rfl rfl) rfl rfl trivial ?_
            refine o2P not_iff_false rfl (det_move rfl) rfl rfl trivial (fun hb => ?_) (fun hb => ?_)
            ·
              refine on rfl rfl rfl ⟨_, rfl, .inl rfl⟩ ?_
              refine on rfl rfl rfl ⟨_, rfl, .inl rfl⟩ ?_
              refine on rfl rfl rfl ⟨_, rfl, .inl rfl⟩ ?_
              refine o1 rfl (det_pickT rfl rfl) rfl rfl trivial ?_
              refine o1 rfl (det_move rfl) rfl rfl trivial ?_
              refine on rfl rfl rfl ⟨_, rfl, .inl rfl⟩ ?_
              refine on rfl rfl rfl ⟨_, rfl, .inl rfl⟩ ?_
              refine o1 rfl (det_pickT rfl rfl) rfl rfl trivial ?_
              refine be rfl ?_
              refine tk_drop ?_ (.refl _) hK
              exact ⟨(mb rfl (by first | rfl | (exfalso; simp [dPt, dIt] at hb) | (exfalso; simp_all [dPt, dIt]))), rfl, rfl, rfl, rfl, rfl, trivial⟩
            ·
              refine o1 rfl (det_loadN tN28 rfl rfl (.tail _ (.head _)) rfl) rfl rfl ⟨_, rfl, rfl⟩ ?_
              refine o1 rfl (det_build rfl (fun w => bld28_ w)) rfl rfl ⟨_, rfl, rfl⟩ ?_
              refine o1 rfl (det_neqS rfl rfl eqg28 (fun w => eq28 _ _ _ _ _ _ _ _ _ _ _ _ _ _ w)) rfl rfl ⟨_, rfl, rfl⟩ ?_
              refine o1 rfl (det_pickF rfl rfl) rfl rfl trivial ?_
              refine o2P Iff.rfl rfl (det_move rfl) rfl rfl trivial (fun hb => ?_) (fun hb => ?_)
              ·
                refine on rfl rfl rfl ⟨_, rfl, .inl rfl⟩ ?_
                refine on rfl rfl rfl ⟨_, rfl, .inl rfl⟩ ?_
                refine o1 rfl (det_pickT rfl rfl) rfl rfl trivial ?_
                refine be rfl ?_
                refine tk_drop ?_ (.refl _) hK
                exact ⟨(mb rfl (by first | rfl | (exfalso; simp [dPt, dIt] at hb) | (exfalso; simp_all [dPt, dIt]))), rfl, rfl, rfl, rfl, rfl, trivial⟩
              ·
                refine o1 rfl (det_move rfl) rfl rfl ⟨_, rfl, rfl⟩ ?_
                refine o1 rfl (det_neq rfl rfl) rfl rfl ⟨_, rfl, rfl⟩ ?_
                refine o1 rfl (det_pickF rfl rfl) rfl rfl trivial ?_
                refine be rfl ?_
                refine tk_drop ?_ (.refl _) hK
                exact ⟨(mb rfl (by first | rfl | (exfalso; simp [dPt, dIt] at hb) | (exfalso; simp_all [dPt, dIt]))), rfl, rfl, rfl, rfl, rfl, trivial⟩
    ·
      have hnl := hP.len
      have hlt0 : 0 < qs.length := by omega
      have hat0 := atP_get hlt0
      rw [head_cons hR hlt0, hat0] at hhq; cases hhq
      rw [pop_cons hR hlt0, hat0] at hpq; cases hpq
      obtain ⟨A, rfl⟩ := hP.some hlt0
      refine t_seq ?_
      refine t_merge (env0 := [(3, _), (4, _), (5, _), (11, _), (12, _)]) ⟨rfl, rfl, rfl, rfl, rfl, trivial⟩ 122 (.bool false) ?_ (fun hK => ?_)
      ·
        refine k_then ?_
        refine t_condF rfl ?_
        refine t_skip ?_
        refine k_then ?_
        refine t_seq ?_
        refine b0 ?_
        refine o1 rfl (det_assign rfl) rfl rfl trivial ?_
        refine be rfl ?_
        refine k_then ?_
        refine t_seq ?_
        refine t_seq ?_
        refine b0 ?_
        refine o1 rfl (det_loadN tN28 rfl rfl (.tail _ (.tail _ (.tail _ (.tail _ (.tail _ (.head _)))))) rfl) rfl rfl trivial ?_
        refine o1 rfl (det_call hb14 rfl rfl (fun w1 hs => rpart_ok hs.know)) rfl rfl trivial ?_
        refine o1 rfl (det_not rfl) rfl rfl trivial ?_
        refine be rfl ?_
        refine k_then ?_
        refine t_condP not_iff_false rfl (fun hb => ?_) (fun hb => ?_)
        ·
          skip --note:np
          refine b0 ?_
          refine o1 rfl (det_assign rfl) rfl rfl trivial ?_
          refine be rfl ?_
          refine k_then ?_
          refine t_seq ?_
          refine t_seq ?_
          refine b0 ?_
          refine o1 rfl (det_move rfl) rfl rfl trivial ?_
          refine o1 rfl (det_neq rfl rfl) rfl rfl trivial ?_
          refine be rfl ?_
          refine k_then ?_
          refine t_condP bne_iff_ne rfl (fun hb => ?_) (fun hb => ?_)
          rotate_left
          · exfalso; exact absurd (by decide) hb
          refine t_seq ?_
          refine t_merge (env0 := [(3, _), (5, _), (11, _), (12, _)]) ⟨rfl, rfl, rfl, rfl, trivial⟩ 4 (.bool true) ?_ (fun hK => ?_)
          ·
            refine k_then ?_
            refine t_ret (k_thenR (?_))
            refine ret_tmp rfl rfl rfl (fun w1 hs => ?_)
            first | exact ⟨rfl, hs.keep⟩ | exact ⟨by grind [retQ], hs.keep⟩
          ·
            refine b0 ?_
            refine o1 rfl (det_loadN tN24 rfl rfl (.head _) rfl) rfl rfl trivial ?_
            refine o1 rfl (det_build rfl (fun w => bld24_ w)) rfl rfl trivial ?_
            refine o1 rfl (det_call hb20 rfl rfl (fun w1 hs => same_ok hs.know hP2 hb2 RowsK.nil)) rfl rfl trivial ?_
            refine o2P Iff.rfl rfl (det_move rfl) rfl rfl trivial (fun hb => ?_) (fun hb => ?_)
            ·
              refine o1 rfl (det_move rfl) rfl rfl ⟨_, rfl, rfl⟩ ?_
              refine o1 rfl (det_move rfl) rfl rfl ⟨_, rfl, rfl⟩ ?_
              refine o1 rfl (det_eql rfl rfl) rfl rfl ⟨_, rfl, rfl⟩ ?_
              refine o1 rfl (det_pickT rfl rfl) rfl rfl trivial ?_
              refine o1 rfl (det_assign rfl) rfl rfl trivial ?_
              refine be rfl ?_
              refine tk_drop ?_ (.refl _) hK
              exact ⟨(mb rfl (by grind [retQ])), rfl, rfl, rfl, rfl, trivial⟩
            ·
              refine on rfl rfl rfl ⟨_, rfl, .inl rfl⟩ ?_
              refine on rfl rfl rfl ⟨_, rfl, .inl rfl⟩ ?_
              refine on rfl rfl rfl ⟨_, rfl, .inl rfl⟩ ?_
              refine o1 rfl (det_pickF rfl rfl) rfl rfl trivial ?_
              refine o1 rfl (det_assign rfl) rfl rfl trivial ?_
              refine be rfl ?_
              refine tk_drop ?_ (.refl _) hK
              exact ⟨(mb rfl (by grind [retQ])), rfl, rfl, rfl, rfl, trivial⟩
        ·
          have hX : okP p = true := by simpa using hb
          refine t_seq ?_
          refine t_merge (env0 := [(3, _), (4, _), (5, _), (11, _), (12, _), (13, _)]) ⟨rfl, rfl, rfl, rfl, rfl, rfl, trivial⟩ 132 (.bool (decide (p.rest = false ∨ restQ qs = true))) ?_ (fun hK => ?_)
          ·
            refine k_then ?_
            refine t_condP decide_eq_true_iff rfl (fun hb => ?_) (fun hb => ?_)
            ·
              skip --note:na
              refine b0 ?_
              refine o1 rfl (det_assign rfl) rfl rfl trivial ?_
              refine be rfl ?_
              refine k_then ?_
              refine t_seq ?_
              refine t_seq ?_
              refine b0 ?_
              refine o1 rfl (det_move rfl) rfl rfl trivial ?_
              refine o1 rfl (det_neq rfl rfl) rfl rfl trivial ?_
              refine be rfl ?_
              refine k_then ?_
              refine t_condP bne_iff_ne rfl (fun hb => ?_) (fun hb => ?_)
              rotate_left
              · exfalso; exact absurd (by decide) hb
              refine t_seq ?_
              refine t_merge (env0 := [(3, _), (5, _), (11, _), (12, _)]) ⟨rfl, rfl, rfl, rfl, trivial⟩ 4 (.bool true) ?_ (fun hK => ?_)
              ·
                refine k_then ?_
                refine t_ret (k_thenR (?_))
                refine ret_tmp rfl rfl rfl (fun w1 hs => ?_)
                first | exact ⟨rfl, hs.keep⟩ | exact ⟨by grind [retQ], hs.keep⟩
              ·
                refine b0 ?_
                refine o1 rfl (det_loadN tN24 rfl rfl (.head _) rfl) rfl rfl trivial ?_
                refine o1 rfl (det_build rfl (fun w => bld24_ w)) rfl rfl trivial ?_
                refine o1 rfl (det_call hb20 rfl rfl (fun w1 hs => same_ok hs.know hP2 hb2 RowsK.nil)) rfl rfl trivial ?_
                refine o2P Iff.rfl rfl (det_move rfl) rfl rfl trivial (fun hb => ?_) (fun hb => ?_)
                ·
                  refine o1 rfl (det_move rfl) rfl rfl ⟨_, rfl, rfl⟩ ?_
                  refine o1 rfl (det_move rfl) rfl rfl ⟨_, rfl, rfl⟩ ?_
                  refine o1 rfl (det_eql rfl rfl) rfl rfl ⟨_, rfl, rfl⟩ ?_
                  refine o1 rfl (det_pickT rfl rfl) rfl rfl trivial ?_
                  refine o1 rfl (det_assign rfl) rfl rfl trivial ?_
                  refine be rfl ?_
                  refine tk_drop ?_ (.refl _) hK
                  exact ⟨(mb rfl (by grind [retQ])), rfl, rfl, rfl, rfl, trivial⟩
                ·
                  refine on rfl rfl rfl ⟨_, rfl, .inl rfl⟩ ?_
                  refine on rfl rfl rfl ⟨_, rfl, .inl rfl⟩ ?_
                  refine on rfl rfl rfl ⟨_, rfl, .inl rfl⟩ ?_
                  refine o1 rfl (det_pickF rfl rfl) rfl rfl trivial ?_
                  refine o1 rfl (det_assign rfl) rfl rfl trivial ?_
                  refine be rfl ?_
                  refine tk_drop ?_ (.refl _) hK
                  exact ⟨(mb rfl (by grind [retQ])), rfl, rfl, rfl, rfl, trivial⟩
            ·
              skip
              refine t_skip ?_
              refine k_then ?_
              refine t_seq ?_
              refine t_seq ?_
              refine b0 ?_
              refine o1 rfl (det_move rfl) rfl rfl trivial ?_
              refine o1 rfl (det_neq rfl rfl) rfl rfl trivial ?_
              refine be rfl ?_
              refine k_then ?_
              refine t_condP bne_iff_ne rfl (fun hb => ?_) (fun hb => ?_)
              · exfalso; exact hb rfl
              refine t_skip ?_
              refine k_then ?_
              refine t_seq ?_
              refine bD mixed ?_
              refine r_segF 10 10 [] [(3, Go.Eng.Told F2 (fun v F2 => ∃ A1 n1 c1, v = qA cap A1 n1 c1 ∧ n1 ≤ c1 ∧ c1 ≤ maxLen ∧ PK F2 A1 n1 (p :: qs)))] [0, 1, 2, 3, 4, 5, 6, 7, 8, 9] (by kernel_rfl) ?_
              refine s1 rfl (det_loadN tN24 rfl rfl (.head _) rfl) rfl rfl trivial rfl ?_
              refine s1 rfl (det_loadN tN24 rfl rfl (.tail _ (.tail _ (.tail _ (.tail _ (.head _))))) rfl) rfl rfl trivial rfl ?_
              refine s1 rfl (det_loadN tN28 rfl rfl (.tail _ (.tail _ (.tail _ (.tail _ (.tail _ (.head _)))))) rfl) rfl rfl trivial rfl ?_
              refine sM [] need0 rfl (fun F2 hF2 hN => mem_call hF2 hb27 rfl rfl (fun w1 hs => rret_at (fun a u h => hs.know a u (hF2 a u h)) hP hnb hnc hcm)) rfl rfl trivial rfl (fun v146 hv146 => ?_)
              obtain ⟨F9, A3, n3, c3, rfl, -⟩ := hv146
              refine s1N [_] (needC (.head _) rfl need0) rfl (fun F2 hF2 hN => det_call hb20 rfl rfl (fun w1 hs => (by obtain ⟨A9, n9, c9, hq, -, -, h9⟩ := hN _ (.head _); cases hq; exact same_ok (fun a u h => hs.know a u h) (hP2.mono hF2) hb2 h9))) rfl rfl trivial rfl ?_
              refine s2P Iff.rfl rfl (det_move rfl) rfl rfl trivial rfl (fun hb => ?_) (fun hb => ?_)
              rotate_left
              · exfalso; exact hb (decide_eq_true (by grind [retQ]))
              refine s1 rfl (det_move rfl) rfl rfl ⟨_, rfl, rfl⟩ rfl ?_
              refine s1 rfl (det_eql rfl rfl) rfl rfl ⟨_, rfl, rfl⟩ rfl ?_
              refine s1 rfl (det_pickT rfl rfl) rfl rfl trivial rfl ?_
              refine s1 rfl (det_assign rfl) rfl rfl trivial rfl ?_
              refine sg_nil ?_
              rintro F_21_10 hF_21_10 hN_21_10 ⟨hR146, -⟩
              refine be rfl ?_
              refine k_then ?_
              refine t_ret ?_
              refine ret_tmp rfl rfl rfl (fun w1 hs => ?_)
              first | exact ⟨rfl, hs.keep⟩ | exact ⟨by grind [retQ], hs.keep⟩
          ·
            refine b0 ?_
            refine o1 rfl (det_fieldAddr fld28_2 rfl) rfl rfl trivial ?_
            refine o1 rfl (det_load1 t1_4 rfl rfl (.tail _ (.tail _ (.tail _ (.tail _ (.tail _ (.head _)))))) rfl) rfl rfl trivial ?_
            refine o1 rfl (det_not rfl) rfl rfl trivial ?_
            refine o2P not_iff_false rfl (det_move rfl) rfl rfl trivial (fun hb => ?_) (fun hb => ?_)
            ·
              refine on rfl rfl rfl ⟨_, rfl, .inl rfl⟩ ?_
              refine on rfl rfl rfl ⟨_, rfl, .inl rfl⟩ ?_
              refine o1 rfl (det_pickT rfl rfl) rfl rfl trivial ?_
              refine be rfl ?_
              refine tk_drop ?_ (.refl _) hK
              exact ⟨(mb rfl (by grind)), rfl, rfl, rfl, rfl, rfl, rfl, trivial⟩
            ·
              refine o1 rfl (det_loadN tN24 rfl rfl (.tail _ (.tail _ (.tail _ (.tail _ (.head _))))) rfl) rfl rfl ⟨_, rfl, rfl⟩ ?_
              refine o1 rfl (det_call hb26 rfl rfl (fun w1 hs => rrest_ok hs.know hP hnb)) rfl rfl ⟨_, rfl, rfl⟩ ?_
              refine o1 rfl (det_pickF rfl rfl) rfl rfl trivial ?_
              refine be rfl ?_
              refine tk_drop ?_ (.refl _) hK
              exact ⟨(mb rfl (by grind)), rfl, rfl, rfl, rfl, rfl, rfl, trivial⟩
      ·
        refine bD mixed ?_
        refine r_seg 30 30 [] [0, 1, 2, 3, 4, 5, 6, 7, 8, 9, 10, 11, 12, 13, 14, 15, 16, 17, 18, 19, 20, 21, 22, 23, 24, 25, 26, 27, 28, 29] (by kernel_rfl) ?_
        refine s1 rfl (det_loadN tN28 rfl rfl (.tail _ (.tail _ (.tail _ (.head _)))) rfl) rfl rfl trivial rfl ?_
        refine s1 rfl (det_fieldAddr fld24_1 rfl) rfl rfl trivial rfl ?_
        refine s1 rfl (det_load1 t1_22 rfl rfl (.tail _ (.tail _ (.tail _ (.tail _ (.head _))))) rfl) rfl rfl trivial rfl ?_
        first | (refine s1 rfl (det_indexAddr sl22 rfl rfl ?_) rfl rfl trivial rfl ?_; (· (first | decide | omega)))
        refine s1 rfl (det_loadKN tN28 rfl (ptv_len qs[0]) (hP.cells (i := 0) (k := 0) rfl hlt0 (ptv_len _))) rfl rfl trivial rfl ?_
        refine s1 rfl (det_neqS rfl rfl eqg28 (fun w => eq28 _ _ _ _ _ _ _ _ _ _ _ _ _ _ w)) rfl rfl trivial rfl ?_
        refine s2P Iff.rfl rfl (det_move rfl) rfl rfl trivial rfl (fun hb => ?_) (fun hb => ?_)
        ·
          refine sn rfl rfl rfl ⟨_, rfl, .inl rfl⟩ ?_
          refine sn rfl rfl rfl ⟨_, rfl, .inl rfl⟩ ?_
          refine s1 rfl (det_pickT rfl rfl) rfl rfl trivial rfl ?_
          refine s1 rfl (det_move rfl) rfl rfl trivial rfl ?_
          refine sn rfl rfl rfl ⟨_, rfl, .inl rfl⟩ ?_
          refine sn rfl rfl rfl ⟨_, rfl, .inl rfl⟩ ?_
          refine sn rfl rfl rfl ⟨_, rfl, .inl rfl⟩ ?_
          refine sn rfl rfl rfl ⟨_, rfl, .inl rfl⟩ ?_
          refine sn rfl rfl rfl ⟨_, rfl, .inl rfl⟩ ?_
          refine sn rfl rfl rfl ⟨_, rfl, .inl rfl⟩ ?_
          refine sn rfl rfl rfl ⟨_, rfl, .inl rfl⟩ ?_
          refine sn rfl rfl rfl ⟨_, rfl, .inl rfl⟩ ?_
          refine sn rfl rfl rfl ⟨_, rfl, .inl rfl⟩ ?_
          refine s1 rfl (det_pickT rfl rfl) rfl rfl trivial rfl ?_
          refine s1 rfl (det_move rfl) rfl rfl trivial rfl ?_
          refine sn rfl rfl rfl ⟨_, rfl, .inl rfl⟩ ?_
          refine sn rfl rfl rfl ⟨_, rfl, .inl rfl⟩ ?_
          refine sn rfl rfl rfl ⟨_, rfl, .inl rfl⟩ ?_
          refine s1 rfl (det_pickT rfl rfl) rfl rfl trivial rfl ?_
          refine s1 rfl (det_move rfl) rfl rfl trivial rfl ?_
          refine sn rfl rfl rfl ⟨_, rfl, .inl rfl⟩ ?_
          refine sn rfl rfl rfl ⟨_, rfl, .inl rfl⟩ ?_
          refine s1 rfl (det_pickT rfl rfl) rfl rfl trivial rfl ?_
          refine sg_nil ?_
          refine be rfl ?_
          refine tk_drop ?_ (.refl _) hK
          exact ⟨(mb rfl (by first | rfl | (exfalso; simp [dPt, dIt] at hb) | (exfalso; simp_all [dPt, dIt]))), rfl, rfl, rfl, rfl, rfl, trivial⟩
        ·
          refine s1 rfl (det_move rfl) rfl rfl ⟨_, rfl, rfl⟩ rfl ?_
          refine s1 rfl (det_not rfl) rfl rfl ⟨_, rfl, rfl⟩ rfl ?_
          refine s1 rfl (det_pickF rfl rfl) rfl rfl trivial rfl ?_
          refine s2P not_iff_false rfl (det_move rfl) rfl rfl trivial rfl (fun hb => ?_) (fun hb => ?_)
          ·
            refine sn rfl rfl rfl ⟨_, rfl, .inl rfl⟩ ?_
            refine sn rfl rfl rfl ⟨_, rfl, .inl rfl⟩ ?_
            refine sn rfl rfl rfl ⟨_, rfl, .inl rfl⟩ ?_
            refine sn rfl rfl rfl ⟨_, rfl, .inl rfl⟩ ?_
            refine sn rfl rfl rfl ⟨_, rfl, .inl rfl⟩ ?_
            refine sn rfl rfl rfl ⟨_, rfl, .inl rfl⟩ ?_
            refine sn rfl rfl rfl ⟨_, rfl, .inl rfl⟩ ?_
            refine sn rfl rfl rfl ⟨_, rfl, .inl rfl⟩ ?_
            refine sn rfl rfl rfl ⟨_, rfl, .inl rfl⟩ ?_
            refine s1 rfl (det_pickT rfl rfl) rfl rfl trivial rfl ?_
            refine s1 rfl (det_move rfl) rfl rfl trivial rfl ?_
            refine sn rfl rfl rfl ⟨_, rfl, .inl rfl⟩ ?_
            refine sn rfl rfl rfl ⟨_, rfl, .inl rfl⟩ ?_
            refine sn rfl rfl rfl ⟨_, rfl, .inl rfl⟩ ?_
            refine s1 rfl (det_pickT rfl rfl) rfl rfl trivial rfl ?_
            refine s1 rfl (det_move rfl) rfl rfl trivial rfl ?_
            refine sn rfl rfl rfl ⟨_, rfl, .inl rfl⟩ ?_
            refine sn rfl rfl rfl ⟨_, rfl, .inl rfl⟩ ?_
            refine s1 rfl (det_pickT rfl rfl) rfl rfl trivial rfl ?_
            refine sg_nil ?_
            refine be rfl ?_
            refine tk_drop ?_ (.refl _) hK
            exact ⟨(mb rfl (by first | rfl | (exfalso; simp [dPt, dIt] at hb) | (exfalso; simp_all [dPt, dIt]))), rfl, rfl, rfl, rfl, rfl, trivial⟩
          ·
            refine s1 rfl (det_loadN tN24 rfl rfl (.tail _ (.tail _ (.head _))) rfl) rfl rfl ⟨_, rfl, rfl⟩ rfl ?_
            refine s1 rfl (det_fieldAddr fld24_0 rfl) rfl rfl ⟨_, rfl, rfl⟩ rfl ?_
            refine s1 rfl (det_load1 t1_3 rfl rfl (.tail _ (.tail _ (.tail _ (.tail _ (.head _))))) rfl) rfl rfl ⟨_, rfl, rfl⟩ rfl ?_
            refine s1 rfl (det_fieldAddr fld24_1 rfl) rfl rfl ⟨_, rfl, rfl⟩ rfl ?_
            refine s1 rfl (det_load1 t1_22 rfl rfl (.tail _ (.tail _ (.tail _ (.tail _ (.head _))))) rfl) rfl rfl ⟨_, rfl, rfl⟩ rfl ?_
            refine s1 rfl (det_sliceLo 1 sl22 rfl rfl rfl (by omega) hnc) rfl rfl ⟨_, rfl, rfl⟩ rfl ?_
            refine s1 rfl (det_build rfl (fun w => bld24_0_1 _ _ _ _ w)) rfl rfl ⟨_, rfl, rfl⟩ rfl ?_
            refine s1 rfl (det_call hb20 rfl rfl (fun w1 hs => same_ok hs.know hP1 hb1 (hP.from 1 (by omega) hnc))) rfl rfl ⟨_, rfl, rfl⟩ rfl ?_
            refine s1 rfl (det_not rfl) rfl rfl ⟨_, rfl, rfl⟩ rfl ?_
            refine s1 rfl (det_pickF rfl rfl) rfl rfl trivial rfl ?_
            refine s2P not_iff_false rfl (det_move rfl) rfl rfl trivial rfl (fun hb => ?_) (fun hb => ?_)
            ·
              refine sn rfl rfl rfl ⟨_, rfl, .inl rfl⟩ ?_
              refine sn rfl rfl rfl ⟨_, rfl, .inl rfl⟩ ?_
              refine sn rfl rfl rfl ⟨_, rfl, .inl rfl⟩ ?_
              refine s1 rfl (det_pickT rfl rfl) rfl rfl trivial rfl ?_
              refine s1 rfl (det_move rfl) rfl rfl trivial rfl ?_
              refine sn rfl rfl rfl ⟨_, rfl, .inl rfl⟩ ?_
              refine sn rfl rfl rfl ⟨_, rfl, .inl rfl⟩ ?_
              refine s1 rfl (det_pickT rfl rfl) rfl rfl trivial rfl ?_
              refine sg_nil ?_
              refine be rfl ?_
              refine tk_drop ?_ (.refl _) hK
              exact ⟨(mb rfl (by first | rfl | (exfalso; simp [dPt, dIt] at hb) | (exfalso; simp_all [dPt, dIt]))), rfl, rfl, rfl, rfl, rfl, trivial⟩
            ·
              refine s1 rfl (det_loadN tN28 rfl rfl (.tail _ (.head _)) rfl) rfl rfl ⟨_, rfl, rfl⟩ rfl ?_
              refine s1 rfl (det_loadN tN28 rfl rfl (.tail _ (.tail _ (.tail _ (.head _)))) rfl) rfl rfl ⟨_, rfl, rfl⟩ rfl ?_
              refine s1 rfl (det_neqS rfl rfl eqg28 (fun w => eq28 _ _ _ _ _ _ _ _ _ _ _ _ _ _ w)) rfl rfl ⟨_, rfl, rfl⟩ rfl ?_
              refine s1 rfl (det_pickF rfl rfl) rfl rfl trivial rfl ?_
              refine s2P Iff.rfl rfl (det_move rfl) rfl rfl trivial rfl (fun hb => ?_) (fun hb => ?_)
              ·
                refine sn rfl rfl rfl ⟨_, rfl, .inl rfl⟩ ?_
                refine sn rfl rfl rfl ⟨_, rfl, .inl rfl⟩ ?_
                refine s1 rfl (det_pickT rfl rfl) rfl rfl trivial rfl ?_
                refine sg_nil ?_
                refine be rfl ?_
                refine tk_drop ?_ (.refl _) hK
                exact ⟨(mb rfl (by first | rfl | (exfalso; simp [dPt, dIt] at hb) | (exfalso; simp_all [dPt, dIt]))), rfl, rfl, rfl, rfl, rfl, trivial⟩
              ·
                refine s1 rfl (det_move rfl) rfl rfl ⟨_, rfl, rfl⟩ rfl ?_
                refine s1 rfl (det_neq rfl rfl) rfl rfl ⟨_, rfl, rfl⟩ rfl ?_
                refine s1 rfl (det_pickF rfl rfl) rfl rfl trivial rfl ?_
                refine sg_nil ?_
                refine be rfl ?_
                refine tk_drop ?_ (.refl _) hK
                exact ⟨(mb rfl (by first | rfl | (exfalso; simp [dPt, dIt] at hb) | (exfalso; simp_all [dPt, dIt]))), rfl, rfl, rfl, rfl, rfl, trivial⟩

end Go.Proofs.Qu
