/-
  Walks through layer 36 and its reference.
-/
import Derived.Test.YtopaidnhgkejiaaQuL0
import Derived.Test.YtopaidnhgkejiaaQuPlain2
namespace Go.Proofs.Qu
open Go Go.Eng Go.Qu
set_option maxRecDepth 4000

/-- QueueCounts. -/
theorem counts_ok {w : World} {F : Know} (hF : ∀ a v, F a = some v → w.cell? a = some v) {A : Option Addr} {n c : Nat} {cap : Int} {ps : List Pt} (hP : PK F A n ps) (hnc : n ≤ c) (hcm : c ≤ maxLen) {x : It} {p : Pt} : Pure Try.prog 7 [.agg [.int .i64 cap, .slice A n c].toArray, .agg [.int .i64 x.st, .int .i64 x.sq, .int .i64 x.cl, .int .i64 x.sz, .int .i64 x.sn].toArray, .agg [.int .i64 p.it.st, .int .i64 p.it.sq, .int .i64 p.it.cl, .int .i64 p.it.sz, .int .i64 p.it.sn, .int .i64 p.left, .bool p.rest].toArray] w (.bool true) := by
  refine fn_pure (F := F) Try.func7 rfl Try.ntmps7 rfl hF ?_
  refine t_seq ?_
  refine b0 ?_
  refine om1 rfl (new_boxN rfl) rfl rfl trivial (fun p3 => ?_)
  refine om1 rfl (new_boxN rfl) rfl rfl trivial (fun p4 => ?_)
  refine om1 rfl (new_boxN rfl) rfl rfl trivial (fun p5 => ?_)
  refine o1 rfl (det_assign rfl) rfl rfl trivial ?_
  refine be rfl ?_
  refine k_then ?_
  refine t_seq ?_
  refine t_seq ?_
  refine b0 ?_
  refine o1 rfl (det_call hb9 rfl rfl (fun w1 hs => wakes_ok hs.know)) rfl rfl trivial ?_
  refine o1 rfl (det_not rfl) rfl rfl trivial ?_
  refine be rfl ?_
  refine k_then ?_
  refine t_condP not_iff_false rfl (fun hb => ?_) (fun hb => ?_)
  · exfalso; simp at hb
  refine t_skip ?_
  refine k_then ?_
  refine t_seq ?_
  refine b0 ?_
  refine o1 rfl (det_loadN tN24 rfl rfl (.tail _ (.tail _ (.head _))) rfl) rfl rfl trivial ?_
  refine o1 rfl (det_call hb10 rfl rfl (fun w1 hs => few_ok hs.know hnc)) rfl rfl trivial ?_
  refine om1 rfl (new_alloc z24) rfl rfl trivial (fun p7 => ?_)
  refine stN nofun rfl tN24 rfl rfl rfl .head rfl trivial rfl rfl ?_
  refine be rfl ?_
  refine k_then ?_
  refine t_seq ?_
  refine b0 ?_
  obtain ⟨m, hm⟩ : ∃ m, (min (n : Int) 60).toNat = m := ⟨_, rfl⟩
  have hmn : m ≤ n := by omega
  have hm60 : m ≤ 60 := by omega
  rw [hm]
  obtain ⟨qs, hqs⟩ : ∃ qs, ps.take m = qs := ⟨_, rfl⟩
  replace hP : PK F A m qs := by rw [← hqs]; exact hP.take m hmn
  have hnb : m ≤ 65536 := by omega
  replace hnc : m ≤ c := by omega
  clear hqs hm
  have hql : qs.length ≤ 60 := by have := hP.len; omega
  obtain ⟨r1, r2, rb, re, hpq⟩ : ∃ r1 r2 rb re, pushQ cap qs x = ((r1, r2), rb, re) := ⟨_, _, _, _, rfl⟩
  obtain ⟨e1, e2, ep, ee, hoq⟩ : ∃ e1 e2 ep ee, popQ cap qs = ((e1, e2), ep, ee) := ⟨_, _, _, _, rfl⟩
  obtain ⟨u1, u2, ue, hrq⟩ : ∃ u1 u2 ue, retQ cap qs p = ((u1, u2), ue) := ⟨_, _, _, rfl⟩
  have hpl := push_len hpq
  have hol := pop_len hoq
  have hrl := ret_len hrq
  refine o1 rfl (det_loadN tN24 rfl rfl (.head _) rfl) rfl rfl trivial ?_
  refine o1 rfl (det_call hb17 rfl rfl (fun w1 hs => octets_ok hs.know hP hnb)) rfl rfl trivial ?_
  refine o1 rfl (det_move rfl) rfl rfl trivial ?_
  refine o1 rfl (det_extract rfl rfl) rfl rfl trivial ?_
  refine o1 rfl (det_extract rfl rfl) rfl rfl trivial ?_
  refine o1 rfl (det_assign rfl) rfl rfl trivial ?_
  refine o1 rfl (det_assign rfl) rfl rfl trivial ?_
  refine be rfl ?_
  refine k_then ?_
  refine t_seq ?_
  refine t_seq ?_
  refine b0 ?_
  refine o1 rfl (det_move rfl) rfl rfl trivial ?_
  refine o1 rfl (det_neq rfl rfl) rfl rfl trivial ?_
  refine be rfl ?_
  refine k_then ?_
  refine t_condP bne_iff_ne rfl (fun hb => ?_) (fun hb => ?_)
  ·
    refine t_seq ?_
    refine b0 ?_
    refine o1 rfl (det_move rfl) rfl rfl trivial ?_
    refine o1 rfl (det_eql rfl rfl) rfl rfl trivial ?_
    refine o1 rfl (det_assign rfl) rfl rfl trivial ?_
    refine be rfl ?_
    refine k_then ?_
    refine t_ret (k_thenR (?_))
    refine ret_tmp rfl rfl rfl (fun w1 hs => ?_)
    exact ⟨by grind, hs.keep⟩
  ·
    refine t_skip ?_
    refine k_then ?_
    refine t_seq ?_
    refine t_seq ?_
    refine b0 ?_
    have hR : rightQ cap qs = true := by grind
    have hV : validP qs = true := by grind [rightQ]
    have hob := octs_bd hV
    rw [if_pos hR]
    refine o1 rfl (det_loadN tN24 rfl rfl (.head _) rfl) rfl rfl trivial ?_
    refine o1 rfl (det_loadN tN26 rfl rfl (.tail _ (.tail _ (.head _))) rfl) rfl rfl trivial ?_
    refine oF nofun rfl hb21 rfl rfl rfl trivial (fun w1 hs => push_at hs.know hP hnb hnc hcm hpq) (fun v1 F1 hF1 hN1 ⟨A1, n1, c1, hv, hn1, hm1, hP1⟩ => ?_)
    subst hv
    replace hP := hP.mono hF1
    have hb1 : n1 ≤ 65536 := by have := hP1.len; omega
    refine o1 rfl (det_move rfl) rfl rfl trivial ?_
    refine o1 rfl (det_extract rfl rfl) rfl rfl trivial ?_
    refine o1 rfl (det_extract rfl rfl) rfl rfl trivial ?_
    refine o1 rfl (det_extract rfl rfl) rfl rfl trivial ?_
    refine om1 rfl (new_alloc z24) rfl rfl trivial (fun p10 => ?_)
    refine stN nofun rfl tN24 rfl rfl rfl .head rfl trivial rfl rfl ?_
    refine o1 rfl (det_assign rfl) rfl rfl trivial ?_
    refine o1 rfl (det_assign rfl) rfl rfl trivial ?_
    refine be rfl ?_
    refine k_then ?_
    refine t_seq ?_
    refine b0 ?_
    refine o1 rfl (det_move rfl) rfl rfl trivial ?_
    refine o1 rfl (det_eql rfl rfl) rfl rfl trivial ?_
    refine be rfl ?_
    refine k_then ?_
    refine t_condP beq_iff_eq rfl (fun hb => ?_) (fun hb => ?_)
    ·
      subst hb
      obtain ⟨hr1, hrc, hr3, hr4, hr5, hr7, hr6⟩ := push_right hpq
      refine t_seq ?_
      refine b0 ?_
      refine o1 rfl (det_loadN tN24 rfl rfl (.head _) rfl) rfl rfl trivial ?_
      refine o1 rfl (det_call hb17 rfl rfl (fun w1 hs => octets_at hs.know hP1 hb1 (show _ = (octs r2, (0 : Int)) by rw [if_pos hr3]))) rfl rfl trivial ?_
      refine o1 rfl (det_move rfl) rfl rfl trivial ?_
      refine o1 rfl (det_extract rfl rfl) rfl rfl trivial ?_
      refine o1 rfl (det_extract rfl rfl) rfl rfl trivial ?_
      refine o1 rfl (det_assign rfl) rfl rfl trivial ?_
      refine o1 rfl (det_assign rfl) rfl rfl trivial ?_
      refine be rfl ?_
      refine k_then ?_
      refine t_seq ?_
      refine t_merge (env0 := [(5, _), (6, _), (7, _), (8, _)]) ⟨rfl, rfl, rfl, rfl, trivial⟩ 75 (.bool false) ?_ (fun hK => ?_)
      ·
        refine k_then ?_
        refine t_condF rfl ?_
        refine t_skip ?_
        refine k_then ?_
        refine t_seq ?_
        refine t_seq ?_
        refine b0 ?_
        refine o1 rfl (det_loadN tN24 rfl rfl (.tail _ (.head _)) rfl) rfl rfl trivial ?_
        refine oF nofun rfl hb24 rfl rfl rfl trivial (fun w1 hs => pop_at hs.know hP hnb hnc hcm hoq) (fun v2 F2 hF2 hN2 ⟨A2, n2, c2, hv, hn2, hm2, hP2⟩ => ?_)
        subst hv
        replace hP := hP.mono hF2
        have hb2 : n2 ≤ 65536 := by have := hP2.len; omega
        refine o1 rfl (det_move rfl) rfl rfl trivial ?_
        refine o1 rfl (det_extract rfl rfl) rfl rfl trivial ?_
        refine o1 rfl (det_extract rfl rfl) rfl rfl trivial ?_
        refine o1 rfl (det_extract rfl rfl) rfl rfl trivial ?_
        refine om1 rfl (new_alloc z24) rfl rfl trivial (fun p15 => ?_)
        refine om1 rfl (new_alloc z28) rfl rfl trivial (fun p16 => ?_)
        refine stN nofun rfl tN24 rfl rfl rfl (.tail .head) rfl trivial rfl rfl ?_
        refine stN nofun rfl tN28 rfl rfl rfl .head rfl trivial rfl rfl ?_
        refine o1 rfl (det_assign rfl) rfl rfl trivial ?_
        refine be rfl ?_
        refine k_then ?_
        refine t_seq ?_
        refine b0 ?_
        refine o1 rfl (det_move rfl) rfl rfl trivial ?_
        refine o1 rfl (det_eql rfl rfl) rfl rfl trivial ?_
        refine be rfl ?_
        refine k_then ?_
        refine t_condP beq_iff_eq rfl (fun hb => ?_) (fun hb => ?_)
        ·
          subst hb
          obtain ⟨ho1, hoc, ho3, ho4, ho5, ho6, ho7⟩ := pop_right hoq
          refine t_seq ?_
          refine b0 ?_
          refine o1 rfl (det_loadN tN24 rfl rfl (.tail _ (.head _)) rfl) rfl rfl trivial ?_
          refine o1 rfl (det_call hb17 rfl rfl (fun w1 hs => octets_at hs.know hP2 hb2 (show _ = (octs e2, (0 : Int)) by rw [if_pos ho3]))) rfl rfl trivial ?_
          refine o1 rfl (det_move rfl) rfl rfl trivial ?_
          refine o1 rfl (det_extract rfl rfl) rfl rfl trivial ?_
          refine o1 rfl (det_extract rfl rfl) rfl rfl trivial ?_
          refine o1 rfl (det_assign rfl) rfl rfl trivial ?_
          refine o1 rfl (det_assign rfl) rfl rfl trivial ?_
          refine be rfl ?_
          refine k_then ?_
          refine t_seq ?_
          refine t_merge (env0 := [(5, _), (6, _), (7, _), (8, _)]) ⟨rfl, rfl, rfl, rfl, trivial⟩ 98 (.bool false) ?_ (fun hK => ?_)
          ·
            refine k_then ?_
            refine t_condF rfl ?_
            refine t_skip ?_
            refine k_then ?_
            refine t_seq ?_
            refine t_seq ?_
            refine b0 ?_
            refine o1 rfl (det_loadN tN24 rfl rfl (.tail _ (.tail _ (.tail _ (.head _)))) rfl) rfl rfl trivial ?_
            refine o1 rfl (det_loadN tN28 rfl rfl (.tail _ (.tail _ (.tail _ (.tail _ (.head _))))) rfl) rfl rfl trivial ?_
            refine oF nofun rfl hb25 rfl rfl rfl trivial (fun w1 hs => ret_at hs.know hP hnb hnc hcm hrq) (fun v3 F3 hF3 hN3 ⟨A3, n3, c3, hv, hn3, hm3, hP3⟩ => ?_)
            subst hv
            replace hP := hP.mono hF3
            have hb3 : n3 ≤ 65536 := by have := hP3.len; omega
            refine o1 rfl (det_move rfl) rfl rfl trivial ?_
            refine o1 rfl (det_extract rfl rfl) rfl rfl trivial ?_
            refine o1 rfl (det_extract rfl rfl) rfl rfl trivial ?_
            refine om1 rfl (new_alloc z24) rfl rfl trivial (fun p20 => ?_)
            refine stN nofun rfl tN24 rfl rfl rfl .head rfl trivial rfl rfl ?_
            refine o1 rfl (det_assign rfl) rfl rfl trivial ?_
            refine be rfl ?_
            refine k_then ?_
            refine t_seq ?_
            refine b0 ?_
            refine o1 rfl (det_move rfl) rfl rfl trivial ?_
            refine o1 rfl (det_eql rfl rfl) rfl rfl trivial ?_
            refine be rfl ?_
            refine k_then ?_
            refine t_condP beq_iff_eq rfl (fun hb => ?_) (fun hb => ?_)
            ·
              subst hb
              obtain ⟨hw1, hwc, hw2, hw4, hw5, hw6, hw7⟩ := ret_right hrq
              refine t_seq ?_
              refine b0 ?_
              refine o1 rfl (det_loadN tN24 rfl rfl (.head _) rfl) rfl rfl trivial ?_
              refine o1 rfl (det_call hb17 rfl rfl (fun w1 hs => octets_at hs.know hP3 hb3 (show _ = (octs u2, (0 : Int)) by rw [if_pos hw4]))) rfl rfl trivial ?_
              refine o1 rfl (det_move rfl) rfl rfl trivial ?_
              refine o1 rfl (det_extract rfl rfl) rfl rfl trivial ?_
              refine o1 rfl (det_extract rfl rfl) rfl rfl trivial ?_
              refine o1 rfl (det_assign rfl) rfl rfl trivial ?_
              refine o1 rfl (det_assign rfl) rfl rfl trivial ?_
              refine be rfl ?_
              refine k_then ?_
              refine t_seq ?_
              refine b0 ?_
              refine o1 rfl (det_loadN tN24 rfl rfl (.head _) rfl) rfl rfl trivial ?_
              refine oF nofun rfl hb24 rfl rfl rfl trivial (fun w1 hs => pop_at hs.know hP3 hb3 hn3 hm3 hw7) (fun v4 F4 hF4 hN4 ⟨A4, n4, c4, hv, hn4, hm4, hP4⟩ => ?_)
              subst hv
              replace hP := hP.mono hF4
              have hb4 : n4 ≤ 65536 := by have := hP4.len; omega
              refine o1 rfl (det_move rfl) rfl rfl trivial ?_
              refine o1 rfl (det_extract rfl rfl) rfl rfl trivial ?_
              refine o1 rfl (det_extract rfl rfl) rfl rfl trivial ?_
              refine o1 rfl (det_extract rfl rfl) rfl rfl trivial ?_
              refine om1 rfl (new_alloc z24) rfl rfl trivial (fun p24 => ?_)
              refine om1 rfl (new_alloc z28) rfl rfl trivial (fun p25 => ?_)
              refine stN nofun rfl tN24 rfl rfl rfl (.tail .head) rfl trivial rfl rfl ?_
              refine stN nofun rfl tN28 rfl rfl rfl .head rfl trivial rfl rfl ?_
              refine o1 rfl (det_assign rfl) rfl rfl trivial ?_
              refine be rfl ?_
              refine k_then ?_
              refine t_seq ?_
              refine t_merge (env0 := []) trivial 6 (.bool true) ?_ (fun hK => ?_)
              ·
                refine k_then ?_
                refine t_ret (k_thenR (?_))
                refine ret_tmp rfl rfl rfl (fun w1 hs => ?_)
                exact ⟨rfl, hs.keep⟩
              ·
                refine b0 ?_
                refine o1 rfl (det_move rfl) rfl rfl trivial ?_
                refine o1 rfl (det_eql rfl rfl) rfl rfl trivial ?_
                refine o2P beq_iff_eq rfl (det_move rfl) rfl rfl trivial (fun hb => ?_) (fun hb => ?_)
                ·
                  refine o1 rfl (det_move rfl) rfl rfl ⟨_, rfl, rfl⟩ ?_
                  refine o1 rfl (det_move rfl) rfl rfl ⟨_, rfl, rfl⟩ ?_
                  refine o1 rfl (det_fieldAddr fld28_1 rfl) rfl rfl ⟨_, rfl, rfl⟩ ?_
                  refine o1 rfl (det_load1 t1_3 rfl rfl (.tail _ (.tail _ (.tail _ (.tail _ (.tail _ (.tail _ (.tail _ (.head _)))))))) rfl) rfl rfl ⟨_, rfl, rfl⟩ ?_
                  first | (refine o1 rfl (det_addI rfl rfl ?_) rfl rfl ⟨_, rfl, rfl⟩ ?_; (· omega)) | refine o1 rfl (det_add rfl rfl) rfl rfl ⟨_, rfl, rfl⟩ ?_
                  refine o1 rfl (det_eql rfl rfl) rfl rfl ⟨_, rfl, rfl⟩ ?_
                  refine o1 rfl (det_pickT rfl rfl) rfl rfl trivial ?_
                  refine o2P beq_iff_eq rfl (det_move rfl) rfl rfl trivial (fun hb => ?_) (fun hb => ?_)
                  ·
                    refine o1 rfl (det_move rfl) rfl rfl ⟨_, rfl, rfl⟩ ?_
                    refine o1 rfl (det_eql rfl rfl) rfl rfl ⟨_, rfl, rfl⟩ ?_
                    refine o1 rfl (det_pickT rfl rfl) rfl rfl trivial ?_
                    refine o2P beq_iff_eq rfl (det_move rfl) rfl rfl trivial (fun hb => ?_) (fun hb => ?_)
                    ·
                      refine o1 rfl (det_loadN tN28 rfl rfl (.head _) rfl) rfl rfl ⟨_, rfl, rfl⟩ ?_
                      refine o1 rfl (det_loadN tN28 rfl rfl (.tail _ (.tail _ (.tail _ (.tail _ (.tail _ (.tail _ (.tail _ (.head _)))))))) rfl) rfl rfl ⟨_, rfl, rfl⟩ ?_
                      refine o1 rfl (det_eqlS rfl rfl eqg28 (fun w => eq28 _ _ _ _ _ _ _ _ _ _ _ _ _ _ w)) rfl rfl ⟨_, rfl, rfl⟩ ?_
                      refine o1 rfl (det_pickT rfl rfl) rfl rfl trivial ?_
                      refine o2P Iff.rfl rfl (det_move rfl) rfl rfl trivial (fun hb => ?_) (fun hb => ?_)
                      ·
                        refine o1 rfl (det_loadN tN24 rfl rfl (.tail _ (.head _)) rfl) rfl rfl ⟨_, rfl, rfl⟩ ?_
                        refine o1 rfl (det_loadN tN24 rfl rfl (.tail _ (.tail _ (.tail _ (.tail _ (.tail _ (.tail _ (.head _))))))) rfl) rfl rfl ⟨_, rfl, rfl⟩ ?_
                        refine o1 rfl (det_call hb20 rfl rfl (fun w1 hs => same_ok hs.know hP4 hb4 hP)) rfl rfl ⟨_, rfl, rfl⟩ ?_
                        refine o1 rfl (det_pickT rfl rfl) rfl rfl trivial ?_
                        refine o1 rfl (det_assign rfl) rfl rfl trivial ?_
                        refine be rfl ?_
                        refine tk_drop ?_ (.refl _) hK
                        exact ⟨(mb rfl (by first | rfl | (exfalso; exact hb rfl) | (exfalso; simp at hb; done) | grind)), trivial⟩
                      ·
                        refine on rfl rfl rfl ⟨_, rfl, .inl rfl⟩ ?_
                        refine on rfl rfl rfl ⟨_, rfl, .inl rfl⟩ ?_
                        refine on rfl rfl rfl ⟨_, rfl, .inl rfl⟩ ?_
                        refine o1 rfl (det_pickF rfl rfl) rfl rfl trivial ?_
                        refine o1 rfl (det_assign rfl) rfl rfl trivial ?_
                        refine be rfl ?_
                        refine tk_drop ?_ (.refl _) hK
                        exact ⟨(mb rfl (by first | rfl | (exfalso; exact hb rfl) | (exfalso; simp at hb; done) | grind)), trivial⟩
                    ·
                      refine on rfl rfl rfl ⟨_, rfl, .inl rfl⟩ ?_
                      refine on rfl rfl rfl ⟨_, rfl, .inl rfl⟩ ?_
                      refine on rfl rfl rfl ⟨_, rfl, .inl rfl⟩ ?_
                      refine o1 rfl (det_pickF rfl rfl) rfl rfl trivial ?_
                      refine o1 rfl (det_move rfl) rfl rfl trivial ?_
                      refine on rfl rfl rfl ⟨_, rfl, .inl rfl⟩ ?_
                      refine on rfl rfl rfl ⟨_, rfl, .inl rfl⟩ ?_
                      refine on rfl rfl rfl ⟨_, rfl, .inl rfl⟩ ?_
                      refine o1 rfl (det_pickF rfl rfl) rfl rfl trivial ?_
                      refine o1 rfl (det_assign rfl) rfl rfl trivial ?_
                      refine be rfl ?_
                      refine tk_drop ?_ (.refl _) hK
                      exact ⟨(mb rfl (by first | rfl | (exfalso; exact hb rfl) | (exfalso; simp at hb; done) | grind)), trivial⟩
                  ·
                    refine on rfl rfl rfl ⟨_, rfl, .inl rfl⟩ ?_
                    refine on rfl rfl rfl ⟨_, rfl, .inl rfl⟩ ?_
                    refine o1 rfl (det_pickF rfl rfl) rfl rfl trivial ?_
                    refine o1 rfl (det_move rfl) rfl rfl trivial ?_
                    refine on rfl rfl rfl ⟨_, rfl, .inl rfl⟩ ?_
                    refine on rfl rfl rfl ⟨_, rfl, .inl rfl⟩ ?_
                    refine on rfl rfl rfl ⟨_, rfl, .inl rfl⟩ ?_
                    refine o1 rfl (det_pickF rfl rfl) rfl rfl trivial ?_
                    refine o1 rfl (det_move rfl) rfl rfl trivial ?_
                    refine on rfl rfl rfl ⟨_, rfl, .inl rfl⟩ ?_
                    refine on rfl rfl rfl ⟨_, rfl, .inl rfl⟩ ?_
                    refine on rfl rfl rfl ⟨_, rfl, .inl rfl⟩ ?_
                    refine o1 rfl (det_pickF rfl rfl) rfl rfl trivial ?_
                    refine o1 rfl (det_assign rfl) rfl rfl trivial ?_
                    refine be rfl ?_
                    refine tk_drop ?_ (.refl _) hK
                    exact ⟨(mb rfl (by first | rfl | (exfalso; exact hb rfl) | (exfalso; simp at hb; done) | grind)), trivial⟩
                ·
                  refine on rfl rfl rfl ⟨_, rfl, .inl rfl⟩ ?_
                  refine on rfl rfl rfl ⟨_, rfl, .inl rfl⟩ ?_
                  refine on rfl rfl rfl ⟨_, rfl, .inl rfl⟩ ?_
                  refine on rfl rfl rfl ⟨_, rfl, .inl rfl⟩ ?_
                  refine on rfl rfl rfl ⟨_, rfl, .inl rfl⟩ ?_
                  refine on rfl rfl rfl ⟨_, rfl, .inl rfl⟩ ?_
                  refine o1 rfl (det_pickF rfl rfl) rfl rfl trivial ?_
                  refine o1 rfl (det_move rfl) rfl rfl trivial ?_
                  refine on rfl rfl rfl ⟨_, rfl, .inl rfl⟩ ?_
                  refine on rfl rfl rfl ⟨_, rfl, .inl rfl⟩ ?_
                  refine o1 rfl (det_pickF rfl rfl) rfl rfl trivial ?_
                  refine o1 rfl (det_move rfl) rfl rfl trivial ?_
                  refine on rfl rfl rfl ⟨_, rfl, .inl rfl⟩ ?_
                  refine on rfl rfl rfl ⟨_, rfl, .inl rfl⟩ ?_
                  refine on rfl rfl rfl ⟨_, rfl, .inl rfl⟩ ?_
                  refine o1 rfl (det_pickF rfl rfl) rfl rfl trivial ?_
                  refine o1 rfl (det_move rfl) rfl rfl trivial ?_
                  refine on rfl rfl rfl ⟨_, rfl, .inl rfl⟩ ?_
                  refine on rfl rfl rfl ⟨_, rfl, .inl rfl⟩ ?_
                  refine on rfl rfl rfl ⟨_, rfl, .inl rfl⟩ ?_
                  refine o1 rfl (det_pickF rfl rfl) rfl rfl trivial ?_
                  refine o1 rfl (det_assign rfl) rfl rfl trivial ?_
                  refine be rfl ?_
                  refine tk_drop ?_ (.refl _) hK
                  exact ⟨(mb rfl (by first | rfl | (exfalso; exact hb rfl) | (exfalso; simp at hb; done) | grind)), trivial⟩
            ·
              skip
              refine t_skip ?_
              refine k_then ?_
              refine t_seq ?_
              refine b0 ?_
              refine o1 rfl (det_assign rfl) rfl rfl trivial ?_
              refine be rfl ?_
              refine k_then ?_
              refine t_ret ?_
              refine ret_tmp rfl rfl rfl (fun w1 hs => ?_)
              exact ⟨rfl, hs.keep⟩
          ·
            refine b0 ?_
            refine o1 rfl (det_move rfl) rfl rfl trivial ?_
            refine o1 rfl (det_neq rfl rfl) rfl rfl trivial ?_
            refine o2P bne_iff_ne rfl (det_move rfl) rfl rfl trivial (fun hb => ?_) (fun hb => ?_)
            ·
              refine on rfl rfl rfl ⟨_, rfl, .inl rfl⟩ ?_
              refine on rfl rfl rfl ⟨_, rfl, .inl rfl⟩ ?_
              refine on rfl rfl rfl ⟨_, rfl, .inl rfl⟩ ?_
              refine on rfl rfl rfl ⟨_, rfl, .inl rfl⟩ ?_
              refine on rfl rfl rfl ⟨_, rfl, .inl rfl⟩ ?_
              refine on rfl rfl rfl ⟨_, rfl, .inl rfl⟩ ?_
              refine o1 rfl (det_pickT rfl rfl) rfl rfl trivial ?_
              refine be rfl ?_
              refine tk_drop ?_ (.refl _) hK
              exact ⟨(mb rfl (by first | rfl | (exfalso; exact hb rfl) | (exfalso; simp at hb; done) | grind)), rfl, rfl, rfl, rfl, trivial⟩
            ·
              refine o1 rfl (det_move rfl) rfl rfl ⟨_, rfl, rfl⟩ ?_
              refine o1 rfl (det_move rfl) rfl rfl ⟨_, rfl, rfl⟩ ?_
              refine o1 rfl (det_fieldAddr fld28_1 rfl) rfl rfl ⟨_, rfl, rfl⟩ ?_
              refine o1 rfl (det_load1 t1_3 rfl rfl (.head _) rfl) rfl rfl ⟨_, rfl, rfl⟩ ?_
              first | (refine o1 rfl (det_subI rfl rfl ?_) rfl rfl ⟨_, rfl, rfl⟩ ?_; (· omega)) | refine o1 rfl (det_sub rfl rfl) rfl rfl ⟨_, rfl, rfl⟩ ?_
              refine o1 rfl (det_neq rfl rfl) rfl rfl ⟨_, rfl, rfl⟩ ?_
              refine o1 rfl (det_pickF rfl rfl) rfl rfl trivial ?_
              refine be rfl ?_
              refine tk_drop ?_ (.refl _) hK
              exact ⟨(mb rfl (by first | rfl | (exfalso; exact hb rfl) | (exfalso; simp at hb; done) | grind)), rfl, rfl, rfl, rfl, trivial⟩
        ·
          skip
          refine t_skip ?_
          refine k_then ?_
          refine t_seq ?_
          refine t_seq ?_
          refine b0 ?_
          refine o1 rfl (det_loadN tN24 rfl rfl (.tail _ (.tail _ (.tail _ (.head _)))) rfl) rfl rfl trivial ?_
          refine o1 rfl (det_loadN tN28 rfl rfl (.tail _ (.tail _ (.tail _ (.tail _ (.head _))))) rfl) rfl rfl trivial ?_
          refine oF nofun rfl hb25 rfl rfl rfl trivial (fun w1 hs => ret_at hs.know hP hnb hnc hcm hrq) (fun v3 F3 hF3 hN3 ⟨A3, n3, c3, hv, hn3, hm3, hP3⟩ => ?_)
          subst hv
          replace hP := hP.mono hF3
          have hb3 : n3 ≤ 65536 := by have := hP3.len; omega
          refine o1 rfl (det_move rfl) rfl rfl trivial ?_
          refine o1 rfl (det_extract rfl rfl) rfl rfl trivial ?_
          refine o1 rfl (det_extract rfl rfl) rfl rfl trivial ?_
          refine om1 rfl (new_alloc z24) rfl rfl trivial (fun p20 => ?_)
          refine stN nofun rfl tN24 rfl rfl rfl .head rfl trivial rfl rfl ?_
          refine o1 rfl (det_assign rfl) rfl rfl trivial ?_
          refine be rfl ?_
          refine k_then ?_
          refine t_seq ?_
          refine b0 ?_
          refine o1 rfl (det_move rfl) rfl rfl trivial ?_
          refine o1 rfl (det_eql rfl rfl) rfl rfl trivial ?_
          refine be rfl ?_
          refine k_then ?_
          refine t_condP beq_iff_eq rfl (fun hb => ?_) (fun hb => ?_)
          ·
            subst hb
            obtain ⟨hw1, hwc, hw2, hw4, hw5, hw6, hw7⟩ := ret_right hrq
            refine t_seq ?_
            refine b0 ?_
            refine o1 rfl (det_loadN tN24 rfl rfl (.head _) rfl) rfl rfl trivial ?_
            refine o1 rfl (det_call hb17 rfl rfl (fun w1 hs => octets_at hs.know hP3 hb3 (show _ = (octs u2, (0 : Int)) by rw [if_pos hw4]))) rfl rfl trivial ?_
            refine o1 rfl (det_move rfl) rfl rfl trivial ?_
            refine o1 rfl (det_extract rfl rfl) rfl rfl trivial ?_
            refine o1 rfl (det_extract rfl rfl) rfl rfl trivial ?_
            refine o1 rfl (det_assign rfl) rfl rfl trivial ?_
            refine o1 rfl (det_assign rfl) rfl rfl trivial ?_
            refine be rfl ?_
            refine k_then ?_
            refine t_seq ?_
            refine b0 ?_
            refine o1 rfl (det_loadN tN24 rfl rfl (.head _) rfl) rfl rfl trivial ?_
            refine oF nofun rfl hb24 rfl rfl rfl trivial (fun w1 hs => pop_at hs.know hP3 hb3 hn3 hm3 hw7) (fun v4 F4 hF4 hN4 ⟨A4, n4, c4, hv, hn4, hm4, hP4⟩ => ?_)
            subst hv
            replace hP := hP.mono hF4
            have hb4 : n4 ≤ 65536 := by have := hP4.len; omega
            refine o1 rfl (det_move rfl) rfl rfl trivial ?_
            refine o1 rfl (det_extract rfl rfl) rfl rfl trivial ?_
            refine o1 rfl (det_extract rfl rfl) rfl rfl trivial ?_
            refine o1 rfl (det_extract rfl rfl) rfl rfl trivial ?_
            refine om1 rfl (new_alloc z24) rfl rfl trivial (fun p24 => ?_)
            refine om1 rfl (new_alloc z28) rfl rfl trivial (fun p25 => ?_)
            refine stN nofun rfl tN24 rfl rfl rfl (.tail .head) rfl trivial rfl rfl ?_
            refine stN nofun rfl tN28 rfl rfl rfl .head rfl trivial rfl rfl ?_
            refine o1 rfl (det_assign rfl) rfl rfl trivial ?_
            refine be rfl ?_
            refine k_then ?_
            refine t_seq ?_
            refine t_merge (env0 := []) trivial 6 (.bool true) ?_ (fun hK => ?_)
            ·
              refine k_then ?_
              refine t_ret (k_thenR (?_))
              refine ret_tmp rfl rfl rfl (fun w1 hs => ?_)
              exact ⟨rfl, hs.keep⟩
            ·
              refine b0 ?_
              refine o1 rfl (det_move rfl) rfl rfl trivial ?_
              refine o1 rfl (det_eql rfl rfl) rfl rfl trivial ?_
              refine o2P beq_iff_eq rfl (det_move rfl) rfl rfl trivial (fun hb => ?_) (fun hb => ?_)
              ·
                refine o1 rfl (det_move rfl) rfl rfl ⟨_, rfl, rfl⟩ ?_
                refine o1 rfl (det_move rfl) rfl rfl ⟨_, rfl, rfl⟩ ?_
                refine o1 rfl (det_fieldAddr fld28_1 rfl) rfl rfl ⟨_, rfl, rfl⟩ ?_
                refine o1 rfl (det_load1 t1_3 rfl rfl (.tail _ (.tail _ (.tail _ (.tail _ (.tail _ (.tail _ (.tail _ (.head _)))))))) rfl) rfl rfl ⟨_, rfl, rfl⟩ ?_
                first | (refine o1 rfl (det_addI rfl rfl ?_) rfl rfl ⟨_, rfl, rfl⟩ ?_; (· omega)) | refine o1 rfl (det_add rfl rfl) rfl rfl ⟨_, rfl, rfl⟩ ?_
                refine o1 rfl (det_eql rfl rfl) rfl rfl ⟨_, rfl, rfl⟩ ?_
                refine o1 rfl (det_pickT rfl rfl) rfl rfl trivial ?_
                refine o2P beq_iff_eq rfl (det_move rfl) rfl rfl trivial (fun hb => ?_) (fun hb => ?_)
                ·
                  refine o1 rfl (det_move rfl) rfl rfl ⟨_, rfl, rfl⟩ ?_
                  refine o1 rfl (det_eql rfl rfl) rfl rfl ⟨_, rfl, rfl⟩ ?_
                  refine o1 rfl (det_pickT rfl rfl) rfl rfl trivial ?_
                  refine o2P beq_iff_eq rfl (det_move rfl) rfl rfl trivial (fun hb => ?_) (fun hb => ?_)
                  ·
                    refine o1 rfl (det_loadN tN28 rfl rfl (.head _) rfl) rfl rfl ⟨_, rfl, rfl⟩ ?_
                    refine o1 rfl (det_loadN tN28 rfl rfl (.tail _ (.tail _ (.tail _ (.tail _ (.tail _ (.tail _ (.tail _ (.head _)))))))) rfl) rfl rfl ⟨_, rfl, rfl⟩ ?_
                    refine o1 rfl (det_eqlS rfl rfl eqg28 (fun w => eq28 _ _ _ _ _ _ _ _ _ _ _ _ _ _ w)) rfl rfl ⟨_, rfl, rfl⟩ ?_
                    refine o1 rfl (det_pickT rfl rfl) rfl rfl trivial ?_
                    refine o2P Iff.rfl rfl (det_move rfl) rfl rfl trivial (fun hb => ?_) (fun hb => ?_)
                    ·
                      refine o1 rfl (det_loadN tN24 rfl rfl (.tail _ (.head _)) rfl) rfl rfl ⟨_, rfl, rfl⟩ ?_
                      refine o1 rfl (det_loadN tN24 rfl rfl (.tail _ (.tail _ (.tail _ (.tail _ (.tail _ (.tail _ (.head _))))))) rfl) rfl rfl ⟨_, rfl, rfl⟩ ?_
                      refine o1 rfl (det_call hb20 rfl rfl (fun w1 hs => same_ok hs.know hP4 hb4 hP)) rfl rfl ⟨_, rfl, rfl⟩ ?_
                      refine o1 rfl (det_pickT rfl rfl) rfl rfl trivial ?_
                      refine o1 rfl (det_assign rfl) rfl rfl trivial ?_
                      refine be rfl ?_
                      refine tk_drop ?_ (.refl _) hK
                      exact ⟨(mb rfl (by first | rfl | (exfalso; exact hb rfl) | (exfalso; simp at hb; done) | grind)), trivial⟩
                    ·
                      refine on rfl rfl rfl ⟨_, rfl, .inl rfl⟩ ?_
                      refine on rfl rfl rfl ⟨_, rfl, .inl rfl⟩ ?_
                      refine on rfl rfl rfl ⟨_, rfl, .inl rfl⟩ ?_
                      refine o1 rfl (det_pickF rfl rfl) rfl rfl trivial ?_
                      refine o1 rfl (det_assign rfl) rfl rfl trivial ?_
                      refine be rfl ?_
                      refine tk_drop ?_ (.refl _) hK
                      exact ⟨(mb rfl (by first | rfl | (exfalso; exact hb rfl) | (exfalso; simp at hb; done) | grind)), trivial⟩
                  ·
                    refine on rfl rfl rfl ⟨_, rfl, .inl rfl⟩ ?_
                    refine on rfl rfl rfl ⟨_, rfl, .inl rfl⟩ ?_
                    refine on rfl rfl rfl ⟨_, rfl, .inl rfl⟩ ?_
                    refine o1 rfl (det_pickF rfl rfl) rfl rfl trivial ?_
                    refine o1 rfl (det_move rfl) rfl rfl trivial ?_
                    refine on rfl rfl rfl ⟨_, rfl, .inl rfl⟩ ?_
                    refine on rfl rfl rfl ⟨_, rfl, .inl rfl⟩ ?_
                    refine on rfl rfl rfl ⟨_, rfl, .inl rfl⟩ ?_
                    refine o1 rfl (det_pickF rfl rfl) rfl rfl trivial ?_
                    refine o1 rfl (det_assign rfl) rfl rfl trivial ?_
                    refine be rfl ?_
                    refine tk_drop ?_ (.refl _) hK
                    exact ⟨(mb rfl (by first | rfl | (exfalso; exact hb rfl) | (exfalso; simp at hb; done) | grind)), trivial⟩
                ·
                  refine on rfl rfl rfl ⟨_, rfl, .inl rfl⟩ ?_
                  refine on rfl rfl rfl ⟨_, rfl, .inl rfl⟩ ?_
                  refine o1 rfl (det_pickF rfl rfl) rfl rfl trivial ?_
                  refine o1 rfl (det_move rfl) rfl rfl trivial ?_
                  refine on rfl rfl rfl ⟨_, rfl, .inl rfl⟩ ?_
                  refine on rfl rfl rfl ⟨_, rfl, .inl rfl⟩ ?_
                  refine on rfl rfl rfl ⟨_, rfl, .inl rfl⟩ ?_
                  refine o1 rfl (det_pickF rfl rfl) rfl rfl trivial ?_
                  refine o1 rfl (det_move rfl) rfl rfl trivial ?_
                  refine on rfl rfl rfl ⟨_, rfl, .inl rfl⟩ ?_
                  refine on rfl rfl rfl ⟨_, rfl, .inl rfl⟩ ?_
                  refine on rfl rfl rfl ⟨_, rfl, .inl rfl⟩ ?_
                  refine o1 rfl (det_pickF rfl rfl) rfl rfl trivial ?_
                  refine o1 rfl (det_assign rfl) rfl rfl trivial ?_
                  refine be rfl ?_
                  refine tk_drop ?_ (.refl _) hK
                  exact ⟨(mb rfl (by first | rfl | (exfalso; exact hb rfl) | (exfalso; simp at hb; done) | grind)), trivial⟩
              ·
                refine on rfl rfl rfl ⟨_, rfl, .inl rfl⟩ ?_
                refine on rfl rfl rfl ⟨_, rfl, .inl rfl⟩ ?_
                refine on rfl rfl rfl ⟨_, rfl, .inl rfl⟩ ?_
                refine on rfl rfl rfl ⟨_, rfl, .inl rfl⟩ ?_
                refine on rfl rfl rfl ⟨_, rfl, .inl rfl⟩ ?_
                refine on rfl rfl rfl ⟨_, rfl, .inl rfl⟩ ?_
                refine o1 rfl (det_pickF rfl rfl) rfl rfl trivial ?_
                refine o1 rfl (det_move rfl) rfl rfl trivial ?_
                refine on rfl rfl rfl ⟨_, rfl, .inl rfl⟩ ?_
                refine on rfl rfl rfl ⟨_, rfl, .inl rfl⟩ ?_
                refine o1 rfl (det_pickF rfl rfl) rfl rfl trivial ?_
                refine o1 rfl (det_move rfl) rfl rfl trivial ?_
                refine on rfl rfl rfl ⟨_, rfl, .inl rfl⟩ ?_
                refine on rfl rfl rfl ⟨_, rfl, .inl rfl⟩ ?_
                refine on rfl rfl rfl ⟨_, rfl, .inl rfl⟩ ?_
                refine o1 rfl (det_pickF rfl rfl) rfl rfl trivial ?_
                refine o1 rfl (det_move rfl) rfl rfl trivial ?_
                refine on rfl rfl rfl ⟨_, rfl, .inl rfl⟩ ?_
                refine on rfl rfl rfl ⟨_, rfl, .inl rfl⟩ ?_
                refine on rfl rfl rfl ⟨_, rfl, .inl rfl⟩ ?_
                refine o1 rfl (det_pickF rfl rfl) rfl rfl trivial ?_
                refine o1 rfl (det_assign rfl) rfl rfl trivial ?_
                refine be rfl ?_
                refine tk_drop ?_ (.refl _) hK
                exact ⟨(mb rfl (by first | rfl | (exfalso; exact hb rfl) | (exfalso; simp at hb; done) | grind)), trivial⟩
          ·
            skip
            refine t_skip ?_
            refine k_then ?_
            refine t_seq ?_
            refine b0 ?_
            refine o1 rfl (det_assign rfl) rfl rfl trivial ?_
            refine be rfl ?_
            refine k_then ?_
            refine t_ret ?_
            refine ret_tmp rfl rfl rfl (fun w1 hs => ?_)
            exact ⟨rfl, hs.keep⟩
      ·
        refine b0 ?_
        refine o1 rfl (det_move rfl) rfl rfl trivial ?_
        refine o1 rfl (det_neq rfl rfl) rfl rfl trivial ?_
        refine o2P bne_iff_ne rfl (det_move rfl) rfl rfl trivial (fun hb => ?_) (fun hb => ?_)
        ·
          refine on rfl rfl rfl ⟨_, rfl, .inl rfl⟩ ?_
          refine on rfl rfl rfl ⟨_, rfl, .inl rfl⟩ ?_
          refine on rfl rfl rfl ⟨_, rfl, .inr rfl⟩ ?_
          refine on rfl rfl rfl ⟨_, rfl, .inr rfl⟩ ?_
          refine on rfl rfl rfl ⟨_, rfl, .inr rfl⟩ ?_
          refine on rfl rfl rfl ⟨_, rfl, .inr rfl⟩ ?_
          refine on rfl rfl rfl ⟨_, rfl, .inr rfl⟩ ?_
          refine on rfl rfl rfl ⟨_, rfl, .inr rfl⟩ ?_
          refine on rfl rfl rfl ⟨_, rfl, .inl rfl⟩ ?_
          refine o1 rfl (det_pickT rfl rfl) rfl rfl trivial ?_
          refine o1 rfl (det_move rfl) rfl rfl trivial ?_
          refine on rfl rfl rfl ⟨_, rfl, .inl rfl⟩ ?_
          refine on rfl rfl rfl ⟨_, rfl, .inl rfl⟩ ?_
          refine on rfl rfl rfl ⟨_, rfl, .inl rfl⟩ ?_
          refine on rfl rfl rfl ⟨_, rfl, .inr rfl⟩ ?_
          refine on rfl rfl rfl ⟨_, rfl, .inr rfl⟩ ?_
          refine on rfl rfl rfl ⟨_, rfl, .inr rfl⟩ ?_
          refine on rfl rfl rfl ⟨_, rfl, .inl rfl⟩ ?_
          refine o1 rfl (det_pickT rfl rfl) rfl rfl trivial ?_
          refine be rfl ?_
          refine tk_drop ?_ (.refl _) hK
          exact ⟨(mb rfl (by first | rfl | (exfalso; exact hb rfl) | (exfalso; simp at hb; done) | grind)), rfl, rfl, rfl, rfl, trivial⟩
        ·
          refine o1 rfl (det_move rfl) rfl rfl ⟨_, rfl, rfl⟩ ?_
          refine o2P Iff.rfl rfl (det_move rfl) rfl rfl ⟨_, rfl, rfl⟩ (fun hb => ?_) (fun hb => ?_)
          ·
            refine o1 rfl (det_move rfl) rfl rfl ⟨_, rfl, rfl⟩ ?_
            refine o1 rfl (det_move rfl) rfl rfl ⟨_, rfl, rfl⟩ ?_
            refine o1 rfl (det_fieldAddr fld26_3 rfl) rfl rfl ⟨_, rfl, rfl⟩ ?_
            refine o1 rfl (det_load1 t1_3 rfl rfl (.tail _ (.tail _ (.tail _ (.head _)))) rfl) rfl rfl ⟨_, rfl, rfl⟩ ?_
            have hsz : 84 ≤ x.sz ∧ x.sz ≤ 1542 := by have := hr6; grind [okI]
            first | (refine o1 rfl (det_addI rfl rfl ?_) rfl rfl ⟨_, rfl, rfl⟩ ?_; (· omega)) | refine o1 rfl (det_add rfl rfl) rfl rfl ⟨_, rfl, rfl⟩ ?_
            refine o1 rfl (det_neq rfl rfl) rfl rfl ⟨_, rfl, rfl⟩ ?_
            refine o1 rfl (det_pickT rfl rfl) rfl rfl ⟨_, rfl, rfl⟩ ?_
            refine o1 rfl (det_pickF rfl rfl) rfl rfl trivial ?_
            refine o2P bne_iff_ne rfl (det_move rfl) rfl rfl trivial (fun hb => ?_) (fun hb => ?_)
            ·
              refine on rfl rfl rfl ⟨_, rfl, .inl rfl⟩ ?_
              refine on rfl rfl rfl ⟨_, rfl, .inl rfl⟩ ?_
              refine on rfl rfl rfl ⟨_, rfl, .inl rfl⟩ ?_
              refine on rfl rfl rfl ⟨_, rfl, .inr rfl⟩ ?_
              refine on rfl rfl rfl ⟨_, rfl, .inr rfl⟩ ?_
              refine on rfl rfl rfl ⟨_, rfl, .inr rfl⟩ ?_
              refine on rfl rfl rfl ⟨_, rfl, .inl rfl⟩ ?_
              refine o1 rfl (det_pickT rfl rfl) rfl rfl trivial ?_
              refine be rfl ?_
              refine tk_drop ?_ (.refl _) hK
              exact ⟨(mb rfl (by first | rfl | (exfalso; exact hb rfl) | (exfalso; simp at hb; done) | grind)), rfl, rfl, rfl, rfl, trivial⟩
            ·
              refine o1 rfl (det_move rfl) rfl rfl ⟨_, rfl, rfl⟩ ?_
              refine o1 rfl (det_not rfl) rfl rfl ⟨_, rfl, rfl⟩ ?_
              refine o2P not_iff_false rfl (det_move rfl) rfl rfl ⟨_, rfl, rfl⟩ (fun hb => ?_) (fun hb => ?_)
              ·
                refine o1 rfl (det_move rfl) rfl rfl ⟨_, rfl, rfl⟩ ?_
                refine o1 rfl (det_move rfl) rfl rfl ⟨_, rfl, rfl⟩ ?_
                refine o1 rfl (det_neq rfl rfl) rfl rfl ⟨_, rfl, rfl⟩ ?_
                refine o1 rfl (det_pickT rfl rfl) rfl rfl ⟨_, rfl, rfl⟩ ?_
                refine o1 rfl (det_pickF rfl rfl) rfl rfl trivial ?_
                refine be rfl ?_
                refine tk_drop ?_ (.refl _) hK
                exact ⟨(mb rfl (by first | rfl | (exfalso; exact hb rfl) | (exfalso; simp at hb; done) | grind)), rfl, rfl, rfl, rfl, trivial⟩
              ·
                refine on rfl rfl rfl ⟨_, rfl, .inl rfl⟩ ?_
                refine on rfl rfl rfl ⟨_, rfl, .inl rfl⟩ ?_
                refine on rfl rfl rfl ⟨_, rfl, .inl rfl⟩ ?_
                refine o1 rfl (det_pickF rfl rfl) rfl rfl ⟨_, rfl, rfl⟩ ?_
                refine o1 rfl (det_pickF rfl rfl) rfl rfl trivial ?_
                refine be rfl ?_
                refine tk_drop ?_ (.refl _) hK
                exact ⟨(mb rfl (by first | rfl | (exfalso; exact hb rfl) | (exfalso; simp at hb; done) | grind)), rfl, rfl, rfl, rfl, trivial⟩
          ·
            refine on rfl rfl rfl ⟨_, rfl, .inl rfl⟩ ?_
            refine on rfl rfl rfl ⟨_, rfl, .inl rfl⟩ ?_
            refine on rfl rfl rfl ⟨_, rfl, .inl rfl⟩ ?_
            refine on rfl rfl rfl ⟨_, rfl, .inl rfl⟩ ?_
            refine on rfl rfl rfl ⟨_, rfl, .inl rfl⟩ ?_
            refine on rfl rfl rfl ⟨_, rfl, .inl rfl⟩ ?_
            refine o1 rfl (det_pickF rfl rfl) rfl rfl ⟨_, rfl, rfl⟩ ?_
            refine o1 rfl (det_pickF rfl rfl) rfl rfl trivial ?_
            refine o1 rfl (det_move rfl) rfl rfl trivial ?_
            refine o1 rfl (det_move rfl) rfl rfl ⟨_, rfl, rfl⟩ ?_
            refine o1 rfl (det_not rfl) rfl rfl ⟨_, rfl, rfl⟩ ?_
            refine o2P not_iff_false rfl (det_move rfl) rfl rfl ⟨_, rfl, rfl⟩ (fun hb => ?_) (fun hb => ?_)
            ·
              refine o1 rfl (det_move rfl) rfl rfl ⟨_, rfl, rfl⟩ ?_
              refine o1 rfl (det_move rfl) rfl rfl ⟨_, rfl, rfl⟩ ?_
              refine o1 rfl (det_neq rfl rfl) rfl rfl ⟨_, rfl, rfl⟩ ?_
              refine o1 rfl (det_pickT rfl rfl) rfl rfl ⟨_, rfl, rfl⟩ ?_
              refine o1 rfl (det_pickF rfl rfl) rfl rfl trivial ?_
              refine be rfl ?_
              refine tk_drop ?_ (.refl _) hK
              exact ⟨(mb rfl (by first | rfl | (exfalso; exact hb rfl) | (exfalso; simp at hb; done) | grind)), rfl, rfl, rfl, rfl, trivial⟩
            ·
              refine on rfl rfl rfl ⟨_, rfl, .inl rfl⟩ ?_
              refine on rfl rfl rfl ⟨_, rfl, .inl rfl⟩ ?_
              refine on rfl rfl rfl ⟨_, rfl, .inl rfl⟩ ?_
              refine o1 rfl (det_pickF rfl rfl) rfl rfl ⟨_, rfl, rfl⟩ ?_
              refine o1 rfl (det_pickF rfl rfl) rfl rfl trivial ?_
              refine be rfl ?_
              refine tk_drop ?_ (.refl _) hK
              exact ⟨(mb rfl (by first | rfl | (exfalso; exact hb rfl) | (exfalso; simp at hb; done) | grind)), rfl, rfl, rfl, rfl, trivial⟩
    ·
      skip
      refine t_skip ?_
      refine k_then ?_
      refine t_seq ?_
      refine t_seq ?_
      refine b0 ?_
      refine o1 rfl (det_loadN tN24 rfl rfl (.tail _ (.head _)) rfl) rfl rfl trivial ?_
      refine oF nofun rfl hb24 rfl rfl rfl trivial (fun w1 hs => pop_at hs.know hP hnb hnc hcm hoq) (fun v2 F2 hF2 hN2 ⟨A2, n2, c2, hv, hn2, hm2, hP2⟩ => ?_)
      subst hv
      replace hP := hP.mono hF2
      have hb2 : n2 ≤ 65536 := by have := hP2.len; omega
      refine o1 rfl (det_move rfl) rfl rfl trivial ?_
      refine o1 rfl (det_extract rfl rfl) rfl rfl trivial ?_
      refine o1 rfl (det_extract rfl rfl) rfl rfl trivial ?_
      refine o1 rfl (det_extract rfl rfl) rfl rfl trivial ?_
      refine om1 rfl (new_alloc z24) rfl rfl trivial (fun p15 => ?_)
      refine om1 rfl (new_alloc z28) rfl rfl trivial (fun p16 => ?_)
      refine stN nofun rfl tN24 rfl rfl rfl (.tail .head) rfl trivial rfl rfl ?_
      refine stN nofun rfl tN28 rfl rfl rfl .head rfl trivial rfl rfl ?_
      refine o1 rfl (det_assign rfl) rfl rfl trivial ?_
      refine be rfl ?_
      refine k_then ?_
      refine t_seq ?_
      refine b0 ?_
      refine o1 rfl (det_move rfl) rfl rfl trivial ?_
      refine o1 rfl (det_eql rfl rfl) rfl rfl trivial ?_
      refine be rfl ?_
      refine k_then ?_
      refine t_condP beq_iff_eq rfl (fun hb => ?_) (fun hb => ?_)
      ·
        subst hb
        obtain ⟨ho1, hoc, ho3, ho4, ho5, ho6, ho7⟩ := pop_right hoq
        refine t_seq ?_
        refine b0 ?_
        refine o1 rfl (det_loadN tN24 rfl rfl (.tail _ (.head _)) rfl) rfl rfl trivial ?_
        refine o1 rfl (det_call hb17 rfl rfl (fun w1 hs => octets_at hs.know hP2 hb2 (show _ = (octs e2, (0 : Int)) by rw [if_pos ho3]))) rfl rfl trivial ?_
        refine o1 rfl (det_move rfl) rfl rfl trivial ?_
        refine o1 rfl (det_extract rfl rfl) rfl rfl trivial ?_
        refine o1 rfl (det_extract rfl rfl) rfl rfl trivial ?_
        refine o1 rfl (det_assign rfl) rfl rfl trivial ?_
        refine o1 rfl (det_assign rfl) rfl rfl trivial ?_
        refine be rfl ?_
        refine k_then ?_
        refine t_seq ?_
        refine t_merge (env0 := [(5, _), (6, _), (7, _), (8, _)]) ⟨rfl, rfl, rfl, rfl, trivial⟩ 98 (.bool false) ?_ (fun hK => ?_)
        ·
          refine k_then ?_
          refine t_condF rfl ?_
          refine t_skip ?_
          refine k_then ?_
          refine t_seq ?_
          refine t_seq ?_
          refine b0 ?_
          refine o1 rfl (det_loadN tN24 rfl rfl (.tail _ (.tail _ (.tail _ (.head _)))) rfl) rfl rfl trivial ?_
          refine o1 rfl (det_loadN tN28 rfl rfl (.tail _ (.tail _ (.tail _ (.tail _ (.head _))))) rfl) rfl rfl trivial ?_
          refine oF nofun rfl hb25 rfl rfl rfl trivial (fun w1 hs => ret_at hs.know hP hnb hnc hcm hrq) (fun v3 F3 hF3 hN3 ⟨A3, n3, c3, hv, hn3, hm3, hP3⟩ => ?_)
          subst hv
          replace hP := hP.mono hF3
          have hb3 : n3 ≤ 65536 := by have := hP3.len; omega
          refine o1 rfl (det_move rfl) rfl rfl trivial ?_
          refine o1 rfl (det_extract rfl rfl) rfl rfl trivial ?_
          refine o1 rfl (det_extract rfl rfl) rfl rfl trivial ?_
          refine om1 rfl (new_alloc z24) rfl rfl trivial (fun p20 => ?_)
          refine stN nofun rfl tN24 rfl rfl rfl .head rfl trivial rfl rfl ?_
          refine o1 rfl (det_assign rfl) rfl rfl trivial ?_
          refine be rfl ?_
          refine k_then ?_
          refine t_seq ?_
          refine b0 ?_
          refine o1 rfl (det_move rfl) rfl rfl trivial ?_
          refine o1 rfl (det_eql rfl rfl) rfl rfl trivial ?_
          refine be rfl ?_
          refine k_then ?_
          refine t_condP beq_iff_eq rfl (fun hb => ?_) (fun hb => ?_)
          ·
            subst hb
            obtain ⟨hw1, hwc, hw2, hw4, hw5, hw6, hw7⟩ := ret_right hrq
            refine t_seq ?_
            refine b0 ?_
            refine o1 rfl (det_loadN tN24 rfl rfl (.head _) rfl) rfl rfl trivial ?_
            refine o1 rfl (det_call hb17 rfl rfl (fun w1 hs => octets_at hs.know hP3 hb3 (show _ = (octs u2, (0 : Int)) by rw [if_pos hw4]))) rfl rfl trivial ?_
            refine o1 rfl (det_move rfl) rfl rfl trivial ?_
            refine o1 rfl (det_extract rfl rfl) rfl rfl trivial ?_
            refine o1 rfl (det_extract rfl rfl) rfl rfl trivial ?_
            refine o1 rfl (det_assign rfl) rfl rfl trivial ?_
            refine o1 rfl (det_assign rfl) rfl rfl trivial ?_
            refine be rfl ?_
            refine k_then ?_
            refine t_seq ?_
            refine b0 ?_
            refine o1 rfl (det_loadN tN24 rfl rfl (.head _) rfl) rfl rfl trivial ?_
            refine oF nofun rfl hb24 rfl rfl rfl trivial (fun w1 hs => pop_at hs.know hP3 hb3 hn3 hm3 hw7) (fun v4 F4 hF4 hN4 ⟨A4, n4, c4, hv, hn4, hm4, hP4⟩ => ?_)
            subst hv
            replace hP := hP.mono hF4
            have hb4 : n4 ≤ 65536 := by have := hP4.len; omega
            refine o1 rfl (det_move rfl) rfl rfl trivial ?_
            refine o1 rfl (det_extract rfl rfl) rfl rfl trivial ?_
            refine o1 rfl (det_extract rfl rfl) rfl rfl trivial ?_
            refine o1 rfl (det_extract rfl rfl) rfl rfl trivial ?_
            refine om1 rfl (new_alloc z24) rfl rfl trivial (fun p24 => ?_)
            refine om1 rfl (new_alloc z28) rfl rfl trivial (fun p25 => ?_)
            refine stN nofun rfl tN24 rfl rfl rfl (.tail .head) rfl trivial rfl rfl ?_
            refine stN nofun rfl tN28 rfl rfl rfl .head rfl trivial rfl rfl ?_
            refine o1 rfl (det_assign rfl) rfl rfl trivial ?_
            refine be rfl ?_
            refine k_then ?_
            refine t_seq ?_
            refine t_merge (env0 := []) trivial 6 (.bool true) ?_ (fun hK => ?_)
            ·
              refine k_then ?_
              refine t_ret (k_thenR (?_))
              refine ret_tmp rfl rfl rfl (fun w1 hs => ?_)
              exact ⟨rfl, hs.keep⟩
            ·
              refine b0 ?_
              refine o1 rfl (det_move rfl) rfl rfl trivial ?_
              refine o1 rfl (det_eql rfl rfl) rfl rfl trivial ?_
              refine o2P beq_iff_eq rfl (det_move rfl) rfl rfl trivial (fun hb => ?_) (fun hb => ?_)
              ·
                refine o1 rfl (det_move rfl) rfl rfl ⟨_, rfl, rfl⟩ ?_
                refine o1 rfl (det_move rfl) rfl rfl ⟨_, rfl, rfl⟩ ?_
                refine o1 rfl (det_fieldAddr fld28_1 rfl) rfl rfl ⟨_, rfl, rfl⟩ ?_
                refine o1 rfl (det_load1 t1_3 rfl rfl (.tail _ (.tail _ (.tail _ (.tail _ (.tail _ (.tail _ (.tail _ (.head _)))))))) rfl) rfl rfl ⟨_, rfl, rfl⟩ ?_
                first | (refine o1 rfl (det_addI rfl rfl ?_) rfl rfl ⟨_, rfl, rfl⟩ ?_; (· omega)) | refine o1 rfl (det_add rfl rfl) rfl rfl ⟨_, rfl, rfl⟩ ?_
                refine o1 rfl (det_eql rfl rfl) rfl rfl ⟨_, rfl, rfl⟩ ?_
                refine o1 rfl (det_pickT rfl rfl) rfl rfl trivial ?_
                refine o2P beq_iff_eq rfl (det_move rfl) rfl rfl trivial (fun hb => ?_) (fun hb => ?_)
                ·
                  refine o1 rfl (det_move rfl) rfl rfl ⟨_, rfl, rfl⟩ ?_
                  refine o1 rfl (det_eql rfl rfl) rfl rfl ⟨_, rfl, rfl⟩ ?_
                  refine o1 rfl (det_pickT rfl rfl) rfl rfl trivial ?_
                  refine o2P beq_iff_eq rfl (det_move rfl) rfl rfl trivial (fun hb => ?_) (fun hb => ?_)
                  ·
                    refine o1 rfl (det_loadN tN28 rfl rfl (.head _) rfl) rfl rfl ⟨_, rfl, rfl⟩ ?_
                    refine o1 rfl (det_loadN tN28 rfl rfl (.tail _ (.tail _ (.tail _ (.tail _ (.tail _ (.tail _ (.tail _ (.head _)))))))) rfl) rfl rfl ⟨_, rfl, rfl⟩ ?_
                    refine o1 rfl (det_eqlS rfl rfl eqg28 (fun w => eq28 _ _ _ _ _ _ _ _ _ _ _ _ _ _ w)) rfl rfl ⟨_, rfl, rfl⟩ ?_
                    refine o1 rfl (det_pickT rfl rfl) rfl rfl trivial ?_
                    refine o2P Iff.rfl rfl (det_move rfl) rfl rfl trivial (fun hb => ?_) (fun hb => ?_)
                    ·
                      refine o1 rfl (det_loadN tN24 rfl rfl (.tail _ (.head _)) rfl) rfl rfl ⟨_, rfl, rfl⟩ ?_
                      refine o1 rfl (det_loadN tN24 rfl rfl (.tail _ (.tail _ (.tail _ (.tail _ (.tail _ (.tail _ (.head _))))))) rfl) rfl rfl ⟨_, rfl, rfl⟩ ?_
                      refine o1 rfl (det_call hb20 rfl rfl (fun w1 hs => same_ok hs.know hP4 hb4 hP)) rfl rfl ⟨_, rfl, rfl⟩ ?_
                      refine o1 rfl (det_pickT rfl rfl) rfl rfl trivial ?_
                      refine o1 rfl (det_assign rfl) rfl rfl trivial ?_
                      refine be rfl ?_
                      refine tk_drop ?_ (.refl _) hK
                      exact ⟨(mb rfl (by first | rfl | (exfalso; exact hb rfl) | (exfalso; simp at hb; done) | grind)), trivial⟩
                    ·
                      refine on rfl rfl rfl ⟨_, rfl, .inl rfl⟩ ?_
                      refine on rfl rfl rfl ⟨_, rfl, .inl rfl⟩ ?_
                      refine on rfl rfl rfl ⟨_, rfl, .inl rfl⟩ ?_
                      refine o1 rfl (det_pickF rfl rfl) rfl rfl trivial ?_
                      refine o1 rfl (det_assign rfl) rfl rfl trivial ?_
                      refine be rfl ?_
                      refine tk_drop ?_ (.refl _) hK
                      exact ⟨(mb rfl (by first | rfl | (exfalso; exact hb rfl) | (exfalso; simp at hb; done) | grind)), trivial⟩
                  ·
                    refine on rfl rfl rfl ⟨_, rfl, .inl rfl⟩ ?_
                    refine on rfl rfl rfl ⟨_, rfl, .inl rfl⟩ ?_
                    refine on rfl rfl rfl ⟨_, rfl, .inl rfl⟩ ?_
                    refine o1 rfl (det_pickF rfl rfl) rfl rfl trivial ?_
                    refine o1 rfl (det_move rfl) rfl rfl trivial ?_
                    refine on rfl rfl rfl ⟨_, rfl, .inl rfl⟩ ?_
                    refine on rfl rfl rfl ⟨_, rfl, .inl rfl⟩ ?_
                    refine on rfl rfl rfl ⟨_, rfl, .inl rfl⟩ ?_
                    refine o1 rfl (det_pickF rfl rfl) rfl rfl trivial ?_
                    refine o1 rfl (det_assign rfl) rfl rfl trivial ?_
                    refine be rfl ?_
                    refine tk_drop ?_ (.refl _) hK
                    exact ⟨(mb rfl (by first | rfl | (exfalso; exact hb rfl) | (exfalso; simp at hb; done) | grind)), trivial⟩
                ·
                  refine on rfl rfl rfl ⟨_, rfl, .inl rfl⟩ ?_
                  refine on rfl rfl rfl ⟨_, rfl, .inl rfl⟩ ?_
                  refine o1 rfl (det_pickF rfl rfl) rfl rfl trivial ?_
                  refine o1 rfl (det_move rfl) rfl rfl trivial ?_
                  refine on rfl rfl rfl ⟨_, rfl, .inl rfl⟩ ?_
                  refine on rfl rfl rfl ⟨_, rfl, .inl rfl⟩ ?_
                  refine on rfl rfl rfl ⟨_, rfl, .inl rfl⟩ ?_
                  refine o1 rfl (det_pickF rfl rfl) rfl rfl trivial ?_
                  refine o1 rfl (det_move rfl) rfl rfl trivial ?_
                  refine on rfl rfl rfl ⟨_, rfl, .inl rfl⟩ ?_
                  refine on rfl rfl rfl ⟨_, rfl, .inl rfl⟩ ?_
                  refine on rfl rfl rfl ⟨_, rfl, .inl rfl⟩ ?_
                  refine o1 rfl (det_pickF rfl rfl) rfl rfl trivial ?_
                  refine o1 rfl (det_assign rfl) rfl rfl trivial ?_
                  refine be rfl ?_
                  refine tk_drop ?_ (.refl _) hK
                  exact ⟨(mb rfl (by first | rfl | (exfalso; exact hb rfl) | (exfalso; simp at hb; done) | grind)), trivial⟩
              ·
                refine on rfl rfl rfl ⟨_, rfl, .inl rfl⟩ ?_
                refine on rfl rfl rfl ⟨_, rfl, .inl rfl⟩ ?_
                refine on rfl rfl rfl ⟨_, rfl, .inl rfl⟩ ?_
                refine on rfl rfl rfl ⟨_, rfl, .inl rfl⟩ ?_
                refine on rfl rfl rfl ⟨_, rfl, .inl rfl⟩ ?_
                refine on rfl rfl rfl ⟨_, rfl, .inl rfl⟩ ?_
                refine o1 rfl (det_pickF rfl rfl) rfl rfl trivial ?_
                refine o1 rfl (det_move rfl) rfl rfl trivial ?_
                refine on rfl rfl rfl ⟨_, rfl, .inl rfl⟩ ?_
                refine on rfl rfl rfl ⟨_, rfl, .inl rfl⟩ ?_
                refine o1 rfl (det_pickF rfl rfl) rfl rfl trivial ?_
                refine o1 rfl (det_move rfl) rfl rfl trivial ?_
                refine on rfl rfl rfl ⟨_, rfl, .inl rfl⟩ ?_
                refine on rfl rfl rfl ⟨_, rfl, .inl rfl⟩ ?_
                refine on rfl rfl rfl ⟨_, rfl, .inl rfl⟩ ?_
                refine o1 rfl (det_pickF rfl rfl) rfl rfl trivial ?_
                refine o1 rfl (det_move rfl) rfl rfl trivial ?_
                refine on rfl rfl rfl ⟨_, rfl, .inl rfl⟩ ?_
                refine on rfl rfl rfl ⟨_, rfl, .inl rfl⟩ ?_
                refine on rfl rfl rfl ⟨_, rfl, .inl rfl⟩ ?_
                refine o1 rfl (det_pickF rfl rfl) rfl rfl trivial ?_
                refine o1 rfl (det_assign rfl) rfl rfl trivial ?_
                refine be rfl ?_
                refine tk_drop ?_ (.refl _) hK
                exact ⟨(mb rfl (by first | rfl | (exfalso; exact hb rfl) | (exfalso; simp at hb; done) | grind)), trivial⟩
          ·
            skip
            refine t_skip ?_
            refine k_then ?_
            refine t_seq ?_
            refine b0 ?_
            refine o1 rfl (det_assign rfl) rfl rfl trivial ?_
            refine be rfl ?_
            refine k_then ?_
            refine t_ret ?_
            refine ret_tmp rfl rfl rfl (fun w1 hs => ?_)
            exact ⟨rfl, hs.keep⟩
        ·
          refine b0 ?_
          refine o1 rfl (det_move rfl) rfl rfl trivial ?_
          refine o1 rfl (det_neq rfl rfl) rfl rfl trivial ?_
          refine o2P bne_iff_ne rfl (det_move rfl) rfl rfl trivial (fun hb => ?_) (fun hb => ?_)
          ·
            refine on rfl rfl rfl ⟨_, rfl, .inl rfl⟩ ?_
            refine on rfl rfl rfl ⟨_, rfl, .inl rfl⟩ ?_
            refine on rfl rfl rfl ⟨_, rfl, .inl rfl⟩ ?_
            refine on rfl rfl rfl ⟨_, rfl, .inl rfl⟩ ?_
            refine on rfl rfl rfl ⟨_, rfl, .inl rfl⟩ ?_
            refine on rfl rfl rfl ⟨_, rfl, .inl rfl⟩ ?_
            refine o1 rfl (det_pickT rfl rfl) rfl rfl trivial ?_
            refine be rfl ?_
            refine tk_drop ?_ (.refl _) hK
            exact ⟨(mb rfl (by first | rfl | (exfalso; exact hb rfl) | (exfalso; simp at hb; done) | grind)), rfl, rfl, rfl, rfl, trivial⟩
          ·
            refine o1 rfl (det_move rfl) rfl rfl ⟨_, rfl, rfl⟩ ?_
            refine o1 rfl (det_move rfl) rfl rfl ⟨_, rfl, rfl⟩ ?_
            refine o1 rfl (det_fieldAddr fld28_1 rfl) rfl rfl ⟨_, rfl, rfl⟩ ?_
            refine o1 rfl (det_load1 t1_3 rfl rfl (.head _) rfl) rfl rfl ⟨_, rfl, rfl⟩ ?_
            first | (refine o1 rfl (det_subI rfl rfl ?_) rfl rfl ⟨_, rfl, rfl⟩ ?_; (· omega)) | refine o1 rfl (det_sub rfl rfl) rfl rfl ⟨_, rfl, rfl⟩ ?_
            refine o1 rfl (det_neq rfl rfl) rfl rfl ⟨_, rfl, rfl⟩ ?_
            refine o1 rfl (det_pickF rfl rfl) rfl rfl trivial ?_
            refine be rfl ?_
            refine tk_drop ?_ (.refl _) hK
            exact ⟨(mb rfl (by first | rfl | (exfalso; exact hb rfl) | (exfalso; simp at hb; done) | grind)), rfl, rfl, rfl, rfl, trivial⟩
      ·
        skip
        refine t_skip ?_
        refine k_then ?_
        refine t_seq ?_
        refine t_seq ?_
        refine b0 ?_
        refine o1 rfl (det_loadN tN24 rfl rfl (.tail _ (.tail _ (.tail _ (.head _)))) rfl) rfl rfl trivial ?_
        refine o1 rfl (det_loadN tN28 rfl rfl (.tail _ (.tail _ (.tail _ (.tail _ (.head _))))) rfl) rfl rfl trivial ?_
        refine oF nofun rfl hb25 rfl rfl rfl trivial (fun w1 hs => ret_at hs.know hP hnb hnc hcm hrq) (fun v3 F3 hF3 hN3 ⟨A3, n3, c3, hv, hn3, hm3, hP3⟩ => ?_)
        subst hv
        replace hP := hP.mono hF3
        have hb3 : n3 ≤ 65536 := by have := hP3.len; omega
        refine o1 rfl (det_move rfl) rfl rfl trivial ?_
        refine o1 rfl (det_extract rfl rfl) rfl rfl trivial ?_
        refine o1 rfl (det_extract rfl rfl) rfl rfl trivial ?_
        refine om1 rfl (new_alloc z24) rfl rfl trivial (fun p20 => ?_)
        refine stN nofun rfl tN24 rfl rfl rfl .head rfl trivial rfl rfl ?_
        refine o1 rfl (det_assign rfl) rfl rfl trivial ?_
        refine be rfl ?_
        refine k_then ?_
        refine t_seq ?_
        refine b0 ?_
        refine o1 rfl (det_move rfl) rfl rfl trivial ?_
        refine o1 rfl (det_eql rfl rfl) rfl rfl trivial ?_
        refine be rfl ?_
        refine k_then ?_
        refine t_condP beq_iff_eq rfl (fun hb => ?_) (fun hb => ?_)
        ·
          subst hb
          obtain ⟨hw1, hwc, hw2, hw4, hw5, hw6, hw7⟩ := ret_right hrq
          refine t_seq ?_
          refine b0 ?_
          refine o1 rfl (det_loadN tN24 rfl rfl (.head _) rfl) rfl rfl trivial ?_
          refine o1 rfl (det_call hb17 rfl rfl (fun w1 hs => octets_at hs.know hP3 hb3 (show _ = (octs u2, (0 : Int)) by rw [if_pos hw4]))) rfl rfl trivial ?_
          refine o1 rfl (det_move rfl) rfl rfl trivial ?_
          refine o1 rfl (det_extract rfl rfl) rfl rfl trivial ?_
          refine o1 rfl (det_extract rfl rfl) rfl rfl trivial ?_
          refine o1 rfl (det_assign rfl) rfl rfl trivial ?_
          refine o1 rfl (det_assign rfl) rfl rfl trivial ?_
          refine be rfl ?_
          refine k_then ?_
          refine t_seq ?_
          refine b0 ?_
          refine o1 rfl (det_loadN tN24 rfl rfl (.head _) rfl) rfl rfl trivial ?_
          refine oF nofun rfl hb24 rfl rfl rfl trivial (fun w1 hs => pop_at hs.know hP3 hb3 hn3 hm3 hw7) (fun v4 F4 hF4 hN4 ⟨A4, n4, c4, hv, hn4, hm4, hP4⟩ => ?_)
          subst hv
          replace hP := hP.mono hF4
          have hb4 : n4 ≤ 65536 := by have := hP4.len; omega
          refine o1 rfl (det_move rfl) rfl rfl trivial ?_
          refine o1 rfl (det_extract rfl rfl) rfl rfl trivial ?_
          refine o1 rfl (det_extract rfl rfl) rfl rfl trivial ?_
          refine o1 rfl (det_extract rfl rfl) rfl rfl trivial ?_
          refine om1 rfl (new_alloc z24) rfl rfl trivial (fun p24 => ?_)
          refine om1 rfl (new_alloc z28) rfl rfl trivial (fun p25 => ?_)
          refine stN nofun rfl tN24 rfl rfl rfl (.tail .head) rfl trivial rfl rfl ?_
          refine stN nofun rfl tN28 rfl rfl rfl .head rfl trivial rfl rfl ?_
          refine o1 rfl (det_assign rfl) rfl rfl trivial ?_
          refine be rfl ?_
          refine k_then ?_
          refine t_seq ?_
          refine t_merge (env0 := []) trivial 6 (.bool true) ?_ (fun hK => ?_)
          ·
            refine k_then ?_
            refine t_ret (k_thenR (?_))
            refine ret_tmp rfl rfl rfl (fun w1 hs => ?_)
            exact ⟨rfl, hs.keep⟩
          ·
            refine b0 ?_
            refine o1 rfl (det_move rfl) rfl rfl trivial ?_
            refine o1 rfl (det_eql rfl rfl) rfl rfl trivial ?_
            refine o2P beq_iff_eq rfl (det_move rfl) rfl rfl trivial (fun hb => ?_) (fun hb => ?_)
            ·
              refine o1 rfl (det_move rfl) rfl rfl ⟨_, rfl, rfl⟩ ?_
              refine o1 rfl (det_move rfl) rfl rfl ⟨_, rfl, rfl⟩ ?_
              refine o1 rfl (det_fieldAddr fld28_1 rfl) rfl rfl ⟨_, rfl, rfl⟩ ?_
              refine o1 rfl (det_load1 t1_3 rfl rfl (.tail _ (.tail _ (.tail _ (.tail _ (.tail _ (.tail _ (.tail _ (.head _)))))))) rfl) rfl rfl ⟨_, rfl, rfl⟩ ?_
              first | (refine o1 rfl (det_addI rfl rfl ?_) rfl rfl ⟨_, rfl, rfl⟩ ?_; (· omega)) | refine o1 rfl (det_add rfl rfl) rfl rfl ⟨_, rfl, rfl⟩ ?_
              refine o1 rfl (det_eql rfl rfl) rfl rfl ⟨_, rfl, rfl⟩ ?_
              refine o1 rfl (det_pickT rfl rfl) rfl rfl trivial ?_
              refine o2P beq_iff_eq rfl (det_move rfl) rfl rfl trivial (fun hb => ?_) (fun hb => ?_)
              ·
                refine o1 rfl (det_move rfl) rfl rfl ⟨_, rfl, rfl⟩ ?_
                refine o1 rfl (det_eql rfl rfl) rfl rfl ⟨_, rfl, rfl⟩ ?_
                refine o1 rfl (det_pickT rfl rfl) rfl rfl trivial ?_
                refine o2P beq_iff_eq rfl (det_move rfl) rfl rfl trivial (fun hb => ?_) (fun hb => ?_)
                ·
                  refine o1 rfl (det_loadN tN28 rfl rfl (.head _) rfl) rfl rfl ⟨_, rfl, rfl⟩ ?_
                  refine o1 rfl (det_loadN tN28 rfl rfl (.tail _ (.tail _ (.tail _ (.tail _ (.tail _ (.tail _ (.tail _ (.head _)))))))) rfl) rfl rfl ⟨_, rfl, rfl⟩ ?_
                  refine o1 rfl (det_eqlS rfl rfl eqg28 (fun w => eq28 _ _ _ _ _ _ _ _ _ _ _ _ _ _ w)) rfl rfl ⟨_, rfl, rfl⟩ ?_
                  refine o1 rfl (det_pickT rfl rfl) rfl rfl trivial ?_
                  refine o2P Iff.rfl rfl (det_move rfl) rfl rfl trivial (fun hb => ?_) (fun hb => ?_)
                  ·
                    refine o1 rfl (det_loadN tN24 rfl rfl (.tail _ (.head _)) rfl) rfl rfl ⟨_, rfl, rfl⟩ ?_
                    refine o1 rfl (det_loadN tN24 rfl rfl (.tail _ (.tail _ (.tail _ (.tail _ (.tail _ (.tail _ (.head _))))))) rfl) rfl rfl ⟨_, rfl, rfl⟩ ?_
                    refine o1 rfl (det_call hb20 rfl rfl (fun w1 hs => same_ok hs.know hP4 hb4 hP)) rfl rfl ⟨_, rfl, rfl⟩ ?_
                    refine o1 rfl (det_pickT rfl rfl) rfl rfl trivial ?_
                    refine o1 rfl (det_assign rfl) rfl rfl trivial ?_
                    refine be rfl ?_
                    refine tk_drop ?_ (.refl _) hK
                    exact ⟨(mb rfl (by first | rfl | (exfalso; exact hb rfl) | (exfalso; simp at hb; done) | grind)), trivial⟩
                  ·
                    refine on rfl rfl rfl ⟨_, rfl, .inl rfl⟩ ?_
                    refine on rfl rfl rfl ⟨_, rfl, .inl rfl⟩ ?_
                    refine on rfl rfl rfl ⟨_, rfl, .inl rfl⟩ ?_
                    refine o1 rfl (det_pickF rfl rfl) rfl rfl trivial ?_
                    refine o1 rfl (det_assign rfl) rfl rfl trivial ?_
                    refine be rfl ?_
                    refine tk_drop ?_ (.refl _) hK
                    exact ⟨(mb rfl (by first | rfl | (exfalso; exact hb rfl) | (exfalso; simp at hb; done) | grind)), trivial⟩
                ·
                  refine on rfl rfl rfl ⟨_, rfl, .inl rfl⟩ ?_
                  refine on rfl rfl rfl ⟨_, rfl, .inl rfl⟩ ?_
                  refine on rfl rfl rfl ⟨_, rfl, .inl rfl⟩ ?_
                  refine o1 rfl (det_pickF rfl rfl) rfl rfl trivial ?_
                  refine o1 rfl (det_move rfl) rfl rfl trivial ?_
                  refine on rfl rfl rfl ⟨_, rfl, .inl rfl⟩ ?_
                  refine on rfl rfl rfl ⟨_, rfl, .inl rfl⟩ ?_
                  refine on rfl rfl rfl ⟨_, rfl, .inl rfl⟩ ?_
                  refine o1 rfl (det_pickF rfl rfl) rfl rfl trivial ?_
                  refine o1 rfl (det_assign rfl) rfl rfl trivial ?_
                  refine be rfl ?_
                  refine tk_drop ?_ (.refl _) hK
                  exact ⟨(mb rfl (by first | rfl | (exfalso; exact hb rfl) | (exfalso; simp at hb; done) | grind)), trivial⟩
              ·
                refine on rfl rfl rfl ⟨_, rfl, .inl rfl⟩ ?_
                refine on rfl rfl rfl ⟨_, rfl, .inl rfl⟩ ?_
                refine o1 rfl (det_pickF rfl rfl) rfl rfl trivial ?_
                refine o1 rfl (det_move rfl) rfl rfl trivial ?_
                refine on rfl rfl rfl ⟨_, rfl, .inl rfl⟩ ?_
                refine on rfl rfl rfl ⟨_, rfl, .inl rfl⟩ ?_
                refine on rfl rfl rfl ⟨_, rfl, .inl rfl⟩ ?_
                refine o1 rfl (det_pickF rfl rfl) rfl rfl trivial ?_
                refine o1 rfl (det_move rfl) rfl rfl trivial ?_
                refine on rfl rfl rfl ⟨_, rfl, .inl rfl⟩ ?_
                refine on rfl rfl rfl ⟨_, rfl, .inl rfl⟩ ?_
                refine on rfl rfl rfl ⟨_, rfl, .inl rfl⟩ ?_
                refine o1 rfl (det_pickF rfl rfl) rfl rfl trivial ?_
                refine o1 rfl (det_assign rfl) rfl rfl trivial ?_
                refine be rfl ?_
                refine tk_drop ?_ (.refl _) hK
                exact ⟨(mb rfl (by first | rfl | (exfalso; exact hb rfl) | (exfalso; simp at hb; done) | grind)), trivial⟩
            ·
              refine on rfl rfl rfl ⟨_, rfl, .inl rfl⟩ ?_
              refine on rfl rfl rfl ⟨_, rfl, .inl rfl⟩ ?_
              refine on rfl rfl rfl ⟨_, rfl, .inl rfl⟩ ?_
              refine on rfl rfl rfl ⟨_, rfl, .inl rfl⟩ ?_
              refine on rfl rfl rfl ⟨_, rfl, .inl rfl⟩ ?_
              refine on rfl rfl rfl ⟨_, rfl, .inl rfl⟩ ?_
              refine o1 rfl (det_pickF rfl rfl) rfl rfl trivial ?_
              refine o1 rfl (det_move rfl) rfl rfl trivial ?_
              refine on rfl rfl rfl ⟨_, rfl, .inl rfl⟩ ?_
              refine on rfl rfl rfl ⟨_, rfl, .inl rfl⟩ ?_
              refine o1 rfl (det_pickF rfl rfl) rfl rfl trivial ?_
              refine o1 rfl (det_move rfl) rfl rfl trivial ?_
              refine on rfl rfl rfl ⟨_, rfl, .inl rfl⟩ ?_
              refine on rfl rfl rfl ⟨_, rfl, .inl rfl⟩ ?_
              refine on rfl rfl rfl ⟨_, rfl, .inl rfl⟩ ?_
              refine o1 rfl (det_pickF rfl rfl) rfl rfl trivial ?_
              refine o1 rfl (det_move rfl) rfl rfl trivial ?_
              refine on rfl rfl rfl ⟨_, rfl, .inl rfl⟩ ?_
              refine on rfl rfl rfl ⟨_, rfl, .inl rfl⟩ ?_
              refine on rfl rfl rfl ⟨_, rfl, .inl rfl⟩ ?_
              refine o1 rfl (det_pickF rfl rfl) rfl rfl trivial ?_
              refine o1 rfl (det_assign rfl) rfl rfl trivial ?_
              refine be rfl ?_
              refine tk_drop ?_ (.refl _) hK
              exact ⟨(mb rfl (by first | rfl | (exfalso; exact hb rfl) | (exfalso; simp at hb; done) | grind)), trivial⟩
        ·
          skip
          refine t_skip ?_
          refine k_then ?_
          refine t_seq ?_
          refine b0 ?_
          refine o1 rfl (det_assign rfl) rfl rfl trivial ?_
          refine be rfl ?_
          refine k_then ?_
          refine t_ret ?_
          refine ret_tmp rfl rfl rfl (fun w1 hs => ?_)
          exact ⟨rfl, hs.keep⟩

end Go.Proofs.Qu
