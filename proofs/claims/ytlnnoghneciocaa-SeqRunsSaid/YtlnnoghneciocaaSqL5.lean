/-
  Walks through layer 39 and its reference.
-/
import Derived.Test.YtlnnoghneciocaaSqL0
import Derived.Test.YtlnnoghneciocaaSqW7
import Derived.Test.YtlnnoghneciocaaSqPlain2
namespace Go.Proofs.Sq
open Go Go.Eng Go.Sq
set_option maxRecDepth 4000

theorem mp48 : IMap Try.prog 48 3 3 := ⟨Try.underlying48, Try.underlying3, Try.zeroValue3⟩
/-- Where the rounds stand. -/
structure RS where
  F : Know
  j : Nat
  A : Option Addr
  n : Nat
  c : Nat
  l : List Ct
  ms : List (Int × Int)
  ob : Obj
structure ROk (F0 : Know) (p N : Nat) (s : RS) : Prop where
  j : s.j ≤ N
  F : Incl F0 s.F
  q : CK s.F s.A s.n s.l
  hn : s.n ≤ s.c
  hm : s.c ≤ maxLen
  ok : okL s.l = true
  M : MpO p s.ms s.ob
  R : MR s.l s.ms
/-- SeqRuns. -/
theorem runs_ok {w : World} {F : Know} (hF : ∀ a v, F a = some v → w.cell? a = some v) {DA : Option Addr} {dn dc : Nat} {ds : List Dr} (hD : DK F DA dn ds) (hrg : ∀ d ∈ ds, Dr.rng d) {BA : Option Addr} {bn bc : Nat} {bs : List Int} (hB : IntsK F .u8 BA bn bs) (hbc : bn ≤ bc) : Pure Try.prog 5 [.slice DA dn dc, .slice BA bn bc] w (.bool true) := by
  refine fn_pure (F := F) Try.func5 rfl Try.ntmps5 rfl hF ?_
  refine t_seq ?_
  refine b0 ?_
  refine o1 rfl (det_assign rfl) rfl rfl trivial ?_
  refine be rfl ?_
  refine k_then ?_
  refine t_seq ?_
  refine t_seq ?_
  refine b0 ?_
  refine o1 rfl (det_call hb9 rfl rfl (fun w1 hs => works_ok hs.know)) rfl rfl trivial ?_
  refine o1 rfl (det_not rfl) rfl rfl trivial ?_
  refine be rfl ?_
  refine k_then ?_
  refine t_condP not_iff_false rfl (fun hb => ?_) (fun hb => ?_)
  · exfalso; simp at hb
  refine t_skip ?_
  refine k_then ?_
  refine t_seq ?_
  refine b0 ?_
  refine o1 rfl (det_move rfl) rfl rfl trivial ?_
  refine oF nofun rfl hb17 rfl rfl rfl trivial (fun w1 hs => (dlist_ok hs.know hD hrg).any) (fun v1 F1 hF1 hN1 ⟨A1, n1, c1, hv, hn1, hm1, hP1⟩ => ?_)
  subst hv
  have hl1 := hP1.len
  have hll1 : n1 ≤ 12 := by rw [hl1, listD, listK_len]; omega
  have hok1 := ok_listD hrg
  obtain ⟨l1, hl⟩ : ∃ l, listD ds = l := ⟨_, rfl⟩
  rw [hl] at hP1 hl1 hok1
  replace hB := hB.mono hF1
  refine o1 rfl (det_assign rfl) rfl rfl trivial ?_
  refine be rfl ?_
  refine k_then ?_
  refine t_seq ?_
  refine b0 ?_
  refine om rfl new_map rfl rfl trivial (fun p25 v25 ob hv25 => ?_)
  obtain ⟨rfl, hM⟩ := hv25
  refine o1 rfl (det_assign rfl) rfl rfl trivial ?_
  refine be rfl ?_
  refine k_then ?_
  refine t_seq ?_
  refine t_seq ?_
  refine b0 ?_
  refine o1 rfl (det_move rfl) rfl rfl trivial ?_
  refine o1 rfl (det_lenS sl46 rfl) rfl rfl trivial ?_
  refine o1 rfl (det_move rfl) rfl rfl trivial ?_
  refine be rfl ?_
  refine k_then ?_
  refine t_block ?_
  refine t_whileM (σ := Nat × Obj × List (Int × Int)) (fun s => [(28, .int .i64 s.1)]) (fun s => [(p25, s.2.1)]) (fun s => l1.length - s.1) (fun s => s.1 ≤ l1.length ∧ MpO p25 s.2.2 s.2.1 ∧ MR (l1.take s.1) s.2.2) (0, ob, []) (env0 := [(1, _), (4, _), (5, _), (6, _), (26, _), (27, _)]) ⟨Nat.zero_le _, hM, by simpa using MR.zero⟩ ⟨rfl, trivial⟩ ⟨rfl, rfl, rfl, rfl, rfl, rfl, trivial⟩ (.refl _) ?_
  rintro s ⟨hsl, hM, hMR⟩
  refine t_seq ?_
  refine b0 ?_
  refine o1 rfl (det_lss rfl rfl) rfl rfl trivial ?_
  refine be rfl ?_
  refine k_then ?_
  refine t_seq ?_
  refine t_condP decide_eq_true_iff rfl (fun hb => ?_) (fun hb => ?_)
  ·
    have hlt : s.1 < l1.length := by omega
    obtain ⟨A1, rfl⟩ := hP1.some hlt
    have hat := (atC_get hlt).symm
    refine t_skip ?_
    refine k_then ?_
    refine t_seq ?_
    refine t_block ?_
    refine t_seq ?_
    refine b0 ?_
    first | (refine o1 rfl (det_indexAddr sl46 rfl rfl ?_) rfl rfl trivial ?_; (· (first | decide | omega)))
    refine o1 rfl (det_loadKN tN50 rfl (ctv_len l1[s.1]) (hP1.cells (i := (s.1 : Int)) (k := s.1) (Int.toNat_natCast s.1) hlt (ctv_len _))) rfl rfl trivial ?_
    refine om1 rfl (new_alloc z50) rfl rfl trivial (fun p8 => ?_)
    refine stN nofun rfl tN50 rfl rfl rfl .head rfl trivial rfl rfl ?_
    refine be rfl ?_
    refine k_then ?_
    refine b0 ?_
    refine o1 rfl (det_move rfl) rfl rfl trivial ?_
    refine o1 rfl (det_fieldAddr fld50_0 rfl) rfl rfl trivial ?_
    refine o1 rfl (det_load1 t1_3 rfl rfl (.head _) rfl) rfl rfl trivial ?_
    refine o1 rfl (det_fieldAddr fld50_1 rfl) rfl rfl trivial ?_
    refine o1 rfl (det_load1 t1_3 rfl rfl (.head _) rfl) rfl rfl trivial ?_
    refine oMap nofun rfl mp48 rfl rfl rfl trivial hM (List.perm_middle (l₁ := [_])) (fun ob hM => ?_)
    refine be rfl ?_
    refine k_blk ?_
    refine k_then ?_
    refine b0 ?_
    first | (refine o1 rfl (det_addI rfl rfl ?_) rfl rfl trivial ?_; (· omega)) | refine o1 rfl (det_add rfl rfl) rfl rfl trivial ?_
    refine o1 rfl (det_move rfl) rfl rfl trivial ?_
    refine be rfl ?_
    refine k_then ?_
    refine loop_back (s.1 + 1, ob, setM s.2.2 l1[s.1].st l1[s.1].nx) ⟨by show s.1 + 1 ≤ _; omega, hM, by rw [hat]; exact hMR.step hok1 hlt⟩ (by simp only; omega) ⟨rfl, rfl, rfl, rfl, rfl, rfl, rfl, trivial⟩ (.cons_cons _ (.cons _ (.refl _)))
  ·
    have hse : s.1 = l1.length := by omega
    obtain ⟨s1, ob1, ms1⟩ := s
    simp only at hse
    subst hse
    simp only [List.take_length] at hMR hM
    refine t_exit ?_
    refine k_thenE ?_
    refine k_thenE ?_
    refine k_blkE ?_
    refine k_then ?_
    refine t_seq ?_
    refine t_seq ?_
    refine b0 ?_
    refine o1 rfl (det_move rfl) rfl rfl trivial ?_
    refine o1 rfl (det_move rfl) rfl rfl trivial ?_
    refine o1 rfl (det_lenS sl45 rfl) rfl rfl trivial ?_
    refine o1 rfl (det_min2 rfl rfl) rfl rfl trivial ?_
    first | (refine o1 rfl (det_sliceTo sl45 rfl rfl ?_) rfl rfl trivial ?_; (· omega))
    obtain ⟨m, hm⟩ : ∃ m, (min (bn : Int) 60).toNat = m := ⟨_, rfl⟩
    have hmn : m ≤ bn := by omega
    have hm60 : m ≤ 60 := by omega
    rw [hm]
    refine o1 rfl (det_lenS sl45 rfl) rfl rfl trivial ?_
    refine o1 rfl (det_move rfl) rfl rfl trivial ?_
    refine be rfl ?_
    refine k_then ?_
    refine t_block ?_
    refine t_whileK (σ := RS) (fun s => [(5, .slice s.A s.n s.c), (44, .int .i64 s.j)]) (fun s => s.F) (fun s => [(p25, s.ob)]) (fun s => m - s.j) (fun s => ROk F1 p25 m s) ⟨F1, 0, A1, n1, c1, l1, ms1, ob1⟩ (env0 := [(6, _), (42, _), (43, _)]) ⟨Nat.zero_le _, fun _ _ h => h, hP1, hn1, hm1, hok1, hM, hMR⟩ incl_refl ⟨rfl, rfl, trivial⟩ ⟨rfl, rfl, rfl, trivial⟩ (.refl _) ?_
    rintro s hR
    have hM := hR.M
    have hRj := hR.j
    refine t_seq ?_
    refine b0 ?_
    refine o1 rfl (det_lss rfl rfl) rfl rfl trivial ?_
    refine be rfl ?_
    refine k_then ?_
    refine t_seq ?_
    refine t_condP decide_eq_true_iff rfl (fun hb => ?_) (fun hb => ?_)
    ·
      have hlt : s.j < bs.length := by have := hB.len; omega
      obtain ⟨BA, rfl⟩ := hB.some hlt
      have hltn : (s.j : Int).toNat < bs.length := by simpa using hlt
      have hbr : 0 ≤ bs[(s.j : Int).toNat] ∧ bs[(s.j : Int).toNat] ≤ 255 := hB.rng (s.j : Int).toNat hltn
      refine t_skip ?_
      refine k_then ?_
      refine t_seq ?_
      refine t_block ?_
      refine t_seq ?_
      refine b0 ?_
      first | (refine o1 rfl (det_indexAddr sl45 rfl rfl ?_) rfl rfl trivial ?_; (· (first | decide | omega)))
      refine o1 rfl (det_loadK t1_5 rfl ((hB.mono hR.F).cell (i := (s.j : Int)) (by omega) hltn)) rfl rfl trivial ?_
      refine o1 rfl (det_assign rfl) rfl rfl trivial ?_
      refine be rfl ?_
      refine k_then ?_
      refine t_seq ?_
      refine b0 ?_
      refine o1 rfl (det_move rfl) rfl rfl trivial ?_
      first | (refine o1 rfl (det_remP rfl rfl ?_) rfl rfl trivial ?_; (· omega)) | (refine o1 rfl (det_rem rfl rfl ?_) rfl rfl trivial ?_; (· (first | decide | omega)))
      first | (refine o1 rfl (det_convW Try.underlying5 Try.underlying3 rfl ?_) rfl rfl trivial ?_; (· exact IntWalk.i64_in _ (by omega))) | refine o1 rfl (det_conv Try.underlying5 Try.underlying3 rfl) rfl rfl trivial ?_
      first | (refine o1 rfl (det_mulI rfl rfl ?_) rfl rfl trivial ?_; (· omega)) | refine o1 rfl (det_mul rfl rfl) rfl rfl trivial ?_
      first | (refine o1 rfl (det_addI rfl rfl ?_) rfl rfl trivial ?_; (· omega)) | refine o1 rfl (det_add rfl rfl) rfl rfl trivial ?_
      refine o1 rfl (det_assign rfl) rfl rfl trivial ?_
      refine be rfl ?_
      refine k_then ?_
      refine t_seq ?_
      refine b0 ?_
      obtain ⟨st, hst⟩ : ∃ st : Int, 1 + bs[(s.j : Int).toNat] % 20 * 100 = st := ⟨_, rfl⟩
      have hstr : 1 ≤ st ∧ st ≤ 4095 := by omega
      rw [hst]
      obtain ⟨l2, q, er, he⟩ : ∃ l2 q er, nextL s.l st = ((l2, q), er) := ⟨_, _, _, rfl⟩
      have hlaw := runs_law hR.ok hstr hR.R he
      have hll := next_len he
      refine o1 rfl (det_move rfl) rfl rfl trivial ?_
      refine o1 rfl (det_move rfl) rfl rfl trivial ?_
      refine oF nofun rfl hb18 rfl rfl rfl trivial (fun w1 hs => (next_ok hs.know hR.q (by rw [hR.q.len]; have := (okL_iff.1 hR.ok).1; omega) hR.hn hR.hm he).any) (fun v3 F3 hF3 hN3 ⟨A3, n3, c3, hv, hn3, hm3, hP3⟩ => ?_)
      subst hv
      
      refine o1 rfl (det_move rfl) rfl rfl trivial ?_
      refine o1 rfl (det_extract rfl rfl) rfl rfl trivial ?_
      refine o1 rfl (det_extract rfl rfl) rfl rfl trivial ?_
      refine o1 rfl (det_extract rfl rfl) rfl rfl trivial ?_
      refine o1 rfl (det_assign rfl) rfl rfl trivial ?_
      refine o1 rfl (det_assign rfl) rfl rfl trivial ?_
      refine o1 rfl (det_assign rfl) rfl rfl trivial ?_
      refine be rfl ?_
      refine k_then ?_
      refine t_seq ?_
      refine t_seq ?_
      refine b0 ?_
      refine o1 rfl (det_move rfl) rfl rfl trivial ?_
      refine o1 rfl (det_move rfl) rfl rfl trivial ?_
      refine o1 rfl (det_lookup2 mp48 rfl rfl (.head _) hM) rfl rfl trivial ?_
      refine o1 rfl (det_move rfl) rfl rfl trivial ?_
      refine o1 rfl (det_extract rfl rfl) rfl rfl trivial ?_
      refine o1 rfl (det_extract rfl rfl) rfl rfl trivial ?_
      refine o1 rfl (det_assign rfl) rfl rfl trivial ?_
      refine o1 rfl (det_assign rfl) rfl rfl trivial ?_
      refine be rfl ?_
      refine k_then ?_
      refine t_seq ?_
      refine t_merge (env0 := [(5, _), (6, _), (11, _), (12, _), (13, _), (14, _), (42, _), (43, _), (44, _)]) ⟨rfl, rfl, rfl, rfl, rfl, rfl, rfl, rfl, rfl, trivial⟩ 72 (.bool (decide (getM s.ms st = none ∧ s.ms.length = 12))) ?_ (fun hK => ?_)
      ·
        refine k_then ?_
        refine t_condP decide_eq_true_iff rfl (fun hb => ?_) (fun hb => ?_)
        ·
          have hnone : getM s.ms st = none ∧ s.ms.length = 12 := by grind
          have he7 : er = 7 := by grind
          refine t_seq ?_
          refine t_seq ?_
          refine b0 ?_
          refine o1 rfl (det_move rfl) rfl rfl trivial ?_
          refine o1 rfl (det_neq rfl rfl) rfl rfl trivial ?_
          refine be rfl ?_
          refine k_then ?_
          refine t_condP bne_iff_ne rfl (fun hb => ?_) (fun hb => ?_)
          · exfalso; exact hb he7
          refine t_skip ?_
          refine k_then ?_
          refine t_exit ?_
          refine k_thenE ?_
          refine k_blkE ?_
          refine k_then ?_
          refine b0 ?_
          first | (refine o1 rfl (det_addI rfl rfl ?_) rfl rfl trivial ?_; (· omega)) | refine o1 rfl (det_add rfl rfl) rfl rfl trivial ?_
          refine o1 rfl (det_move rfl) rfl rfl trivial ?_
          refine be rfl ?_
          refine k_then ?_
          refine loop_backK ⟨s.F, s.j + 1, s.A, s.n, s.c, s.l, s.ms, s.ob⟩ ⟨by show s.j + 1 ≤ _; omega, hR.F, hR.q, hR.hn, hR.hm, hR.ok, hR.M, hR.R⟩ (by simp only; omega) (fun a u h => hF3 a u h) ⟨rfl, rfl, rfl, rfl, rfl, trivial⟩ (.refl _)
        ·
          have hsome : ¬ (getM s.ms st = none ∧ s.ms.length = 12) := by grind
          obtain ⟨he0, hq0, hq3, hq4, hq5, hq6⟩ : er = 0 ∧ q = (getM s.ms st).getD 0 ∧ okL l2 = true ∧ MR l2 (setM s.ms st (aft q 1)) ∧ 0 ≤ q ∧ q ≤ 65535 := (hlaw.resolve_left (fun h => hsome ⟨h.1, h.2.1⟩)).2
          refine t_skip ?_
          refine k_then ?_
          refine t_seq ?_
          refine t_seq ?_
          refine t_merge (env0 := [(5, _), (6, _), (11, _), (12, _), (13, _), (42, _), (43, _), (44, _)]) ⟨rfl, rfl, rfl, rfl, rfl, rfl, rfl, rfl, trivial⟩ 88 (.bool false) ?_ (fun hK => ?_)
          ·
            refine k_then ?_
            refine t_condF rfl ?_
            refine t_skip ?_
            refine k_then ?_
            refine t_seq ?_
            refine b0 ?_
            refine o1 rfl (det_move rfl) rfl rfl trivial ?_
            refine o1 rfl (det_assign rfl) rfl rfl trivial ?_
            refine be rfl ?_
            refine k_then ?_
            refine b0 ?_
            refine o1 rfl (det_move rfl) rfl rfl trivial ?_
            refine o1 rfl (det_move rfl) rfl rfl trivial ?_
            refine o1 rfl (det_move rfl) rfl rfl trivial ?_
            first | (refine o1 rfl (det_addI rfl rfl ?_) rfl rfl trivial ?_; (· omega)) | refine o1 rfl (det_add rfl rfl) rfl rfl trivial ?_
            first | (refine o1 rfl (det_remP rfl rfl ?_) rfl rfl trivial ?_; (· omega)) | (refine o1 rfl (det_rem rfl rfl ?_) rfl rfl trivial ?_; (· (first | decide | omega)))
            refine oMap nofun rfl mp48 rfl rfl rfl trivial hM (List.perm_middle (l₁ := [])) (fun ob hM => ?_)
            refine be rfl ?_
            refine k_blk ?_
            refine k_then ?_
            refine b0 ?_
            first | (refine o1 rfl (det_addI rfl rfl ?_) rfl rfl trivial ?_; (· omega)) | refine o1 rfl (det_add rfl rfl) rfl rfl trivial ?_
            refine o1 rfl (det_move rfl) rfl rfl trivial ?_
            refine be rfl ?_
            refine k_then ?_
            refine loop_backK ⟨F3, s.j + 1, A3, n3, c3, l2, setM s.ms st (aft q 1), ob⟩ ⟨by show s.j + 1 ≤ _; omega, fun a u h => hF3 a u (hR.F a u h), hP3, hn3, hm3, hq3, hM, hq4⟩ (by simp only; omega) incl_refl ⟨rfl, rfl, rfl, rfl, rfl, trivial⟩ (.refl _)
          ·
            refine b0 ?_
            refine o1 rfl (det_move rfl) rfl rfl trivial ?_
            refine o1 rfl (det_neq rfl rfl) rfl rfl trivial ?_
            refine o2P bne_iff_ne rfl (det_move rfl) rfl rfl trivial (fun hb => ?_) (fun hb => ?_)
            ·
              refine on rfl rfl rfl ⟨_, rfl, .inl rfl⟩ ?_
              refine on rfl rfl rfl ⟨_, rfl, .inl rfl⟩ ?_
              refine on rfl rfl rfl ⟨_, rfl, .inl rfl⟩ ?_
              refine on rfl rfl rfl ⟨_, rfl, .inl rfl⟩ ?_
              refine on rfl rfl rfl ⟨_, rfl, .inl rfl⟩ ?_
              refine o1 rfl (det_pickT rfl rfl) rfl rfl trivial ?_
              refine o1 rfl (det_move rfl) rfl rfl trivial ?_
              refine on rfl rfl rfl ⟨_, rfl, .inl rfl⟩ ?_
              refine on rfl rfl rfl ⟨_, rfl, .inl rfl⟩ ?_
              refine on rfl rfl rfl ⟨_, rfl, .inl rfl⟩ ?_
              refine o1 rfl (det_pickT rfl rfl) rfl rfl trivial ?_
              refine be rfl ?_
              refine tk_drop ?_ (.refl _) hK
              exact ⟨(mb rfl (by first | rfl | (exfalso; exact hb rfl) | (exfalso; simp at hb; done) | grind)), rfl, rfl, rfl, rfl, rfl, rfl, rfl, rfl, trivial⟩
            ·
              refine o1 rfl (det_move rfl) rfl rfl ⟨_, rfl, rfl⟩ ?_
              refine o1 rfl (det_move rfl) rfl rfl ⟨_, rfl, rfl⟩ ?_
              refine o1 rfl (det_move rfl) rfl rfl ⟨_, rfl, rfl⟩ ?_
              refine o1 rfl (det_lookup1 mp48 rfl rfl (.head _) hM) rfl rfl ⟨_, rfl, rfl⟩ ?_
              refine o1 rfl (det_neq rfl rfl) rfl rfl ⟨_, rfl, rfl⟩ ?_
              refine o1 rfl (det_pickF rfl rfl) rfl rfl trivial ?_
              refine o2P bne_iff_ne rfl (det_move rfl) rfl rfl trivial (fun hb => ?_) (fun hb => ?_)
              ·
                refine on rfl rfl rfl ⟨_, rfl, .inl rfl⟩ ?_
                refine on rfl rfl rfl ⟨_, rfl, .inl rfl⟩ ?_
                refine on rfl rfl rfl ⟨_, rfl, .inl rfl⟩ ?_
                refine o1 rfl (det_pickT rfl rfl) rfl rfl trivial ?_
                refine be rfl ?_
                refine tk_drop ?_ (.refl _) hK
                exact ⟨(mb rfl (by first | rfl | (exfalso; exact hb rfl) | (exfalso; simp at hb; done) | grind)), rfl, rfl, rfl, rfl, rfl, rfl, rfl, rfl, trivial⟩
              ·
                refine o1 rfl (det_move rfl) rfl rfl ⟨_, rfl, rfl⟩ ?_
                refine o1 rfl (det_call hb19 rfl rfl (fun w1 hs => check_at hs.know hP3 (show _ = (0 : Int) by rw [hq3]; rfl))) rfl rfl ⟨_, rfl, rfl⟩ ?_
                refine o1 rfl (det_neq rfl rfl) rfl rfl ⟨_, rfl, rfl⟩ ?_
                refine o1 rfl (det_pickF rfl rfl) rfl rfl trivial ?_
                refine be rfl ?_
                refine tk_drop ?_ (.refl _) hK
                exact ⟨(mb rfl (by first | rfl | (exfalso; exact hb rfl) | (exfalso; simp at hb; done) | grind)), rfl, rfl, rfl, rfl, rfl, rfl, rfl, rfl, trivial⟩
      ·
        refine b0 ?_
        refine o1 rfl (det_move rfl) rfl rfl trivial ?_
        refine o1 rfl (det_not rfl) rfl rfl trivial ?_
        refine o2P not_iff_false rfl (det_move rfl) rfl rfl trivial (fun hb => ?_) (fun hb => ?_)
        ·
          refine o1 rfl (det_move rfl) rfl rfl ⟨_, rfl, rfl⟩ ?_
          refine o1 rfl (det_lenM mp48 rfl (.head _) hM) rfl rfl ⟨_, rfl, rfl⟩ ?_
          refine o1 rfl (det_eql rfl rfl) rfl rfl ⟨_, rfl, rfl⟩ ?_
          refine o1 rfl (det_pickT rfl rfl) rfl rfl trivial ?_
          refine be rfl ?_
          refine tk_drop ?_ (.refl _) hK
          exact ⟨(mb rfl (by cases hg0 : getM s.ms st with | none => (first | (exfalso; rw [hg0] at hb; simp at hb; done) | (rw [Bool.eq_iff_iff]; simp; omega)) | some v => (first | (exfalso; rw [hg0] at hb; simp at hb; done) | simp))), rfl, rfl, rfl, rfl, rfl, rfl, rfl, rfl, rfl, trivial⟩
        ·
          refine on rfl rfl rfl ⟨_, rfl, .inl rfl⟩ ?_
          refine on rfl rfl rfl ⟨_, rfl, .inl rfl⟩ ?_
          refine on rfl rfl rfl ⟨_, rfl, .inl rfl⟩ ?_
          refine o1 rfl (det_pickF rfl rfl) rfl rfl trivial ?_
          refine be rfl ?_
          refine tk_drop ?_ (.refl _) hK
          exact ⟨(mb rfl (by cases hg0 : getM s.ms st with | none => (first | (exfalso; rw [hg0] at hb; simp at hb; done) | (rw [Bool.eq_iff_iff]; simp; omega)) | some v => (first | (exfalso; rw [hg0] at hb; simp at hb; done) | simp))), rfl, rfl, rfl, rfl, rfl, rfl, rfl, rfl, rfl, trivial⟩
    ·
      skip
      refine t_exit ?_
      refine k_thenE ?_
      refine k_thenE ?_
      refine k_blkE ?_
      refine k_then ?_
      refine t_seq ?_
      refine t_seq ?_
      refine b0 ?_
      refine o1 rfl (det_move rfl) rfl rfl trivial ?_
      refine o1 rfl (det_lenS sl46 rfl) rfl rfl trivial ?_
      refine o1 rfl (det_move rfl) rfl rfl trivial ?_
      refine o1 rfl (det_lenM mp48 rfl (.head _) hM) rfl rfl trivial ?_
      refine o1 rfl (det_neq rfl rfl) rfl rfl trivial ?_
      refine be rfl ?_
      refine k_then ?_
      refine t_condP bne_iff_ne rfl (fun hb => ?_) (fun hb => ?_)
      · exfalso; have := hR.R.2; have := hR.q.len; omega
      refine t_skip ?_
      refine k_then ?_
      refine t_seq ?_
      refine t_seq ?_
      refine b0 ?_
      refine o1 rfl (det_move rfl) rfl rfl trivial ?_
      refine o1 rfl (det_lenS sl46 rfl) rfl rfl trivial ?_
      refine o1 rfl (det_move rfl) rfl rfl trivial ?_
      refine be rfl ?_
      refine k_then ?_
      refine t_block ?_
      refine t_whileM (σ := Nat) (fun k => [(103, .int .i64 k)]) (fun _ => _) (fun k => s.l.length - k) (fun k => k ≤ s.l.length) 0 (env0 := [(6, _), (101, _), (102, _)]) (Nat.zero_le _) ⟨rfl, trivial⟩ ⟨rfl, rfl, rfl, trivial⟩ (.refl _) ?_
      intro k hk
      have hl12 := (okL_iff.1 hR.ok).1
      refine t_seq ?_
      refine b0 ?_
      refine o1 rfl (det_lss rfl rfl) rfl rfl trivial ?_
      refine be rfl ?_
      refine k_then ?_
      refine t_seq ?_
      refine t_condP decide_eq_true_iff rfl (fun hb => ?_) (fun hb => ?_)
      ·
        have hlt : k < s.l.length := by have := hR.q.len; omega
        obtain ⟨a, ha⟩ := hR.q.some hlt
        have hat := (atC_get hlt).symm
        have hg : getM s.ms s.l[k].st = some s.l[k].nx := by rw [hR.R.1, hat]; exact Go.Sq.get_at hR.ok hlt
        have hq := hR.q
        rw [ha] at hq ⊢
        refine t_skip ?_
        refine k_then ?_
        refine t_seq ?_
        refine t_block ?_
        refine t_seq ?_
        refine b0 ?_
        first | (refine o1 rfl (det_indexAddr sl46 rfl rfl ?_) rfl rfl trivial ?_; (· (first | decide | omega)))
        refine o1 rfl (det_loadKN tN50 rfl (ctv_len s.l[k]) (hq.cells (i := (k : Int)) (k := k) (Int.toNat_natCast k) hlt (ctv_len _))) rfl rfl trivial ?_
        refine om1 rfl (new_alloc z50) rfl rfl trivial (fun p18 => ?_)
        refine stN nofun rfl tN50 rfl rfl rfl .head rfl trivial rfl rfl ?_
        refine be rfl ?_
        refine k_then ?_
        refine t_seq ?_
        refine b0 ?_
        refine o1 rfl (det_move rfl) rfl rfl trivial ?_
        refine o1 rfl (det_fieldAddr fld50_0 rfl) rfl rfl trivial ?_
        refine o1 rfl (det_load1 t1_3 rfl rfl (.head _) rfl) rfl rfl trivial ?_
        refine o1 rfl (det_lookup2 mp48 rfl rfl (.tail _ (.head _)) hM) rfl rfl trivial ?_
        refine o1 rfl (det_move rfl) rfl rfl trivial ?_
        refine o1 rfl (det_extract rfl rfl) rfl rfl trivial ?_
        refine o1 rfl (det_extract rfl rfl) rfl rfl trivial ?_
        refine o1 rfl (det_assign rfl) rfl rfl trivial ?_
        refine o1 rfl (det_assign rfl) rfl rfl trivial ?_
        refine be rfl ?_
        refine k_then ?_
        refine t_seq ?_
        refine t_merge (env0 := [(6, _), (101, _), (102, _), (103, _)]) ⟨rfl, rfl, rfl, rfl, trivial⟩ 121 (.bool false) ?_ (fun hK => ?_)
        ·
          refine k_then ?_
          refine t_condF rfl ?_
          refine t_skip ?_
          refine k_blk ?_
          refine k_then ?_
          refine b0 ?_
          first | (refine o1 rfl (det_addI rfl rfl ?_) rfl rfl trivial ?_; (· omega)) | refine o1 rfl (det_add rfl rfl) rfl rfl trivial ?_
          refine o1 rfl (det_move rfl) rfl rfl trivial ?_
          refine be rfl ?_
          refine k_then ?_
          refine loop_back (k + 1) (by omega) (by omega) ⟨rfl, rfl, rfl, rfl, trivial⟩ (.cons _ (.refl _))
        ·
          refine b0 ?_
          refine o1 rfl (det_move rfl) rfl rfl trivial ?_
          refine o1 rfl (det_not rfl) rfl rfl trivial ?_
          refine o2P not_iff_false rfl (det_move rfl) rfl rfl trivial (fun hb => ?_) (fun hb => ?_)
          ·
            refine on rfl rfl rfl ⟨_, rfl, .inl rfl⟩ ?_
            refine on rfl rfl rfl ⟨_, rfl, .inl rfl⟩ ?_
            refine on rfl rfl rfl ⟨_, rfl, .inl rfl⟩ ?_
            refine on rfl rfl rfl ⟨_, rfl, .inl rfl⟩ ?_
            refine o1 rfl (det_pickT rfl rfl) rfl rfl trivial ?_
            refine be rfl ?_
            refine tk_drop ?_ (.refl _) hK
            exact ⟨(mb rfl (by first | (exfalso; rw [hg] at hb; simp at hb; done) | (rw [hg]; simp; done) | rfl)), rfl, rfl, rfl, rfl, trivial⟩
          ·
            refine o1 rfl (det_move rfl) rfl rfl ⟨_, rfl, rfl⟩ ?_
            refine o1 rfl (det_fieldAddr fld50_1 rfl) rfl rfl ⟨_, rfl, rfl⟩ ?_
            refine o1 rfl (det_load1 t1_3 rfl rfl (.head _) rfl) rfl rfl ⟨_, rfl, rfl⟩ ?_
            refine o1 rfl (det_neq rfl rfl) rfl rfl ⟨_, rfl, rfl⟩ ?_
            refine o1 rfl (det_pickF rfl rfl) rfl rfl trivial ?_
            refine be rfl ?_
            refine tk_drop ?_ (.refl _) hK
            exact ⟨(mb rfl (by first | (exfalso; rw [hg] at hb; simp at hb; done) | (rw [hg]; simp; done) | rfl)), rfl, rfl, rfl, rfl, trivial⟩
      ·
        skip
        refine t_exit ?_
        refine k_thenE ?_
        refine k_thenE ?_
        refine k_blkE ?_
        refine k_then ?_
        refine t_seq ?_
        refine b0 ?_
        refine o1 rfl (det_assign rfl) rfl rfl trivial ?_
        refine be rfl ?_
        refine k_then ?_
        refine t_ret ?_
        refine ret_tmp rfl rfl rfl (fun w1 hs => ?_)
        exact ⟨rfl, hs.keep⟩

end Go.Proofs.Sq
