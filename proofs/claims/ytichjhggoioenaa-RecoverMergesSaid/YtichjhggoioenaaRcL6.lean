/-
  Walks through layer 40 and its reference.
-/
import Derived.Test.YtichjhggoioenaaRcL0
import Derived.Test.YtichjhggoioenaaRcPlain10
namespace Go.Proofs.Rc
open Go Go.Eng Go.Rc
set_option maxRecDepth 4000

/-- RecoverMerges. -/
theorem merges_ok {w : World} {F : Know} (hF : ∀ a v, F a = some v → w.cell? a = some v) {ln lg fi : Int} (hln : 0 ≤ ln ∧ ln ≤ 255) (hlg : 0 ≤ lg ∧ lg ≤ 255) (hfi : 0 ≤ fi ∧ fi ≤ 65535) {LA : Option Addr} {an ac : Nat} {L : List Int} (hL : IntsK F .u8 LA an L) (hac : an ≤ ac) : Pure Try.prog 6 [.int .u8 ln, .int .u8 lg, .int .u16 fi, .slice LA an ac] w (.bool true) := by
  refine fn_pure (F := F) Try.func6 rfl Try.ntmps6 rfl hF ?_
  refine t_seq ?_
  refine b0 ?_
  refine o1 rfl (det_assign rfl) rfl rfl trivial ?_
  refine be rfl ?_
  refine k_then ?_
  refine t_seq ?_
  refine t_seq ?_
  refine b0 ?_
  refine o1 rfl (det_call hb9 rfl rfl (fun w1 hs => works_ok hs.know)) rfl rfl trivial ?_
  refine o1 rfl (det_not rfl) rfl rfl trivial ?_
  refine be rfl ?_
  refine k_then ?_
  refine t_condP not_iff_false rfl (fun hb => ?_) (fun hb => ?_)
  · exfalso; simp at hb
  refine t_skip ?_
  refine k_then ?_
  refine t_seq ?_
  refine b0 ?_
  refine o1 rfl (det_move rfl) rfl rfl trivial ?_
  first | (refine o1 rfl (det_remP rfl rfl ?_) rfl rfl trivial ?_; (· omega)) | (refine o1 rfl (det_rem rfl rfl ?_) rfl rfl trivial ?_; (· (first | decide | omega)))
  first | (refine o1 rfl (det_convW Try.underlying5 Try.underlying3 rfl ?_) rfl rfl trivial ?_; (· exact IntWalk.i64_in _ (by omega))) | refine o1 rfl (det_conv Try.underlying5 Try.underlying3 rfl) rfl rfl trivial ?_
  first | (refine o1 rfl (det_addI rfl rfl ?_) rfl rfl trivial ?_; (· omega)) | refine o1 rfl (det_add rfl rfl) rfl rfl trivial ?_
  refine o1 rfl (det_assign rfl) rfl rfl trivial ?_
  refine be rfl ?_
  refine k_then ?_
  refine t_seq ?_
  refine b0 ?_
  obtain ⟨n, hnn⟩ : ∃ n : Int, 2 + ln % 63 = n := ⟨_, rfl⟩
  rw [hnn]
  have hn : 2 ≤ n ∧ n ≤ 64 := by omega
  refine o1 rfl (det_move rfl) rfl rfl trivial ?_
  first | (refine o1 rfl (det_convW Try.underlying5 Try.underlying3 rfl ?_) rfl rfl trivial ?_; (· exact IntWalk.i64_in _ (by omega))) | refine o1 rfl (det_conv Try.underlying5 Try.underlying3 rfl) rfl rfl trivial ?_
  refine o1 rfl (det_move rfl) rfl rfl trivial ?_
  first | (refine o1 rfl (det_subI rfl rfl ?_) rfl rfl trivial ?_; (· omega)) | refine o1 rfl (det_sub rfl rfl) rfl rfl trivial ?_
  first | (refine o1 rfl (det_remP rfl rfl ?_) rfl rfl trivial ?_; (· omega)) | (refine o1 rfl (det_rem rfl rfl ?_) rfl rfl trivial ?_; (· (first | decide | omega)))
  refine o1 rfl (det_assign rfl) rfl rfl trivial ?_
  refine be rfl ?_
  refine k_then ?_
  refine t_seq ?_
  refine b0 ?_
  have hmb : 0 ≤ lg % (n - 1) ∧ lg % (n - 1) < n - 1 := ⟨Int.emod_nonneg lg (by omega), Int.emod_lt_of_pos lg (by omega)⟩
  obtain ⟨b, hbb⟩ : ∃ b : Int, lg % (n - 1) = b := ⟨_, rfl⟩
  rw [hbb] at hmb ⊢
  have hb9 : 0 ≤ b ∧ b ≤ n - 2 := by omega
  refine o1 rfl (det_move rfl) rfl rfl trivial ?_
  refine o1 rfl (det_call hb16 rfl rfl (fun w1 hs => new_at hs.know (show okR (anyR n 1) = true from ok_any (by omega) (by decide)))) rfl rfl trivial ?_
  refine o1 rfl (det_move rfl) rfl rfl trivial ?_
  refine o1 rfl (det_extract rfl rfl) rfl rfl trivial ?_
  refine o1 rfl (det_extract rfl rfl) rfl rfl trivial ?_
  refine om1 rfl (new_alloc z24) rfl rfl trivial (fun p11 => ?_)
  refine stN nofun rfl tN24 rfl rfl rfl .head rfl trivial rfl rfl ?_
  refine o1 rfl (det_assign rfl) rfl rfl trivial ?_
  refine be rfl ?_
  refine k_then ?_
  refine t_seq ?_
  refine t_seq ?_
  refine b0 ?_
  refine o1 rfl (det_move rfl) rfl rfl trivial ?_
  refine o1 rfl (det_neq rfl rfl) rfl rfl trivial ?_
  refine be rfl ?_
  refine k_then ?_
  refine t_condP bne_iff_ne rfl (fun hb => ?_) (fun hb => ?_)
  · exfalso; exact hb rfl
  refine t_skip ?_
  refine k_then ?_
  refine t_seq ?_
  refine b0 ?_
  refine o1 rfl (det_move rfl) rfl rfl trivial ?_
  refine o1 rfl (det_lenS sl60 rfl) rfl rfl trivial ?_
  refine o1 rfl (det_min2 rfl rfl) rfl rfl trivial ?_
  obtain ⟨m, hm⟩ : ∃ m : Nat, min (an : Int) 150 = (m : Int) := ⟨(min (an : Int) 150).toNat, by omega⟩
  have hmn : m ≤ an ∧ m ≤ 150 := by omega
  rw [hm]
  refine o1 rfl (det_assign rfl) rfl rfl trivial ?_
  refine be rfl ?_
  refine k_then ?_
  refine t_seq ?_
  refine b0 ?_
  refine o1 rfl (det_move rfl) rfl rfl trivial ?_
  refine om1 rfl (new_makeSlice mk32 rfl rfl (by omega) (by omega) (by omega) (by omega)) rfl rfl trivial (fun p45 => ?_)
  refine o1 rfl (det_assign rfl) rfl rfl trivial ?_
  refine be rfl ?_
  refine k_then ?_
  refine t_seq ?_
  refine t_seq ?_
  refine b0 ?_
  rw [flat_one, Int.toNat_natCast, cv_rep]
  refine o1 rfl (det_move rfl) rfl rfl trivial ?_
  refine o1 rfl (det_move rfl) rfl rfl trivial ?_
  first | (refine o1 rfl (det_addI rfl rfl ?_) rfl rfl trivial ?_; (· omega)) | refine o1 rfl (det_add rfl rfl) rfl rfl trivial ?_
  refine o1 rfl (det_move rfl) rfl rfl trivial ?_
  refine be rfl ?_
  refine k_then ?_
  refine t_block ?_
  refine t_whileM (σ := MS) (fun s => [(49, .int .i64 s.k)]) (fun s => [(p45, .cells (cv s.ct).toArray 3 (0, 0)), (p11, .cells (rcv s.r).toArray 24 (0, 0))]) (fun s => m + b.toNat - s.k) (fun s => MergeI L m n b fi s ∧ s.u = 0 ∧ (s.k : Int) ≤ m + b) ⟨0, 0, anyR n 1, List.replicate m 0⟩ (env0 := [(2, _), (3, _), (10, _), (11, _), (13, _), (14, _), (48, _)]) ⟨merge_start L m n b fi hb9.1, rfl, by show ((0 : Nat) : Int) ≤ _; omega⟩ ⟨rfl, trivial⟩ ⟨rfl, rfl, rfl, rfl, rfl, rfl, rfl, trivial⟩ (.refl _) ?_
  rintro s0 ⟨hI0, hu0, hks⟩
  refine t_seq ?_
  refine b0 ?_
  refine o1 rfl (det_lss rfl rfl) rfl rfl trivial ?_
  refine be rfl ?_
  refine k_then ?_
  refine t_seq ?_
  refine t_condP decide_eq_true_iff rfl (fun hb => ?_) (fun hb => ?_)
  ·
    have hk1 : (s0.k : Int) < m + b := hb
    refine t_skip ?_
    refine k_then ?_
    refine t_seq ?_
    refine t_block ?_
    refine t_seq ?_
    refine b0 ?_
    refine o1 rfl (det_move rfl) rfl rfl trivial ?_
    refine o1 rfl (det_assign rfl) rfl rfl trivial ?_
    refine be rfl ?_
    refine k_then ?_
    refine t_seq ?_
    refine b0 ?_
    refine o1 rfl (det_move rfl) rfl rfl trivial ?_
    refine o1 rfl (det_move rfl) rfl rfl trivial ?_
    refine o1 rfl (det_move rfl) rfl rfl trivial ?_
    first | (refine o1 rfl (det_subI rfl rfl ?_) rfl rfl trivial ?_; (· omega)) | refine o1 rfl (det_sub rfl rfl) rfl rfl trivial ?_
    refine o1 rfl (det_build rfl (fun w => bld46_0_1 _ _ w)) rfl rfl trivial ?_
    refine o1 rfl (det_move rfl) rfl rfl trivial ?_
    refine be rfl ?_
    refine k_then ?_
    refine t_block ?_
    refine t_whileM (σ := MS) (fun s => [(57, .int .i64 s.u)]) (fun s => [(p45, .cells (cv s.ct).toArray 3 (0, 0)), (p11, .cells (rcv s.r).toArray 24 (0, 0))]) (fun s => 2 - s.u) (fun s => MergeI L m n b fi s ∧ s.u ≤ 2 ∧ s.k = s0.k) s0 (env0 := [(2, _), (3, _), (10, _), (11, _), (13, _), (14, _), (48, _), (49, _), (56, _)]) ⟨hI0, by omega, rfl⟩ ⟨(by rw [hu0]; rfl), trivial⟩ ⟨rfl, rfl, rfl, rfl, rfl, rfl, rfl, rfl, rfl, trivial⟩ (.refl _) ?_
    rintro s ⟨hI, hul, hk0⟩
    refine t_seq ?_
    refine b0 ?_
    refine o1 rfl (det_lss rfl rfl) rfl rfl trivial ?_
    refine be rfl ?_
    refine k_then ?_
    refine t_seq ?_
    refine t_condP decide_eq_true_iff rfl (fun hb => ?_) (fun hb => ?_)
    ·
      have hu2 : s.u < 2 := by omega
      have hx : nthV [Value.int .i64 s0.k, .int .i64 (s0.k - b)] (s.u : Int).toNat = some (.int .i64 (frK s.k b s.u)) := by
        rw [← hk0]
        have h6 : s.u = 0 ∨ s.u = 1 := by omega
        unfold frK
        rcases h6 with h | h <;> rw [h] <;> rfl
      obtain ⟨f, hfe⟩ : ∃ f, (frK s.k b s.u) = f := ⟨_, rfl⟩
      rw [hfe] at hx
      refine t_skip ?_
      refine k_then ?_
      refine t_seq ?_
      refine t_block ?_
      refine t_seq ?_
      refine b0 ?_
      refine o1 rfl (det_move rfl) rfl rfl trivial ?_
      refine o1 rfl (det_index1 ar46 t1_3 rfl rfl (by omega) hx) rfl rfl trivial ?_
      refine o1 rfl (det_assign rfl) rfl rfl trivial ?_
      refine o1 rfl (det_assign rfl) rfl rfl trivial ?_
      refine be rfl ?_
      refine k_then ?_
      refine t_seq ?_
      refine t_seq ?_
      refine t_merge (env0 := [(2, _), (3, _), (10, _), (11, _), (13, _), (14, _), (17, _), (48, _), (49, _), (56, _), (57, _)]) ⟨rfl, rfl, rfl, rfl, rfl, rfl, rfl, rfl, rfl, rfl, rfl, trivial⟩ 78 (.bool (!(arrB L m s.u f))) ?_ (fun hK => ?_)
      ·
        refine k_then ?_
        refine t_condP Iff.rfl rfl (fun hb => ?_) (fun hb => ?_)
        ·
          have harr : arrB L m s.u f = false := by simpa using hb
          refine t_exit ?_
          refine k_thenE ?_
          refine k_blkE ?_
          refine k_then ?_
          refine b0 ?_
          first | (refine o1 rfl (det_addI rfl rfl ?_) rfl rfl trivial ?_; (· omega)) | refine o1 rfl (det_add rfl rfl) rfl rfl trivial ?_
          refine o1 rfl (det_move rfl) rfl rfl trivial ?_
          refine be rfl ?_
          refine k_then ?_
          refine loop_back { s with u := s.u + 1 } ⟨hI.none hu2 hb9.1 (by rw [hfe]; exact harr), by show s.u + 1 ≤ 2; omega, hk0⟩ (by show 2 - (s.u + 1) < 2 - s.u; omega) ⟨rfl, rfl, rfl, rfl, rfl, rfl, rfl, rfl, rfl, rfl, trivial⟩ (.refl _)
        ·
          have harr : arrB L m s.u f = true := by simpa using hb
          have hfm : 0 ≤ f ∧ f < m := by unfold arrB at harr; have := of_decide_eq_true harr; omega
          refine t_skip ?_
          refine k_then ?_
          refine t_seq ?_
          refine b0 ?_
          refine o1 rfl (det_loadN tN24 rfl rfl (.tail _ (.head _)) rfl) rfl rfl trivial ?_
          refine o1 rfl (det_move rfl) rfl rfl trivial ?_
          first | (refine o1 rfl (det_convW Try.underlying26 Try.underlying3 rfl ?_) rfl rfl trivial ?_; (· exact IntWalk.i64_in _ (by omega))) | refine o1 rfl (det_conv Try.underlying26 Try.underlying3 rfl) rfl rfl trivial ?_
          refine o1 rfl (det_move rfl) rfl rfl trivial ?_
          first | (refine o1 rfl (det_addI rfl rfl ?_) rfl rfl trivial ?_; (· omega)) | refine o1 rfl (det_add rfl rfl) rfl rfl trivial ?_
          first | (refine o1 rfl (det_remP rfl rfl ?_) rfl rfl trivial ?_; (· omega)) | (refine o1 rfl (det_rem rfl rfl ?_) rfl rfl trivial ?_; (· (first | decide | omega)))
          have hstep := merge_step hI hn hb9 hfi hu2 (by omega) (by rw [hfe]; exact harr)
          rw [hfe] at hstep
          obtain ⟨r2, bb, he, hse, hb0, hb1⟩ := hstep
          refine o1 rfl (det_call hb18 rfl rfl (fun w1 hs => accept_ok hs.know hse he)) rfl rfl trivial ?_
          refine o1 rfl (det_move rfl) rfl rfl trivial ?_
          refine o1 rfl (det_extract rfl rfl) rfl rfl trivial ?_
          refine o1 rfl (det_extract rfl rfl) rfl rfl trivial ?_
          refine o1 rfl (det_extract rfl rfl) rfl rfl trivial ?_
          refine om1 rfl (new_alloc z24) rfl rfl trivial (fun p18 => ?_)
          refine stN nofun rfl tN24 rfl rfl rfl .head rfl trivial rfl rfl ?_
          refine o1 rfl (det_assign rfl) rfl rfl trivial ?_
          refine o1 rfl (det_assign rfl) rfl rfl trivial ?_
          refine be rfl ?_
          refine k_then ?_
          refine t_seq ?_
          refine t_seq ?_
          refine b0 ?_
          refine o1 rfl (det_move rfl) rfl rfl trivial ?_
          refine o1 rfl (det_neq rfl rfl) rfl rfl trivial ?_
          refine be rfl ?_
          refine k_then ?_
          refine t_condP bne_iff_ne rfl (fun hb => ?_) (fun hb => ?_)
          · exfalso; exact hb rfl
          refine t_skip ?_
          refine k_then ?_
          refine t_seq ?_
          refine b0 ?_
          refine o1 rfl (det_loadN tN24 rfl rfl (.head _) rfl) rfl rfl trivial ?_
          refine stN nofun rfl tN24 rfl rfl rfl (.tail (.tail .head)) rfl trivial rfl rfl ?_
          refine be rfl ?_
          refine k_then ?_
          refine t_seq ?_
          refine b0 ?_
          refine o1 rfl (det_move rfl) rfl rfl trivial ?_
          refine be rfl ?_
          refine k_then ?_
          refine t_condP Iff.rfl rfl (fun hb => ?_) (fun hb => ?_)
          ·
            have hbt : bb = true := hb
            refine b0 ?_
            refine o1 rfl (det_move rfl) rfl rfl trivial ?_
            refine o1 rfl (det_move rfl) rfl rfl trivial ?_
            first | (refine o1 rfl (det_indexAddr sl32 rfl rfl ?_) rfl rfl trivial ?_; (· (first | decide | omega)))
            obtain ⟨hc0, hI2⟩ := hb1 hbt
            have hfl : f.toNat < s.ct.length := by rw [hI.len]; omega
            refine o1 rfl (det_load1 t1_3 rfl (by rw [add_mk, Nat.zero_add, Nat.mul_one]) (.tail _ (.head _)) (cv_nth hfl)) rfl rfl trivial ?_
            rw [hc0]
            first | (refine o1 rfl (det_addI rfl rfl ?_) rfl rfl trivial ?_; (· omega)) | refine o1 rfl (det_add rfl rfl) rfl rfl trivial ?_
            first | (refine o1 rfl (det_indexAddr sl32 rfl rfl ?_) rfl rfl trivial ?_; (· (first | decide | omega)))
            refine st1 (p := p45) nofun rfl t1_3 rfl (by rw [add_mk, Nat.zero_add, Nat.mul_one]) rfl (.tail .head) (cv_set hfl) trivial rfl ?_
            refine be rfl ?_
            refine k_blk ?_
            refine k_then ?_
            refine b0 ?_
            first | (refine o1 rfl (det_addI rfl rfl ?_) rfl rfl trivial ?_; (· omega)) | refine o1 rfl (det_add rfl rfl) rfl rfl trivial ?_
            refine o1 rfl (det_move rfl) rfl rfl trivial ?_
            refine be rfl ?_
            refine k_then ?_
            refine loop_back { s with u := s.u + 1, r := r2, ct := s.ct.set f.toNat (0 + 1) } ⟨hI2, by show s.u + 1 ≤ 2; omega, hk0⟩ (by show 2 - (s.u + 1) < 2 - s.u; omega) ⟨rfl, rfl, rfl, rfl, rfl, rfl, rfl, rfl, rfl, rfl, trivial⟩ (.cons _ (.refl _))
          ·
            have hbf : bb = false := by simpa using hb
            refine t_skip ?_
            refine k_blk ?_
            refine k_then ?_
            refine b0 ?_
            first | (refine o1 rfl (det_addI rfl rfl ?_) rfl rfl trivial ?_; (· omega)) | refine o1 rfl (det_add rfl rfl) rfl rfl trivial ?_
            refine o1 rfl (det_move rfl) rfl rfl trivial ?_
            refine be rfl ?_
            refine k_then ?_
            refine loop_back { s with u := s.u + 1, r := r2 } ⟨hb0 hbf, by show s.u + 1 ≤ 2; omega, hk0⟩ (by show 2 - (s.u + 1) < 2 - s.u; omega) ⟨rfl, rfl, rfl, rfl, rfl, rfl, rfl, rfl, rfl, rfl, trivial⟩ (.cons _ (.refl _))
      ·
        refine b0 ?_
        refine o1 rfl (det_move rfl) rfl rfl trivial ?_
        refine o1 rfl (det_lss rfl rfl) rfl rfl trivial ?_
        refine o2P decide_eq_true_iff rfl (det_move rfl) rfl rfl trivial (fun hb => ?_) (fun hb => ?_)
        ·
          skip
          refine on rfl rfl rfl ⟨_, rfl, .inl rfl⟩ ?_
          refine on rfl rfl rfl ⟨_, rfl, .inl rfl⟩ ?_
          refine on rfl rfl rfl ⟨_, rfl, .inl rfl⟩ ?_
          refine o1 rfl (det_pickT rfl rfl) rfl rfl trivial ?_
          refine o1 rfl (det_move rfl) rfl rfl trivial ?_
          refine on rfl rfl rfl ⟨_, rfl, .inl rfl⟩ ?_
          refine on rfl rfl rfl ⟨_, rfl, .inl rfl⟩ ?_
          refine on rfl rfl rfl ⟨_, rfl, .inl rfl⟩ ?_
          refine on rfl rfl rfl ⟨_, rfl, .inl rfl⟩ ?_
          refine on rfl rfl rfl ⟨_, rfl, .inl rfl⟩ ?_
          refine on rfl rfl rfl ⟨_, rfl, .inl rfl⟩ ?_
          refine on rfl rfl rfl ⟨_, rfl, .inl rfl⟩ ?_
          refine on rfl rfl rfl ⟨_, rfl, .inl rfl⟩ ?_
          refine on rfl rfl rfl ⟨_, rfl, .inl rfl⟩ ?_
          refine o1 rfl (det_pickT rfl rfl) rfl rfl trivial ?_
          refine be rfl ?_
          refine tk_drop ?_ (.refl _) hK
          exact ⟨(mb rfl (by unfold arrB; grind)), rfl, rfl, rfl, rfl, rfl, rfl, rfl, rfl, rfl, rfl, rfl, trivial⟩
        ·
          skip
          refine o1 rfl (det_move rfl) rfl rfl ⟨_, rfl, rfl⟩ ?_
          refine o1 rfl (det_move rfl) rfl rfl ⟨_, rfl, rfl⟩ ?_
          refine o1 rfl (det_geq rfl rfl) rfl rfl ⟨_, rfl, rfl⟩ ?_
          refine o1 rfl (det_pickF rfl rfl) rfl rfl trivial ?_
          refine o2P decide_eq_true_iff rfl (det_move rfl) rfl rfl trivial (fun hb => ?_) (fun hb => ?_)
          ·
            skip
            refine on rfl rfl rfl ⟨_, rfl, .inl rfl⟩ ?_
            refine on rfl rfl rfl ⟨_, rfl, .inl rfl⟩ ?_
            refine on rfl rfl rfl ⟨_, rfl, .inl rfl⟩ ?_
            refine on rfl rfl rfl ⟨_, rfl, .inl rfl⟩ ?_
            refine on rfl rfl rfl ⟨_, rfl, .inl rfl⟩ ?_
            refine on rfl rfl rfl ⟨_, rfl, .inl rfl⟩ ?_
            refine on rfl rfl rfl ⟨_, rfl, .inl rfl⟩ ?_
            refine on rfl rfl rfl ⟨_, rfl, .inl rfl⟩ ?_
            refine on rfl rfl rfl ⟨_, rfl, .inl rfl⟩ ?_
            refine o1 rfl (det_pickT rfl rfl) rfl rfl trivial ?_
            refine be rfl ?_
            refine tk_drop ?_ (.refl _) hK
            exact ⟨(mb rfl (by unfold arrB; grind)), rfl, rfl, rfl, rfl, rfl, rfl, rfl, rfl, rfl, rfl, rfl, trivial⟩
          ·
            skip
            have hfm : 0 ≤ f ∧ f < m := by omega
            have hlt : f.toNat < L.length := by have := hL.len; omega
            obtain ⟨LA, rfl⟩ := hL.some hlt
            have hLr : 0 ≤ L[f.toNat] ∧ L[f.toNat] ≤ 255 := hL.rng f.toNat hlt
            have hg : L.getD f.toNat 0 = L[f.toNat] := getD_at hlt
            refine o1 rfl (det_move rfl) rfl rfl ⟨_, rfl, rfl⟩ ?_
            refine o1 rfl (det_move rfl) rfl rfl ⟨_, rfl, rfl⟩ ?_
            first | (refine o1 rfl (det_indexAddr sl60 rfl rfl ?_) rfl rfl ⟨_, rfl, rfl⟩ ?_; (· (first | decide | omega)))
            refine o1 rfl (det_loadK t1_5 rfl (hL.cell (i := f) hfm.1 hlt)) rfl rfl ⟨_, rfl, rfl⟩ ?_
            first | (refine o1 rfl (det_remP rfl rfl ?_) rfl rfl ⟨_, rfl, rfl⟩ ?_; (· omega)) | (refine o1 rfl (det_rem rfl rfl ?_) rfl rfl ⟨_, rfl, rfl⟩ ?_; (· (first | decide | omega)))
            refine o1 rfl (det_move rfl) rfl rfl ⟨_, rfl, rfl⟩ ?_
            first | (refine o1 rfl (det_addI rfl rfl ?_) rfl rfl ⟨_, rfl, rfl⟩ ?_; (· omega)) | refine o1 rfl (det_add rfl rfl) rfl rfl ⟨_, rfl, rfl⟩ ?_
            first | (refine o1 rfl (det_convW Try.underlying3 Try.underlying5 rfl ?_) rfl rfl ⟨_, rfl, rfl⟩ ?_; (· exact IntWalk.u8_in _ (by omega))) | refine o1 rfl (det_conv Try.underlying3 Try.underlying5 rfl) rfl rfl ⟨_, rfl, rfl⟩ ?_
            refine o1 rfl (det_eql rfl rfl) rfl rfl ⟨_, rfl, rfl⟩ ?_
            refine o1 rfl (det_pickF rfl rfl) rfl rfl trivial ?_
            refine be rfl ?_
            refine tk_drop ?_ (.refl _) hK
            exact ⟨(mb rfl (by unfold arrB; grind)), rfl, rfl, rfl, rfl, rfl, rfl, rfl, rfl, rfl, rfl, rfl, trivial⟩
    ·
      have hu2 : s.u = 2 := by omega
      refine t_exit ?_
      refine k_thenE ?_
      refine k_thenE ?_
      refine k_blkE ?_
      refine k_blk ?_
      refine k_then ?_
      refine b0 ?_
      first | (refine o1 rfl (det_addI rfl rfl ?_) rfl rfl trivial ?_; (· omega)) | refine o1 rfl (det_add rfl rfl) rfl rfl trivial ?_
      refine o1 rfl (det_move rfl) rfl rfl trivial ?_
      refine be rfl ?_
      refine k_then ?_
      refine loop_back { s with k := s.k + 1, u := 0 } ⟨hI.turn hu2, rfl, by show ((s.k + 1 : Nat) : Int) ≤ _; omega⟩ (by show m + b.toNat - (s.k + 1) < m + b.toNat - s0.k; omega) ⟨(by rw [← hk0]; rfl), rfl, rfl, rfl, rfl, rfl, rfl, rfl, trivial⟩ (.refl _)
  ·
    have hke : (m : Int) + b ≤ s0.k := by omega
    refine t_exit ?_
    refine k_thenE ?_
    refine k_thenE ?_
    refine k_blkE ?_
    refine k_then ?_
    refine t_seq ?_
    refine t_seq ?_
    refine b0 ?_
    refine o1 rfl (det_move rfl) rfl rfl trivial ?_
    refine o1 rfl (det_lenS sl32 rfl) rfl rfl trivial ?_
    refine o1 rfl (det_move rfl) rfl rfl trivial ?_
    refine be rfl ?_
    refine k_then ?_
    refine t_block ?_
    refine t_whileM (σ := Nat) (fun s => [(104, .int .i64 s)]) (fun _ => _) (fun s => m - s) (fun s => s ≤ m) 0 (env0 := [(102, _), (103, _)]) (Nat.zero_le _) ⟨rfl, trivial⟩ ⟨rfl, rfl, trivial⟩ (.refl _) ?_
    rintro s hsm
    refine t_seq ?_
    refine b0 ?_
    refine o1 rfl (det_lss rfl rfl) rfl rfl trivial ?_
    refine be rfl ?_
    refine k_then ?_
    refine t_seq ?_
    refine t_condP decide_eq_true_iff rfl (fun hb => ?_) (fun hb => ?_)
    ·
      have hfl : s < s0.ct.length := by rw [hI0.len]; omega
      refine t_skip ?_
      refine k_then ?_
      refine t_seq ?_
      refine t_block ?_
      refine t_seq ?_
      refine b0 ?_
      first | (refine o1 rfl (det_indexAddr sl32 rfl rfl ?_) rfl rfl trivial ?_; (· (first | decide | omega)))
      refine o1 rfl (det_load1 t1_3 rfl (by rw [add_mk, Nat.zero_add, Nat.mul_one, Int.toNat_natCast]) (.head _) (cv_nth hfl)) rfl rfl trivial ?_
      refine o1 rfl (det_assign rfl) rfl rfl trivial ?_
      refine be rfl ?_
      refine k_then ?_
      refine t_seq ?_
      refine b0 ?_
      refine o1 rfl (det_move rfl) rfl rfl trivial ?_
      refine o1 rfl (det_neq rfl rfl) rfl rfl trivial ?_
      refine be rfl ?_
      refine k_then ?_
      refine t_condP bne_iff_ne rfl (fun hb => ?_) (fun hb => ?_)
      · exfalso; exact hb (merge_end hI0 hke hb9.1 (by omega))
      refine t_skip ?_
      refine k_blk ?_
      refine k_then ?_
      refine b0 ?_
      first | (refine o1 rfl (det_addI rfl rfl ?_) rfl rfl trivial ?_; (· omega)) | refine o1 rfl (det_add rfl rfl) rfl rfl trivial ?_
      refine o1 rfl (det_move rfl) rfl rfl trivial ?_
      refine be rfl ?_
      refine k_then ?_
      refine loop_back (s + 1) (by omega) (by omega) ⟨rfl, rfl, rfl, trivial⟩ (.refl _)
    ·
      skip
      refine t_exit ?_
      refine k_thenE ?_
      refine k_thenE ?_
      refine k_blkE ?_
      refine k_then ?_
      refine t_seq ?_
      refine b0 ?_
      refine o1 rfl (det_assign rfl) rfl rfl trivial ?_
      refine be rfl ?_
      refine k_then ?_
      refine t_ret ?_
      refine ret_tmp rfl rfl rfl (fun w1 hs => ?_)
      exact ⟨rfl, hs.keep⟩

end Go.Proofs.Rc
