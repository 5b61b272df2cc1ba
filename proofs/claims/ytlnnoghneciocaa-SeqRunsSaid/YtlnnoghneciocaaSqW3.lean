/-
  Walks through layer 39 and its reference.
-/
import Derived.Test.YtlnnoghneciocaaSqW2
namespace Go.Proofs.Sq
open Go Go.Eng Go.Sq
set_option maxRecDepth 4000

/-- Check. -/
theorem check_ok {w : World} {F : Know} (hF : ∀ a v, F a = some v → w.cell? a = some v) {A : Option Addr} {n c : Nat} {l : List Ct} (hP : CK F A n l) : Pure Try.prog 19 [.slice A n c] w (.int .i64 (if okL l then 0 else 490)) := by
  refine fn_pure (F := F) Try.func19 rfl Try.ntmps19 rfl hF ?_
  refine t_seq ?_
  refine b0 ?_
  refine o1 rfl (det_assign rfl) rfl rfl trivial ?_
  refine be rfl ?_
  refine k_then ?_
  refine t_seq ?_
  refine t_seq ?_
  refine b0 ?_
  refine o1 rfl (det_move rfl) rfl rfl trivial ?_
  refine o1 rfl (det_lenS sl46 rfl) rfl rfl trivial ?_
  refine o1 rfl (det_gtr rfl rfl) rfl rfl trivial ?_
  refine be rfl ?_
  refine k_then ?_
  refine t_condP decide_eq_true_iff rfl (fun hb => ?_) (fun hb => ?_)
  ·
    skip
    refine t_seq ?_
    refine b0 ?_
    refine o1 rfl (det_assign rfl) rfl rfl trivial ?_
    refine be rfl ?_
    refine k_then ?_
    refine t_ret (k_thenR (?_))
    refine ret_tmp rfl rfl rfl (fun w1 hs => ?_)
    exact ⟨by rw [if_neg (by rw [okL_len (by have := hP.len; omega)]; simp)], hs.keep⟩
  ·
    have hnl := hP.len
    refine t_skip ?_
    refine k_then ?_
    refine t_seq ?_
    refine b0 ?_
    refine o1 rfl (det_assign rfl) rfl rfl trivial ?_
    refine be rfl ?_
    refine k_then ?_
    refine t_seq ?_
    refine t_seq ?_
    refine b0 ?_
    refine o1 rfl (det_move rfl) rfl rfl trivial ?_
    refine o1 rfl (det_lenS sl46 rfl) rfl rfl trivial ?_
    refine o1 rfl (det_move rfl) rfl rfl trivial ?_
    refine be rfl ?_
    refine k_then ?_
    refine t_block ?_
    refine t_whileM (σ := Nat) (fun s => [(3, .int .i64 (lastK l s)), (11, .int .i64 s)]) (fun _ => _) (fun s => l.length - s) (fun s => s ≤ l.length ∧ ∀ k, k < s → okAtC l k = true) 0 (env0 := [(9, _), (10, _)]) ⟨Nat.zero_le _, fun k hk => absurd hk (Nat.not_lt_zero k)⟩ ⟨rfl, rfl, trivial⟩ ⟨rfl, rfl, trivial⟩ (.refl _) ?_
    rintro s ⟨hsl, hI⟩
    have hlb := ok_last hI hsl
    refine t_seq ?_
    refine b0 ?_
    refine o1 rfl (det_lss rfl rfl) rfl rfl trivial ?_
    refine be rfl ?_
    refine k_then ?_
    refine t_seq ?_
    refine t_condP decide_eq_true_iff rfl (fun hb => ?_) (fun hb => ?_)
    ·
      have hlt : s < l.length := by omega
      obtain ⟨A, rfl⟩ := hP.some hlt
      have hat := (atC_get hlt).symm
      refine t_skip ?_
      refine k_then ?_
      refine t_seq ?_
      refine t_block ?_
      refine t_seq ?_
      refine b0 ?_
      first | (refine o1 rfl (det_indexAddr sl46 rfl rfl ?_) rfl rfl trivial ?_; (· (first | decide | omega)))
      refine o1 rfl (det_loadKN tN50 rfl (ctv_len l[s]) (hP.cells (i := (s : Int)) (k := s) (Int.toNat_natCast s) hlt (ctv_len _))) rfl rfl trivial ?_
      refine om1 rfl (new_alloc z50) rfl rfl trivial (fun p5 => ?_)
      refine stN nofun rfl tN50 rfl rfl rfl .head rfl trivial rfl rfl ?_
      refine be rfl ?_
      refine k_then ?_
      refine t_seq ?_
      refine t_seq ?_
      refine b0 ?_
      rw [hat]
      refine o1 rfl (det_fieldAddr fld50_0 rfl) rfl rfl trivial ?_
      refine o1 rfl (det_load1 t1_3 rfl rfl (.head _) rfl) rfl rfl trivial ?_
      refine o1 rfl (det_move rfl) rfl rfl trivial ?_
      first | (refine o1 rfl (det_addI rfl rfl ?_) rfl rfl trivial ?_; (· omega)) | refine o1 rfl (det_add rfl rfl) rfl rfl trivial ?_
      refine o1 rfl (det_call hb27 rfl rfl (fun w1 hs => in_ok hs.know)) rfl rfl trivial ?_
      refine o1 rfl (det_not rfl) rfl rfl trivial ?_
      refine o2P not_iff_false rfl (det_move rfl) rfl rfl trivial (fun hb => ?_) (fun hb => ?_)
      ·
        refine on rfl rfl rfl ⟨_, rfl, .inl rfl⟩ ?_
        refine on rfl rfl rfl ⟨_, rfl, .inl rfl⟩ ?_
        refine on rfl rfl rfl ⟨_, rfl, .inl rfl⟩ ?_
        refine on rfl rfl rfl ⟨_, rfl, .inl rfl⟩ ?_
        refine o1 rfl (det_pickT rfl rfl) rfl rfl trivial ?_
        refine be rfl ?_
        refine k_then ?_
        refine t_condT rfl ?_
        refine t_seq ?_
        refine b0 ?_
        refine o1 rfl (det_assign rfl) rfl rfl trivial ?_
        refine be rfl ?_
        refine k_then ?_
        refine t_ret (k_thenR (k_blkR (k_thenR (k_thenR (k_blkR (k_thenR (?_)))))))
        refine ret_tmp rfl rfl rfl (fun w1 hs => ?_)
        have hno : okL l = false := okL_at hlt (by grind [okAtC])
        exact ⟨by rw [if_neg (by rw [hno]; simp)], hs.keep⟩
      ·
        refine o1 rfl (det_fieldAddr fld50_1 rfl) rfl rfl ⟨_, rfl, rfl⟩ ?_
        refine o1 rfl (det_load1 t1_3 rfl rfl (.head _) rfl) rfl rfl ⟨_, rfl, rfl⟩ ?_
        refine o1 rfl (det_call hb25 rfl rfl (fun w1 hs => number_ok hs.know)) rfl rfl ⟨_, rfl, rfl⟩ ?_
        refine o1 rfl (det_not rfl) rfl rfl ⟨_, rfl, rfl⟩ ?_
        refine o1 rfl (det_pickF rfl rfl) rfl rfl trivial ?_
        refine be rfl ?_
        refine k_then ?_
        refine t_condP not_iff_false rfl (fun hb => ?_) (fun hb => ?_)
        ·
          skip
          refine t_seq ?_
          refine b0 ?_
          refine o1 rfl (det_assign rfl) rfl rfl trivial ?_
          refine be rfl ?_
          refine k_then ?_
          refine t_ret (k_thenR (k_blkR (k_thenR (k_thenR (k_blkR (k_thenR (?_)))))))
          refine ret_tmp rfl rfl rfl (fun w1 hs => ?_)
          have hno : okL l = false := okL_at hlt (by grind [okAtC])
          exact ⟨by rw [if_neg (by rw [hno]; simp)], hs.keep⟩
        ·
          have hok : okAtC l s = true := by grind [okAtC]
          refine t_skip ?_
          refine k_then ?_
          refine b0 ?_
          refine o1 rfl (det_fieldAddr fld50_0 rfl) rfl rfl trivial ?_
          refine o1 rfl (det_load1 t1_3 rfl rfl (.head _) rfl) rfl rfl trivial ?_
          refine o1 rfl (det_assign rfl) rfl rfl trivial ?_
          refine be rfl ?_
          refine k_blk ?_
          refine k_then ?_
          refine b0 ?_
          first | (refine o1 rfl (det_addI rfl rfl ?_) rfl rfl trivial ?_; (· omega)) | refine o1 rfl (det_add rfl rfl) rfl rfl trivial ?_
          refine o1 rfl (det_move rfl) rfl rfl trivial ?_
          refine be rfl ?_
          refine k_then ?_
          rw [← lastK_succ]
          refine loop_back (s + 1) ⟨by omega, ok_step hI hok⟩ (by omega) ⟨rfl, rfl, rfl, rfl, trivial⟩ (.cons _ (.refl _))
    ·
      have hse : s = l.length := by omega
      subst hse
      have hok : okL l = true := okL_iff.2 ⟨by omega, hI⟩
      refine t_exit ?_
      refine k_thenE ?_
      refine k_thenE ?_
      refine k_blkE ?_
      refine k_then ?_
      refine t_seq ?_
      refine b0 ?_
      refine o1 rfl (det_assign rfl) rfl rfl trivial ?_
      refine be rfl ?_
      refine k_then ?_
      refine t_ret ?_
      refine ret_tmp rfl rfl rfl (fun w1 hs => ?_)
      exact ⟨by rw [if_pos hok], hs.keep⟩

/-- Next's test. -/
theorem test_ok {w : World} {F : Know} (hF : ∀ a v, F a = some v → w.cell? a = some v) {c : Ct} {p : Nat} {s : Int} (h0 : F ⟨p, 0, none⟩ = some (.int .i64 s)) : Pure Try.prog 30 [.agg [.int .i64 c.st, .int .i64 c.nx].toArray, .pointer (some ⟨p, 0, none⟩)] w (.bool (decide (s ≤ c.st))) := by
  refine fn_pure (F := F) Try.func30 rfl Try.ntmps30 rfl hF ?_
  refine t_seq ?_
  refine b0 ?_
  refine om1 rfl (new_boxN rfl) rfl rfl trivial (fun p2 => ?_)
  refine o1 rfl (det_assign rfl) rfl rfl trivial ?_
  refine be rfl ?_
  refine k_then ?_
  refine t_seq ?_
  refine b0 ?_
  refine o1 rfl (det_fieldAddr fld50_0 rfl) rfl rfl trivial ?_
  refine o1 rfl (det_load1 t1_3 rfl rfl (.head _) rfl) rfl rfl trivial ?_
  refine o1 rfl (det_loadK t1_3 rfl h0) rfl rfl trivial ?_
  refine o1 rfl (det_geq rfl rfl) rfl rfl trivial ?_
  refine o1 rfl (det_assign rfl) rfl rfl trivial ?_
  refine be rfl ?_
  refine k_then ?_
  refine t_ret ?_
  refine ret_tmp rfl rfl rfl (fun w1 hs => ?_)
  exact ⟨rfl, hs.keep⟩

/-- IndexFunc. -/
theorem index_ok {w : World} {F : Know} (hF : ∀ a v, F a = some v → w.cell? a = some v) {A : Option Addr} {n c : Nat} {l : List Ct} (hP : CK F A n l) (hnb : n ≤ 65536) {p : Nat} {t : Int} (h0 : F ⟨p, 0, none⟩ = some (.int .i64 t)) : Pure Try.prog 33 [.slice A n c, .func (.func 30) [].toArray [.pointer (some ⟨p, 0, none⟩)].toArray] w (.int .i64 (if fstI l t < l.length then (fstI l t : Int) else -1)) := by
  refine fn_pure (F := F) Try.func33 rfl Try.ntmps33 rfl hF ?_
  refine t_seq ?_
  refine b0 ?_
  refine o1 rfl (det_assign rfl) rfl rfl trivial ?_
  refine be rfl ?_
  refine k_then ?_
  refine t_seq ?_
  refine t_seq ?_
  refine b0 ?_
  refine o1 rfl (det_move rfl) rfl rfl trivial ?_
  refine o1 rfl (det_lenS sl46 rfl) rfl rfl trivial ?_
  refine o1 rfl (det_move rfl) rfl rfl trivial ?_
  refine be rfl ?_
  refine k_then ?_
  refine t_block ?_
  refine t_whileM (σ := Nat) (fun s => [(8, .int .i64 s)]) (fun _ => _) (fun s => l.length - s) (fun s => s ≤ l.length ∧ ∀ k, k < s → (atC l k).st < t) 0 (env0 := [(0, _), (1, _), (7, _)]) ⟨Nat.zero_le _, fun k hk => absurd hk (Nat.not_lt_zero k)⟩ ⟨rfl, trivial⟩ ⟨rfl, rfl, rfl, trivial⟩ (.refl _) ?_
  rintro s ⟨hsl, hI⟩
  have hnl := hP.len
  refine t_seq ?_
  refine b0 ?_
  refine o1 rfl (det_lss rfl rfl) rfl rfl trivial ?_
  refine be rfl ?_
  refine k_then ?_
  refine t_seq ?_
  refine t_condP decide_eq_true_iff rfl (fun hb => ?_) (fun hb => ?_)
  ·
    have hlt : s < l.length := by omega
    obtain ⟨A, rfl⟩ := hP.some hlt
    have hat := (atC_get hlt).symm
    refine t_skip ?_
    refine k_then ?_
    refine t_seq ?_
    refine t_block ?_
    refine t_seq ?_
    refine b0 ?_
    refine o1 rfl (det_move rfl) rfl rfl trivial ?_
    refine o1 rfl (det_assign rfl) rfl rfl trivial ?_
    refine be rfl ?_
    refine k_then ?_
    refine t_seq ?_
    refine b0 ?_
    refine o1 rfl (det_move rfl) rfl rfl trivial ?_
    refine o1 rfl (det_move rfl) rfl rfl trivial ?_
    refine o1 rfl (det_move rfl) rfl rfl trivial ?_
    first | (refine o1 rfl (det_indexAddr sl46 rfl rfl ?_) rfl rfl trivial ?_; (· (first | decide | omega)))
    refine o1 rfl (det_loadKN tN50 rfl (ctv_len l[s]) (hP.cells (i := (s : Int)) (k := s) (Int.toNat_natCast s) hlt (ctv_len _))) rfl rfl trivial ?_
    refine o1 rfl (det_call hb30 rfl rfl (fun w1 hs => test_ok hs.know h0)) rfl rfl trivial ?_
    refine be rfl ?_
    refine k_then ?_
    refine t_condP Iff.rfl rfl (fun hb => ?_) (fun hb => ?_)
    ·
      have hfi : fstI l t = s := fstI_eq hsl hI (fun _ => by rw [← hat]; simpa using hb)
      refine t_seq ?_
      refine b0 ?_
      refine o1 rfl (det_move rfl) rfl rfl trivial ?_
      refine o1 rfl (det_assign rfl) rfl rfl trivial ?_
      refine be rfl ?_
      refine k_then ?_
      refine t_ret (k_blkR (k_thenR (k_thenR (k_blkR (k_thenR (?_))))))
      refine ret_tmp rfl rfl rfl (fun w1 hs => ?_)
      exact ⟨by rw [hfi, if_pos hlt], hs.keep⟩
    ·
      skip
      refine t_skip ?_
      refine k_blk ?_
      refine k_then ?_
      refine b0 ?_
      first | (refine o1 rfl (det_addI rfl rfl ?_) rfl rfl trivial ?_; (· omega)) | refine o1 rfl (det_add rfl rfl) rfl rfl trivial ?_
      refine o1 rfl (det_move rfl) rfl rfl trivial ?_
      refine be rfl ?_
      refine k_then ?_
      refine loop_back (s + 1) ⟨by omega, fun k hk => by
          rcases Nat.lt_or_ge k s with h1 | h1
          · exact hI k h1
          · rw [show k = s by omega, ← hat]; simpa using hb⟩ (by omega) ⟨rfl, rfl, rfl, rfl, trivial⟩ (.refl _)
  ·
    have hse : s = l.length := by omega
    subst hse
    have hfi := fstI_eq (Nat.le_refl _) hI (fun h => absurd h (Nat.lt_irrefl _))
    refine t_exit ?_
    refine k_thenE ?_
    refine k_thenE ?_
    refine k_blkE ?_
    refine k_then ?_
    refine t_seq ?_
    refine b0 ?_
    refine o1 rfl (det_assign rfl) rfl rfl trivial ?_
    refine be rfl ?_
    refine k_then ?_
    refine t_ret ?_
    refine ret_tmp rfl rfl rfl (fun w1 hs => ?_)
    exact ⟨by rw [hfi, if_neg (Nat.lt_irrefl _)], hs.keep⟩

/-- where. -/
theorem where_ok {w : World} {F : Know} (hF : ∀ a v, F a = some v → w.cell? a = some v) {A : Option Addr} {n c : Nat} {l : List Ct} (hP : CK F A n l) (hnb : n ≤ 65536) {p : Nat} {t : Int} (h0 : F ⟨p, 0, none⟩ = some (.int .i64 t)) : Pure Try.prog 29 [.slice A n c, .func (.func 30) [].toArray [.pointer (some ⟨p, 0, none⟩)].toArray] w (.int .i64 (fstI l t : Int)) := by
  refine fn_pure (F := F) Try.func29 rfl Try.ntmps29 rfl hF ?_
  refine t_seq ?_
  refine b0 ?_
  refine o1 rfl (det_assign rfl) rfl rfl trivial ?_
  refine be rfl ?_
  refine k_then ?_
  refine t_seq ?_
  refine t_seq ?_
  refine b0 ?_
  refine o1 rfl (det_move rfl) rfl rfl trivial ?_
  refine o1 rfl (det_move rfl) rfl rfl trivial ?_
  refine o1 rfl (det_call hb33 rfl rfl (fun w1 hs => index_ok hs.know hP hnb h0)) rfl rfl trivial ?_
  refine o1 rfl (det_assign rfl) rfl rfl trivial ?_
  refine be rfl ?_
  refine k_then ?_
  refine t_seq ?_
  refine b0 ?_
  refine o1 rfl (det_move rfl) rfl rfl trivial ?_
  refine o1 rfl (det_geq rfl rfl) rfl rfl trivial ?_
  refine be rfl ?_
  refine k_then ?_
  refine t_condP decide_eq_true_iff rfl (fun hb => ?_) (fun hb => ?_)
  ·
    refine t_seq ?_
    refine b0 ?_
    refine o1 rfl (det_move rfl) rfl rfl trivial ?_
    refine o1 rfl (det_assign rfl) rfl rfl trivial ?_
    refine be rfl ?_
    refine k_then ?_
    refine t_ret (k_thenR (?_))
    refine ret_tmp rfl rfl rfl (fun w1 hs => ?_)
    have hle := fstI_le l t
    have hfl : fstI l t < l.length := by
      rcases Nat.lt_or_ge (fstI l t) l.length with h | h
      · exact h
      · rw [if_neg (by omega)] at hb; omega
    exact ⟨by rw [if_pos hfl], hs.keep⟩
  ·
    refine t_skip ?_
    refine k_then ?_
    refine t_seq ?_
    refine b0 ?_
    refine o1 rfl (det_move rfl) rfl rfl trivial ?_
    refine o1 rfl (det_lenS sl46 rfl) rfl rfl trivial ?_
    refine o1 rfl (det_assign rfl) rfl rfl trivial ?_
    refine be rfl ?_
    refine k_then ?_
    refine t_ret ?_
    refine ret_tmp rfl rfl rfl (fun w1 hs => ?_)
    have hle := fstI_le l t
    have hfl : fstI l t = l.length := by
      rcases Nat.lt_or_ge (fstI l t) l.length with h | h
      · rw [if_pos h] at hb; omega
      · omega
    exact ⟨by rw [hfl, hP.len], hs.keep⟩

end Go.Proofs.Sq
