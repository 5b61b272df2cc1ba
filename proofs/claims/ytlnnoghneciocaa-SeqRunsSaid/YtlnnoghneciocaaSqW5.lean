/-
  Walks through layer 39 and its reference.
-/
import Derived.Test.YtlnnoghneciocaaSqW4
import Derived.Test.YtlnnoghneciocaaSqK
namespace Go.Proofs.Sq
open Go Go.Eng Go.Sq
set_option maxRecDepth 4000

/-- equal_ok. -/
theorem equal_ok {w : World} {F : Know} (hF : ∀ a v, F a = some v → w.cell? a = some v) {A : Option Addr} {n c : Nat} {l : List Ct} (hP : CK F A n l) {B : Option Addr} {m d : Nat} {q : List Ct} (hQ : CK F B m q) (hnb : n ≤ 65536) : Pure Try.prog 24 [.slice A n c, .slice B m d] w (.bool (decide (l = q))) := by
  refine fn_pure (F := F) Try.func24 rfl Try.ntmps24 rfl hF ?_
  refine t_seq ?_
  refine b0 ?_
  refine o1 rfl (det_assign rfl) rfl rfl trivial ?_
  refine be rfl ?_
  refine k_then ?_
  refine t_seq ?_
  refine t_seq ?_
  refine b0 ?_
  refine o1 rfl (det_move rfl) rfl rfl trivial ?_
  refine o1 rfl (det_lenS sl46 rfl) rfl rfl trivial ?_
  refine o1 rfl (det_move rfl) rfl rfl trivial ?_
  refine o1 rfl (det_lenS sl46 rfl) rfl rfl trivial ?_
  refine o1 rfl (det_neq rfl rfl) rfl rfl trivial ?_
  refine be rfl ?_
  refine k_then ?_
  refine t_condP bne_iff_ne rfl (fun hb => ?_) (fun hb => ?_)
  ·
    refine t_seq ?_
    refine b0 ?_
    refine o1 rfl (det_assign rfl) rfl rfl trivial ?_
    refine be rfl ?_
    refine k_then ?_
    refine t_ret (k_thenR (?_))
    refine ret_tmp rfl rfl rfl (fun w1 hs => ?_)
    have hne : l ≠ q := fun e => by have := congrArg List.length e; have := hP.len; have := hQ.len; omega
    exact ⟨by rw [decide_eq_false hne], hs.keep⟩
  ·
    refine t_skip ?_
    refine k_then ?_
    refine t_seq ?_
    refine t_seq ?_
    refine b0 ?_
    refine o1 rfl (det_move rfl) rfl rfl trivial ?_
    refine o1 rfl (det_lenS sl46 rfl) rfl rfl trivial ?_
    refine o1 rfl (det_move rfl) rfl rfl trivial ?_
    refine be rfl ?_
    refine k_then ?_
    refine t_block ?_
    refine t_whileM (σ := Nat) (fun s => [(13, .int .i64 s)]) (fun _ => _) (fun s => l.length - s) (fun s => s ≤ l.length ∧ ∀ i, i < s → atC l i = atC q i) 0 (env0 := [(0, _), (1, _), (12, _)]) ⟨Nat.zero_le _, fun i hi => absurd hi (Nat.not_lt_zero i)⟩ ⟨rfl, trivial⟩ ⟨rfl, rfl, rfl, trivial⟩ (.refl _) ?_
    rintro s ⟨hsl, hI⟩
    have hnl := hP.len
    have hml := hQ.len
    refine t_seq ?_
    refine b0 ?_
    refine o1 rfl (det_lss rfl rfl) rfl rfl trivial ?_
    refine be rfl ?_
    refine k_then ?_
    refine t_seq ?_
    refine t_condP decide_eq_true_iff rfl (fun hb => ?_) (fun hb => ?_)
    ·
      have hlt : s < l.length := by omega
      have hlt2 : s < q.length := by omega
      obtain ⟨A, rfl⟩ := hP.some hlt
      obtain ⟨B, rfl⟩ := hQ.some hlt2
      have hat := (atC_get hlt).symm
      have hat2 := (atC_get hlt2).symm
      refine t_skip ?_
      refine k_then ?_
      refine t_seq ?_
      refine t_block ?_
      refine t_seq ?_
      refine b0 ?_
      refine o1 rfl (det_move rfl) rfl rfl trivial ?_
      refine o1 rfl (det_assign rfl) rfl rfl trivial ?_
      refine be rfl ?_
      refine k_then ?_
      refine t_seq ?_
      refine bD mixed ?_
      refine r_seg 9 9 [] [0, 1, 2, 3, 4, 5, 6, 7, 8] (by kernel_rfl) ?_
      refine s1 rfl (det_move rfl) rfl rfl trivial rfl ?_
      refine s1 rfl (det_move rfl) rfl rfl trivial rfl ?_
      first | (refine s1 rfl (det_indexAddr sl46 rfl rfl ?_) rfl rfl trivial rfl ?_; (· (first | decide | omega)))
      refine s1 rfl (det_loadKN tN50 rfl (ctv_len l[s]) (hP.cells (i := (s : Int)) (k := s) (Int.toNat_natCast s) hlt (ctv_len _))) rfl rfl trivial rfl ?_
      refine s1 rfl (det_move rfl) rfl rfl trivial rfl ?_
      refine s1 rfl (det_move rfl) rfl rfl trivial rfl ?_
      first | (refine s1 rfl (det_indexAddr sl46 rfl rfl ?_) rfl rfl trivial rfl ?_; (· (first | decide | omega)))
      refine s1 rfl (det_loadKN tN50 rfl (ctv_len q[s]) (hQ.cells (i := (s : Int)) (k := s) (Int.toNat_natCast s) hlt2 (ctv_len _))) rfl rfl trivial rfl ?_
      refine s1 rfl (det_neqS rfl rfl eqg50 (fun w => eq50 _ _ _ _ w)) rfl rfl trivial rfl ?_
      refine sg_nil ?_
      refine be rfl ?_
      refine k_then ?_
      refine t_condP Iff.rfl rfl (fun hb => ?_) (fun hb => ?_)
      ·
        replace hb : (!eqC l[s] q[s]) = true := hb
        have hne : l ≠ q := fun e => by subst e; have := eqC_iff.2 (rfl : l[s] = l[s]); rw [this] at hb; cases hb
        refine t_seq ?_
        refine b0 ?_
        refine o1 rfl (det_assign rfl) rfl rfl trivial ?_
        refine be rfl ?_
        refine k_then ?_
        refine t_ret (k_blkR (k_thenR (k_thenR (k_blkR (k_thenR (?_))))))
        refine ret_tmp rfl rfl rfl (fun w1 hs => ?_)
        exact ⟨by rw [decide_eq_false hne], hs.keep⟩
      ·
        replace hb : ¬ (!eqC l[s] q[s]) = true := hb
        have heq : atC l s = atC q s := by rw [← hat, ← hat2]; exact eqC_iff.1 (by simpa using hb)
        refine t_skip ?_
        refine k_blk ?_
        refine k_then ?_
        refine b0 ?_
        first | (refine o1 rfl (det_addI rfl rfl ?_) rfl rfl trivial ?_; (· omega)) | refine o1 rfl (det_add rfl rfl) rfl rfl trivial ?_
        refine o1 rfl (det_move rfl) rfl rfl trivial ?_
        refine be rfl ?_
        refine k_then ?_
        refine loop_back (s + 1) ⟨by omega, fun i hi => by
            rcases Nat.lt_or_ge i s with h1 | h1
            · exact hI i h1
            · rw [show i = s by omega]; exact heq⟩ (by omega) ⟨rfl, rfl, rfl, rfl, trivial⟩ (.refl _)
    ·
      have hse : s = l.length := by omega
      subst hse
      have heq := atC_ext (l := l) (m := q) (by omega) hI
      refine t_exit ?_
      refine k_thenE ?_
      refine k_thenE ?_
      refine k_blkE ?_
      refine k_then ?_
      refine t_seq ?_
      refine b0 ?_
      refine o1 rfl (det_assign rfl) rfl rfl trivial ?_
      refine be rfl ?_
      refine k_then ?_
      refine t_ret ?_
      refine ret_tmp rfl rfl rfl (fun w1 hs => ?_)
      exact ⟨by rw [decide_eq_true heq], hs.keep⟩

/-- same_ok. -/
theorem same_ok {w : World} {F : Know} (hF : ∀ a v, F a = some v → w.cell? a = some v) {A : Option Addr} {n c : Nat} {l : List Ct} (hP : CK F A n l) {B : Option Addr} {m d : Nat} {q : List Ct} (hQ : CK F B m q) (hnb : n ≤ 65536) : Pure Try.prog 23 [.slice A n c, .slice B m d] w (.bool (decide (l = q))) := by
  refine fn_pure (F := F) Try.func23 rfl Try.ntmps23 rfl hF ?_
  refine t_seq ?_
  refine b0 ?_
  refine o1 rfl (det_assign rfl) rfl rfl trivial ?_
  refine be rfl ?_
  refine k_then ?_
  refine t_seq ?_
  refine t_seq ?_
  refine b0 ?_
  refine o1 rfl (det_move rfl) rfl rfl trivial ?_
  refine o1 rfl (det_lenS sl46 rfl) rfl rfl trivial ?_
  refine o1 rfl (det_move rfl) rfl rfl trivial ?_
  refine o1 rfl (det_lenS sl46 rfl) rfl rfl trivial ?_
  refine o1 rfl (det_neq rfl rfl) rfl rfl trivial ?_
  refine be rfl ?_
  refine k_then ?_
  refine t_condP bne_iff_ne rfl (fun hb => ?_) (fun hb => ?_)
  ·
    refine t_seq ?_
    refine b0 ?_
    refine o1 rfl (det_assign rfl) rfl rfl trivial ?_
    refine be rfl ?_
    refine k_then ?_
    refine t_ret (k_thenR (?_))
    refine ret_tmp rfl rfl rfl (fun w1 hs => ?_)
    have hne : l ≠ q := fun e => by have := congrArg List.length e; have := hP.len; have := hQ.len; omega
    exact ⟨by rw [decide_eq_false hne], hs.keep⟩
  ·
    refine t_skip ?_
    refine k_then ?_
    refine t_seq ?_
    refine t_seq ?_
    refine b0 ?_
    refine o1 rfl (det_assign rfl) rfl rfl trivial ?_
    refine be rfl ?_
    refine k_then ?_
    refine t_block ?_
    refine t_whileM (σ := Nat) (fun s => [(5, .int .i64 s)]) (fun _ => _) (fun s => l.length - s) (fun s => s ≤ l.length ∧ ∀ i, i < s → atC l i = atC q i) 0 (env0 := [(0, _), (1, _)]) ⟨Nat.zero_le _, fun i hi => absurd hi (Nat.not_lt_zero i)⟩ ⟨rfl, trivial⟩ ⟨rfl, rfl, trivial⟩ (.refl _) ?_
    rintro s ⟨hsl, hI⟩
    have hnl := hP.len
    have hml := hQ.len
    refine t_seq ?_
    refine t_seq ?_
    refine b0 ?_
    refine o1 rfl (det_move rfl) rfl rfl trivial ?_
    refine o1 rfl (det_move rfl) rfl rfl trivial ?_
    refine o1 rfl (det_lenS sl46 rfl) rfl rfl trivial ?_
    refine o1 rfl (det_lss rfl rfl) rfl rfl trivial ?_
    refine be rfl ?_
    refine k_then ?_
    refine t_condP decide_eq_true_iff rfl (fun hb => ?_) (fun hb => ?_)
    ·
      have hlt : s < l.length := by omega
      have hlt2 : s < q.length := by omega
      obtain ⟨A, rfl⟩ := hP.some hlt
      obtain ⟨B, rfl⟩ := hQ.some hlt2
      have hat := (atC_get hlt).symm
      have hat2 := (atC_get hlt2).symm
      refine t_skip ?_
      refine k_then ?_
      refine t_seq ?_
      refine t_block ?_
      refine t_seq ?_
      refine bD mixed ?_
      refine r_seg 9 9 [] [0, 1, 2, 3, 4, 5, 6, 7, 8] (by kernel_rfl) ?_
      refine s1 rfl (det_move rfl) rfl rfl trivial rfl ?_
      refine s1 rfl (det_move rfl) rfl rfl trivial rfl ?_
      first | (refine s1 rfl (det_indexAddr sl46 rfl rfl ?_) rfl rfl trivial rfl ?_; (· (first | decide | omega)))
      refine s1 rfl (det_loadKN tN50 rfl (ctv_len l[s]) (hP.cells (i := (s : Int)) (k := s) (Int.toNat_natCast s) hlt (ctv_len _))) rfl rfl trivial rfl ?_
      refine s1 rfl (det_move rfl) rfl rfl trivial rfl ?_
      refine s1 rfl (det_move rfl) rfl rfl trivial rfl ?_
      first | (refine s1 rfl (det_indexAddr sl46 rfl rfl ?_) rfl rfl trivial rfl ?_; (· (first | decide | omega)))
      refine s1 rfl (det_loadKN tN50 rfl (ctv_len q[s]) (hQ.cells (i := (s : Int)) (k := s) (Int.toNat_natCast s) hlt2 (ctv_len _))) rfl rfl trivial rfl ?_
      refine s1 rfl (det_neqS rfl rfl eqg50 (fun w => eq50 _ _ _ _ w)) rfl rfl trivial rfl ?_
      refine sg_nil ?_
      refine be rfl ?_
      refine k_then ?_
      refine t_condP Iff.rfl rfl (fun hb => ?_) (fun hb => ?_)
      ·
        replace hb : (!eqC l[s] q[s]) = true := hb
        have hne : l ≠ q := fun e => by subst e; have := eqC_iff.2 (rfl : l[s] = l[s]); rw [this] at hb; cases hb
        refine t_seq ?_
        refine b0 ?_
        refine o1 rfl (det_assign rfl) rfl rfl trivial ?_
        refine be rfl ?_
        refine k_then ?_
        refine t_ret (k_blkR (k_thenR (k_thenR (k_blkR (k_thenR (?_))))))
        refine ret_tmp rfl rfl rfl (fun w1 hs => ?_)
        exact ⟨by rw [decide_eq_false hne], hs.keep⟩
      ·
        replace hb : ¬ (!eqC l[s] q[s]) = true := hb
        have heq : atC l s = atC q s := by rw [← hat, ← hat2]; exact eqC_iff.1 (by simpa using hb)
        refine t_skip ?_
        refine k_blk ?_
        refine k_then ?_
        refine b0 ?_
        refine o1 rfl (det_move rfl) rfl rfl trivial ?_
        first | (refine o1 rfl (det_addI rfl rfl ?_) rfl rfl trivial ?_; (· omega)) | refine o1 rfl (det_add rfl rfl) rfl rfl trivial ?_
        refine o1 rfl (det_assign rfl) rfl rfl trivial ?_
        refine be rfl ?_
        refine k_then ?_
        refine loop_back (s + 1) ⟨by omega, fun i hi => by
            rcases Nat.lt_or_ge i s with h1 | h1
            · exact hI i h1
            · rw [show i = s by omega]; exact heq⟩ (by omega) ⟨rfl, rfl, rfl, trivial⟩ (.refl _)
    ·
      have hse : s = l.length := by omega
      subst hse
      have heq := atC_ext (l := l) (m := q) (by omega) hI
      refine t_exit ?_
      refine k_thenE ?_
      refine k_thenE ?_
      refine k_blkE ?_
      refine k_then ?_
      refine t_seq ?_
      refine b0 ?_
      refine o1 rfl (det_assign rfl) rfl rfl trivial ?_
      refine be rfl ?_
      refine k_then ?_
      refine t_ret ?_
      refine ret_tmp rfl rfl rfl (fun w1 hs => ?_)
      exact ⟨by rw [decide_eq_true heq], hs.keep⟩

end Go.Proofs.Sq
