/-
  Walks through layer 40 and its reference.
-/
import Derived.Test.YtichjhggoioenaaRcW8
import Derived.Test.YtichjhggoioenaaRcPlain3
namespace Go.Proofs.Rc
open Go Go.Eng Go.Rc
set_option maxRecDepth 4000

/-- The reference's Missing. -/
theorem rmissing_ok {w : World} {F : Know} (hF : ∀ a v, F a = some v → w.cell? a = some v) {r : Rc} (hok : okR r = true) : CallsF Try.prog 15 [.agg (rcv r).toArray] w noK (fun v F2 => ∃ A1 n1 c1, v = .slice A1 n1 c1 ∧ RowsK iv 1 F2 A1 n1 (missL r)) := by
  refine fn_fresh (F := F) Try.func15 rfl Try.ntmps15 rfl hF ?_
  refine t_seq ?_
  refine b0 ?_
  refine om1 rfl (new_boxN rfl) rfl rfl trivial (fun p1 => ?_)
  refine o1 rfl (det_assign rfl) rfl rfl trivial ?_
  refine be rfl ?_
  refine k_then ?_
  refine t_seq ?_
  refine b0 ?_
  refine o1 rfl (det_assign rfl) rfl rfl trivial ?_
  refine be rfl ?_
  refine k_then ?_
  refine t_seq ?_
  refine t_seq ?_
  refine b0 ?_
  have hse := okR_se hok
  have hln := okR_ln hok
  refine o1 rfl (det_fieldAddr fld24_2 rfl) rfl rfl trivial ?_
  refine o1 rfl (det_load1 t1_4 rfl rfl (.head _) rfl) rfl rfl trivial ?_
  refine be rfl ?_
  refine k_then ?_
  refine t_condP Iff.rfl rfl (fun hb => ?_) (fun hb => ?_)
  ·
    have han : r.an = true := hb
    refine t_seq ?_
    refine b0 ?_
    refine o1 rfl (det_move rfl) rfl rfl trivial ?_
    refine o1 rfl (det_assign rfl) rfl rfl trivial ?_
    refine be rfl ?_
    refine k_then ?_
    refine t_ret (k_thenR (?_))
    refine ret_tmp rfl rfl rfl (fun w1 hs => ?_)
    exact end_fresh hs fun F2 h1 _ h3 => ⟨none, 0, 0, rfl, by unfold missL; rw [if_pos han]; exact RowsK.nil⟩
  ·
    have han : r.an = false := by simpa using hb
    have hla := (okR_an hok han).1
    refine t_skip ?_
    refine k_then ?_
    refine t_seq ?_
    refine t_seq ?_
    refine b0 ?_
    refine o1 rfl (det_fieldAddr fld24_0 rfl) rfl rfl trivial ?_
    refine o1 rfl (det_load1 t1_3 rfl rfl (.head _) rfl) rfl rfl trivial ?_
    first | (refine o1 rfl (det_subI rfl rfl ?_) rfl rfl trivial ?_; (· omega)) | refine o1 rfl (det_sub rfl rfl) rfl rfl trivial ?_
    refine o1 rfl (det_assign rfl) rfl rfl trivial ?_
    refine be rfl ?_
    refine k_then ?_
    refine t_block ?_
    refine t_whileM (σ := Nat × GS) (fun s => [(3, .slice s.2.A s.2.n s.2.c), (4, .int .i64 (r.ln - 1 - s.1))]) (fun s => [(p1, .cells (rcv r).toArray 24 (0, 0))] ++ s.2.b) (fun s => r.ln.toNat - 1 - s.1) (fun s => (s.1 : Int) ≤ r.ln - 1 ∧ GL s.2 (missK r s.1) ∧ s.2.n ≤ s.1) (0, ⟨none, 0, 0, []⟩) (env0 := [(1, _), (2, _)]) ⟨by show ((0 : Nat) : Int) ≤ _; omega, GL.zero, Nat.le_refl _⟩ ⟨rfl, (by show _ = some (Value.int IntKind.i64 (r.ln - 1 - ((0 : Nat) : Int))); rw [show r.ln - 1 - ((0 : Nat) : Int) = r.ln - 1 by omega]; rfl), trivial⟩ ⟨rfl, rfl, trivial⟩ (.refl _) ?_
    rintro s ⟨hsl, hG, hnl⟩
    refine t_seq ?_
    refine t_seq ?_
    refine b0 ?_
    refine o1 rfl (det_move rfl) rfl rfl trivial ?_
    refine o1 rfl (det_geq rfl rfl) rfl rfl trivial ?_
    refine be rfl ?_
    refine k_then ?_
    refine t_condP decide_eq_true_iff rfl (fun hb => ?_) (fun hb => ?_)
    ·
      obtain ⟨i, hi⟩ : ∃ i : Nat, r.ln - 1 - (s.1 : Int) = i := ⟨(r.ln - 1 - (s.1 : Int)).toNat, by omega⟩
      rw [hi]
      have hi1 : 1 ≤ i := by omega
      refine t_skip ?_
      refine k_then ?_
      refine t_seq ?_
      refine t_block ?_
      refine t_seq ?_
      refine b0 ?_
      refine o1 rfl (det_fieldAddr fld24_5 rfl) rfl rfl trivial ?_
      refine o1 rfl (det_load1 t1_22 rfl rfl (.head _) rfl) rfl rfl trivial ?_
      refine o1 rfl (det_move rfl) rfl rfl trivial ?_
      refine o1 rfl (det_call hb23 rfl rfl (fun w1 hs => bit_ok hs.know hse (by omega))) rfl rfl trivial ?_
      refine o1 rfl (det_not rfl) rfl rfl trivial ?_
      refine be rfl ?_
      refine k_then ?_
      refine t_condP not_iff_false rfl (fun hb => ?_) (fun hb => ?_)
      ·
        have hbit : r.se.testBit i = false := by simpa using hb
        refine b0 ?_
        refine o1 rfl (det_move rfl) rfl rfl trivial ?_
        refine o1 rfl (det_fieldAddr fld24_3 rfl) rfl rfl trivial ?_
        refine o1 rfl (det_load1 t1_3 rfl rfl (.head _) rfl) rfl rfl trivial ?_
        refine o1 rfl (det_move rfl) rfl rfl trivial ?_
        first | (refine o1 rfl (det_negI rfl ?_) rfl rfl trivial ?_; (· omega)) | refine o1 rfl (det_neg rfl) rfl rfl trivial ?_
        refine o1 rfl (det_call hb17 rfl rfl (fun w1 hs => raft_ok hs.know hla)) rfl rfl trivial ?_
        refine om1 rfl (new_buildSlice rfl (fun w => bsl32_1_0 _ w)) rfl rfl trivial (fun p26 => ?_)
        refine oAppS (pre := [_, _]) (b := _) (m := 1) (news := iv (aft r.la (-(i : Int)))) nofun rfl ap32 rfl rfl rfl trivial hG rfl (fun w hs j u hj => hs.cellO (.head _) hj) (iv_one _) (by omega) (by simp only [maxLen]; omega) (fun A9 c9 b9 hS9 => ?_)
        have hG9 : GL ⟨A9, s.2.n + 1, c9, b9⟩ (missK r (s.1 + 1)) := by show SlO 3 1 _ _ (rowsV iv (missK r (s.1 + 1))) _; rw [miss_add (by omega) hbit, rowsI1]; exact hS9
        refine o1 rfl (det_assign rfl) rfl rfl trivial ?_
        refine be rfl ?_
        refine k_blk ?_
        refine k_then ?_
        refine b0 ?_
        refine o1 rfl (det_move rfl) rfl rfl trivial ?_
        first | (refine o1 rfl (det_subI rfl rfl ?_) rfl rfl trivial ?_; (· omega)) | refine o1 rfl (det_sub rfl rfl) rfl rfl trivial ?_
        refine o1 rfl (det_assign rfl) rfl rfl trivial ?_
        refine be rfl ?_
        refine k_then ?_
        rw [show (i : Int) - 1 = r.ln - 1 - ((s.1 + 1 : Nat) : Int) by omega]
        refine loop_back (s.1 + 1, ⟨A9, s.2.n + 1, c9, b9⟩) ⟨by show ((s.1 + 1 : Nat) : Int) ≤ _; omega, hG9, by show s.2.n + 1 ≤ s.1 + 1; omega⟩ (by simp only; omega) ⟨rfl, rfl, rfl, rfl, trivial⟩ (.cons _ (.refl _))
      ·
        have hbit : r.se.testBit i = true := by simpa using hb
        refine t_skip ?_
        refine k_blk ?_
        refine k_then ?_
        refine b0 ?_
        refine o1 rfl (det_move rfl) rfl rfl trivial ?_
        first | (refine o1 rfl (det_subI rfl rfl ?_) rfl rfl trivial ?_; (· omega)) | refine o1 rfl (det_sub rfl rfl) rfl rfl trivial ?_
        refine o1 rfl (det_assign rfl) rfl rfl trivial ?_
        refine be rfl ?_
        refine k_then ?_
        rw [show (i : Int) - 1 = r.ln - 1 - ((s.1 + 1 : Nat) : Int) by omega]
        refine loop_back (s.1 + 1, s.2) ⟨by show ((s.1 + 1 : Nat) : Int) ≤ _; omega, by rw [miss_hit (by omega) hbit]; exact hG, by show s.2.n ≤ s.1 + 1; omega⟩ (by simp only; omega) ⟨rfl, rfl, rfl, rfl, trivial⟩ (.refl _)
    ·
      have hend : missK r s.1 = missL r := by
        unfold missL
        rw [han, show s.1 = r.ln.toNat - 1 by omega]; rfl
      rw [hend] at hG
      refine t_exit ?_
      refine k_thenE ?_
      refine k_thenE ?_
      refine k_blkE ?_
      refine k_then ?_
      refine t_seq ?_
      refine b0 ?_
      refine o1 rfl (det_move rfl) rfl rfl trivial ?_
      refine o1 rfl (det_assign rfl) rfl rfl trivial ?_
      refine be rfl ?_
      refine k_then ?_
      refine t_ret ?_
      refine ret_tmp rfl rfl rfl (fun w1 hs => ?_)
      exact end_fresh hs fun F2 h1 _ h3 => by
        obtain ⟨g1, g2, g3⟩ := SlO.ik hG (fun p cs t fr k hm => h3 p cs t fr k (.tail _ hm)) rfl
        exact ⟨_, _, _, rfl, g3⟩

/-- equalI_ok. -/
theorem equalI_ok {w : World} {F : Know} (hF : ∀ a v, F a = some v → w.cell? a = some v) {A B : Option Addr} {n c m e : Nat} {l q : List Int} (hP : RowsK iv 1 F A n l) (hQ : RowsK iv 1 F B m q) (hnb : n ≤ 65536) : Pure Try.prog 14 [.slice A n c, .slice B m e] w (.bool (decide (l = q))) := by
  refine fn_pure (F := F) Try.func14 rfl Try.ntmps14 rfl hF ?_
  refine t_seq ?_
  refine b0 ?_
  refine o1 rfl (det_assign rfl) rfl rfl trivial ?_
  refine be rfl ?_
  refine k_then ?_
  refine t_seq ?_
  refine t_seq ?_
  refine b0 ?_
  refine o1 rfl (det_move rfl) rfl rfl trivial ?_
  refine o1 rfl (det_lenS sl32 rfl) rfl rfl trivial ?_
  refine o1 rfl (det_move rfl) rfl rfl trivial ?_
  refine o1 rfl (det_lenS sl32 rfl) rfl rfl trivial ?_
  refine o1 rfl (det_neq rfl rfl) rfl rfl trivial ?_
  refine be rfl ?_
  refine k_then ?_
  refine t_condP bne_iff_ne rfl (fun hb => ?_) (fun hb => ?_)
  ·
    refine t_seq ?_
    refine b0 ?_
    refine o1 rfl (det_assign rfl) rfl rfl trivial ?_
    refine be rfl ?_
    refine k_then ?_
    refine t_ret (k_thenR (?_))
    refine ret_tmp rfl rfl rfl (fun w1 hs => ?_)
    have hne : l ≠ q := fun e => by have := congrArg List.length e; have := hP.len; have := hQ.len; omega
    exact ⟨by rw [decide_eq_false hne], hs.keep⟩
  ·
    refine t_skip ?_
    refine k_then ?_
    refine t_seq ?_
    refine t_seq ?_
    refine b0 ?_
    refine o1 rfl (det_move rfl) rfl rfl trivial ?_
    refine o1 rfl (det_lenS sl32 rfl) rfl rfl trivial ?_
    refine o1 rfl (det_move rfl) rfl rfl trivial ?_
    refine be rfl ?_
    refine k_then ?_
    refine t_block ?_
    refine t_whileM (σ := Nat) (fun s => [(13, .int .i64 s)]) (fun _ => _) (fun s => l.length - s) (fun s => s ≤ l.length ∧ ∀ i, i < s → l.getD i 0 = q.getD i 0) 0 (env0 := [(0, _), (1, _), (12, _)]) ⟨Nat.zero_le _, fun i hi => absurd hi (Nat.not_lt_zero i)⟩ ⟨rfl, trivial⟩ ⟨rfl, rfl, rfl, trivial⟩ (.refl _) ?_
    rintro s ⟨hsl, hI⟩
    have hnl := hP.len
    have hml := hQ.len
    refine t_seq ?_
    refine b0 ?_
    refine o1 rfl (det_lss rfl rfl) rfl rfl trivial ?_
    refine be rfl ?_
    refine k_then ?_
    refine t_seq ?_
    refine t_condP decide_eq_true_iff rfl (fun hb => ?_) (fun hb => ?_)
    ·
      have hlt : s < l.length := by omega
      have hlt2 : s < q.length := by omega
      obtain ⟨A, rfl⟩ := hP.some hlt
      obtain ⟨B, rfl⟩ := hQ.some hlt2
      refine t_skip ?_
      refine k_then ?_
      refine t_seq ?_
      refine t_block ?_
      refine t_seq ?_
      refine b0 ?_
      refine o1 rfl (det_move rfl) rfl rfl trivial ?_
      refine o1 rfl (det_assign rfl) rfl rfl trivial ?_
      refine be rfl ?_
      refine k_then ?_
      refine t_seq ?_
      refine bD mixed ?_
      refine r_seg 9 9 [] [0, 1, 2, 3, 4, 5, 6, 7, 8] (by kernel_rfl) ?_
      refine s1 rfl (det_move rfl) rfl rfl trivial rfl ?_
      refine s1 rfl (det_move rfl) rfl rfl trivial rfl ?_
      first | (refine s1 rfl (det_indexAddr sl32 rfl rfl ?_) rfl rfl trivial rfl ?_; (· (first | decide | omega)))
      refine s1 rfl (det_loadK t1_3 rfl (hP.cell1 (i := (s : Int)) (k := s) (u := .int .i64 l[s]) (Int.toNat_natCast s) hlt rfl)) rfl rfl trivial rfl ?_
      refine s1 rfl (det_move rfl) rfl rfl trivial rfl ?_
      refine s1 rfl (det_move rfl) rfl rfl trivial rfl ?_
      first | (refine s1 rfl (det_indexAddr sl32 rfl rfl ?_) rfl rfl trivial rfl ?_; (· (first | decide | omega)))
      refine s1 rfl (det_loadK t1_3 rfl (hQ.cell1 (i := (s : Int)) (k := s) (u := .int .i64 q[s]) (Int.toNat_natCast s) hlt2 rfl)) rfl rfl trivial rfl ?_
      refine s1 rfl (det_neq rfl rfl) rfl rfl trivial rfl ?_
      refine sg_nil ?_
      refine be rfl ?_
      refine k_then ?_
      refine t_condP bne_iff_ne rfl (fun hb => ?_) (fun hb => ?_)
      ·
        have hne : l ≠ q := fun e => by subst e; simp at hb
        refine t_seq ?_
        refine b0 ?_
        refine o1 rfl (det_assign rfl) rfl rfl trivial ?_
        refine be rfl ?_
        refine k_then ?_
        refine t_ret (k_blkR (k_thenR (k_thenR (k_blkR (k_thenR (?_))))))
        refine ret_tmp rfl rfl rfl (fun w1 hs => ?_)
        exact ⟨by rw [decide_eq_false hne], hs.keep⟩
      ·
        have heq : l[s] = q[s] := by simpa using hb
        refine t_skip ?_
        refine k_blk ?_
        refine k_then ?_
        refine b0 ?_
        first | (refine o1 rfl (det_addI rfl rfl ?_) rfl rfl trivial ?_; (· omega)) | refine o1 rfl (det_add rfl rfl) rfl rfl trivial ?_
        refine o1 rfl (det_move rfl) rfl rfl trivial ?_
        refine be rfl ?_
        refine k_then ?_
        refine loop_back (s + 1) ⟨by omega, fun i hi => by
            rcases Nat.lt_or_ge i s with h1 | h1
            · exact hI i h1
            · rw [show i = s by omega, getD_at hlt, getD_at hlt2]; exact heq⟩ (by omega) ⟨rfl, rfl, rfl, rfl, trivial⟩ (.refl _)
    ·
      have hse : s = l.length := by omega
      subst hse
      have heq := ext_D (d := 0) (l := l) (m := q) (by omega) hI
      refine t_exit ?_
      refine k_thenE ?_
      refine k_thenE ?_
      refine k_blkE ?_
      refine k_then ?_
      refine t_seq ?_
      refine b0 ?_
      refine o1 rfl (det_assign rfl) rfl rfl trivial ?_
      refine be rfl ?_
      refine k_then ?_
      refine t_ret ?_
      refine ret_tmp rfl rfl rfl (fun w1 hs => ?_)
      exact ⟨by rw [decide_eq_true heq], hs.keep⟩

/-- equalB_ok. -/
theorem equalB_ok {w : World} {F : Know} (hF : ∀ a v, F a = some v → w.cell? a = some v) {A B : Option Addr} {n c m e : Nat} {l q : List Bool} (hP : RowsK bv 1 F A n l) (hQ : RowsK bv 1 F B m q) (hnb : n ≤ 65536) : Pure Try.prog 22 [.slice A n c, .slice B m e] w (.bool (decide (l = q))) := by
  refine fn_pure (F := F) Try.func22 rfl Try.ntmps22 rfl hF ?_
  refine t_seq ?_
  refine b0 ?_
  refine o1 rfl (det_assign rfl) rfl rfl trivial ?_
  refine be rfl ?_
  refine k_then ?_
  refine t_seq ?_
  refine t_seq ?_
  refine b0 ?_
  refine o1 rfl (det_move rfl) rfl rfl trivial ?_
  refine o1 rfl (det_lenS sl65 rfl) rfl rfl trivial ?_
  refine o1 rfl (det_move rfl) rfl rfl trivial ?_
  refine o1 rfl (det_lenS sl65 rfl) rfl rfl trivial ?_
  refine o1 rfl (det_neq rfl rfl) rfl rfl trivial ?_
  refine be rfl ?_
  refine k_then ?_
  refine t_condP bne_iff_ne rfl (fun hb => ?_) (fun hb => ?_)
  ·
    refine t_seq ?_
    refine b0 ?_
    refine o1 rfl (det_assign rfl) rfl rfl trivial ?_
    refine be rfl ?_
    refine k_then ?_
    refine t_ret (k_thenR (?_))
    refine ret_tmp rfl rfl rfl (fun w1 hs => ?_)
    have hne : l ≠ q := fun e => by have := congrArg List.length e; have := hP.len; have := hQ.len; omega
    exact ⟨by rw [decide_eq_false hne], hs.keep⟩
  ·
    refine t_skip ?_
    refine k_then ?_
    refine t_seq ?_
    refine t_seq ?_
    refine b0 ?_
    refine o1 rfl (det_move rfl) rfl rfl trivial ?_
    refine o1 rfl (det_lenS sl65 rfl) rfl rfl trivial ?_
    refine o1 rfl (det_move rfl) rfl rfl trivial ?_
    refine be rfl ?_
    refine k_then ?_
    refine t_block ?_
    refine t_whileM (σ := Nat) (fun s => [(13, .int .i64 s)]) (fun _ => _) (fun s => l.length - s) (fun s => s ≤ l.length ∧ ∀ i, i < s → l.getD i false = q.getD i false) 0 (env0 := [(0, _), (1, _), (12, _)]) ⟨Nat.zero_le _, fun i hi => absurd hi (Nat.not_lt_zero i)⟩ ⟨rfl, trivial⟩ ⟨rfl, rfl, rfl, trivial⟩ (.refl _) ?_
    rintro s ⟨hsl, hI⟩
    have hnl := hP.len
    have hml := hQ.len
    refine t_seq ?_
    refine b0 ?_
    refine o1 rfl (det_lss rfl rfl) rfl rfl trivial ?_
    refine be rfl ?_
    refine k_then ?_
    refine t_seq ?_
    refine t_condP decide_eq_true_iff rfl (fun hb => ?_) (fun hb => ?_)
    ·
      have hlt : s < l.length := by omega
      have hlt2 : s < q.length := by omega
      obtain ⟨A, rfl⟩ := hP.some hlt
      obtain ⟨B, rfl⟩ := hQ.some hlt2
      refine t_skip ?_
      refine k_then ?_
      refine t_seq ?_
      refine t_block ?_
      refine t_seq ?_
      refine b0 ?_
      refine o1 rfl (det_move rfl) rfl rfl trivial ?_
      refine o1 rfl (det_assign rfl) rfl rfl trivial ?_
      refine be rfl ?_
      refine k_then ?_
      refine t_seq ?_
      refine bD mixed ?_
      refine r_seg 9 9 [] [0, 1, 2, 3, 4, 5, 6, 7, 8] (by kernel_rfl) ?_
      refine s1 rfl (det_move rfl) rfl rfl trivial rfl ?_
      refine s1 rfl (det_move rfl) rfl rfl trivial rfl ?_
      first | (refine s1 rfl (det_indexAddr sl65 rfl rfl ?_) rfl rfl trivial rfl ?_; (· (first | decide | omega)))
      refine s1 rfl (det_loadK t1_4 rfl (hP.cell1 (i := (s : Int)) (k := s) (u := .bool l[s]) (Int.toNat_natCast s) hlt rfl)) rfl rfl trivial rfl ?_
      refine s1 rfl (det_move rfl) rfl rfl trivial rfl ?_
      refine s1 rfl (det_move rfl) rfl rfl trivial rfl ?_
      first | (refine s1 rfl (det_indexAddr sl65 rfl rfl ?_) rfl rfl trivial rfl ?_; (· (first | decide | omega)))
      refine s1 rfl (det_loadK t1_4 rfl (hQ.cell1 (i := (s : Int)) (k := s) (u := .bool q[s]) (Int.toNat_natCast s) hlt2 rfl)) rfl rfl trivial rfl ?_
      refine s1 rfl (det_neqB Try.underlying4 rfl rfl) rfl rfl trivial rfl ?_
      refine sg_nil ?_
      refine be rfl ?_
      refine k_then ?_
      refine t_condP Iff.rfl rfl (fun hb => ?_) (fun hb => ?_)
      ·
        have hne : l ≠ q := fun e => by subst e; simp at hb
        refine t_seq ?_
        refine b0 ?_
        refine o1 rfl (det_assign rfl) rfl rfl trivial ?_
        refine be rfl ?_
        refine k_then ?_
        refine t_ret (k_blkR (k_thenR (k_thenR (k_blkR (k_thenR (?_))))))
        refine ret_tmp rfl rfl rfl (fun w1 hs => ?_)
        exact ⟨by rw [decide_eq_false hne], hs.keep⟩
      ·
        have heq : l[s] = q[s] := by simpa using hb
        refine t_skip ?_
        refine k_blk ?_
        refine k_then ?_
        refine b0 ?_
        first | (refine o1 rfl (det_addI rfl rfl ?_) rfl rfl trivial ?_; (· omega)) | refine o1 rfl (det_add rfl rfl) rfl rfl trivial ?_
        refine o1 rfl (det_move rfl) rfl rfl trivial ?_
        refine be rfl ?_
        refine k_then ?_
        refine loop_back (s + 1) ⟨by omega, fun i hi => by
            rcases Nat.lt_or_ge i s with h1 | h1
            · exact hI i h1
            · rw [show i = s by omega, getD_at hlt, getD_at hlt2]; exact heq⟩ (by omega) ⟨rfl, rfl, rfl, rfl, trivial⟩ (.refl _)
    ·
      have hse : s = l.length := by omega
      subst hse
      have heq := ext_D (d := false) (l := l) (m := q) (by omega) hI
      refine t_exit ?_
      refine k_thenE ?_
      refine k_thenE ?_
      refine k_blkE ?_
      refine k_then ?_
      refine t_seq ?_
      refine b0 ?_
      refine o1 rfl (det_assign rfl) rfl rfl trivial ?_
      refine be rfl ?_
      refine k_then ?_
      refine t_ret ?_
      refine ret_tmp rfl rfl rfl (fun w1 hs => ?_)
      exact ⟨by rw [decide_eq_true heq], hs.keep⟩

end Go.Proofs.Rc
