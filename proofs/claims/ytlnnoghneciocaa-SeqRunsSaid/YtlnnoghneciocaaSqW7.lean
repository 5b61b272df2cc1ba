/-
  Walks through layer 39 and its reference.
-/
import Derived.Test.YtlnnoghneciocaaSqL0
import Derived.Test.YtlnnoghneciocaaSqK3
namespace Go.Proofs.Sq
open Go Go.Eng Go.Sq
set_option maxRecDepth 4000

theorem ctv_one (c : Ct) : ∀ u ∈ ctv c, u.oneCell' = true := by
  intro u hu
  simp only [ctv, List.mem_cons, List.not_mem_nil, or_false] at hu
  rcases hu with rfl | rfl <;> rfl
/-- Draft.List. -/
theorem dlist_ok {w : World} {F : Know} (hF : ∀ a v, F a = some v → w.cell? a = some v) {A : Option Addr} {n c : Nat} {ds : List Dr} (hP : DK F A n ds) (hrg : ∀ d ∈ ds, Dr.rng d) : CallsF Try.prog 17 [.slice A n c] w noK (fun v F2 => ∃ A1 n1 c1, v = .slice A1 n1 c1 ∧ n1 ≤ c1 ∧ c1 ≤ maxLen ∧ CK F2 A1 n1 (listD ds)) := by
  refine fn_fresh (F := F) Try.func17 rfl Try.ntmps17 rfl hF ?_
  refine t_seq ?_
  refine b0 ?_
  refine o1 rfl (det_assign rfl) rfl rfl trivial ?_
  refine be rfl ?_
  refine k_then ?_
  refine t_seq ?_
  refine b0 ?_
  refine o1 rfl (det_assign rfl) rfl rfl trivial ?_
  refine be rfl ?_
  refine k_then ?_
  refine t_seq ?_
  refine b0 ?_
  refine o1 rfl (det_assign rfl) rfl rfl trivial ?_
  refine be rfl ?_
  refine k_then ?_
  refine t_seq ?_
  refine t_seq ?_
  refine b0 ?_
  refine o1 rfl (det_assign rfl) rfl rfl trivial ?_
  refine be rfl ?_
  refine k_then ?_
  refine t_block ?_
  refine t_whileM (σ := Nat × GS) (fun s => [(3, .slice s.2.A (listK ds s.1).length s.2.c), (4, .int .i64 (strmD ds s.1)), (5, .int .i64 s.1)]) (fun s => s.2.b) (fun s => 12 - s.1) (fun s => s.1 ≤ ds.length ∧ s.1 ≤ 12 ∧ GL s.2 (listK ds s.1)) (0, ⟨none, 0, []⟩) (env0 := [(0, _), (2, _)]) ⟨Nat.zero_le _, Nat.zero_le _, GL.zero⟩ ⟨rfl, rfl, rfl, trivial⟩ ⟨rfl, rfl, trivial⟩ (.refl _) ?_
  rintro s ⟨hsl, hs12, hG⟩
  have hnl := hP.len
  have hlk := listK_len ds s.1
  have hsb := strmD_bd ds s.1
  refine t_seq ?_
  refine t_seq ?_
  refine b0 ?_
  refine o1 rfl (det_move rfl) rfl rfl trivial ?_
  refine o1 rfl (det_move rfl) rfl rfl trivial ?_
  refine o1 rfl (det_lenS sl44 rfl) rfl rfl trivial ?_
  refine o1 rfl (det_lss rfl rfl) rfl rfl trivial ?_
  refine o2P decide_eq_true_iff rfl (det_move rfl) rfl rfl trivial (fun hb => ?_) (fun hb => ?_)
  ·
    skip
    refine o1 rfl (det_move rfl) rfl rfl ⟨_, rfl, rfl⟩ ?_
    refine o1 rfl (det_lss rfl rfl) rfl rfl ⟨_, rfl, rfl⟩ ?_
    refine o1 rfl (det_pickT rfl rfl) rfl rfl trivial ?_
    refine be rfl ?_
    refine k_then ?_
    refine t_condP decide_eq_true_iff rfl (fun hb => ?_) (fun hb => ?_)
    ·
      have hlt : s.1 < ds.length := by grind
      have hlt12 : s.1 < 12 := by grind
      obtain ⟨A, rfl⟩ := hP.some hlt
      have hat := (atD_get hlt).symm
      have hdr := hrg _ (List.getElem_mem hlt)
      obtain ⟨⟨hd1, hd2⟩, hd3, hd4⟩ := hdr
      refine t_skip ?_
      refine k_then ?_
      refine t_seq ?_
      refine t_block ?_
      refine t_seq ?_
      refine b0 ?_
      refine o1 rfl (det_move rfl) rfl rfl trivial ?_
      first | (refine o1 rfl (det_addI rfl rfl ?_) rfl rfl trivial ?_; (· omega)) | refine o1 rfl (det_add rfl rfl) rfl rfl trivial ?_
      refine o1 rfl (det_move rfl) rfl rfl trivial ?_
      refine o1 rfl (det_move rfl) rfl rfl trivial ?_
      first | (refine o1 rfl (det_indexAddr sl44 rfl rfl ?_) rfl rfl trivial ?_; (· (first | decide | omega)))
      first | (refine o1 rfl (det_indexAddrA ar67 rfl rfl ?_) rfl rfl trivial ?_; (· (first | decide | omega)))
      refine o1 rfl (det_loadK t1_22 rfl (hP.cell (i := (s.1 : Int)) (k := s.1) (j := 0) (u := .int .u16 ds[s.1].a) (Int.toNat_natCast s.1) hlt rfl)) rfl rfl trivial ?_
      first | (refine o1 rfl (det_remP rfl rfl ?_) rfl rfl trivial ?_; (· omega)) | (refine o1 rfl (det_rem rfl rfl ?_) rfl rfl trivial ?_; (· (first | decide | omega)))
      first | (refine o1 rfl (det_convW Try.underlying22 Try.underlying3 rfl ?_) rfl rfl trivial ?_; (· exact IntWalk.i64_in _ (by omega))) | refine o1 rfl (det_conv Try.underlying22 Try.underlying3 rfl) rfl rfl trivial ?_
      first | (refine o1 rfl (det_addI rfl rfl ?_) rfl rfl trivial ?_; (· omega)) | refine o1 rfl (det_add rfl rfl) rfl rfl trivial ?_
      refine o1 rfl (det_assign rfl) rfl rfl trivial ?_
      refine be rfl ?_
      refine k_then ?_
      refine b0 ?_
      refine o1 rfl (det_move rfl) rfl rfl trivial ?_
      refine o1 rfl (det_move rfl) rfl rfl trivial ?_
      refine o1 rfl (det_move rfl) rfl rfl trivial ?_
      refine o1 rfl (det_move rfl) rfl rfl trivial ?_
      first | (refine o1 rfl (det_indexAddr sl44 rfl rfl ?_) rfl rfl trivial ?_; (· (first | decide | omega)))
      first | (refine o1 rfl (det_indexAddrA ar67 rfl rfl ?_) rfl rfl trivial ?_; (· (first | decide | omega)))
      refine o1 rfl (det_loadK t1_22 rfl (hP.cell (i := (s.1 : Int)) (k := s.1) (j := 1) (u := .int .u16 ds[s.1].b) (Int.toNat_natCast s.1) hlt rfl)) rfl rfl trivial ?_
      first | (refine o1 rfl (det_convW Try.underlying22 Try.underlying3 rfl ?_) rfl rfl trivial ?_; (· exact IntWalk.i64_in _ (by omega))) | refine o1 rfl (det_conv Try.underlying22 Try.underlying3 rfl) rfl rfl trivial ?_
      refine o1 rfl (det_build rfl (fun w => bld50_0_1 _ _ w)) rfl rfl trivial ?_
      refine om1 rfl (new_buildSlice rfl (fun w => bsl46_1_0 _ _ w)) rfl rfl trivial (fun p35 => ?_)
      refine oAppS (pre := [_]) (b := _) (m := 1) (news := ctv ⟨strmD ds s.1 + 1 + ds[s.1].a % 300, ds[s.1].b⟩) nofun rfl ap46 rfl rfl rfl trivial hG rfl (fun w hs j u hj => hs.cellO (.head _) hj) (ctv_one _) (by omega) (by simp only [maxLen]; omega) (fun A9 c9 b9 hS9 => ?_)
      have e2 : strmD ds s.1 + 1 + ds[s.1].a % 300 = strmD ds (s.1 + 1) := by rw [hat]; rfl
      have e3 : (listK ds s.1).length + 1 = (listK ds (s.1 + 1)).length := by rw [listK_len, listK_len]
      have hG9 : GL ⟨A9, c9, b9⟩ (listK ds (s.1 + 1)) := by rw [listK_succ, ctD, ← hat, ← e2]; exact GL.of hS9
      refine o1 rfl (det_assign rfl) rfl rfl trivial ?_
      refine be rfl ?_
      refine k_blk ?_
      refine k_then ?_
      refine b0 ?_
      refine o1 rfl (det_move rfl) rfl rfl trivial ?_
      first | (refine o1 rfl (det_addI rfl rfl ?_) rfl rfl trivial ?_; (· omega)) | refine o1 rfl (det_add rfl rfl) rfl rfl trivial ?_
      refine o1 rfl (det_assign rfl) rfl rfl trivial ?_
      refine be rfl ?_
      refine k_then ?_
      rw [e3, e2]
      refine loop_back (s.1 + 1, ⟨A9, c9, b9⟩) ⟨by omega, by omega, hG9⟩ (by simp only; omega) ⟨rfl, rfl, rfl, rfl, rfl, trivial⟩ (.cons _ (.refl _))
    ·
      have hm : s.1 = min ds.length 12 := by grind
      refine t_exit ?_
      refine k_thenE ?_
      refine k_thenE ?_
      refine k_blkE ?_
      refine k_then ?_
      refine t_seq ?_
      refine b0 ?_
      refine o1 rfl (det_move rfl) rfl rfl trivial ?_
      refine o1 rfl (det_assign rfl) rfl rfl trivial ?_
      refine be rfl ?_
      refine k_then ?_
      refine t_ret ?_
      refine ret_tmp rfl rfl rfl (fun w1 hs => ?_)
      exact end_fresh hs fun F2 h1 _ h3 => by
        obtain ⟨g1, g2, g3⟩ := hG.read (fun p cs t fr k hm => h3 p cs t fr k hm)
        exact ⟨_, _, _, rfl, g1, g2, by rw [listD, ← hm]; exact g3⟩
  ·
    have hm : s.1 = min ds.length 12 := by omega
    refine on rfl rfl rfl ⟨_, rfl, .inl rfl⟩ ?_
    refine on rfl rfl rfl ⟨_, rfl, .inl rfl⟩ ?_
    refine o1 rfl (det_pickF rfl rfl) rfl rfl trivial ?_
    refine be rfl ?_
    refine k_then ?_
    refine t_condF rfl ?_
    refine t_exit ?_
    refine k_thenE ?_
    refine k_thenE ?_
    refine k_blkE ?_
    refine k_then ?_
    refine t_seq ?_
    refine b0 ?_
    refine o1 rfl (det_move rfl) rfl rfl trivial ?_
    refine o1 rfl (det_assign rfl) rfl rfl trivial ?_
    refine be rfl ?_
    refine k_then ?_
    refine t_ret ?_
    refine ret_tmp rfl rfl rfl (fun w1 hs => ?_)
    exact end_fresh hs fun F2 h1 _ h3 => by
      obtain ⟨g1, g2, g3⟩ := hG.read (fun p cs t fr k hm => h3 p cs t fr k hm)
      exact ⟨_, _, _, rfl, g1, g2, by rw [listD, ← hm]; exact g3⟩

/-- Clone. -/
theorem clone_ok {w : World} {F : Know} (hF : ∀ a v, F a = some v → w.cell? a = some v) {A : Option Addr} {n c : Nat} {l : List Ct} (hP : CK F A n l) (hnb : n ≤ 65536) : CallsN Try.prog 20 [.slice A n c] w (fun v bs => ∃ A1 c1, v = .slice A1 n c1 ∧ SlO 50 2 v n (rowsV ctv l) bs) := by
  refine fn_new (F := F) Try.func20 rfl Try.ntmps20 rfl hF ?_
  refine t_seq ?_
  refine b0 ?_
  refine o1 rfl (det_assign rfl) rfl rfl trivial ?_
  refine be rfl ?_
  refine k_then ?_
  refine t_seq ?_
  refine t_seq ?_
  refine b0 ?_
  refine o1 rfl (det_move rfl) rfl rfl trivial ?_
  refine o1 rfl (det_eqlNil sl46 rfl rfl) rfl rfl trivial ?_
  refine be rfl ?_
  refine k_then ?_
  refine t_condP Iff.rfl rfl (fun hb => ?_) (fun hb => ?_)
  ·
    refine t_seq ?_
    refine b0 ?_
    refine o1 rfl (det_assign rfl) rfl rfl trivial ?_
    refine be rfl ?_
    refine k_then ?_
    refine t_ret (k_thenR (?_))
    refine ret_tmp rfl rfl rfl (fun w1 hs => ?_)
    have hn0 : n = 0 := by
      rcases Nat.eq_zero_or_pos n with h | h
      · exact h
      · obtain ⟨a, ha⟩ := hP.some (i := 0) (by rw [← hP.len]; exact h)
        subst ha; cases hb
    have hl0 : l = [] := List.eq_nil_of_length_eq_zero (by rw [← hP.len]; exact hn0)
    subst hn0; subst hl0
    exact end_new (bs := []) hs (List.nil_sublist _) ⟨none, 0, rfl, SlO.nil 50 2⟩
  ·
    refine t_skip ?_
    refine k_then ?_
    refine t_seq ?_
    refine b0 ?_
    refine om1 rfl (new_buildSlice rfl (fun w => bsl46_0_ w)) rfl rfl trivial (fun p5 => ?_)
    refine o1 rfl (det_move rfl) rfl rfl trivial ?_
    refine oAppH (b := [_]) (post := []) (m := n) (news := rowsV ctv l) nofun rfl ap46 rfl rfl rfl trivial (SlO.lit (n := 0) (xs := []) rfl (by decide)) (by rw [rowsV_len ctv_len, hP.len]) (fun w hs j u hj => by obtain ⟨b, hb, h⟩ := hP.flat ctv_len (by decide) j u hj; exact ⟨b, hb, hs.know _ _ h⟩) (rowsC_one _) (by omega) (by simp only [maxLen]; omega) (fun A1 c1 b1 hS1 => ?_)
    simp only [Nat.zero_add, List.nil_append] at hS1
    refine o1 rfl (det_assign rfl) rfl rfl trivial ?_
    refine be rfl ?_
    refine k_then ?_
    refine t_ret ?_
    refine ret_tmp rfl rfl rfl (fun w1 hs => ?_)
    exact end_new hs (.refl _) ⟨A1, c1, by rw [Nat.zero_add], by rw [Nat.zero_add]; exact hS1⟩

/-- Right. -/
theorem right_ok {w : World} {F : Know} (hF : ∀ a v, F a = some v → w.cell? a = some v) {A : Option Addr} {n c : Nat} {l : List Ct} (hP : CK F A n l) (hnb : n ≤ 65536) : Pure Try.prog 21 [.slice A n c] w (.bool (okL l)) := by
  refine fn_pure (F := F) Try.func21 rfl Try.ntmps21 rfl hF ?_
  refine t_seq ?_
  refine b0 ?_
  refine o1 rfl (det_assign rfl) rfl rfl trivial ?_
  refine be rfl ?_
  refine k_then ?_
  refine t_seq ?_
  refine t_seq ?_
  refine b0 ?_
  refine o1 rfl (det_assign rfl) rfl rfl trivial ?_
  refine be rfl ?_
  refine k_then ?_
  refine t_block ?_
  refine t_whileM (σ := Nat) (fun s => [(3, .int .i64 s)]) (fun _ => _) (fun s => l.length - s) (fun s => s ≤ l.length ∧ ∀ k, k < s → okAtC l k = true) 0 (env0 := [(0, _)]) ⟨Nat.zero_le _, fun k hk => absurd hk (Nat.not_lt_zero k)⟩ ⟨rfl, trivial⟩ ⟨rfl, trivial⟩ (.refl _) ?_
  rintro s ⟨hsl, hI⟩
  have hlb := ok_last hI hsl
  have hnl := hP.len
  refine t_seq ?_
  refine t_seq ?_
  refine b0 ?_
  refine o1 rfl (det_move rfl) rfl rfl trivial ?_
  refine o1 rfl (det_move rfl) rfl rfl trivial ?_
  refine o1 rfl (det_lenS sl46 rfl) rfl rfl trivial ?_
  refine o1 rfl (det_lss rfl rfl) rfl rfl trivial ?_
  refine be rfl ?_
  refine k_then ?_
  refine t_condP decide_eq_true_iff rfl (fun hb => ?_) (fun hb => ?_)
  ·
    have hlt : s < l.length := by omega
    obtain ⟨A, rfl⟩ := hP.some hlt
    have hat := (atC_get hlt).symm
    have hls : lastK l s = if s = 0 then 0 else (atC l (s - 1)).st := rfl
    have hat1 : 0 < s → atC l (s - 1) = l[s - 1] := fun h => atC_get (by omega)
    refine t_skip ?_
    refine k_then ?_
    refine t_seq ?_
    refine t_block ?_
    refine t_seq ?_
    refine t_merge (env0 := [(0, _), (3, _)]) ⟨rfl, rfl, trivial⟩ 50 (.bool (decide (okAtC l s = false))) ?_ (fun hK => ?_)
    ·
      refine k_then ?_
      refine t_condP decide_eq_true_iff rfl (fun hb => ?_) (fun hb => ?_)
      ·
        have hno : okL l = false := okL_at hlt (by simpa using hb)
        refine t_seq ?_
        refine b0 ?_
        refine o1 rfl (det_assign rfl) rfl rfl trivial ?_
        refine be rfl ?_
        refine k_then ?_
        refine t_ret (k_blkR (k_thenR (k_thenR (k_blkR (k_thenR (?_))))))
        refine ret_tmp rfl rfl rfl (fun w1 hs => ?_)
        exact ⟨by rw [hno], hs.keep⟩
      ·
        have hok : okAtC l s = true := by simpa using hb
        refine t_skip ?_
        refine k_blk ?_
        refine k_then ?_
        refine b0 ?_
        refine o1 rfl (det_move rfl) rfl rfl trivial ?_
        first | (refine o1 rfl (det_addI rfl rfl ?_) rfl rfl trivial ?_; (· omega)) | refine o1 rfl (det_add rfl rfl) rfl rfl trivial ?_
        refine o1 rfl (det_assign rfl) rfl rfl trivial ?_
        refine be rfl ?_
        refine k_then ?_
        refine loop_back (s + 1) ⟨by omega, ok_step hI hok⟩ (by omega) ⟨rfl, rfl, trivial⟩ (.refl _)
    ·
      refine bD mixed ?_
      refine r_seg 41 41 [] [0, 1, 2, 3, 4, 5, 6, 7, 8, 9, 10, 11, 12, 13, 14, 15, 16, 17, 18, 19, 20, 21, 22, 23, 24, 25, 26, 27, 28, 29, 30, 31, 32, 33, 34, 35, 36, 37, 38, 39, 40] (by kernel_rfl) ?_
      refine s1 rfl (det_move rfl) rfl rfl trivial rfl ?_
      refine s1 rfl (det_move rfl) rfl rfl trivial rfl ?_
      first | (refine s1 rfl (det_indexAddr sl46 rfl rfl ?_) rfl rfl trivial rfl ?_; (· (first | decide | omega)))
      refine s1 rfl (det_fieldAddr fld50_0 rfl) rfl rfl trivial rfl ?_
      refine s1 rfl (det_loadK t1_3 rfl (hP.cell (i := (s : Int)) (k := s) (j := 0) (u := .int .i64 l[s].st) (Int.toNat_natCast s) hlt rfl)) rfl rfl trivial rfl ?_
      refine s1 rfl (det_lss rfl rfl) rfl rfl trivial rfl ?_
      refine s2P decide_eq_true_iff rfl (det_move rfl) rfl rfl trivial rfl (fun hb => ?_) (fun hb => ?_)
      ·
        refine sn rfl rfl rfl ⟨_, rfl, .inl rfl⟩ ?_
        refine sn rfl rfl rfl ⟨_, rfl, .inl rfl⟩ ?_
        refine sn rfl rfl rfl ⟨_, rfl, .inl rfl⟩ ?_
        refine sn rfl rfl rfl ⟨_, rfl, .inl rfl⟩ ?_
        refine sn rfl rfl rfl ⟨_, rfl, .inl rfl⟩ ?_
        refine sn rfl rfl rfl ⟨_, rfl, .inl rfl⟩ ?_
        refine s1 rfl (det_pickT rfl rfl) rfl rfl trivial rfl ?_
        refine s1 rfl (det_move rfl) rfl rfl trivial rfl ?_
        refine sn rfl rfl rfl ⟨_, rfl, .inl rfl⟩ ?_
        refine sn rfl rfl rfl ⟨_, rfl, .inl rfl⟩ ?_
        refine sn rfl rfl rfl ⟨_, rfl, .inl rfl⟩ ?_
        refine sn rfl rfl rfl ⟨_, rfl, .inl rfl⟩ ?_
        refine sn rfl rfl rfl ⟨_, rfl, .inl rfl⟩ ?_
        refine sn rfl rfl rfl ⟨_, rfl, .inl rfl⟩ ?_
        refine sn rfl rfl rfl ⟨_, rfl, .inl rfl⟩ ?_
        refine s1 rfl (det_pickT rfl rfl) rfl rfl trivial rfl ?_
        refine s1 rfl (det_move rfl) rfl rfl trivial rfl ?_
        refine sn rfl rfl rfl ⟨_, rfl, .inl rfl⟩ ?_
        refine sn rfl rfl rfl ⟨_, rfl, .inl rfl⟩ ?_
        refine sn rfl rfl rfl ⟨_, rfl, .inl rfl⟩ ?_
        refine sn rfl rfl rfl ⟨_, rfl, .inr rfl⟩ ?_
        refine sn rfl rfl rfl ⟨_, rfl, .inr rfl⟩ ?_
        refine sn rfl rfl rfl ⟨_, rfl, .inr rfl⟩ ?_
        refine sn rfl rfl rfl ⟨_, rfl, .inr rfl⟩ ?_
        refine sn rfl rfl rfl ⟨_, rfl, .inr rfl⟩ ?_
        refine sn rfl rfl rfl ⟨_, rfl, .inr rfl⟩ ?_
        refine sn rfl rfl rfl ⟨_, rfl, .inr rfl⟩ ?_
        refine sn rfl rfl rfl ⟨_, rfl, .inr rfl⟩ ?_
        refine sn rfl rfl rfl ⟨_, rfl, .inr rfl⟩ ?_
        refine sn rfl rfl rfl ⟨_, rfl, .inr rfl⟩ ?_
        refine sn rfl rfl rfl ⟨_, rfl, .inr rfl⟩ ?_
        refine sn rfl rfl rfl ⟨_, rfl, .inr rfl⟩ ?_
        refine sn rfl rfl rfl ⟨_, rfl, .inl rfl⟩ ?_
        refine s1 rfl (det_pickT rfl rfl) rfl rfl trivial rfl ?_
        refine sg_nil ?_
        refine be rfl ?_
        refine tk_drop ?_ (.refl _) hK
        exact ⟨(mb rfl (by grind [okAtC])), rfl, rfl, trivial⟩
      ·
        refine s1 rfl (det_move rfl) rfl rfl ⟨_, rfl, rfl⟩ rfl ?_
        refine s1 rfl (det_move rfl) rfl rfl ⟨_, rfl, rfl⟩ rfl ?_
        first | (refine s1 rfl (det_indexAddr sl46 rfl rfl ?_) rfl rfl ⟨_, rfl, rfl⟩ rfl ?_; (· (first | decide | omega)))
        refine s1 rfl (det_fieldAddr fld50_0 rfl) rfl rfl ⟨_, rfl, rfl⟩ rfl ?_
        refine s1 rfl (det_loadK t1_3 rfl (hP.cell (i := (s : Int)) (k := s) (j := 0) (u := .int .i64 l[s].st) (Int.toNat_natCast s) hlt rfl)) rfl rfl ⟨_, rfl, rfl⟩ rfl ?_
        refine s1 rfl (det_gtr rfl rfl) rfl rfl ⟨_, rfl, rfl⟩ rfl ?_
        refine s1 rfl (det_pickF rfl rfl) rfl rfl trivial rfl ?_
        refine s2P decide_eq_true_iff rfl (det_move rfl) rfl rfl trivial rfl (fun hb => ?_) (fun hb => ?_)
        ·
          refine sn rfl rfl rfl ⟨_, rfl, .inl rfl⟩ ?_
          refine sn rfl rfl rfl ⟨_, rfl, .inl rfl⟩ ?_
          refine sn rfl rfl rfl ⟨_, rfl, .inl rfl⟩ ?_
          refine sn rfl rfl rfl ⟨_, rfl, .inl rfl⟩ ?_
          refine sn rfl rfl rfl ⟨_, rfl, .inl rfl⟩ ?_
          refine sn rfl rfl rfl ⟨_, rfl, .inl rfl⟩ ?_
          refine sn rfl rfl rfl ⟨_, rfl, .inl rfl⟩ ?_
          refine s1 rfl (det_pickT rfl rfl) rfl rfl trivial rfl ?_
          refine s1 rfl (det_move rfl) rfl rfl trivial rfl ?_
          refine sn rfl rfl rfl ⟨_, rfl, .inl rfl⟩ ?_
          refine sn rfl rfl rfl ⟨_, rfl, .inl rfl⟩ ?_
          refine sn rfl rfl rfl ⟨_, rfl, .inl rfl⟩ ?_
          refine sn rfl rfl rfl ⟨_, rfl, .inr rfl⟩ ?_
          refine sn rfl rfl rfl ⟨_, rfl, .inr rfl⟩ ?_
          refine sn rfl rfl rfl ⟨_, rfl, .inr rfl⟩ ?_
          refine sn rfl rfl rfl ⟨_, rfl, .inr rfl⟩ ?_
          refine sn rfl rfl rfl ⟨_, rfl, .inr rfl⟩ ?_
          refine sn rfl rfl rfl ⟨_, rfl, .inr rfl⟩ ?_
          refine sn rfl rfl rfl ⟨_, rfl, .inr rfl⟩ ?_
          refine sn rfl rfl rfl ⟨_, rfl, .inr rfl⟩ ?_
          refine sn rfl rfl rfl ⟨_, rfl, .inr rfl⟩ ?_
          refine sn rfl rfl rfl ⟨_, rfl, .inr rfl⟩ ?_
          refine sn rfl rfl rfl ⟨_, rfl, .inr rfl⟩ ?_
          refine sn rfl rfl rfl ⟨_, rfl, .inr rfl⟩ ?_
          refine sn rfl rfl rfl ⟨_, rfl, .inl rfl⟩ ?_
          refine s1 rfl (det_pickT rfl rfl) rfl rfl trivial rfl ?_
          refine sg_nil ?_
          refine be rfl ?_
          refine tk_drop ?_ (.refl _) hK
          exact ⟨(mb rfl (by grind [okAtC])), rfl, rfl, trivial⟩
        ·
          refine s1 rfl (det_move rfl) rfl rfl ⟨_, rfl, rfl⟩ rfl ?_
          refine s1 rfl (det_move rfl) rfl rfl ⟨_, rfl, rfl⟩ rfl ?_
          first | (refine s1 rfl (det_indexAddr sl46 rfl rfl ?_) rfl rfl ⟨_, rfl, rfl⟩ rfl ?_; (· (first | decide | omega)))
          refine s1 rfl (det_fieldAddr fld50_1 rfl) rfl rfl ⟨_, rfl, rfl⟩ rfl ?_
          refine s1 rfl (det_loadK t1_3 rfl (hP.cell (i := (s : Int)) (k := s) (j := 1) (u := .int .i64 l[s].nx) (Int.toNat_natCast s) hlt rfl)) rfl rfl ⟨_, rfl, rfl⟩ rfl ?_
          refine s1 rfl (det_call hb14 rfl rfl (fun w1 hs => rnum_ok hs.know)) rfl rfl ⟨_, rfl, rfl⟩ rfl ?_
          refine s1 rfl (det_not rfl) rfl rfl ⟨_, rfl, rfl⟩ rfl ?_
          refine s1 rfl (det_pickF rfl rfl) rfl rfl trivial rfl ?_
          refine s2P not_iff_false rfl (det_move rfl) rfl rfl trivial rfl (fun hb => ?_) (fun hb => ?_)
          ·
            refine sn rfl rfl rfl ⟨_, rfl, .inl rfl⟩ ?_
            refine sn rfl rfl rfl ⟨_, rfl, .inl rfl⟩ ?_
            refine sn rfl rfl rfl ⟨_, rfl, .inl rfl⟩ ?_
            refine sn rfl rfl rfl ⟨_, rfl, .inr rfl⟩ ?_
            refine sn rfl rfl rfl ⟨_, rfl, .inr rfl⟩ ?_
            refine sn rfl rfl rfl ⟨_, rfl, .inr rfl⟩ ?_
            refine sn rfl rfl rfl ⟨_, rfl, .inr rfl⟩ ?_
            refine sn rfl rfl rfl ⟨_, rfl, .inr rfl⟩ ?_
            refine sn rfl rfl rfl ⟨_, rfl, .inr rfl⟩ ?_
            refine sn rfl rfl rfl ⟨_, rfl, .inr rfl⟩ ?_
            refine sn rfl rfl rfl ⟨_, rfl, .inr rfl⟩ ?_
            refine sn rfl rfl rfl ⟨_, rfl, .inr rfl⟩ ?_
            refine sn rfl rfl rfl ⟨_, rfl, .inr rfl⟩ ?_
            refine sn rfl rfl rfl ⟨_, rfl, .inr rfl⟩ ?_
            refine sn rfl rfl rfl ⟨_, rfl, .inr rfl⟩ ?_
            refine sn rfl rfl rfl ⟨_, rfl, .inl rfl⟩ ?_
            refine s1 rfl (det_pickT rfl rfl) rfl rfl trivial rfl ?_
            refine sg_nil ?_
            refine be rfl ?_
            refine tk_drop ?_ (.refl _) hK
            exact ⟨(mb rfl (by grind [okAtC])), rfl, rfl, trivial⟩
          ·
            refine s1 rfl (det_move rfl) rfl rfl ⟨_, rfl, rfl⟩ rfl ?_
            refine s1 rfl (det_gtr rfl rfl) rfl rfl ⟨_, rfl, rfl⟩ rfl ?_
            refine s2P decide_eq_true_iff rfl (det_move rfl) rfl rfl ⟨_, rfl, rfl⟩ rfl (fun hb => ?_) (fun hb => ?_)
            ·
              refine s1 rfl (det_move rfl) rfl rfl ⟨_, rfl, rfl⟩ rfl ?_
              refine s1 rfl (det_move rfl) rfl rfl ⟨_, rfl, rfl⟩ rfl ?_
              first | (refine s1 rfl (det_subI rfl rfl ?_) rfl rfl ⟨_, rfl, rfl⟩ rfl ?_; (· omega)) | refine s1 rfl (det_sub rfl rfl) rfl rfl ⟨_, rfl, rfl⟩ rfl ?_
              first | (refine s1 rfl (det_indexAddr sl46 rfl rfl ?_) rfl rfl ⟨_, rfl, rfl⟩ rfl ?_; (· (first | decide | omega)))
              refine s1 rfl (det_fieldAddr fld50_0 rfl) rfl rfl ⟨_, rfl, rfl⟩ rfl ?_
              refine s1 rfl (det_loadK t1_3 rfl (hP.cell (i := (s : Int) - 1) (k := s - 1) (j := 0) (u := .int .i64 l[s - 1].st) (by omega) (by omega) rfl)) rfl rfl ⟨_, rfl, rfl⟩ rfl ?_
              refine s1 rfl (det_move rfl) rfl rfl ⟨_, rfl, rfl⟩ rfl ?_
              refine s1 rfl (det_move rfl) rfl rfl ⟨_, rfl, rfl⟩ rfl ?_
              first | (refine s1 rfl (det_indexAddr sl46 rfl rfl ?_) rfl rfl ⟨_, rfl, rfl⟩ rfl ?_; (· (first | decide | omega)))
              refine s1 rfl (det_fieldAddr fld50_0 rfl) rfl rfl ⟨_, rfl, rfl⟩ rfl ?_
              refine s1 rfl (det_loadK t1_3 rfl (hP.cell (i := (s : Int)) (k := s) (j := 0) (u := .int .i64 l[s].st) (Int.toNat_natCast s) hlt rfl)) rfl rfl ⟨_, rfl, rfl⟩ rfl ?_
              refine s1 rfl (det_geq rfl rfl) rfl rfl ⟨_, rfl, rfl⟩ rfl ?_
              refine s1 rfl (det_pickT rfl rfl) rfl rfl ⟨_, rfl, rfl⟩ rfl ?_
              refine s1 rfl (det_pickF rfl rfl) rfl rfl trivial rfl ?_
              refine sg_nil ?_
              refine be rfl ?_
              refine tk_drop ?_ (.refl _) hK
              exact ⟨(mb rfl (by grind [okAtC])), rfl, rfl, trivial⟩
            ·
              refine sn rfl rfl rfl ⟨_, rfl, .inl rfl⟩ ?_
              refine sn rfl rfl rfl ⟨_, rfl, .inl rfl⟩ ?_
              refine sn rfl rfl rfl ⟨_, rfl, .inl rfl⟩ ?_
              refine sn rfl rfl rfl ⟨_, rfl, .inl rfl⟩ ?_
              refine sn rfl rfl rfl ⟨_, rfl, .inl rfl⟩ ?_
              refine sn rfl rfl rfl ⟨_, rfl, .inl rfl⟩ ?_
              refine sn rfl rfl rfl ⟨_, rfl, .inl rfl⟩ ?_
              refine sn rfl rfl rfl ⟨_, rfl, .inl rfl⟩ ?_
              refine sn rfl rfl rfl ⟨_, rfl, .inl rfl⟩ ?_
              refine sn rfl rfl rfl ⟨_, rfl, .inl rfl⟩ ?_
              refine sn rfl rfl rfl ⟨_, rfl, .inl rfl⟩ ?_
              refine sn rfl rfl rfl ⟨_, rfl, .inl rfl⟩ ?_
              refine s1 rfl (det_pickF rfl rfl) rfl rfl ⟨_, rfl, rfl⟩ rfl ?_
              refine s1 rfl (det_pickF rfl rfl) rfl rfl trivial rfl ?_
              refine sg_nil ?_
              refine be rfl ?_
              refine tk_drop ?_ (.refl _) hK
              exact ⟨(mb rfl (by grind [okAtC])), rfl, rfl, trivial⟩
  ·
    have hse : s = l.length := by omega
    subst hse
    refine t_exit ?_
    refine k_thenE ?_
    refine k_thenE ?_
    refine k_blkE ?_
    refine k_then ?_
    refine t_seq ?_
    refine b0 ?_
    refine o1 rfl (det_move rfl) rfl rfl trivial ?_
    refine o1 rfl (det_lenS sl46 rfl) rfl rfl trivial ?_
    refine o1 rfl (det_leq rfl rfl) rfl rfl trivial ?_
    refine o1 rfl (det_assign rfl) rfl rfl trivial ?_
    refine be rfl ?_
    refine k_then ?_
    refine t_ret ?_
    refine ret_tmp rfl rfl rfl (fun w1 hs => ?_)
    exact ⟨by rw [show okL l = decide ((n : Int) ≤ 12) by rw [Bool.eq_iff_iff, okL_iff, decide_eq_true_iff]; exact ⟨fun h => by omega, fun h => ⟨by omega, hI⟩⟩], hs.keep⟩

end Go.Proofs.Sq
