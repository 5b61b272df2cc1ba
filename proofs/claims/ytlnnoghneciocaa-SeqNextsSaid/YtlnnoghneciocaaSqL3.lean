/-
  Walks through layer 39 and its reference.
-/
import Derived.Test.YtlnnoghneciocaaSqL0
import Derived.Test.YtlnnoghneciocaaSqW8
namespace Go.Proofs.Sq
open Go Go.Eng Go.Sq
set_option maxRecDepth 4000

theorem same_at {w : World} {F : Know} {A B : Option Addr} {n m c d : Nat} {l q : List Ct} (hF : ∀ a v, F a = some v → w.cell? a = some v) (hP : CK F A n l) (hQ : CK F B m q) (hnb : n ≤ 65536) {b : Bool} (e : decide (l = q) = b) : Pure Try.prog 23 [.slice A n c, .slice B m d] w (.bool b) := by
  rw [← e]; exact same_ok hF hP hQ hnb
/-- SeqNexts. -/
theorem nexts_ok {w : World} {F : Know} (hF : ∀ a v, F a = some v → w.cell? a = some v) {A : Option Addr} {n c : Nat} {l : List Ct} (hP : CK F A n l) (hnc : n ≤ c) (hcm : c ≤ maxLen) {DA : Option Addr} {dn dc : Nat} {ds : List Dr} (hD : DK F DA dn ds) (hrg : ∀ d ∈ ds, Dr.rng d) {ix st : Int} (hix : 0 ≤ ix ∧ ix ≤ 255) {y : Ct} : Pure Try.prog 8 [.slice A n c, .slice DA dn dc, .int .u8 ix, .agg [.int .i64 y.st, .int .i64 y.nx].toArray, .int .i64 st] w (.bool true) := by
  refine fn_pure (F := F) Try.func8 rfl Try.ntmps8 rfl hF ?_
  refine t_seq ?_
  refine b0 ?_
  refine om1 rfl (new_boxN rfl) rfl rfl trivial (fun p8 => ?_)
  refine o1 rfl (det_assign rfl) rfl rfl trivial ?_
  refine be rfl ?_
  refine k_then ?_
  refine t_seq ?_
  refine t_seq ?_
  refine b0 ?_
  refine o1 rfl (det_call hb9 rfl rfl (fun w1 hs => works_ok hs.know)) rfl rfl trivial ?_
  refine o1 rfl (det_not rfl) rfl rfl trivial ?_
  refine be rfl ?_
  refine k_then ?_
  refine t_condP not_iff_false rfl (fun hb => ?_) (fun hb => ?_)
  · exfalso; simp at hb
  refine t_skip ?_
  refine k_then ?_
  refine t_seq ?_
  refine b0 ?_
  refine o1 rfl (det_move rfl) rfl rfl trivial ?_
  refine oF nofun rfl hb17 rfl rfl rfl trivial (fun w1 hs => (dlist_ok hs.know hD hrg).any) (fun v1 F1 hF1 hN1 ⟨A1, n1, c1, hv, hn1, hm1, hP1⟩ => ?_)
  subst hv
  have hl1 := hP1.len
  have hll1 : n1 ≤ 12 := by rw [hl1, listD, listK_len]; omega
  replace hP := hP.mono hF1
  refine o1 rfl (det_assign rfl) rfl rfl trivial ?_
  refine be rfl ?_
  refine k_then ?_
  refine t_seq ?_
  refine b0 ?_
  refine o1 rfl (det_move rfl) rfl rfl trivial ?_
  refine oNL nofun rfl hb20 rfl rfl rfl trivial (fun w1 hs => clone_ok hs.know hP1 (by omega)) (fun v2 bs ⟨A2, c2, hv, hS⟩ => ?_)
  subst hv
  have hn2 : n1 ≤ c2 := by obtain ⟨A9, c9, h0, h1, h2, h3⟩ := hS.slice; cases h0; exact h1
  have hm2 : c2 ≤ maxLen := by obtain ⟨A9, c9, h0, h1, h2, h3⟩ := hS.slice; cases h0; exact h2
  refine o1 rfl (det_assign rfl) rfl rfl trivial ?_
  refine be rfl ?_
  refine k_then ?_
  refine t_seq ?_
  refine t_seq ?_
  refine b0 ?_
  refine o1 rfl (det_move rfl) rfl rfl trivial ?_
  refine o1 rfl (det_lenS sl46 rfl) rfl rfl trivial ?_
  refine o1 rfl (det_gtr rfl rfl) rfl rfl trivial ?_
  refine be rfl ?_
  refine k_then ?_
  refine t_condP decide_eq_true_iff rfl (fun hb => ?_) (fun hb => ?_)
  ·
    have hil : (ix % (n1 : Int)).toNat < (listD ds).length := by
      have h1 := Int.emod_lt_of_pos ix (show (0 : Int) < n1 by omega)
      have h2 := Int.emod_nonneg ix (show (n1 : Int) ≠ 0 by omega)
      omega
    have hir : 0 ≤ ix % (n1 : Int) ∧ ix % (n1 : Int) < n1 := ⟨Int.emod_nonneg ix (by omega), Int.emod_lt_of_pos ix (by omega)⟩
    obtain ⟨pb, cs, cs2, hA2, hbs, hset, hS2⟩ := hS.store ctv_len hl1 hil y
    subst hA2
    subst hbs --note:stored
    refine bD mixed ?_
    refine r_seg 9 8 [] [0, 1, 2, 3, 4, 5, 6, 7] (by kernel_rfl) ?_
    refine s1 rfl (det_move rfl) rfl rfl trivial rfl ?_
    refine s1 rfl (det_move rfl) rfl rfl trivial rfl ?_
    first | (refine s1 rfl (det_convW Try.underlying5 Try.underlying3 rfl ?_) rfl rfl trivial rfl ?_; (· exact IntWalk.i64_in _ (by omega))) | refine s1 rfl (det_conv Try.underlying5 Try.underlying3 rfl) rfl rfl trivial rfl ?_
    refine s1 rfl (det_move rfl) rfl rfl trivial rfl ?_
    refine s1 rfl (det_lenS sl46 rfl) rfl rfl trivial rfl ?_
    first | (refine s1 rfl (det_remP rfl rfl ?_) rfl rfl trivial rfl ?_; (· omega)) | (refine s1 rfl (det_rem rfl rfl ?_) rfl rfl trivial rfl ?_; (· (first | decide | omega)))
    refine s1 rfl (det_loadN tN50 rfl rfl (.head _) rfl) rfl rfl trivial rfl ?_
    first | (refine s1 rfl (det_indexAddr sl46 rfl rfl ?_) rfl rfl trivial rfl ?_; (· (first | decide | omega)))
    refine sg_nil ?_
    refine stN (fun _ => by kernel_rfl) rfl tN50 rfl (by rw [add_mk, Nat.zero_add]) rfl (.tail .head) hset trivial rfl rfl ?_
    refine be rfl ?_
    refine k_then ?_
    refine t_seq ?_
    refine t_seq ?_
    refine b0 ?_
    refine tk_freezeL (pre := [_]) hS2 rfl (fun Fb hFb hNb hKb => ?_)
    obtain ⟨lb, hB⟩ : ∃ lb, CK Fb (some ⟨pb, 0, none⟩) n1 lb := ⟨_, rowsK_of ctv_len (by decide) hKb (by rw [List.length_set]; exact hl1)⟩
    replace hP := hP.mono hFb
    replace hP1 := hP1.mono hFb
    refine o1 rfl (det_move rfl) rfl rfl trivial ?_
    refine o1 rfl (det_move rfl) rfl rfl trivial ?_
    refine o1 rfl (det_lenS sl46 rfl) rfl rfl trivial ?_
    refine o1 rfl (det_min2 rfl rfl) rfl rfl trivial ?_
    first | (refine o1 rfl (det_sliceTo sl46 rfl rfl ?_) rfl rfl trivial ?_; (· omega))
    obtain ⟨m, hm⟩ : ∃ m, (min (n : Int) 14).toNat = m := ⟨_, rfl⟩
    have hmn : m ≤ n := by omega
    have hm14 : m ≤ 14 := by omega
    rw [hm]
    obtain ⟨qs, hqs⟩ : ∃ qs, l.take m = qs := ⟨_, rfl⟩
    replace hP : CK Fb A m qs := by rw [← hqs]; exact hP.take m hmn
    refine o1 rfl (det_move rfl) rfl rfl trivial ?_
    refine o1 rfl (det_move rfl) rfl rfl trivial ?_
    refine o1 rfl (det_build rfl (fun w => bld58_0_1_2 _ _ _ _ _ _ _ _ _ w)) rfl rfl trivial ?_
    refine o1 rfl (det_move rfl) rfl rfl trivial ?_
    refine be rfl ?_
    refine k_then ?_
    refine t_block ?_
    refine t_whileK (σ := Nat) (fun s => [(48, .int .i64 s)]) (fun s => Fb) (fun _ => _) (fun s => 3 - s) (fun s => s ≤ 3) 0 (env0 := [(2, _), (4, _), (8, _), (47, _)]) (Nat.zero_le _) incl_refl ⟨rfl, trivial⟩ ⟨rfl, rfl, rfl, rfl, trivial⟩ (.refl _) ?_
    intro s hsl
    refine t_seq ?_
    refine b0 ?_
    refine o1 rfl (det_lss rfl rfl) rfl rfl trivial ?_
    refine be rfl ?_
    refine k_then ?_
    refine t_seq ?_
    refine t_condP decide_eq_true_iff rfl (fun hb => ?_) (fun hb => ?_)
    ·
      have hlt : s < 3 := by omega
      obtain ⟨Ax, nx, cx, lx, hnth, hX, hxb, hxc, hxm⟩ : ∃ Ax nx cx lx, nthV [.slice A m c, .slice A1 n1 c1, .slice (some ⟨pb, 0, none⟩) n1 c2] ((s : Int).toNat) = some (.slice Ax nx cx) ∧ CK Fb Ax nx lx ∧ nx ≤ 65536 ∧ nx ≤ cx ∧ cx ≤ maxLen := by
        rcases Nat.lt_or_ge s 1 with h | h
        · rw [show s = 0 by omega]; exact ⟨_, _, _, _, rfl, hP, by omega, by omega, hcm⟩
        · rcases Nat.lt_or_ge s 2 with h2 | h2
          · rw [show s = 1 by omega]; exact ⟨_, _, _, _, rfl, hP1, by omega, hn1, hm1⟩
          · rw [show s = 2 by omega]; exact ⟨_, _, _, _, rfl, hB, by omega, hn2, hm2⟩
      refine t_skip ?_
      refine k_then ?_
      refine t_seq ?_
      refine t_block ?_
      refine t_seq ?_
      refine b0 ?_
      refine o1 rfl (det_index1 ar58 t1_46 rfl rfl (by omega) hnth) rfl rfl trivial ?_
      refine o1 rfl (det_assign rfl) rfl rfl trivial ?_
      refine be rfl ?_
      refine k_then ?_
      refine t_seq ?_
      refine t_seq ?_
      refine t_merge (env0 := [(2, _), (4, _), (8, _), (14, _), (47, _), (48, _)]) ⟨rfl, rfl, rfl, rfl, rfl, rfl, trivial⟩ 66 (.bool false) ?_ (fun hK => ?_)
      ·
        refine k_then ?_
        refine t_condF rfl ?_
        refine t_skip ?_
        refine k_then ?_
        refine t_seq ?_
        refine b0 ?_
        refine o1 rfl (det_move rfl) rfl rfl trivial ?_
        refine o1 rfl (det_fieldAddr fld50_0 rfl) rfl rfl trivial ?_
        refine o1 rfl (det_load1 t1_3 rfl rfl (.head _) rfl) rfl rfl trivial ?_
        refine o1 rfl (det_move rfl) rfl rfl trivial ?_
        first | (refine o1 rfl (det_convW Try.underlying5 Try.underlying3 rfl ?_) rfl rfl trivial ?_; (· exact IntWalk.i64_in _ (by omega))) | refine o1 rfl (det_conv Try.underlying5 Try.underlying3 rfl) rfl rfl trivial ?_
        first | (refine o1 rfl (det_addI rfl rfl ?_) rfl rfl trivial ?_; (· omega)) | refine o1 rfl (det_add rfl rfl) rfl rfl trivial ?_
        refine o1 rfl (det_build rfl (fun w => bld60_0_1_2 _ _ _ w)) rfl rfl trivial ?_
        refine o1 rfl (det_move rfl) rfl rfl trivial ?_
        refine be rfl ?_
        refine k_then ?_
        refine t_block ?_
        refine t_whileK (σ := Nat) (fun j => [(74, .int .i64 j)]) (fun j => Fb) (fun _ => _) (fun j => 3 - j) (fun j => j ≤ 3) 0 (env0 := [(2, _), (4, _), (8, _), (14, _), (47, _), (48, _), (73, _)]) (Nat.zero_le _) incl_refl ⟨rfl, trivial⟩ ⟨rfl, rfl, rfl, rfl, rfl, rfl, rfl, trivial⟩ (.refl _) ?_
        intro j hjl
        refine t_seq ?_
        refine b0 ?_
        refine o1 rfl (det_lss rfl rfl) rfl rfl trivial ?_
        refine be rfl ?_
        refine k_then ?_
        refine t_seq ?_
        refine t_condP decide_eq_true_iff rfl (fun hb => ?_) (fun hb => ?_)
        ·
          have hlt2 : j < 3 := by omega
          obtain ⟨t, hnt⟩ : ∃ t, nthV [.int .i64 st, .int .i64 y.st, .int .i64 (1 + ix)] ((j : Int).toNat) = some (.int .i64 t) := by
            rcases Nat.lt_or_ge j 1 with h | h
            · rw [show j = 0 by omega]; exact ⟨_, rfl⟩
            · rcases Nat.lt_or_ge j 2 with h2 | h2
              · rw [show j = 1 by omega]; exact ⟨_, rfl⟩
              · rw [show j = 2 by omega]; exact ⟨_, rfl⟩
          obtain ⟨l2, q, er, he⟩ : ∃ l2 q er, nextL lx t = ((l2, q), er) := ⟨_, _, _, rfl⟩
          have hll := next_len he
          refine t_skip ?_
          refine k_then ?_
          refine t_seq ?_
          refine t_block ?_
          refine t_seq ?_
          refine b0 ?_
          refine o1 rfl (det_index1 ar60 t1_3 rfl rfl (by omega) hnt) rfl rfl trivial ?_
          refine o1 rfl (det_assign rfl) rfl rfl trivial ?_
          refine be rfl ?_
          refine k_then ?_
          refine t_seq ?_
          refine b0 ?_
          refine o1 rfl (det_move rfl) rfl rfl trivial ?_
          refine o1 rfl (det_move rfl) rfl rfl trivial ?_
          refine oF nofun rfl hb18 rfl rfl rfl trivial (fun w1 hs => (next_ok hs.know hX hxb hxc hxm he).any) (fun v3 F3 hF3 hN3 ⟨A3, n3, c3, hv, hn3, hm3, hP3⟩ => ?_)
          subst hv
          
          refine o1 rfl (det_move rfl) rfl rfl trivial ?_
          refine o1 rfl (det_extract rfl rfl) rfl rfl trivial ?_
          refine o1 rfl (det_extract rfl rfl) rfl rfl trivial ?_
          refine o1 rfl (det_extract rfl rfl) rfl rfl trivial ?_
          refine o1 rfl (det_assign rfl) rfl rfl trivial ?_
          refine o1 rfl (det_assign rfl) rfl rfl trivial ?_
          refine o1 rfl (det_assign rfl) rfl rfl trivial ?_
          refine be rfl ?_
          refine k_then ?_
          refine t_seq ?_
          refine b0 ?_
          refine o1 rfl (det_move rfl) rfl rfl trivial ?_
          refine o1 rfl (det_move rfl) rfl rfl trivial ?_
          refine oF nofun rfl hb22 rfl rfl rfl trivial (fun w1 hs => (rnext_ok hs.know (hX.mono hF3) hxb he).any) (fun v4 F4 hF4 hN4 ⟨A4, n4, c4, hv, hn4, hm4, hP4⟩ => ?_)
          subst hv
          replace hP3 := hP3.mono hF4
          refine o1 rfl (det_move rfl) rfl rfl trivial ?_
          refine o1 rfl (det_extract rfl rfl) rfl rfl trivial ?_
          refine o1 rfl (det_extract rfl rfl) rfl rfl trivial ?_
          refine o1 rfl (det_extract rfl rfl) rfl rfl trivial ?_
          refine o1 rfl (det_assign rfl) rfl rfl trivial ?_
          refine o1 rfl (det_assign rfl) rfl rfl trivial ?_
          refine o1 rfl (det_assign rfl) rfl rfl trivial ?_
          refine be rfl ?_
          refine k_then ?_
          refine t_seq ?_
          refine t_merge (env0 := [(2, _), (4, _), (8, _), (14, _), (47, _), (48, _), (73, _), (74, _)]) ⟨rfl, rfl, rfl, rfl, rfl, rfl, rfl, rfl, trivial⟩ 104 (.bool false) ?_ (fun hK => ?_)
          ·
            refine k_then ?_
            refine t_condF rfl ?_
            refine t_skip ?_
            refine k_blk ?_
            refine k_then ?_
            refine b0 ?_
            first | (refine o1 rfl (det_addI rfl rfl ?_) rfl rfl trivial ?_; (· omega)) | refine o1 rfl (det_add rfl rfl) rfl rfl trivial ?_
            refine o1 rfl (det_move rfl) rfl rfl trivial ?_
            refine be rfl ?_
            refine k_then ?_
            refine loop_backK (j + 1) (by omega) (by omega) (fun a u h => hF4 a u (hF3 a u h)) ⟨rfl, rfl, rfl, rfl, rfl, rfl, rfl, rfl, trivial⟩ (.refl _)
          ·
            refine b0 ?_
            refine o1 rfl (det_move rfl) rfl rfl trivial ?_
            refine o1 rfl (det_move rfl) rfl rfl trivial ?_
            refine o1 rfl (det_call hb23 rfl rfl (fun w1 hs => same_at hs.know hP3 hP4 (by rw [hP3.len]; omega) (b := true) (by simp))) rfl rfl trivial ?_
            refine o1 rfl (det_not rfl) rfl rfl trivial ?_
            refine o2P not_iff_false rfl (det_move rfl) rfl rfl trivial (fun hb => ?_) (fun hb => ?_)
            · exfalso; simp at hb
            refine o1 rfl (det_move rfl) rfl rfl ⟨_, rfl, rfl⟩ ?_
            refine o1 rfl (det_move rfl) rfl rfl ⟨_, rfl, rfl⟩ ?_
            refine o1 rfl (det_neq rfl rfl) rfl rfl ⟨_, rfl, rfl⟩ ?_
            refine o1 rfl (det_pickF rfl rfl) rfl rfl trivial ?_
            refine o2P bne_iff_ne rfl (det_move rfl) rfl rfl trivial (fun hb => ?_) (fun hb => ?_)
            ·
              refine on rfl rfl rfl ⟨_, rfl, .inl rfl⟩ ?_
              refine on rfl rfl rfl ⟨_, rfl, .inl rfl⟩ ?_
              refine on rfl rfl rfl ⟨_, rfl, .inl rfl⟩ ?_
              refine o1 rfl (det_pickT rfl rfl) rfl rfl trivial ?_
              refine be rfl ?_
              refine tk_drop ?_ (.refl _) hK
              exact ⟨(mb rfl (by first | exact absurd rfl hb | simp)), rfl, rfl, rfl, rfl, rfl, rfl, rfl, rfl, trivial⟩
            ·
              refine o1 rfl (det_move rfl) rfl rfl ⟨_, rfl, rfl⟩ ?_
              refine o1 rfl (det_move rfl) rfl rfl ⟨_, rfl, rfl⟩ ?_
              refine o1 rfl (det_neq rfl rfl) rfl rfl ⟨_, rfl, rfl⟩ ?_
              refine o1 rfl (det_pickF rfl rfl) rfl rfl trivial ?_
              refine be rfl ?_
              refine tk_drop ?_ (.refl _) hK
              exact ⟨(mb rfl (by first | exact absurd rfl hb | simp)), rfl, rfl, rfl, rfl, rfl, rfl, rfl, rfl, trivial⟩
        ·
          skip
          refine t_exit ?_
          refine k_thenE ?_
          refine k_thenE ?_
          refine k_blkE ?_
          refine k_blk ?_
          refine k_then ?_
          refine b0 ?_
          first | (refine o1 rfl (det_addI rfl rfl ?_) rfl rfl trivial ?_; (· omega)) | refine o1 rfl (det_add rfl rfl) rfl rfl trivial ?_
          refine o1 rfl (det_move rfl) rfl rfl trivial ?_
          refine be rfl ?_
          refine k_then ?_
          refine loop_backK (s + 1) (by omega) (by omega) incl_refl ⟨rfl, rfl, rfl, rfl, rfl, trivial⟩ (.refl _)
      ·
        refine b0 ?_
        refine o1 rfl (det_move rfl) rfl rfl trivial ?_
        refine o1 rfl (det_call hb21 rfl rfl (fun w1 hs => right_ok hs.know hX hxb)) rfl rfl trivial ?_
        refine o1 rfl (det_move rfl) rfl rfl trivial ?_
        refine o1 rfl (det_call hb19 rfl rfl (fun w1 hs => check_ok hs.know hX)) rfl rfl trivial ?_
        refine o1 rfl (det_eql rfl rfl) rfl rfl trivial ?_
        refine o1 rfl (det_neqB Try.underlying4 rfl rfl) rfl rfl trivial ?_
        refine o2P Iff.rfl rfl (det_move rfl) rfl rfl trivial (fun hb => ?_) (fun hb => ?_)
        ·
          refine on rfl rfl rfl ⟨_, rfl, .inl rfl⟩ ?_
          refine on rfl rfl rfl ⟨_, rfl, .inl rfl⟩ ?_
          refine on rfl rfl rfl ⟨_, rfl, .inl rfl⟩ ?_
          refine on rfl rfl rfl ⟨_, rfl, .inl rfl⟩ ?_
          refine on rfl rfl rfl ⟨_, rfl, .inr rfl⟩ ?_
          refine on rfl rfl rfl ⟨_, rfl, .inr rfl⟩ ?_
          refine on rfl rfl rfl ⟨_, rfl, .inr rfl⟩ ?_
          refine on rfl rfl rfl ⟨_, rfl, .inl rfl⟩ ?_
          refine o1 rfl (det_pickT rfl rfl) rfl rfl trivial ?_
          refine be rfl ?_
          refine tk_drop ?_ (.refl _) hK
          exact ⟨(mb rfl (by cases h : okL lx <;> first | rfl | (exfalso; simp [h] at *; done) | grind)), rfl, rfl, rfl, rfl, rfl, rfl, trivial⟩
        ·
          refine o1 rfl (det_move rfl) rfl rfl ⟨_, rfl, rfl⟩ ?_
          refine o1 rfl (det_call hb19 rfl rfl (fun w1 hs => check_ok hs.know hX)) rfl rfl ⟨_, rfl, rfl⟩ ?_
          refine o1 rfl (det_neq rfl rfl) rfl rfl ⟨_, rfl, rfl⟩ ?_
          refine o2P bne_iff_ne rfl (det_move rfl) rfl rfl ⟨_, rfl, rfl⟩ (fun hb => ?_) (fun hb => ?_)
          ·
            refine o1 rfl (det_move rfl) rfl rfl ⟨_, rfl, rfl⟩ ?_
            refine o1 rfl (det_call hb19 rfl rfl (fun w1 hs => check_ok hs.know hX)) rfl rfl ⟨_, rfl, rfl⟩ ?_
            refine o1 rfl (det_neq rfl rfl) rfl rfl ⟨_, rfl, rfl⟩ ?_
            refine o1 rfl (det_pickT rfl rfl) rfl rfl ⟨_, rfl, rfl⟩ ?_
            refine o1 rfl (det_pickF rfl rfl) rfl rfl trivial ?_
            refine be rfl ?_
            refine tk_drop ?_ (.refl _) hK
            exact ⟨(mb rfl (by cases h : okL lx <;> first | rfl | (exfalso; simp [h] at *; done) | grind)), rfl, rfl, rfl, rfl, rfl, rfl, trivial⟩
          ·
            refine on rfl rfl rfl ⟨_, rfl, .inl rfl⟩ ?_
            refine on rfl rfl rfl ⟨_, rfl, .inl rfl⟩ ?_
            refine on rfl rfl rfl ⟨_, rfl, .inl rfl⟩ ?_
            refine o1 rfl (det_pickF rfl rfl) rfl rfl ⟨_, rfl, rfl⟩ ?_
            refine o1 rfl (det_pickF rfl rfl) rfl rfl trivial ?_
            refine be rfl ?_
            refine tk_drop ?_ (.refl _) hK
            exact ⟨(mb rfl (by cases h : okL lx <;> first | rfl | (exfalso; simp [h] at *; done) | grind)), rfl, rfl, rfl, rfl, rfl, rfl, trivial⟩
    ·
      skip
      refine t_exit ?_
      refine k_thenE ?_
      refine k_thenE ?_
      refine k_blkE ?_
      refine k_then ?_
      refine t_seq ?_
      refine b0 ?_
      refine o1 rfl (det_assign rfl) rfl rfl trivial ?_
      refine be rfl ?_
      refine k_then ?_
      refine t_ret ?_
      refine ret_tmp rfl rfl rfl (fun w1 hs => ?_)
      exact ⟨rfl, hs.keep⟩
  ·
    skip
    refine t_skip ?_
    refine k_then ?_
    refine t_seq ?_
    refine t_seq ?_
    refine b0 ?_
    refine tk_freezeL (pre := [_]) hS rfl (fun Fb hFb hNb hKb => ?_)
    obtain ⟨lb, hB⟩ : ∃ lb, CK Fb A2 n1 lb := ⟨_, rowsK_of ctv_len (by decide) hKb hl1⟩
    replace hP := hP.mono hFb
    replace hP1 := hP1.mono hFb
    refine o1 rfl (det_move rfl) rfl rfl trivial ?_
    refine o1 rfl (det_move rfl) rfl rfl trivial ?_
    refine o1 rfl (det_lenS sl46 rfl) rfl rfl trivial ?_
    refine o1 rfl (det_min2 rfl rfl) rfl rfl trivial ?_
    first | (refine o1 rfl (det_sliceTo sl46 rfl rfl ?_) rfl rfl trivial ?_; (· omega))
    obtain ⟨m, hm⟩ : ∃ m, (min (n : Int) 14).toNat = m := ⟨_, rfl⟩
    have hmn : m ≤ n := by omega
    have hm14 : m ≤ 14 := by omega
    rw [hm]
    obtain ⟨qs, hqs⟩ : ∃ qs, l.take m = qs := ⟨_, rfl⟩
    replace hP : CK Fb A m qs := by rw [← hqs]; exact hP.take m hmn
    refine o1 rfl (det_move rfl) rfl rfl trivial ?_
    refine o1 rfl (det_move rfl) rfl rfl trivial ?_
    refine o1 rfl (det_build rfl (fun w => bld58_0_1_2 _ _ _ _ _ _ _ _ _ w)) rfl rfl trivial ?_
    refine o1 rfl (det_move rfl) rfl rfl trivial ?_
    refine be rfl ?_
    refine k_then ?_
    refine t_block ?_
    refine t_whileK (σ := Nat) (fun s => [(48, .int .i64 s)]) (fun s => Fb) (fun _ => _) (fun s => 3 - s) (fun s => s ≤ 3) 0 (env0 := [(2, _), (4, _), (8, _), (47, _)]) (Nat.zero_le _) incl_refl ⟨rfl, trivial⟩ ⟨rfl, rfl, rfl, rfl, trivial⟩ (.refl _) ?_
    intro s hsl
    refine t_seq ?_
    refine b0 ?_
    refine o1 rfl (det_lss rfl rfl) rfl rfl trivial ?_
    refine be rfl ?_
    refine k_then ?_
    refine t_seq ?_
    refine t_condP decide_eq_true_iff rfl (fun hb => ?_) (fun hb => ?_)
    ·
      have hlt : s < 3 := by omega
      obtain ⟨Ax, nx, cx, lx, hnth, hX, hxb, hxc, hxm⟩ : ∃ Ax nx cx lx, nthV [.slice A m c, .slice A1 n1 c1, .slice A2 n1 c2] ((s : Int).toNat) = some (.slice Ax nx cx) ∧ CK Fb Ax nx lx ∧ nx ≤ 65536 ∧ nx ≤ cx ∧ cx ≤ maxLen := by
        rcases Nat.lt_or_ge s 1 with h | h
        · rw [show s = 0 by omega]; exact ⟨_, _, _, _, rfl, hP, by omega, by omega, hcm⟩
        · rcases Nat.lt_or_ge s 2 with h2 | h2
          · rw [show s = 1 by omega]; exact ⟨_, _, _, _, rfl, hP1, by omega, hn1, hm1⟩
          · rw [show s = 2 by omega]; exact ⟨_, _, _, _, rfl, hB, by omega, hn2, hm2⟩
      refine t_skip ?_
      refine k_then ?_
      refine t_seq ?_
      refine t_block ?_
      refine t_seq ?_
      refine b0 ?_
      refine o1 rfl (det_index1 ar58 t1_46 rfl rfl (by omega) hnth) rfl rfl trivial ?_
      refine o1 rfl (det_assign rfl) rfl rfl trivial ?_
      refine be rfl ?_
      refine k_then ?_
      refine t_seq ?_
      refine t_seq ?_
      refine t_merge (env0 := [(2, _), (4, _), (8, _), (14, _), (47, _), (48, _)]) ⟨rfl, rfl, rfl, rfl, rfl, rfl, trivial⟩ 66 (.bool false) ?_ (fun hK => ?_)
      ·
        refine k_then ?_
        refine t_condF rfl ?_
        refine t_skip ?_
        refine k_then ?_
        refine t_seq ?_
        refine b0 ?_
        refine o1 rfl (det_move rfl) rfl rfl trivial ?_
        refine o1 rfl (det_fieldAddr fld50_0 rfl) rfl rfl trivial ?_
        refine o1 rfl (det_load1 t1_3 rfl rfl (.head _) rfl) rfl rfl trivial ?_
        refine o1 rfl (det_move rfl) rfl rfl trivial ?_
        first | (refine o1 rfl (det_convW Try.underlying5 Try.underlying3 rfl ?_) rfl rfl trivial ?_; (· exact IntWalk.i64_in _ (by omega))) | refine o1 rfl (det_conv Try.underlying5 Try.underlying3 rfl) rfl rfl trivial ?_
        first | (refine o1 rfl (det_addI rfl rfl ?_) rfl rfl trivial ?_; (· omega)) | refine o1 rfl (det_add rfl rfl) rfl rfl trivial ?_
        refine o1 rfl (det_build rfl (fun w => bld60_0_1_2 _ _ _ w)) rfl rfl trivial ?_
        refine o1 rfl (det_move rfl) rfl rfl trivial ?_
        refine be rfl ?_
        refine k_then ?_
        refine t_block ?_
        refine t_whileK (σ := Nat) (fun j => [(74, .int .i64 j)]) (fun j => Fb) (fun _ => _) (fun j => 3 - j) (fun j => j ≤ 3) 0 (env0 := [(2, _), (4, _), (8, _), (14, _), (47, _), (48, _), (73, _)]) (Nat.zero_le _) incl_refl ⟨rfl, trivial⟩ ⟨rfl, rfl, rfl, rfl, rfl, rfl, rfl, trivial⟩ (.refl _) ?_
        intro j hjl
        refine t_seq ?_
        refine b0 ?_
        refine o1 rfl (det_lss rfl rfl) rfl rfl trivial ?_
        refine be rfl ?_
        refine k_then ?_
        refine t_seq ?_
        refine t_condP decide_eq_true_iff rfl (fun hb => ?_) (fun hb => ?_)
        ·
          have hlt2 : j < 3 := by omega
          obtain ⟨t, hnt⟩ : ∃ t, nthV [.int .i64 st, .int .i64 y.st, .int .i64 (1 + ix)] ((j : Int).toNat) = some (.int .i64 t) := by
            rcases Nat.lt_or_ge j 1 with h | h
            · rw [show j = 0 by omega]; exact ⟨_, rfl⟩
            · rcases Nat.lt_or_ge j 2 with h2 | h2
              · rw [show j = 1 by omega]; exact ⟨_, rfl⟩
              · rw [show j = 2 by omega]; exact ⟨_, rfl⟩
          obtain ⟨l2, q, er, he⟩ : ∃ l2 q er, nextL lx t = ((l2, q), er) := ⟨_, _, _, rfl⟩
          have hll := next_len he
          refine t_skip ?_
          refine k_then ?_
          refine t_seq ?_
          refine t_block ?_
          refine t_seq ?_
          refine b0 ?_
          refine o1 rfl (det_index1 ar60 t1_3 rfl rfl (by omega) hnt) rfl rfl trivial ?_
          refine o1 rfl (det_assign rfl) rfl rfl trivial ?_
          refine be rfl ?_
          refine k_then ?_
          refine t_seq ?_
          refine b0 ?_
          refine o1 rfl (det_move rfl) rfl rfl trivial ?_
          refine o1 rfl (det_move rfl) rfl rfl trivial ?_
          refine oF nofun rfl hb18 rfl rfl rfl trivial (fun w1 hs => (next_ok hs.know hX hxb hxc hxm he).any) (fun v3 F3 hF3 hN3 ⟨A3, n3, c3, hv, hn3, hm3, hP3⟩ => ?_)
          subst hv
          
          refine o1 rfl (det_move rfl) rfl rfl trivial ?_
          refine o1 rfl (det_extract rfl rfl) rfl rfl trivial ?_
          refine o1 rfl (det_extract rfl rfl) rfl rfl trivial ?_
          refine o1 rfl (det_extract rfl rfl) rfl rfl trivial ?_
          refine o1 rfl (det_assign rfl) rfl rfl trivial ?_
          refine o1 rfl (det_assign rfl) rfl rfl trivial ?_
          refine o1 rfl (det_assign rfl) rfl rfl trivial ?_
          refine be rfl ?_
          refine k_then ?_
          refine t_seq ?_
          refine b0 ?_
          refine o1 rfl (det_move rfl) rfl rfl trivial ?_
          refine o1 rfl (det_move rfl) rfl rfl trivial ?_
          refine oF nofun rfl hb22 rfl rfl rfl trivial (fun w1 hs => (rnext_ok hs.know (hX.mono hF3) hxb he).any) (fun v4 F4 hF4 hN4 ⟨A4, n4, c4, hv, hn4, hm4, hP4⟩ => ?_)
          subst hv
          replace hP3 := hP3.mono hF4
          refine o1 rfl (det_move rfl) rfl rfl trivial ?_
          refine o1 rfl (det_extract rfl rfl) rfl rfl trivial ?_
          refine o1 rfl (det_extract rfl rfl) rfl rfl trivial ?_
          refine o1 rfl (det_extract rfl rfl) rfl rfl trivial ?_
          refine o1 rfl (det_assign rfl) rfl rfl trivial ?_
          refine o1 rfl (det_assign rfl) rfl rfl trivial ?_
          refine o1 rfl (det_assign rfl) rfl rfl trivial ?_
          refine be rfl ?_
          refine k_then ?_
          refine t_seq ?_
          refine t_merge (env0 := [(2, _), (4, _), (8, _), (14, _), (47, _), (48, _), (73, _), (74, _)]) ⟨rfl, rfl, rfl, rfl, rfl, rfl, rfl, rfl, trivial⟩ 104 (.bool false) ?_ (fun hK => ?_)
          ·
            refine k_then ?_
            refine t_condF rfl ?_
            refine t_skip ?_
            refine k_blk ?_
            refine k_then ?_
            refine b0 ?_
            first | (refine o1 rfl (det_addI rfl rfl ?_) rfl rfl trivial ?_; (· omega)) | refine o1 rfl (det_add rfl rfl) rfl rfl trivial ?_
            refine o1 rfl (det_move rfl) rfl rfl trivial ?_
            refine be rfl ?_
            refine k_then ?_
            refine loop_backK (j + 1) (by omega) (by omega) (fun a u h => hF4 a u (hF3 a u h)) ⟨rfl, rfl, rfl, rfl, rfl, rfl, rfl, rfl, trivial⟩ (.refl _)
          ·
            refine b0 ?_
            refine o1 rfl (det_move rfl) rfl rfl trivial ?_
            refine o1 rfl (det_move rfl) rfl rfl trivial ?_
            refine o1 rfl (det_call hb23 rfl rfl (fun w1 hs => same_at hs.know hP3 hP4 (by rw [hP3.len]; omega) (b := true) (by simp))) rfl rfl trivial ?_
            refine o1 rfl (det_not rfl) rfl rfl trivial ?_
            refine o2P not_iff_false rfl (det_move rfl) rfl rfl trivial (fun hb => ?_) (fun hb => ?_)
            · exfalso; simp at hb
            refine o1 rfl (det_move rfl) rfl rfl ⟨_, rfl, rfl⟩ ?_
            refine o1 rfl (det_move rfl) rfl rfl ⟨_, rfl, rfl⟩ ?_
            refine o1 rfl (det_neq rfl rfl) rfl rfl ⟨_, rfl, rfl⟩ ?_
            refine o1 rfl (det_pickF rfl rfl) rfl rfl trivial ?_
            refine o2P bne_iff_ne rfl (det_move rfl) rfl rfl trivial (fun hb => ?_) (fun hb => ?_)
            ·
              refine on rfl rfl rfl ⟨_, rfl, .inl rfl⟩ ?_
              refine on rfl rfl rfl ⟨_, rfl, .inl rfl⟩ ?_
              refine on rfl rfl rfl ⟨_, rfl, .inl rfl⟩ ?_
              refine o1 rfl (det_pickT rfl rfl) rfl rfl trivial ?_
              refine be rfl ?_
              refine tk_drop ?_ (.refl _) hK
              exact ⟨(mb rfl (by first | exact absurd rfl hb | simp)), rfl, rfl, rfl, rfl, rfl, rfl, rfl, rfl, trivial⟩
            ·
              refine o1 rfl (det_move rfl) rfl rfl ⟨_, rfl, rfl⟩ ?_
              refine o1 rfl (det_move rfl) rfl rfl ⟨_, rfl, rfl⟩ ?_
              refine o1 rfl (det_neq rfl rfl) rfl rfl ⟨_, rfl, rfl⟩ ?_
              refine o1 rfl (det_pickF rfl rfl) rfl rfl trivial ?_
              refine be rfl ?_
              refine tk_drop ?_ (.refl _) hK
              exact ⟨(mb rfl (by first | exact absurd rfl hb | simp)), rfl, rfl, rfl, rfl, rfl, rfl, rfl, rfl, trivial⟩
        ·
          skip
          refine t_exit ?_
          refine k_thenE ?_
          refine k_thenE ?_
          refine k_blkE ?_
          refine k_blk ?_
          refine k_then ?_
          refine b0 ?_
          first | (refine o1 rfl (det_addI rfl rfl ?_) rfl rfl trivial ?_; (· omega)) | refine o1 rfl (det_add rfl rfl) rfl rfl trivial ?_
          refine o1 rfl (det_move rfl) rfl rfl trivial ?_
          refine be rfl ?_
          refine k_then ?_
          refine loop_backK (s + 1) (by omega) (by omega) incl_refl ⟨rfl, rfl, rfl, rfl, rfl, trivial⟩ (.refl _)
      ·
        refine b0 ?_
        refine o1 rfl (det_move rfl) rfl rfl trivial ?_
        refine o1 rfl (det_call hb21 rfl rfl (fun w1 hs => right_ok hs.know hX hxb)) rfl rfl trivial ?_
        refine o1 rfl (det_move rfl) rfl rfl trivial ?_
        refine o1 rfl (det_call hb19 rfl rfl (fun w1 hs => check_ok hs.know hX)) rfl rfl trivial ?_
        refine o1 rfl (det_eql rfl rfl) rfl rfl trivial ?_
        refine o1 rfl (det_neqB Try.underlying4 rfl rfl) rfl rfl trivial ?_
        refine o2P Iff.rfl rfl (det_move rfl) rfl rfl trivial (fun hb => ?_) (fun hb => ?_)
        ·
          refine on rfl rfl rfl ⟨_, rfl, .inl rfl⟩ ?_
          refine on rfl rfl rfl ⟨_, rfl, .inl rfl⟩ ?_
          refine on rfl rfl rfl ⟨_, rfl, .inl rfl⟩ ?_
          refine on rfl rfl rfl ⟨_, rfl, .inl rfl⟩ ?_
          refine on rfl rfl rfl ⟨_, rfl, .inr rfl⟩ ?_
          refine on rfl rfl rfl ⟨_, rfl, .inr rfl⟩ ?_
          refine on rfl rfl rfl ⟨_, rfl, .inr rfl⟩ ?_
          refine on rfl rfl rfl ⟨_, rfl, .inl rfl⟩ ?_
          refine o1 rfl (det_pickT rfl rfl) rfl rfl trivial ?_
          refine be rfl ?_
          refine tk_drop ?_ (.refl _) hK
          exact ⟨(mb rfl (by cases h : okL lx <;> first | rfl | (exfalso; simp [h] at *; done) | grind)), rfl, rfl, rfl, rfl, rfl, rfl, trivial⟩
        ·
          refine o1 rfl (det_move rfl) rfl rfl ⟨_, rfl, rfl⟩ ?_
          refine o1 rfl (det_call hb19 rfl rfl (fun w1 hs => check_ok hs.know hX)) rfl rfl ⟨_, rfl, rfl⟩ ?_
          refine o1 rfl (det_neq rfl rfl) rfl rfl ⟨_, rfl, rfl⟩ ?_
          refine o2P bne_iff_ne rfl (det_move rfl) rfl rfl ⟨_, rfl, rfl⟩ (fun hb => ?_) (fun hb => ?_)
          ·
            refine o1 rfl (det_move rfl) rfl rfl ⟨_, rfl, rfl⟩ ?_
            refine o1 rfl (det_call hb19 rfl rfl (fun w1 hs => check_ok hs.know hX)) rfl rfl ⟨_, rfl, rfl⟩ ?_
            refine o1 rfl (det_neq rfl rfl) rfl rfl ⟨_, rfl, rfl⟩ ?_
            refine o1 rfl (det_pickT rfl rfl) rfl rfl ⟨_, rfl, rfl⟩ ?_
            refine o1 rfl (det_pickF rfl rfl) rfl rfl trivial ?_
            refine be rfl ?_
            refine tk_drop ?_ (.refl _) hK
            exact ⟨(mb rfl (by cases h : okL lx <;> first | rfl | (exfalso; simp [h] at *; done) | grind)), rfl, rfl, rfl, rfl, rfl, rfl, trivial⟩
          ·
            refine on rfl rfl rfl ⟨_, rfl, .inl rfl⟩ ?_
            refine on rfl rfl rfl ⟨_, rfl, .inl rfl⟩ ?_
            refine on rfl rfl rfl ⟨_, rfl, .inl rfl⟩ ?_
            refine o1 rfl (det_pickF rfl rfl) rfl rfl ⟨_, rfl, rfl⟩ ?_
            refine o1 rfl (det_pickF rfl rfl) rfl rfl trivial ?_
            refine be rfl ?_
            refine tk_drop ?_ (.refl _) hK
            exact ⟨(mb rfl (by cases h : okL lx <;> first | rfl | (exfalso; simp [h] at *; done) | grind)), rfl, rfl, rfl, rfl, rfl, rfl, trivial⟩
    ·
      skip
      refine t_exit ?_
      refine k_thenE ?_
      refine k_thenE ?_
      refine k_blkE ?_
      refine k_then ?_
      refine t_seq ?_
      refine b0 ?_
      refine o1 rfl (det_assign rfl) rfl rfl trivial ?_
      refine be rfl ?_
      refine k_then ?_
      refine t_ret ?_
      refine ret_tmp rfl rfl rfl (fun w1 hs => ?_)
      exact ⟨rfl, hs.keep⟩

end Go.Proofs.Sq
