/-
  Walks through layer 27 and its reference.
-/
import Derived.Test.YtfneficfngpnjaaGtW13
import Derived.Test.YtfneficfngpnjaaGtW11
import Derived.Test.YtfneficfngpnjaaGtPlain7
namespace Go.Proofs.Gt
open Go Go.Eng Go.Gt
set_option maxRecDepth 4000

/-- The law GatesMeans. -/
theorem means_ok {w : World} {F : Know} (hF : ∀ a v, F a = some v → w.cell? a = some v) {A1 A2 : Option Addr} {n1 c1 n2 c2 : Nat} {ss ls : List Int} (h1 : IntsK F .u8 A1 n1 ss) (h2 : IntsK F .u8 A2 n2 ls) {c t l : Int} (hc : 0 ≤ c ∧ c ≤ 255) (ht : -32768 ≤ t ∧ t ≤ 32767) (hl : 0 ≤ l ∧ l ≤ 255) : Pure Try.prog 6 [.agg [.slice A1 n1 c1, .slice A2 n2 c2].toArray, .int .u8 c, .int .i16 t, .int .u8 l] w (.bool true) := by
  have hb1 : bytesL ss := fun i h => h1.rng i h
  have hb2 : bytesL ls := fun i h => h2.rng i h

  refine fn_pure (F := F) Try.func6 rfl Try.ntmps6 rfl hF ?_
  refine t_seq ?_
  refine b0 ?_
  refine om1 rfl (new_boxN rfl) rfl rfl trivial (fun p4 => ?_)
  refine o1 rfl (det_assign rfl) rfl rfl trivial ?_
  refine be rfl ?_
  refine k_then ?_
  refine t_seq ?_
  refine t_seq ?_
  refine b0 ?_
  refine o1 rfl (det_call hb17 rfl rfl (fun w1 hs => works_ok hs.know)) rfl rfl trivial ?_
  refine o1 rfl (det_not rfl) rfl rfl trivial ?_
  refine be rfl ?_
  refine k_then ?_
  refine t_condF rfl ?_
  refine t_skip ?_
  refine k_then ?_
  refine t_seq ?_
  refine b0 ?_
  refine o1 rfl (det_loadN tN24 rfl rfl (.head _) rfl) rfl rfl trivial ?_
  refine oF nofun rfl hb24 rfl rfl rfl trivial (fun w1 hs => (draft_ok hs.know h1 h2).any) (fun v19 F1 hF1 hN1 hR => ?_)
  obtain ⟨B1, cap1, rfl, hcp1, hE⟩ := hR
  have hG := draft_good hb1 hb2
  have hcl := draft_cyc hb1 hb2
  obtain ⟨_, _, _, _, _, hc1⟩ := okG_parts hG
  generalize draftE ss ls = es at hE hG hcl hc1 ⊢
  generalize sumL es = cyc at hG hcl hc1 ⊢
  refine om1 rfl (new_alloc z27) rfl rfl trivial (fun p9 => ?_)
  refine stN nofun rfl tN27 rfl rfl rfl .head rfl trivial rfl rfl ?_
  refine be rfl ?_
  refine k_then ?_
  refine t_seq ?_
  refine b0 ?_
  refine o1 rfl (det_move rfl) rfl rfl trivial ?_
  first | (refine o1 rfl (det_remP rfl rfl ?_) rfl rfl trivial ?_; · omega) | (refine o1 rfl (det_rem rfl rfl ?_) rfl rfl trivial ?_; · (first | decide | omega))
  first | (refine o1 rfl (det_convW Try.underlying5 Try.underlying3 rfl ?_) rfl rfl trivial ?_; · exact IntWalk.i64_in _ (by omega)) | refine o1 rfl (det_conv Try.underlying5 Try.underlying3 rfl) rfl rfl trivial ?_
  refine o1 rfl (det_move rfl) rfl rfl trivial ?_
  first | (refine o1 rfl (det_convW Try.underlying44 Try.underlying3 rfl ?_) rfl rfl trivial ?_; · exact IntWalk.i64_in _ (by omega)) | refine o1 rfl (det_conv Try.underlying44 Try.underlying3 rfl) rfl rfl trivial ?_
  refine o1 rfl (det_assign rfl) rfl rfl trivial ?_
  refine o1 rfl (det_assign rfl) rfl rfl trivial ?_
  refine be rfl ?_
  refine k_then ?_
  refine t_seq ?_
  refine b0 ?_
  refine o1 rfl (det_assign rfl) rfl rfl trivial ?_
  refine o1 rfl (det_assign rfl) rfl rfl trivial ?_
  refine be rfl ?_
  refine k_then ?_
  refine t_seq ?_
  refine t_block ?_
  refine t_whileM (σ := Int × Bool) (fun s => [(12, .int .i64 s.1), (13, .bool s.2)]) (fun _ => _) (fun s => 2 * (cyc - s.1).toNat + s.2.toNat) (fun s => (0 ≤ s.1 ∧ s.1 ≤ cyc) ∧ (∀ j, 0 ≤ j → j < s.1 → isO es cyc (c % 8) (t + j) = true) ∧ (s.2 = false → s.1 < cyc ∧ isO es cyc (c % 8) (t + s.1) = false)) (0, true) (env0 := [(3, _), (8, _), (9, _), (10, _), (11, _)]) ⟨⟨Int.le_refl _, by simp only; omega⟩, fun j _ _ => by simp only at *; omega, nofun⟩ ⟨rfl, rfl, trivial⟩ ⟨rfl, rfl, rfl, rfl, rfl, trivial⟩ (.refl _) ?_
  rintro s ⟨⟨hn0, hn1⟩, hall, ho⟩
  refine t_seq ?_
  refine t_seq ?_
  refine b0 ?_
  refine o1 rfl (det_move rfl) rfl rfl trivial ?_
  refine o1 rfl (det_fieldAddr fld27_1 rfl) rfl rfl trivial ?_
  refine o1 rfl (det_load1 t1_3 rfl rfl (.head _) rfl) rfl rfl trivial ?_
  refine o1 rfl (det_lss rfl rfl) rfl rfl trivial ?_
  refine o2P decide_eq_true_iff rfl (det_move rfl) rfl rfl trivial (fun hb => ?_) (fun hb => ?_)
  ·
    have hlt : s.1 < cyc := hb
    refine o1 rfl (det_move rfl) rfl rfl ⟨_, rfl, rfl⟩ ?_
    refine o1 rfl (det_pickT rfl rfl) rfl rfl trivial ?_
    refine be rfl ?_
    refine k_then ?_
    refine t_condP Iff.rfl rfl (fun hb => ?_) (fun hb => ?_)
    ·
      have hop : s.2 = true := hb
      have hst := state_rng hG (t + s.1)
      have hbit : bitsOf .and .i64 ((maskH es cyc (t + s.1)).fdiv (2 ^ (min (c % 8).toNat 64))) 1 = 1 ↔ isO es cyc (c % 8) (t + s.1) = true := by
        rw [maskH_eq hG (by omega), isO]; exact bit_one hst (by omega)
      refine t_skip ?_
      refine k_then ?_
      refine t_block ?_
      refine t_seq ?_
      refine b0 ?_
      refine o1 rfl (det_loadN tN27 rfl rfl (.head _) rfl) rfl rfl trivial ?_
      refine o1 rfl (det_move rfl) rfl rfl trivial ?_
      refine o1 rfl (det_move rfl) rfl rfl trivial ?_
      first | (refine o1 rfl (det_addI rfl rfl ?_) rfl rfl trivial ?_; · omega) | refine o1 rfl (det_add rfl rfl) rfl rfl trivial ?_
      refine o1 rfl (det_call hb25 rfl rfl (fun w1 hs => hmask_ok hs.know hE _)) rfl rfl trivial ?_
      refine o1 rfl (det_move rfl) rfl rfl trivial ?_
      first | (refine o1 rfl (det_convW Try.underlying3 Try.underlying47 rfl ?_) rfl rfl trivial ?_; · exact IntWalk.u64_in _ (by omega)) | refine o1 rfl (det_conv Try.underlying3 Try.underlying47 rfl) rfl rfl trivial ?_
      first | (refine o1 rfl (det_shr rfl rfl ?_) rfl rfl trivial ?_; · (first | decide | omega))
      refine o1 rfl (det_and rfl rfl) rfl rfl trivial ?_
      refine o1 rfl (det_eql rfl rfl) rfl rfl trivial ?_
      refine o1 rfl (det_assign rfl) rfl rfl trivial ?_
      refine be rfl ?_
      refine k_then ?_
      refine t_seq ?_
      refine b0 ?_
      refine o1 rfl (det_move rfl) rfl rfl trivial ?_
      refine be rfl ?_
      refine k_then ?_
      refine t_condP beq_iff_eq rfl (fun hb => ?_) (fun hb => ?_)
      ·
        refine b0 ?_
        refine o1 rfl (det_move rfl) rfl rfl trivial ?_
        first | (refine o1 rfl (det_addI rfl rfl ?_) rfl rfl trivial ?_; · omega) | refine o1 rfl (det_add rfl rfl) rfl rfl trivial ?_
        refine o1 rfl (det_assign rfl) rfl rfl trivial ?_
        refine be rfl ?_
        refine k_blk ?_
        refine k_then ?_
        refine loop_back (s.1 + 1, true) ⟨⟨by simp only; omega, by simp only; omega⟩, fun j g1 g2 => if e : j = s.1 then by rw [e]; exact hbit.1 hb else hall j g1 (by simp only at g2; omega), nofun⟩ (by simp only [Bool.toNat_true]; omega) ⟨rfl, (congrArg (fun b => some (Value.bool b)) (beq_iff_eq.2 hb)), rfl, rfl, rfl, rfl, rfl, trivial⟩ (.refl _)
      ·
        refine t_skip ?_
        refine k_blk ?_
        refine k_then ?_
        refine loop_back (s.1, false) ⟨⟨hn0, hn1⟩, hall, fun _ => ⟨hlt, by simpa using fun h => hb (hbit.2 h)⟩⟩ (by rw [hop]; simp) ⟨rfl, (congrArg (fun b => some (Value.bool b)) (beq_eq_false_iff_ne.2 hb)), rfl, rfl, rfl, rfl, rfl, trivial⟩ (.refl _)
    ·
      have hex := count_end hG (cl := c % 8) (t := t) (n := s.1) (o := s.2) (by omega) (by omega) hall ho (fun h => absurd h hb)
      refine t_exit ?_
      refine k_thenE ?_
      refine k_thenE ?_
      refine k_blkE ?_
      refine k_then ?_
      refine t_seq ?_
      refine b0 ?_
      refine o1 rfl (det_move rfl) rfl rfl trivial ?_
      refine o1 rfl (det_assign rfl) rfl rfl trivial ?_
      refine be rfl ?_
      refine k_then ?_
      refine t_seq ?_
      refine t_seq ?_
      refine b0 ?_
      refine o1 rfl (det_move rfl) rfl rfl trivial ?_
      refine be rfl ?_
      refine k_then ?_
      refine t_condP Iff.rfl rfl (fun hb => ?_) (fun hb => ?_)
      ·
        have hbo := hb
        have hS := hex.1 hb --note:open
        refine b0 ?_
        refine o1 rfl (det_assign rfl) rfl rfl trivial ?_
        refine be rfl ?_
        refine k_then ?_
        refine t_seq ?_
        refine t_seq ?_
        refine b0 ?_
        refine o1 rfl (det_assign rfl) rfl rfl trivial ?_
        refine be rfl ?_
        refine k_then ?_
        refine t_block ?_
        refine t_whileM (σ := Int) (fun q => [(15, .int .i64 q)]) (fun _ => _) (fun q => (cyc - q).toNat) (fun q => 0 ≤ q) 0 (env0 := [(3, _), (9, _), (10, _), (11, _), (12, _), (13, _), (14, _)]) (Int.le_refl _) ⟨rfl, trivial⟩ ⟨rfl, rfl, rfl, rfl, rfl, rfl, rfl, trivial⟩ (.refl _) ?_
        intro q hq
        refine t_seq ?_
        refine t_seq ?_
        refine b0 ?_
        refine o1 rfl (det_move rfl) rfl rfl trivial ?_
        refine o1 rfl (det_fieldAddr fld27_1 rfl) rfl rfl trivial ?_
        refine o1 rfl (det_load1 t1_3 rfl rfl (.head _) rfl) rfl rfl trivial ?_
        refine o1 rfl (det_lss rfl rfl) rfl rfl trivial ?_
        refine be rfl ?_
        refine k_then ?_
        refine t_condP decide_eq_true_iff rfl (fun hb => ?_) (fun hb => ?_)
        ·
          have hqlt : q < cyc := hb
          refine t_skip ?_
          refine k_then ?_
          refine t_seq ?_
          refine t_block ?_
          refine t_seq ?_
          refine bD mixed ?_
          refine r_seg 22 22 [] [0, 1, 2, 3, 4, 5, 6, 7, 8, 9, 10, 11, 12, 13, 14, 15, 16, 17, 18, 19, 20, 21] (by kernel_rfl) ?_
          refine s1 rfl (det_loadN tN27 rfl rfl (.head _) rfl) rfl rfl trivial rfl ?_
          refine s1 rfl (det_move rfl) rfl rfl trivial rfl ?_
          refine s1 rfl (det_move rfl) rfl rfl trivial rfl ?_
          first | (refine s1 rfl (det_addI rfl rfl ?_) rfl rfl trivial rfl ?_; · omega) | refine s1 rfl (det_add rfl rfl) rfl rfl trivial rfl ?_
          refine s1 rfl (det_call hb25 rfl rfl (fun w1 hs => hmask_ok hs.know hE _)) rfl rfl trivial rfl ?_
          refine s1 rfl (det_loadN tN27 rfl rfl (.head _) rfl) rfl rfl trivial rfl ?_
          refine s1 rfl (det_move rfl) rfl rfl trivial rfl ?_
          refine s1 rfl (det_move rfl) rfl rfl trivial rfl ?_
          first | (refine s1 rfl (det_addI rfl rfl ?_) rfl rfl trivial rfl ?_; · omega) | refine s1 rfl (det_add rfl rfl) rfl rfl trivial rfl ?_
          refine s1 rfl (det_fieldAddr fld27_1 rfl) rfl rfl trivial rfl ?_
          refine s1 rfl (det_load1 t1_3 rfl rfl (.head _) rfl) rfl rfl trivial rfl ?_
          first | (refine s1 rfl (det_addI rfl rfl ?_) rfl rfl trivial rfl ?_; · omega) | refine s1 rfl (det_add rfl rfl) rfl rfl trivial rfl ?_
          refine s1 rfl (det_call hb25 rfl rfl (fun w1 hs => hmask_ok hs.know hE _)) rfl rfl trivial rfl ?_
          refine s1 rfl (det_neq rfl rfl) rfl rfl trivial rfl ?_
          refine s2P bne_iff_ne rfl (det_move rfl) rfl rfl trivial rfl (fun hb => ?_) (fun hb => ?_)
          · exfalso; exact hb (by rw [maskH_eq hG (by omega), maskH_eq hG (by omega), state_per])
          refine s1 rfl (det_loadN tN27 rfl rfl (.head _) rfl) rfl rfl ⟨_, rfl, rfl⟩ rfl ?_
          refine s1 rfl (det_move rfl) rfl rfl ⟨_, rfl, rfl⟩ rfl ?_
          refine s1 rfl (det_move rfl) rfl rfl ⟨_, rfl, rfl⟩ rfl ?_
          first | (refine s1 rfl (det_addI rfl rfl ?_) rfl rfl ⟨_, rfl, rfl⟩ rfl ?_; · omega) | refine s1 rfl (det_add rfl rfl) rfl rfl ⟨_, rfl, rfl⟩ rfl ?_
          refine s1 rfl (det_call hb25 rfl rfl (fun w1 hs => hmask_ok hs.know hE _)) rfl rfl ⟨_, rfl, rfl⟩ rfl ?_
          refine s1 rfl (det_lss rfl rfl) rfl rfl ⟨_, rfl, rfl⟩ rfl ?_
          refine s1 rfl (det_pickF rfl rfl) rfl rfl trivial rfl ?_
          refine sg_nil ?_
          refine be rfl ?_
          refine k_then ?_
          refine t_condP decide_eq_true_iff rfl (fun hb => ?_) (fun hb => ?_)
          · exfalso; have := state_rng hG (t + q); rw [maskH_eq hG (by omega)] at hb; omega
          refine t_skip ?_
          refine k_blk ?_
          refine k_then ?_
          refine b0 ?_
          refine o1 rfl (det_move rfl) rfl rfl trivial ?_
          first | (refine o1 rfl (det_addI rfl rfl ?_) rfl rfl trivial ?_; · omega) | refine o1 rfl (det_add rfl rfl) rfl rfl trivial ?_
          refine o1 rfl (det_assign rfl) rfl rfl trivial ?_
          refine be rfl ?_
          refine k_then ?_
          refine loop_back (q + 1) (by show 0 ≤ q + 1; omega) (by omega) ⟨rfl, rfl, rfl, rfl, rfl, rfl, rfl, rfl, trivial⟩ (.refl _)
        ·
          refine t_exit ?_
          refine k_thenE ?_
          refine k_thenE ?_
          refine k_blkE ?_
          refine k_then ?_
          refine t_seq ?_
          refine b0 ?_
          refine o1 rfl (det_loadN tN27 rfl rfl (.head _) rfl) rfl rfl trivial ?_
          refine o1 rfl (det_move rfl) rfl rfl trivial ?_
          refine o1 rfl (det_move rfl) rfl rfl trivial ?_
          refine o1 rfl (det_call hb26 rfl rfl (fun w1 hs => hopen_ok hs.know hE _ (by omega) _)) rfl rfl trivial ?_
          refine o1 rfl (det_move rfl) rfl rfl trivial ?_
          refine o1 rfl (det_eql rfl rfl) rfl rfl trivial ?_
          refine o2P beq_iff_eq rfl (det_move rfl) rfl rfl trivial (fun hb => ?_) (fun hb => ?_)
          rotate_left
          · exfalso; exact hb (by rw [openH_eq hG (by omega) (by omega)]; first | exact hS | exact hS.symm)
          refine o1 rfl (det_loadN tN27 rfl rfl (.head _) rfl) rfl rfl ⟨_, rfl, rfl⟩ ?_
          refine o1 rfl (det_move rfl) rfl rfl ⟨_, rfl, rfl⟩ ?_
          refine o1 rfl (det_move rfl) rfl rfl ⟨_, rfl, rfl⟩ ?_
          refine o1 rfl (det_move rfl) rfl rfl ⟨_, rfl, rfl⟩ ?_
          first | (refine o1 rfl (det_convW Try.underlying5 Try.underlying3 rfl ?_) rfl rfl ⟨_, rfl, rfl⟩ ?_; · exact IntWalk.i64_in _ (by omega)) | refine o1 rfl (det_conv Try.underlying5 Try.underlying3 rfl) rfl rfl ⟨_, rfl, rfl⟩ ?_
          refine o1 rfl (det_call hb27 rfl rfl (fun w1 hs => hfits_ok hs.know hE _ (by omega) _ _)) rfl rfl ⟨_, rfl, rfl⟩ ?_
          refine o1 rfl (det_move rfl) rfl rfl ⟨_, rfl, rfl⟩ ?_
          refine o2P Iff.rfl rfl (det_move rfl) rfl rfl ⟨_, rfl, rfl⟩ (fun hb => ?_) (fun hb => ?_)
          rotate_left
          · exfalso; exact hb hbo
          refine on rfl rfl rfl ⟨_, rfl, .inl rfl⟩ ?_
          refine on rfl rfl rfl ⟨_, rfl, .inl rfl⟩ ?_
          refine on rfl rfl rfl ⟨_, rfl, .inl rfl⟩ ?_
          refine on rfl rfl rfl ⟨_, rfl, .inl rfl⟩ ?_
          refine o1 rfl (det_pickT rfl rfl) rfl rfl ⟨_, rfl, rfl⟩ ?_
          refine o1 rfl (det_eqlB Try.underlying4 rfl rfl) rfl rfl ⟨_, rfl, rfl⟩ ?_
          refine o1 rfl (det_pickT rfl rfl) rfl rfl trivial ?_
          refine o2P Iff.rfl rfl (det_move rfl) rfl rfl trivial (fun hb => ?_) (fun hb => ?_)
          rotate_left
          · exfalso; exact hb (by rw [fitsH_eq hG (by omega) (by omega) (by omega), hS]; simp; try omega)
          refine o1 rfl (det_loadN tN27 rfl rfl (.head _) rfl) rfl rfl ⟨_, rfl, rfl⟩ ?_
          refine o1 rfl (det_move rfl) rfl rfl ⟨_, rfl, rfl⟩ ?_
          refine o1 rfl (det_move rfl) rfl rfl ⟨_, rfl, rfl⟩ ?_
          refine o1 rfl (det_fieldAddr fld27_1 rfl) rfl rfl ⟨_, rfl, rfl⟩ ?_
          refine o1 rfl (det_load1 t1_3 rfl rfl (.head _) rfl) rfl rfl ⟨_, rfl, rfl⟩ ?_
          first | (refine o1 rfl (det_mulI rfl rfl ?_) rfl rfl ⟨_, rfl, rfl⟩ ?_; · omega) | refine o1 rfl (det_mul rfl rfl) rfl rfl ⟨_, rfl, rfl⟩ ?_
          first | (refine o1 rfl (det_addI rfl rfl ?_) rfl rfl ⟨_, rfl, rfl⟩ ?_; · omega) | refine o1 rfl (det_add rfl rfl) rfl rfl ⟨_, rfl, rfl⟩ ?_
          refine o1 rfl (det_call hb26 rfl rfl (fun w1 hs => hopen_ok hs.know hE _ (by omega) _)) rfl rfl ⟨_, rfl, rfl⟩ ?_
          refine o1 rfl (det_move rfl) rfl rfl ⟨_, rfl, rfl⟩ ?_
          refine o1 rfl (det_eql rfl rfl) rfl rfl ⟨_, rfl, rfl⟩ ?_
          refine o1 rfl (det_pickT rfl rfl) rfl rfl trivial ?_
          refine o1 rfl (det_assign rfl) rfl rfl trivial ?_
          refine be rfl ?_
          refine k_then ?_
          refine t_ret ?_
          refine ret_tmp rfl rfl rfl (fun w1 hs => ?_)
          refine ⟨?_, hs.keep⟩
          rw [openH_eq hG (by omega) (by omega), show t + 3 * cyc = t + cyc + cyc + cyc by omega, span_per, span_per, span_per, hS]
          simp
      ·
        have hbo := hb
        have hS := hex.2 hb
        refine t_skip ?_
        refine k_then ?_
        refine t_seq ?_
        refine t_seq ?_
        refine b0 ?_
        refine o1 rfl (det_assign rfl) rfl rfl trivial ?_
        refine be rfl ?_
        refine k_then ?_
        refine t_block ?_
        refine t_whileM (σ := Int) (fun q => [(15, .int .i64 q)]) (fun _ => _) (fun q => (cyc - q).toNat) (fun q => 0 ≤ q) 0 (env0 := [(3, _), (9, _), (10, _), (11, _), (12, _), (13, _), (14, _)]) (Int.le_refl _) ⟨rfl, trivial⟩ ⟨rfl, rfl, rfl, rfl, rfl, rfl, rfl, trivial⟩ (.refl _) ?_
        intro q hq
        refine t_seq ?_
        refine t_seq ?_
        refine b0 ?_
        refine o1 rfl (det_move rfl) rfl rfl trivial ?_
        refine o1 rfl (det_fieldAddr fld27_1 rfl) rfl rfl trivial ?_
        refine o1 rfl (det_load1 t1_3 rfl rfl (.head _) rfl) rfl rfl trivial ?_
        refine o1 rfl (det_lss rfl rfl) rfl rfl trivial ?_
        refine be rfl ?_
        refine k_then ?_
        refine t_condP decide_eq_true_iff rfl (fun hb => ?_) (fun hb => ?_)
        ·
          have hqlt : q < cyc := hb
          refine t_skip ?_
          refine k_then ?_
          refine t_seq ?_
          refine t_block ?_
          refine t_seq ?_
          refine bD mixed ?_
          refine r_seg 22 22 [] [0, 1, 2, 3, 4, 5, 6, 7, 8, 9, 10, 11, 12, 13, 14, 15, 16, 17, 18, 19, 20, 21] (by kernel_rfl) ?_
          refine s1 rfl (det_loadN tN27 rfl rfl (.head _) rfl) rfl rfl trivial rfl ?_
          refine s1 rfl (det_move rfl) rfl rfl trivial rfl ?_
          refine s1 rfl (det_move rfl) rfl rfl trivial rfl ?_
          first | (refine s1 rfl (det_addI rfl rfl ?_) rfl rfl trivial rfl ?_; · omega) | refine s1 rfl (det_add rfl rfl) rfl rfl trivial rfl ?_
          refine s1 rfl (det_call hb25 rfl rfl (fun w1 hs => hmask_ok hs.know hE _)) rfl rfl trivial rfl ?_
          refine s1 rfl (det_loadN tN27 rfl rfl (.head _) rfl) rfl rfl trivial rfl ?_
          refine s1 rfl (det_move rfl) rfl rfl trivial rfl ?_
          refine s1 rfl (det_move rfl) rfl rfl trivial rfl ?_
          first | (refine s1 rfl (det_addI rfl rfl ?_) rfl rfl trivial rfl ?_; · omega) | refine s1 rfl (det_add rfl rfl) rfl rfl trivial rfl ?_
          refine s1 rfl (det_fieldAddr fld27_1 rfl) rfl rfl trivial rfl ?_
          refine s1 rfl (det_load1 t1_3 rfl rfl (.head _) rfl) rfl rfl trivial rfl ?_
          first | (refine s1 rfl (det_addI rfl rfl ?_) rfl rfl trivial rfl ?_; · omega) | refine s1 rfl (det_add rfl rfl) rfl rfl trivial rfl ?_
          refine s1 rfl (det_call hb25 rfl rfl (fun w1 hs => hmask_ok hs.know hE _)) rfl rfl trivial rfl ?_
          refine s1 rfl (det_neq rfl rfl) rfl rfl trivial rfl ?_
          refine s2P bne_iff_ne rfl (det_move rfl) rfl rfl trivial rfl (fun hb => ?_) (fun hb => ?_)
          · exfalso; exact hb (by rw [maskH_eq hG (by omega), maskH_eq hG (by omega), state_per])
          refine s1 rfl (det_loadN tN27 rfl rfl (.head _) rfl) rfl rfl ⟨_, rfl, rfl⟩ rfl ?_
          refine s1 rfl (det_move rfl) rfl rfl ⟨_, rfl, rfl⟩ rfl ?_
          refine s1 rfl (det_move rfl) rfl rfl ⟨_, rfl, rfl⟩ rfl ?_
          first | (refine s1 rfl (det_addI rfl rfl ?_) rfl rfl ⟨_, rfl, rfl⟩ rfl ?_; · omega) | refine s1 rfl (det_add rfl rfl) rfl rfl ⟨_, rfl, rfl⟩ rfl ?_
          refine s1 rfl (det_call hb25 rfl rfl (fun w1 hs => hmask_ok hs.know hE _)) rfl rfl ⟨_, rfl, rfl⟩ rfl ?_
          refine s1 rfl (det_lss rfl rfl) rfl rfl ⟨_, rfl, rfl⟩ rfl ?_
          refine s1 rfl (det_pickF rfl rfl) rfl rfl trivial rfl ?_
          refine sg_nil ?_
          refine be rfl ?_
          refine k_then ?_
          refine t_condP decide_eq_true_iff rfl (fun hb => ?_) (fun hb => ?_)
          · exfalso; have := state_rng hG (t + q); rw [maskH_eq hG (by omega)] at hb; omega
          refine t_skip ?_
          refine k_blk ?_
          refine k_then ?_
          refine b0 ?_
          refine o1 rfl (det_move rfl) rfl rfl trivial ?_
          first | (refine o1 rfl (det_addI rfl rfl ?_) rfl rfl trivial ?_; · omega) | refine o1 rfl (det_add rfl rfl) rfl rfl trivial ?_
          refine o1 rfl (det_assign rfl) rfl rfl trivial ?_
          refine be rfl ?_
          refine k_then ?_
          refine loop_back (q + 1) (by show 0 ≤ q + 1; omega) (by omega) ⟨rfl, rfl, rfl, rfl, rfl, rfl, rfl, rfl, trivial⟩ (.refl _)
        ·
          refine t_exit ?_
          refine k_thenE ?_
          refine k_thenE ?_
          refine k_blkE ?_
          refine k_then ?_
          refine t_seq ?_
          refine b0 ?_
          refine o1 rfl (det_loadN tN27 rfl rfl (.head _) rfl) rfl rfl trivial ?_
          refine o1 rfl (det_move rfl) rfl rfl trivial ?_
          refine o1 rfl (det_move rfl) rfl rfl trivial ?_
          refine o1 rfl (det_call hb26 rfl rfl (fun w1 hs => hopen_ok hs.know hE _ (by omega) _)) rfl rfl trivial ?_
          refine o1 rfl (det_move rfl) rfl rfl trivial ?_
          refine o1 rfl (det_eql rfl rfl) rfl rfl trivial ?_
          refine o2P beq_iff_eq rfl (det_move rfl) rfl rfl trivial (fun hb => ?_) (fun hb => ?_)
          rotate_left
          · exfalso; exact hb (by rw [openH_eq hG (by omega) (by omega)]; first | exact hS | exact hS.symm)
          refine o1 rfl (det_loadN tN27 rfl rfl (.head _) rfl) rfl rfl ⟨_, rfl, rfl⟩ ?_
          refine o1 rfl (det_move rfl) rfl rfl ⟨_, rfl, rfl⟩ ?_
          refine o1 rfl (det_move rfl) rfl rfl ⟨_, rfl, rfl⟩ ?_
          refine o1 rfl (det_move rfl) rfl rfl ⟨_, rfl, rfl⟩ ?_
          first | (refine o1 rfl (det_convW Try.underlying5 Try.underlying3 rfl ?_) rfl rfl ⟨_, rfl, rfl⟩ ?_; · exact IntWalk.i64_in _ (by omega)) | refine o1 rfl (det_conv Try.underlying5 Try.underlying3 rfl) rfl rfl ⟨_, rfl, rfl⟩ ?_
          refine o1 rfl (det_call hb27 rfl rfl (fun w1 hs => hfits_ok hs.know hE _ (by omega) _ _)) rfl rfl ⟨_, rfl, rfl⟩ ?_
          refine o1 rfl (det_move rfl) rfl rfl ⟨_, rfl, rfl⟩ ?_
          refine o2P Iff.rfl rfl (det_move rfl) rfl rfl ⟨_, rfl, rfl⟩ (fun hb => ?_) (fun hb => ?_)
          · exfalso; exact hbo hb
          refine o1 rfl (det_move rfl) rfl rfl ⟨_, rfl, rfl⟩ ?_
          first | (refine o1 rfl (det_convW Try.underlying5 Try.underlying3 rfl ?_) rfl rfl ⟨_, rfl, rfl⟩ ?_; · exact IntWalk.i64_in _ (by omega)) | refine o1 rfl (det_conv Try.underlying5 Try.underlying3 rfl) rfl rfl ⟨_, rfl, rfl⟩ ?_
          refine o1 rfl (det_move rfl) rfl rfl ⟨_, rfl, rfl⟩ ?_
          refine o1 rfl (det_leq rfl rfl) rfl rfl ⟨_, rfl, rfl⟩ ?_
          refine o1 rfl (det_pickF rfl rfl) rfl rfl ⟨_, rfl, rfl⟩ ?_
          refine o1 rfl (det_eqlB Try.underlying4 rfl rfl) rfl rfl ⟨_, rfl, rfl⟩ ?_
          refine o1 rfl (det_pickT rfl rfl) rfl rfl trivial ?_
          refine o2P Iff.rfl rfl (det_move rfl) rfl rfl trivial (fun hb => ?_) (fun hb => ?_)
          rotate_left
          · exfalso; exact hb (by rw [fitsH_eq hG (by omega) (by omega) (by omega), hS]; simp; try omega)
          refine o1 rfl (det_loadN tN27 rfl rfl (.head _) rfl) rfl rfl ⟨_, rfl, rfl⟩ ?_
          refine o1 rfl (det_move rfl) rfl rfl ⟨_, rfl, rfl⟩ ?_
          refine o1 rfl (det_move rfl) rfl rfl ⟨_, rfl, rfl⟩ ?_
          refine o1 rfl (det_fieldAddr fld27_1 rfl) rfl rfl ⟨_, rfl, rfl⟩ ?_
          refine o1 rfl (det_load1 t1_3 rfl rfl (.head _) rfl) rfl rfl ⟨_, rfl, rfl⟩ ?_
          first | (refine o1 rfl (det_mulI rfl rfl ?_) rfl rfl ⟨_, rfl, rfl⟩ ?_; · omega) | refine o1 rfl (det_mul rfl rfl) rfl rfl ⟨_, rfl, rfl⟩ ?_
          first | (refine o1 rfl (det_addI rfl rfl ?_) rfl rfl ⟨_, rfl, rfl⟩ ?_; · omega) | refine o1 rfl (det_add rfl rfl) rfl rfl ⟨_, rfl, rfl⟩ ?_
          refine o1 rfl (det_call hb26 rfl rfl (fun w1 hs => hopen_ok hs.know hE _ (by omega) _)) rfl rfl ⟨_, rfl, rfl⟩ ?_
          refine o1 rfl (det_move rfl) rfl rfl ⟨_, rfl, rfl⟩ ?_
          refine o1 rfl (det_eql rfl rfl) rfl rfl ⟨_, rfl, rfl⟩ ?_
          refine o1 rfl (det_pickT rfl rfl) rfl rfl trivial ?_
          refine o1 rfl (det_assign rfl) rfl rfl trivial ?_
          refine be rfl ?_
          refine k_then ?_
          refine t_ret ?_
          refine ret_tmp rfl rfl rfl (fun w1 hs => ?_)
          refine ⟨?_, hs.keep⟩
          rw [openH_eq hG (by omega) (by omega), show t + 3 * cyc = t + cyc + cyc + cyc by omega, span_per, span_per, span_per, hS]
          simp
  ·
    have hex := count_end hG (cl := c % 8) (t := t) (n := s.1) (o := s.2) (by omega) (by omega) hall ho (fun _ => hb)
    refine on rfl rfl rfl ⟨_, rfl, .inl rfl⟩ ?_
    refine o1 rfl (det_pickF rfl rfl) rfl rfl trivial ?_
    refine be rfl ?_
    refine k_then ?_
    refine t_condF rfl ?_
    refine t_exit ?_
    refine k_thenE ?_
    refine k_thenE ?_
    refine k_blkE ?_
    refine k_then ?_
    refine t_seq ?_
    refine b0 ?_
    refine o1 rfl (det_move rfl) rfl rfl trivial ?_
    refine o1 rfl (det_assign rfl) rfl rfl trivial ?_
    refine be rfl ?_
    refine k_then ?_
    refine t_seq ?_
    refine t_seq ?_
    refine b0 ?_
    refine o1 rfl (det_move rfl) rfl rfl trivial ?_
    refine be rfl ?_
    refine k_then ?_
    refine t_condP Iff.rfl rfl (fun hb => ?_) (fun hb => ?_)
    ·
      have hbo := hb
      have hS := hex.1 hb --note:open
      refine b0 ?_
      refine o1 rfl (det_assign rfl) rfl rfl trivial ?_
      refine be rfl ?_
      refine k_then ?_
      refine t_seq ?_
      refine t_seq ?_
      refine b0 ?_
      refine o1 rfl (det_assign rfl) rfl rfl trivial ?_
      refine be rfl ?_
      refine k_then ?_
      refine t_block ?_
      refine t_whileM (σ := Int) (fun q => [(15, .int .i64 q)]) (fun _ => _) (fun q => (cyc - q).toNat) (fun q => 0 ≤ q) 0 (env0 := [(3, _), (9, _), (10, _), (11, _), (12, _), (13, _), (14, _)]) (Int.le_refl _) ⟨rfl, trivial⟩ ⟨rfl, rfl, rfl, rfl, rfl, rfl, rfl, trivial⟩ (.refl _) ?_
      intro q hq
      refine t_seq ?_
      refine t_seq ?_
      refine b0 ?_
      refine o1 rfl (det_move rfl) rfl rfl trivial ?_
      refine o1 rfl (det_fieldAddr fld27_1 rfl) rfl rfl trivial ?_
      refine o1 rfl (det_load1 t1_3 rfl rfl (.head _) rfl) rfl rfl trivial ?_
      refine o1 rfl (det_lss rfl rfl) rfl rfl trivial ?_
      refine be rfl ?_
      refine k_then ?_
      refine t_condP decide_eq_true_iff rfl (fun hb => ?_) (fun hb => ?_)
      ·
        have hqlt : q < cyc := hb
        refine t_skip ?_
        refine k_then ?_
        refine t_seq ?_
        refine t_block ?_
        refine t_seq ?_
        refine bD mixed ?_
        refine r_seg 22 22 [] [0, 1, 2, 3, 4, 5, 6, 7, 8, 9, 10, 11, 12, 13, 14, 15, 16, 17, 18, 19, 20, 21] (by kernel_rfl) ?_
        refine s1 rfl (det_loadN tN27 rfl rfl (.head _) rfl) rfl rfl trivial rfl ?_
        refine s1 rfl (det_move rfl) rfl rfl trivial rfl ?_
        refine s1 rfl (det_move rfl) rfl rfl trivial rfl ?_
        first | (refine s1 rfl (det_addI rfl rfl ?_) rfl rfl trivial rfl ?_; · omega) | refine s1 rfl (det_add rfl rfl) rfl rfl trivial rfl ?_
        refine s1 rfl (det_call hb25 rfl rfl (fun w1 hs => hmask_ok hs.know hE _)) rfl rfl trivial rfl ?_
        refine s1 rfl (det_loadN tN27 rfl rfl (.head _) rfl) rfl rfl trivial rfl ?_
        refine s1 rfl (det_move rfl) rfl rfl trivial rfl ?_
        refine s1 rfl (det_move rfl) rfl rfl trivial rfl ?_
        first | (refine s1 rfl (det_addI rfl rfl ?_) rfl rfl trivial rfl ?_; · omega) | refine s1 rfl (det_add rfl rfl) rfl rfl trivial rfl ?_
        refine s1 rfl (det_fieldAddr fld27_1 rfl) rfl rfl trivial rfl ?_
        refine s1 rfl (det_load1 t1_3 rfl rfl (.head _) rfl) rfl rfl trivial rfl ?_
        first | (refine s1 rfl (det_addI rfl rfl ?_) rfl rfl trivial rfl ?_; · omega) | refine s1 rfl (det_add rfl rfl) rfl rfl trivial rfl ?_
        refine s1 rfl (det_call hb25 rfl rfl (fun w1 hs => hmask_ok hs.know hE _)) rfl rfl trivial rfl ?_
        refine s1 rfl (det_neq rfl rfl) rfl rfl trivial rfl ?_
        refine s2P bne_iff_ne rfl (det_move rfl) rfl rfl trivial rfl (fun hb => ?_) (fun hb => ?_)
        · exfalso; exact hb (by rw [maskH_eq hG (by omega), maskH_eq hG (by omega), state_per])
        refine s1 rfl (det_loadN tN27 rfl rfl (.head _) rfl) rfl rfl ⟨_, rfl, rfl⟩ rfl ?_
        refine s1 rfl (det_move rfl) rfl rfl ⟨_, rfl, rfl⟩ rfl ?_
        refine s1 rfl (det_move rfl) rfl rfl ⟨_, rfl, rfl⟩ rfl ?_
        first | (refine s1 rfl (det_addI rfl rfl ?_) rfl rfl ⟨_, rfl, rfl⟩ rfl ?_; · omega) | refine s1 rfl (det_add rfl rfl) rfl rfl ⟨_, rfl, rfl⟩ rfl ?_
        refine s1 rfl (det_call hb25 rfl rfl (fun w1 hs => hmask_ok hs.know hE _)) rfl rfl ⟨_, rfl, rfl⟩ rfl ?_
        refine s1 rfl (det_lss rfl rfl) rfl rfl ⟨_, rfl, rfl⟩ rfl ?_
        refine s1 rfl (det_pickF rfl rfl) rfl rfl trivial rfl ?_
        refine sg_nil ?_
        refine be rfl ?_
        refine k_then ?_
        refine t_condP decide_eq_true_iff rfl (fun hb => ?_) (fun hb => ?_)
        · exfalso; have := state_rng hG (t + q); rw [maskH_eq hG (by omega)] at hb; omega
        refine t_skip ?_
        refine k_blk ?_
        refine k_then ?_
        refine b0 ?_
        refine o1 rfl (det_move rfl) rfl rfl trivial ?_
        first | (refine o1 rfl (det_addI rfl rfl ?_) rfl rfl trivial ?_; · omega) | refine o1 rfl (det_add rfl rfl) rfl rfl trivial ?_
        refine o1 rfl (det_assign rfl) rfl rfl trivial ?_
        refine be rfl ?_
        refine k_then ?_
        refine loop_back (q + 1) (by show 0 ≤ q + 1; omega) (by omega) ⟨rfl, rfl, rfl, rfl, rfl, rfl, rfl, rfl, trivial⟩ (.refl _)
      ·
        refine t_exit ?_
        refine k_thenE ?_
        refine k_thenE ?_
        refine k_blkE ?_
        refine k_then ?_
        refine t_seq ?_
        refine b0 ?_
        refine o1 rfl (det_loadN tN27 rfl rfl (.head _) rfl) rfl rfl trivial ?_
        refine o1 rfl (det_move rfl) rfl rfl trivial ?_
        refine o1 rfl (det_move rfl) rfl rfl trivial ?_
        refine o1 rfl (det_call hb26 rfl rfl (fun w1 hs => hopen_ok hs.know hE _ (by omega) _)) rfl rfl trivial ?_
        refine o1 rfl (det_move rfl) rfl rfl trivial ?_
        refine o1 rfl (det_eql rfl rfl) rfl rfl trivial ?_
        refine o2P beq_iff_eq rfl (det_move rfl) rfl rfl trivial (fun hb => ?_) (fun hb => ?_)
        rotate_left
        · exfalso; exact hb (by rw [openH_eq hG (by omega) (by omega)]; first | exact hS | exact hS.symm)
        refine o1 rfl (det_loadN tN27 rfl rfl (.head _) rfl) rfl rfl ⟨_, rfl, rfl⟩ ?_
        refine o1 rfl (det_move rfl) rfl rfl ⟨_, rfl, rfl⟩ ?_
        refine o1 rfl (det_move rfl) rfl rfl ⟨_, rfl, rfl⟩ ?_
        refine o1 rfl (det_move rfl) rfl rfl ⟨_, rfl, rfl⟩ ?_
        first | (refine o1 rfl (det_convW Try.underlying5 Try.underlying3 rfl ?_) rfl rfl ⟨_, rfl, rfl⟩ ?_; · exact IntWalk.i64_in _ (by omega)) | refine o1 rfl (det_conv Try.underlying5 Try.underlying3 rfl) rfl rfl ⟨_, rfl, rfl⟩ ?_
        refine o1 rfl (det_call hb27 rfl rfl (fun w1 hs => hfits_ok hs.know hE _ (by omega) _ _)) rfl rfl ⟨_, rfl, rfl⟩ ?_
        refine o1 rfl (det_move rfl) rfl rfl ⟨_, rfl, rfl⟩ ?_
        refine o2P Iff.rfl rfl (det_move rfl) rfl rfl ⟨_, rfl, rfl⟩ (fun hb => ?_) (fun hb => ?_)
        rotate_left
        · exfalso; exact hb hbo
        refine on rfl rfl rfl ⟨_, rfl, .inl rfl⟩ ?_
        refine on rfl rfl rfl ⟨_, rfl, .inl rfl⟩ ?_
        refine on rfl rfl rfl ⟨_, rfl, .inl rfl⟩ ?_
        refine on rfl rfl rfl ⟨_, rfl, .inl rfl⟩ ?_
        refine o1 rfl (det_pickT rfl rfl) rfl rfl ⟨_, rfl, rfl⟩ ?_
        refine o1 rfl (det_eqlB Try.underlying4 rfl rfl) rfl rfl ⟨_, rfl, rfl⟩ ?_
        refine o1 rfl (det_pickT rfl rfl) rfl rfl trivial ?_
        refine o2P Iff.rfl rfl (det_move rfl) rfl rfl trivial (fun hb => ?_) (fun hb => ?_)
        rotate_left
        · exfalso; exact hb (by rw [fitsH_eq hG (by omega) (by omega) (by omega), hS]; simp; try omega)
        refine o1 rfl (det_loadN tN27 rfl rfl (.head _) rfl) rfl rfl ⟨_, rfl, rfl⟩ ?_
        refine o1 rfl (det_move rfl) rfl rfl ⟨_, rfl, rfl⟩ ?_
        refine o1 rfl (det_move rfl) rfl rfl ⟨_, rfl, rfl⟩ ?_
        refine o1 rfl (det_fieldAddr fld27_1 rfl) rfl rfl ⟨_, rfl, rfl⟩ ?_
        refine o1 rfl (det_load1 t1_3 rfl rfl (.head _) rfl) rfl rfl ⟨_, rfl, rfl⟩ ?_
        first | (refine o1 rfl (det_mulI rfl rfl ?_) rfl rfl ⟨_, rfl, rfl⟩ ?_; · omega) | refine o1 rfl (det_mul rfl rfl) rfl rfl ⟨_, rfl, rfl⟩ ?_
        first | (refine o1 rfl (det_addI rfl rfl ?_) rfl rfl ⟨_, rfl, rfl⟩ ?_; · omega) | refine o1 rfl (det_add rfl rfl) rfl rfl ⟨_, rfl, rfl⟩ ?_
        refine o1 rfl (det_call hb26 rfl rfl (fun w1 hs => hopen_ok hs.know hE _ (by omega) _)) rfl rfl ⟨_, rfl, rfl⟩ ?_
        refine o1 rfl (det_move rfl) rfl rfl ⟨_, rfl, rfl⟩ ?_
        refine o1 rfl (det_eql rfl rfl) rfl rfl ⟨_, rfl, rfl⟩ ?_
        refine o1 rfl (det_pickT rfl rfl) rfl rfl trivial ?_
        refine o1 rfl (det_assign rfl) rfl rfl trivial ?_
        refine be rfl ?_
        refine k_then ?_
        refine t_ret ?_
        refine ret_tmp rfl rfl rfl (fun w1 hs => ?_)
        refine ⟨?_, hs.keep⟩
        rw [openH_eq hG (by omega) (by omega), show t + 3 * cyc = t + cyc + cyc + cyc by omega, span_per, span_per, span_per, hS]
        simp
    ·
      have hbo := hb
      have hS := hex.2 hb
      refine t_skip ?_
      refine k_then ?_
      refine t_seq ?_
      refine t_seq ?_
      refine b0 ?_
      refine o1 rfl (det_assign rfl) rfl rfl trivial ?_
      refine be rfl ?_
      refine k_then ?_
      refine t_block ?_
      refine t_whileM (σ := Int) (fun q => [(15, .int .i64 q)]) (fun _ => _) (fun q => (cyc - q).toNat) (fun q => 0 ≤ q) 0 (env0 := [(3, _), (9, _), (10, _), (11, _), (12, _), (13, _), (14, _)]) (Int.le_refl _) ⟨rfl, trivial⟩ ⟨rfl, rfl, rfl, rfl, rfl, rfl, rfl, trivial⟩ (.refl _) ?_
      intro q hq
      refine t_seq ?_
      refine t_seq ?_
      refine b0 ?_
      refine o1 rfl (det_move rfl) rfl rfl trivial ?_
      refine o1 rfl (det_fieldAddr fld27_1 rfl) rfl rfl trivial ?_
      refine o1 rfl (det_load1 t1_3 rfl rfl (.head _) rfl) rfl rfl trivial ?_
      refine o1 rfl (det_lss rfl rfl) rfl rfl trivial ?_
      refine be rfl ?_
      refine k_then ?_
      refine t_condP decide_eq_true_iff rfl (fun hb => ?_) (fun hb => ?_)
      ·
        have hqlt : q < cyc := hb
        refine t_skip ?_
        refine k_then ?_
        refine t_seq ?_
        refine t_block ?_
        refine t_seq ?_
        refine bD mixed ?_
        refine r_seg 22 22 [] [0, 1, 2, 3, 4, 5, 6, 7, 8, 9, 10, 11, 12, 13, 14, 15, 16, 17, 18, 19, 20, 21] (by kernel_rfl) ?_
        refine s1 rfl (det_loadN tN27 rfl rfl (.head _) rfl) rfl rfl trivial rfl ?_
        refine s1 rfl (det_move rfl) rfl rfl trivial rfl ?_
        refine s1 rfl (det_move rfl) rfl rfl trivial rfl ?_
        first | (refine s1 rfl (det_addI rfl rfl ?_) rfl rfl trivial rfl ?_; · omega) | refine s1 rfl (det_add rfl rfl) rfl rfl trivial rfl ?_
        refine s1 rfl (det_call hb25 rfl rfl (fun w1 hs => hmask_ok hs.know hE _)) rfl rfl trivial rfl ?_
        refine s1 rfl (det_loadN tN27 rfl rfl (.head _) rfl) rfl rfl trivial rfl ?_
        refine s1 rfl (det_move rfl) rfl rfl trivial rfl ?_
        refine s1 rfl (det_move rfl) rfl rfl trivial rfl ?_
        first | (refine s1 rfl (det_addI rfl rfl ?_) rfl rfl trivial rfl ?_; · omega) | refine s1 rfl (det_add rfl rfl) rfl rfl trivial rfl ?_
        refine s1 rfl (det_fieldAddr fld27_1 rfl) rfl rfl trivial rfl ?_
        refine s1 rfl (det_load1 t1_3 rfl rfl (.head _) rfl) rfl rfl trivial rfl ?_
        first | (refine s1 rfl (det_addI rfl rfl ?_) rfl rfl trivial rfl ?_; · omega) | refine s1 rfl (det_add rfl rfl) rfl rfl trivial rfl ?_
        refine s1 rfl (det_call hb25 rfl rfl (fun w1 hs => hmask_ok hs.know hE _)) rfl rfl trivial rfl ?_
        refine s1 rfl (det_neq rfl rfl) rfl rfl trivial rfl ?_
        refine s2P bne_iff_ne rfl (det_move rfl) rfl rfl trivial rfl (fun hb => ?_) (fun hb => ?_)
        · exfalso; exact hb (by rw [maskH_eq hG (by omega), maskH_eq hG (by omega), state_per])
        refine s1 rfl (det_loadN tN27 rfl rfl (.head _) rfl) rfl rfl ⟨_, rfl, rfl⟩ rfl ?_
        refine s1 rfl (det_move rfl) rfl rfl ⟨_, rfl, rfl⟩ rfl ?_
        refine s1 rfl (det_move rfl) rfl rfl ⟨_, rfl, rfl⟩ rfl ?_
        first | (refine s1 rfl (det_addI rfl rfl ?_) rfl rfl ⟨_, rfl, rfl⟩ rfl ?_; · omega) | refine s1 rfl (det_add rfl rfl) rfl rfl ⟨_, rfl, rfl⟩ rfl ?_
        refine s1 rfl (det_call hb25 rfl rfl (fun w1 hs => hmask_ok hs.know hE _)) rfl rfl ⟨_, rfl, rfl⟩ rfl ?_
        refine s1 rfl (det_lss rfl rfl) rfl rfl ⟨_, rfl, rfl⟩ rfl ?_
        refine s1 rfl (det_pickF rfl rfl) rfl rfl trivial rfl ?_
        refine sg_nil ?_
        refine be rfl ?_
        refine k_then ?_
        refine t_condP decide_eq_true_iff rfl (fun hb => ?_) (fun hb => ?_)
        · exfalso; have := state_rng hG (t + q); rw [maskH_eq hG (by omega)] at hb; omega
        refine t_skip ?_
        refine k_blk ?_
        refine k_then ?_
        refine b0 ?_
        refine o1 rfl (det_move rfl) rfl rfl trivial ?_
        first | (refine o1 rfl (det_addI rfl rfl ?_) rfl rfl trivial ?_; · omega) | refine o1 rfl (det_add rfl rfl) rfl rfl trivial ?_
        refine o1 rfl (det_assign rfl) rfl rfl trivial ?_
        refine be rfl ?_
        refine k_then ?_
        refine loop_back (q + 1) (by show 0 ≤ q + 1; omega) (by omega) ⟨rfl, rfl, rfl, rfl, rfl, rfl, rfl, rfl, trivial⟩ (.refl _)
      ·
        refine t_exit ?_
        refine k_thenE ?_
        refine k_thenE ?_
        refine k_blkE ?_
        refine k_then ?_
        refine t_seq ?_
        refine b0 ?_
        refine o1 rfl (det_loadN tN27 rfl rfl (.head _) rfl) rfl rfl trivial ?_
        refine o1 rfl (det_move rfl) rfl rfl trivial ?_
        refine o1 rfl (det_move rfl) rfl rfl trivial ?_
        refine o1 rfl (det_call hb26 rfl rfl (fun w1 hs => hopen_ok hs.know hE _ (by omega) _)) rfl rfl trivial ?_
        refine o1 rfl (det_move rfl) rfl rfl trivial ?_
        refine o1 rfl (det_eql rfl rfl) rfl rfl trivial ?_
        refine o2P beq_iff_eq rfl (det_move rfl) rfl rfl trivial (fun hb => ?_) (fun hb => ?_)
        rotate_left
        · exfalso; exact hb (by rw [openH_eq hG (by omega) (by omega)]; first | exact hS | exact hS.symm)
        refine o1 rfl (det_loadN tN27 rfl rfl (.head _) rfl) rfl rfl ⟨_, rfl, rfl⟩ ?_
        refine o1 rfl (det_move rfl) rfl rfl ⟨_, rfl, rfl⟩ ?_
        refine o1 rfl (det_move rfl) rfl rfl ⟨_, rfl, rfl⟩ ?_
        refine o1 rfl (det_move rfl) rfl rfl ⟨_, rfl, rfl⟩ ?_
        first | (refine o1 rfl (det_convW Try.underlying5 Try.underlying3 rfl ?_) rfl rfl ⟨_, rfl, rfl⟩ ?_; · exact IntWalk.i64_in _ (by omega)) | refine o1 rfl (det_conv Try.underlying5 Try.underlying3 rfl) rfl rfl ⟨_, rfl, rfl⟩ ?_
        refine o1 rfl (det_call hb27 rfl rfl (fun w1 hs => hfits_ok hs.know hE _ (by omega) _ _)) rfl rfl ⟨_, rfl, rfl⟩ ?_
        refine o1 rfl (det_move rfl) rfl rfl ⟨_, rfl, rfl⟩ ?_
        refine o2P Iff.rfl rfl (det_move rfl) rfl rfl ⟨_, rfl, rfl⟩ (fun hb => ?_) (fun hb => ?_)
        · exfalso; exact hbo hb
        refine o1 rfl (det_move rfl) rfl rfl ⟨_, rfl, rfl⟩ ?_
        first | (refine o1 rfl (det_convW Try.underlying5 Try.underlying3 rfl ?_) rfl rfl ⟨_, rfl, rfl⟩ ?_; · exact IntWalk.i64_in _ (by omega)) | refine o1 rfl (det_conv Try.underlying5 Try.underlying3 rfl) rfl rfl ⟨_, rfl, rfl⟩ ?_
        refine o1 rfl (det_move rfl) rfl rfl ⟨_, rfl, rfl⟩ ?_
        refine o1 rfl (det_leq rfl rfl) rfl rfl ⟨_, rfl, rfl⟩ ?_
        refine o1 rfl (det_pickF rfl rfl) rfl rfl ⟨_, rfl, rfl⟩ ?_
        refine o1 rfl (det_eqlB Try.underlying4 rfl rfl) rfl rfl ⟨_, rfl, rfl⟩ ?_
        refine o1 rfl (det_pickT rfl rfl) rfl rfl trivial ?_
        refine o2P Iff.rfl rfl (det_move rfl) rfl rfl trivial (fun hb => ?_) (fun hb => ?_)
        rotate_left
        · exfalso; exact hb (by rw [fitsH_eq hG (by omega) (by omega) (by omega), hS]; simp; try omega)
        refine o1 rfl (det_loadN tN27 rfl rfl (.head _) rfl) rfl rfl ⟨_, rfl, rfl⟩ ?_
        refine o1 rfl (det_move rfl) rfl rfl ⟨_, rfl, rfl⟩ ?_
        refine o1 rfl (det_move rfl) rfl rfl ⟨_, rfl, rfl⟩ ?_
        refine o1 rfl (det_fieldAddr fld27_1 rfl) rfl rfl ⟨_, rfl, rfl⟩ ?_
        refine o1 rfl (det_load1 t1_3 rfl rfl (.head _) rfl) rfl rfl ⟨_, rfl, rfl⟩ ?_
        first | (refine o1 rfl (det_mulI rfl rfl ?_) rfl rfl ⟨_, rfl, rfl⟩ ?_; · omega) | refine o1 rfl (det_mul rfl rfl) rfl rfl ⟨_, rfl, rfl⟩ ?_
        first | (refine o1 rfl (det_addI rfl rfl ?_) rfl rfl ⟨_, rfl, rfl⟩ ?_; · omega) | refine o1 rfl (det_add rfl rfl) rfl rfl ⟨_, rfl, rfl⟩ ?_
        refine o1 rfl (det_call hb26 rfl rfl (fun w1 hs => hopen_ok hs.know hE _ (by omega) _)) rfl rfl ⟨_, rfl, rfl⟩ ?_
        refine o1 rfl (det_move rfl) rfl rfl ⟨_, rfl, rfl⟩ ?_
        refine o1 rfl (det_eql rfl rfl) rfl rfl ⟨_, rfl, rfl⟩ ?_
        refine o1 rfl (det_pickT rfl rfl) rfl rfl trivial ?_
        refine o1 rfl (det_assign rfl) rfl rfl trivial ?_
        refine be rfl ?_
        refine k_then ?_
        refine t_ret ?_
        refine ret_tmp rfl rfl rfl (fun w1 hs => ?_)
        refine ⟨?_, hs.keep⟩
        rw [openH_eq hG (by omega) (by omega), show t + 3 * cyc = t + cyc + cyc + cyc by omega, span_per, span_per, span_per, hS]
        simp

end Go.Proofs.Gt
