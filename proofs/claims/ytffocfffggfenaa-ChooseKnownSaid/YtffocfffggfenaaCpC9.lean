/-
  Walks through layers 36, 37 and 38 and their references.
-/
import Derived.Test.YtffocfffggfenaaCpC8
import Derived.Test.YtffocfffggfenaaChPlain4ToChPlain5
namespace Go.Proofs.Cp
open Go Go.Eng Go.Gt Go.Proofs.Gt Go.Sw Go.Qu Go.Ch
set_option maxRecDepth 4000

/-- held. -/
theorem rheld_ok {w : World} {F : Know} (hF : ∀ a v, F a = some v → w.cell? a = some v) {A : Option Addr} {n c : Nat} {hs0 : List Pt} (hP : PK F A n hs0) (h8 : hs0.length = 8) {cl : Int} (hcl : 0 ≤ cl ∧ cl ≤ 7) : Pure Try.prog 60 [.slice A n c, .int .i64 cl] w (.bool (heldC hs0 cl)) := by
  have hnl := hP.len
  refine fn_pure (F := F) Try.func60 rfl Try.ntmps60 rfl hF ?_
  refine t_seq ?_
  refine b0 ?_
  refine o1 rfl (det_assign rfl) rfl rfl trivial ?_
  refine be rfl ?_
  refine k_then ?_
  refine t_seq ?_
  refine t_seq ?_
  refine b0 ?_
  refine o1 rfl (det_assign rfl) rfl rfl trivial ?_
  refine be rfl ?_
  refine k_then ?_
  refine t_block ?_
  refine t_whileM (σ := Nat) (fun s => [(5, .int .i64 (s : Int))]) (fun _ => _) (fun s => 8 - s) (fun s => s ≤ 8 ∧ ∀ k, k < s → ¬ ((atP hs0 k).rest = true ∧ (k : Int) ≠ cl ∧ cl < 6)) 0 (env0 := [(0, _), (1, _)]) ⟨by omega, fun k hk => absurd hk (Nat.not_lt_zero k)⟩ ⟨rfl, trivial⟩ ⟨rfl, rfl, trivial⟩ (.refl _) ?_
  rintro s ⟨hs8, hI⟩
  refine t_seq ?_
  refine t_seq ?_
  refine b0 ?_
  refine o1 rfl (det_move rfl) rfl rfl trivial ?_
  refine o1 rfl (det_lss rfl rfl) rfl rfl trivial ?_
  refine be rfl ?_
  refine k_then ?_
  refine t_condP decide_eq_true_iff rfl (fun hb => ?_) (fun hb => ?_)
  ·
    have hlt : s < hs0.length := by omega
    obtain ⟨A, rfl⟩ := hP.some hlt
    have hat := atP_get hlt
    refine t_skip ?_
    refine k_then ?_
    refine t_seq ?_
    refine t_block ?_
    refine t_seq ?_
    refine b0 ?_
    refine o1 rfl (det_move rfl) rfl rfl trivial ?_
    refine o1 rfl (det_leq rfl rfl) rfl rfl trivial ?_
    refine o2P decide_eq_true_iff rfl (det_move rfl) rfl rfl trivial (fun hb => ?_) (fun hb => ?_)
    ·
      refine o1 rfl (det_move rfl) rfl rfl ⟨_, rfl, rfl⟩ ?_
      refine o1 rfl (det_move rfl) rfl rfl ⟨_, rfl, rfl⟩ ?_
      refine o1 rfl (det_neq rfl rfl) rfl rfl ⟨_, rfl, rfl⟩ ?_
      refine o1 rfl (det_pickT rfl rfl) rfl rfl trivial ?_
      refine o2P bne_iff_ne rfl (det_move rfl) rfl rfl trivial (fun hb => ?_) (fun hb => ?_)
      ·
        refine o1 rfl (det_move rfl) rfl rfl ⟨_, rfl, rfl⟩ ?_
        refine o1 rfl (det_move rfl) rfl rfl ⟨_, rfl, rfl⟩ ?_
        first | (refine o1 rfl (det_indexAddr sl27 rfl rfl ?_) rfl rfl ⟨_, rfl, rfl⟩ ?_; (· (first | decide | omega)))
        refine o1 rfl (det_fieldAddr fld57_2 rfl) rfl rfl ⟨_, rfl, rfl⟩ ?_
        refine o1 rfl (det_loadK t1_4 rfl (hP.cell (i := (s : Int)) (k := s) (Int.toNat_natCast s) hlt (j := 6) (u := .bool hs0[s].rest) rfl)) rfl rfl ⟨_, rfl, rfl⟩ ?_
        refine o1 rfl (det_pickT rfl rfl) rfl rfl trivial ?_
        refine be rfl ?_
        refine k_then ?_
        refine t_condP Iff.rfl rfl (fun hb => ?_) (fun hb => ?_)
        ·
          refine t_seq ?_
          refine b0 ?_
          refine o1 rfl (det_assign rfl) rfl rfl trivial ?_
          refine be rfl ?_
          refine k_then ?_
          refine t_ret (k_blkR (k_thenR (k_thenR (k_blkR (k_thenR (?_))))))
          refine ret_tmp rfl rfl rfl (fun w1 hs => ?_)
          first | exact ⟨by rw [hh], hs.keep⟩ | exact ⟨by rw [held_true hlt (by rw [hat]; grind) (by grind) (by grind)], hs.keep⟩
        ·
          refine t_skip ?_
          refine k_blk ?_
          refine k_then ?_
          refine b0 ?_
          refine o1 rfl (det_move rfl) rfl rfl trivial ?_
          first | (refine o1 rfl (det_addI rfl rfl ?_) rfl rfl trivial ?_; (· omega)) | refine o1 rfl (det_add rfl rfl) rfl rfl trivial ?_
          refine o1 rfl (det_assign rfl) rfl rfl trivial ?_
          refine be rfl ?_
          refine k_then ?_
          refine loop_back (s + 1) ⟨by omega, fun k hk => by
              by_cases e : k = s
              · subst e; rw [atP_get hlt]; grind
              · exact hI k (by omega)⟩ (by omega) ⟨rfl, rfl, rfl, trivial⟩ (.refl _)
      ·
        refine on rfl rfl rfl ⟨_, rfl, .inl rfl⟩ ?_
        refine on rfl rfl rfl ⟨_, rfl, .inl rfl⟩ ?_
        refine on rfl rfl rfl ⟨_, rfl, .inl rfl⟩ ?_
        refine on rfl rfl rfl ⟨_, rfl, .inl rfl⟩ ?_
        refine on rfl rfl rfl ⟨_, rfl, .inl rfl⟩ ?_
        refine o1 rfl (det_pickF rfl rfl) rfl rfl trivial ?_
        refine be rfl ?_
        refine k_then ?_
        refine t_condF rfl ?_
        refine t_skip ?_
        refine k_blk ?_
        refine k_then ?_
        refine b0 ?_
        refine o1 rfl (det_move rfl) rfl rfl trivial ?_
        first | (refine o1 rfl (det_addI rfl rfl ?_) rfl rfl trivial ?_; (· omega)) | refine o1 rfl (det_add rfl rfl) rfl rfl trivial ?_
        refine o1 rfl (det_assign rfl) rfl rfl trivial ?_
        refine be rfl ?_
        refine k_then ?_
        refine loop_back (s + 1) ⟨by omega, fun k hk => by
            by_cases e : k = s
            · subst e; rw [atP_get hlt]; grind
            · exact hI k (by omega)⟩ (by omega) ⟨rfl, rfl, rfl, trivial⟩ (.refl _)
    ·
      refine on rfl rfl rfl ⟨_, rfl, .inl rfl⟩ ?_
      refine on rfl rfl rfl ⟨_, rfl, .inl rfl⟩ ?_
      refine on rfl rfl rfl ⟨_, rfl, .inl rfl⟩ ?_
      refine o1 rfl (det_pickF rfl rfl) rfl rfl trivial ?_
      refine o1 rfl (det_move rfl) rfl rfl trivial ?_
      refine on rfl rfl rfl ⟨_, rfl, .inl rfl⟩ ?_
      refine on rfl rfl rfl ⟨_, rfl, .inl rfl⟩ ?_
      refine on rfl rfl rfl ⟨_, rfl, .inl rfl⟩ ?_
      refine on rfl rfl rfl ⟨_, rfl, .inl rfl⟩ ?_
      refine on rfl rfl rfl ⟨_, rfl, .inl rfl⟩ ?_
      refine o1 rfl (det_pickF rfl rfl) rfl rfl trivial ?_
      refine be rfl ?_
      refine k_then ?_
      refine t_condF rfl ?_
      refine t_skip ?_
      refine k_blk ?_
      refine k_then ?_
      refine b0 ?_
      refine o1 rfl (det_move rfl) rfl rfl trivial ?_
      first | (refine o1 rfl (det_addI rfl rfl ?_) rfl rfl trivial ?_; (· omega)) | refine o1 rfl (det_add rfl rfl) rfl rfl trivial ?_
      refine o1 rfl (det_assign rfl) rfl rfl trivial ?_
      refine be rfl ?_
      refine k_then ?_
      refine loop_back (s + 1) ⟨by omega, fun k hk => by
          by_cases e : k = s
          · subst e; rw [atP_get hlt]; grind
          · exact hI k (by omega)⟩ (by omega) ⟨rfl, rfl, rfl, trivial⟩ (.refl _)
  ·
    have hh := held_false (c := cl) fun k hk => hI k (by omega)
    refine t_exit ?_
    refine k_thenE ?_
    refine k_thenE ?_
    refine k_blkE ?_
    refine k_then ?_
    refine t_seq ?_
    refine b0 ?_
    refine o1 rfl (det_assign rfl) rfl rfl trivial ?_
    refine be rfl ?_
    refine k_then ?_
    refine t_ret ?_
    refine ret_tmp rfl rfl rfl (fun w1 hs => ?_)
    first | exact ⟨by rw [hh], hs.keep⟩ | exact ⟨by rw [held_true hlt (by rw [hat]; grind) (by grind) (by grind)], hs.keep⟩

theorem rFits_at {w : World} {F : Know} (hF : ∀ a v, F a = some v → w.cell? a = some v) {l : Ln} (hl : LnK F l) {cl t lg : Int} (hcl : 0 ≤ cl ∧ cl ≤ 7) : Pure Try.prog 91 [.agg (glv l.g).toArray, .int .i64 cl, .int .i64 t, .int .i64 lg] w (.tuple [.bool (fitsA l.g.es l.g.cyc cl t lg).1, .int .i64 (fitsA l.g.es l.g.cyc cl t lg).2].toArray) := rFits_ok (cap := l.g.cap) hF hl cl (by omega) t lg
/-- fits. -/
theorem rfits_ok {w : World} {F : Know} (hF : ∀ a v, F a = some v → w.cell? a = some v) {l : Ln} (hl : LnK F l) {p : Pt} {cl : Int} (hcl : 0 ≤ cl ∧ cl ≤ 7) (hper : 1 ≤ l.per ∧ l.per ≤ 1000) (hsh : -1000 ≤ l.sh ∧ l.sh ≤ 1000) (hleft : 0 ≤ p.left ∧ p.left ≤ 1542) {t : Int} (ht : -4000000000000 ≤ t ∧ t ≤ 4000000000000) : Pure Try.prog 61 [.agg (lnv l).toArray, .agg (ptv p).toArray, .int .i64 cl, .int .i64 t] w (.bool ((fitsA l.g.es l.g.cyc cl (t + l.sh) (p.left * l.per)).1 && decide ((fitsA l.g.es l.g.cyc cl (t + l.sh) (p.left * l.per)).2 = 0))) := by
  have hm : 0 ≤ p.left * l.per ∧ p.left * l.per ≤ 1542 * 1000 := ⟨Int.mul_nonneg hleft.1 (by omega), Int.mul_le_mul hleft.2 hper.2 (by omega) (by decide)⟩
  refine fn_pure (F := F) Try.func61 rfl Try.ntmps61 rfl hF ?_
  refine t_seq ?_
  refine b0 ?_
  refine om1 rfl (new_boxN rfl) rfl rfl trivial (fun p4 => ?_)
  refine om1 rfl (new_boxN rfl) rfl rfl trivial (fun p5 => ?_)
  refine o1 rfl (det_assign rfl) rfl rfl trivial ?_
  refine be rfl ?_
  refine k_then ?_
  refine t_seq ?_
  refine b0 ?_
  refine o1 rfl (det_fieldAddr fld26_0 rfl) rfl rfl trivial ?_
  refine o1 rfl (det_loadN tN24 rfl rfl (.tail _ (.head _)) rfl) rfl rfl trivial ?_
  refine o1 rfl (det_move rfl) rfl rfl trivial ?_
  refine o1 rfl (det_move rfl) rfl rfl trivial ?_
  refine o1 rfl (det_fieldAddr fld26_2 rfl) rfl rfl trivial ?_
  refine o1 rfl (det_load1 t1_3 rfl rfl (.tail _ (.head _)) rfl) rfl rfl trivial ?_
  first | (refine o1 rfl (det_addI rfl rfl ?_) rfl rfl trivial ?_; (· omega)) | refine o1 rfl (det_add rfl rfl) rfl rfl trivial ?_
  refine o1 rfl (det_fieldAddr fld57_1 rfl) rfl rfl trivial ?_
  refine o1 rfl (det_load1 t1_3 rfl rfl (.head _) rfl) rfl rfl trivial ?_
  refine o1 rfl (det_fieldAddr fld26_1 rfl) rfl rfl trivial ?_
  refine o1 rfl (det_load1 t1_3 rfl rfl (.tail _ (.head _)) rfl) rfl rfl trivial ?_
  first | (refine o1 rfl (det_mulI rfl rfl ?_) rfl rfl trivial ?_; (· omega)) | refine o1 rfl (det_mul rfl rfl) rfl rfl trivial ?_
  refine o1 rfl (det_call hb91 rfl rfl (fun w1 hs => rFits_at hs.know hl hcl)) rfl rfl trivial ?_
  refine o1 rfl (det_move rfl) rfl rfl trivial ?_
  refine o1 rfl (det_extract rfl rfl) rfl rfl trivial ?_
  refine o1 rfl (det_extract rfl rfl) rfl rfl trivial ?_
  refine o1 rfl (det_assign rfl) rfl rfl trivial ?_
  refine o1 rfl (det_assign rfl) rfl rfl trivial ?_
  refine be rfl ?_
  refine k_then ?_
  refine t_seq ?_
  refine b0 ?_
  refine o1 rfl (det_move rfl) rfl rfl trivial ?_
  refine o2P Iff.rfl rfl (det_move rfl) rfl rfl trivial (fun hb => ?_) (fun hb => ?_)
  ·
    refine o1 rfl (det_move rfl) rfl rfl ⟨_, rfl, rfl⟩ ?_
    refine o1 rfl (det_eql rfl rfl) rfl rfl ⟨_, rfl, rfl⟩ ?_
    refine o1 rfl (det_pickT rfl rfl) rfl rfl trivial ?_
    refine o1 rfl (det_assign rfl) rfl rfl trivial ?_
    refine be rfl ?_
    refine k_then ?_
    refine t_ret ?_
    refine ret_tmp rfl rfl rfl (fun w1 hs => ?_)
    exact ⟨by grind, hs.keep⟩
  ·
    refine on rfl rfl rfl ⟨_, rfl, .inl rfl⟩ ?_
    refine on rfl rfl rfl ⟨_, rfl, .inl rfl⟩ ?_
    refine o1 rfl (det_pickF rfl rfl) rfl rfl trivial ?_
    refine o1 rfl (det_assign rfl) rfl rfl trivial ?_
    refine be rfl ?_
    refine k_then ?_
    refine t_ret ?_
    refine ret_tmp rfl rfl rfl (fun w1 hs => ?_)
    exact ⟨by grind, hs.keep⟩

/-- May. -/
theorem rmay_ok {w : World} {F : Know} (hF : ∀ a v, F a = some v → w.cell? a = some v) {l : Ln} (hl : LnK F l) {A : Option Addr} {n c : Nat} {hs0 : List Pt} (hP : PK F A n hs0) (hL : okL l = true) (hH : okH hs0 = true) {cl : Int} (hcl : 0 ≤ cl ∧ cl ≤ 7) {t : Int} (ht : -4000000000000 ≤ t ∧ t ≤ 4000000000000) : Pure Try.prog 24 [.agg (lnv l).toArray, .slice A n c, .int .i64 cl, .int .i64 t] w (.bool (mayC l hs0 cl t)) := by
  have h8 := (okH_parts hH).1
  have hLp := okL_parts hL
  have hnl := hP.len
  have hlc : cl.toNat < hs0.length := by omega
  obtain ⟨A, rfl⟩ := hP.some hlc
  have hac := atP_get hlc
  have hlf := okH_left hH hcl
  rw [hac] at hlf
  refine fn_pure (F := F) Try.func24 rfl Try.ntmps24 rfl hF ?_
  refine t_seq ?_
  refine b0 ?_
  refine om1 rfl (new_boxN rfl) rfl rfl trivial (fun p4 => ?_)
  refine o1 rfl (det_assign rfl) rfl rfl trivial ?_
  refine be rfl ?_
  refine k_then ?_
  refine t_seq ?_
  refine bD mixed ?_
  refine r_seg 23 23 [] [0, 1, 2, 3, 4, 5, 6, 7, 8, 9, 10, 11, 12, 13, 14, 15, 16, 17, 18, 19, 20, 21, 22] (by kernel_rfl) ?_
  refine s1 rfl (det_move rfl) rfl rfl trivial rfl ?_
  refine s1 rfl (det_move rfl) rfl rfl trivial rfl ?_
  first | (refine s1 rfl (det_indexAddr sl27 rfl rfl ?_) rfl rfl trivial rfl ?_; (· (first | decide | omega)))
  refine s1 rfl (det_loadKN tN57 rfl (ptv_len hs0[cl.toNat]) (hP.cells (i := cl) (k := cl.toNat) rfl hlc (ptv_len _))) rfl rfl trivial rfl ?_
  refine s1 rfl (det_call hb54 rfl rfl (fun w1 hs => none_ok hs.know)) rfl rfl trivial rfl ?_
  refine s1 rfl (det_not rfl) rfl rfl trivial rfl ?_
  refine s2P not_iff_false rfl (det_move rfl) rfl rfl trivial rfl (fun hb => ?_) (fun hb => ?_)
  ·
    refine s1 rfl (det_move rfl) rfl rfl ⟨_, rfl, rfl⟩ rfl ?_
    refine s1 rfl (det_move rfl) rfl rfl ⟨_, rfl, rfl⟩ rfl ?_
    refine s1 rfl (det_call hb60 rfl rfl (fun w1 hs => rheld_ok hs.know hP h8 hcl)) rfl rfl ⟨_, rfl, rfl⟩ rfl ?_
    refine s1 rfl (det_not rfl) rfl rfl ⟨_, rfl, rfl⟩ rfl ?_
    refine s1 rfl (det_pickT rfl rfl) rfl rfl trivial rfl ?_
    refine s2P not_iff_false rfl (det_move rfl) rfl rfl trivial rfl (fun hb => ?_) (fun hb => ?_)
    ·
      refine s1 rfl (det_loadN tN26 rfl rfl (.head _) rfl) rfl rfl ⟨_, rfl, rfl⟩ rfl ?_
      refine s1 rfl (det_move rfl) rfl rfl ⟨_, rfl, rfl⟩ rfl ?_
      refine s1 rfl (det_move rfl) rfl rfl ⟨_, rfl, rfl⟩ rfl ?_
      first | (refine s1 rfl (det_indexAddr sl27 rfl rfl ?_) rfl rfl ⟨_, rfl, rfl⟩ rfl ?_; (· (first | decide | omega)))
      refine s1 rfl (det_loadKN tN57 rfl (ptv_len hs0[cl.toNat]) (hP.cells (i := cl) (k := cl.toNat) rfl hlc (ptv_len _))) rfl rfl ⟨_, rfl, rfl⟩ rfl ?_
      refine s1 rfl (det_move rfl) rfl rfl ⟨_, rfl, rfl⟩ rfl ?_
      refine s1 rfl (det_move rfl) rfl rfl ⟨_, rfl, rfl⟩ rfl ?_
      refine s1 rfl (det_call hb61 rfl rfl (fun w1 hs => rfits_ok hs.know hl hcl hLp.2.1 hLp.2.2 hlf ht)) rfl rfl ⟨_, rfl, rfl⟩ rfl ?_
      refine s1 rfl (det_pickT rfl rfl) rfl rfl trivial rfl ?_
      refine s1 rfl (det_assign rfl) rfl rfl trivial rfl ?_
      refine sg_nil ?_
      refine be rfl ?_
      refine k_then ?_
      refine t_ret ?_
      refine ret_tmp rfl rfl rfl (fun w1 hs => ?_)
      exact ⟨by unfold mayC waitC fitC longC; rw [hac]; grind, hs.keep⟩
    ·
      refine sn rfl rfl rfl ⟨_, rfl, .inl rfl⟩ ?_
      refine sn rfl rfl rfl ⟨_, rfl, .inl rfl⟩ ?_
      refine sn rfl rfl rfl ⟨_, rfl, .inl rfl⟩ ?_
      refine sn rfl rfl rfl ⟨_, rfl, .inl rfl⟩ ?_
      refine sn rfl rfl rfl ⟨_, rfl, .inl rfl⟩ ?_
      refine sn rfl rfl rfl ⟨_, rfl, .inl rfl⟩ ?_
      refine sn rfl rfl rfl ⟨_, rfl, .inl rfl⟩ ?_
      refine sn rfl rfl rfl ⟨_, rfl, .inl rfl⟩ ?_
      refine s1 rfl (det_pickF rfl rfl) rfl rfl trivial rfl ?_
      refine s1 rfl (det_assign rfl) rfl rfl trivial rfl ?_
      refine sg_nil ?_
      refine be rfl ?_
      refine k_then ?_
      refine t_ret ?_
      refine ret_tmp rfl rfl rfl (fun w1 hs => ?_)
      exact ⟨by unfold mayC waitC fitC longC; rw [hac]; grind, hs.keep⟩
  ·
    refine sn rfl rfl rfl ⟨_, rfl, .inl rfl⟩ ?_
    refine sn rfl rfl rfl ⟨_, rfl, .inl rfl⟩ ?_
    refine sn rfl rfl rfl ⟨_, rfl, .inl rfl⟩ ?_
    refine sn rfl rfl rfl ⟨_, rfl, .inl rfl⟩ ?_
    refine s1 rfl (det_pickF rfl rfl) rfl rfl trivial rfl ?_
    refine s1 rfl (det_move rfl) rfl rfl trivial rfl ?_
    refine sn rfl rfl rfl ⟨_, rfl, .inl rfl⟩ ?_
    refine sn rfl rfl rfl ⟨_, rfl, .inl rfl⟩ ?_
    refine sn rfl rfl rfl ⟨_, rfl, .inl rfl⟩ ?_
    refine sn rfl rfl rfl ⟨_, rfl, .inl rfl⟩ ?_
    refine sn rfl rfl rfl ⟨_, rfl, .inl rfl⟩ ?_
    refine sn rfl rfl rfl ⟨_, rfl, .inl rfl⟩ ?_
    refine sn rfl rfl rfl ⟨_, rfl, .inl rfl⟩ ?_
    refine sn rfl rfl rfl ⟨_, rfl, .inl rfl⟩ ?_
    refine s1 rfl (det_pickF rfl rfl) rfl rfl trivial rfl ?_
    refine s1 rfl (det_assign rfl) rfl rfl trivial rfl ?_
    refine sg_nil ?_
    refine be rfl ?_
    refine k_then ?_
    refine t_ret ?_
    refine ret_tmp rfl rfl rfl (fun w1 hs => ?_)
    exact ⟨by unfold mayC waitC fitC longC; rw [hac]; grind, hs.keep⟩

/-- Start. -/
theorem rstart_ok {w : World} {F : Know} (hF : ∀ a v, F a = some v → w.cell? a = some v) {l : Ln} (hl : LnK F l) {A : Option Addr} {n c : Nat} {hs0 : List Pt} (hP : PK F A n hs0) (hL : okL l = true) (hH : okH hs0 = true) {t : Int} (ht : -4000000000000 ≤ t ∧ t ≤ 4000000000000) : Pure Try.prog 25 [.agg (lnv l).toArray, .slice A n c, .int .i64 t] w (.int .i64 ((startL l hs0 t).getD (-1))) := by
  refine fn_pure (F := F) Try.func25 rfl Try.ntmps25 rfl hF ?_
  refine t_seq ?_
  refine b0 ?_
  refine om1 rfl (new_boxN rfl) rfl rfl trivial (fun p3 => ?_)
  refine o1 rfl (det_assign rfl) rfl rfl trivial ?_
  refine be rfl ?_
  refine k_then ?_
  refine t_seq ?_
  refine t_seq ?_
  refine b0 ?_
  refine o1 rfl (det_assign rfl) rfl rfl trivial ?_
  refine be rfl ?_
  refine k_then ?_
  refine t_block ?_
  refine t_whileM (σ := Nat) (fun s => [(7, .int .i64 ((s : Int) - 1))]) (fun _ => _) (fun s => s) (fun s => s ≤ 8 ∧ fromC l hs0 t 8 = fromC l hs0 t s) 8 (env0 := [(1, _), (2, _), (3, _)]) ⟨by omega, rfl⟩ ⟨rfl, trivial⟩ ⟨rfl, rfl, rfl, trivial⟩ (.refl _) ?_
  rintro s ⟨hs8, hd⟩
  refine t_seq ?_
  refine t_seq ?_
  refine b0 ?_
  refine o1 rfl (det_move rfl) rfl rfl trivial ?_
  refine o1 rfl (det_geq rfl rfl) rfl rfl trivial ?_
  refine be rfl ?_
  refine k_then ?_
  refine t_condP decide_eq_true_iff rfl (fun hb => ?_) (fun hb => ?_)
  ·
    obtain ⟨m, hm⟩ : ∃ m, s = m + 1 := ⟨s - 1, by omega⟩
    rw [hm] at hd
    rw [show ((s : Nat) : Int) - 1 = (m : Int) by omega]
    refine t_skip ?_
    refine k_then ?_
    refine t_seq ?_
    refine t_block ?_
    refine t_seq ?_
    refine b0 ?_
    refine o1 rfl (det_loadN tN26 rfl rfl (.head _) rfl) rfl rfl trivial ?_
    refine o1 rfl (det_move rfl) rfl rfl trivial ?_
    refine o1 rfl (det_move rfl) rfl rfl trivial ?_
    refine o1 rfl (det_move rfl) rfl rfl trivial ?_
    refine o1 rfl (det_call hb24 rfl rfl (fun w1 hs => rmay_ok hs.know hl hP hL hH (by omega) ht)) rfl rfl trivial ?_
    refine be rfl ?_
    refine k_then ?_
    refine t_condP Iff.rfl rfl (fun hb => ?_) (fun hb => ?_)
    ·
      refine t_seq ?_
      refine b0 ?_
      refine o1 rfl (det_move rfl) rfl rfl trivial ?_
      refine o1 rfl (det_assign rfl) rfl rfl trivial ?_
      refine be rfl ?_
      refine k_then ?_
      refine t_ret (k_blkR (k_thenR (k_thenR (k_blkR (k_thenR (?_))))))
      refine ret_tmp rfl rfl rfl (fun w1 hs => ?_)
      rw [startL_eq, hd]
      first | exact ⟨rfl, hs.keep⟩ | exact ⟨by rw [fromC, if_pos hb]; rfl, hs.keep⟩
    ·
      refine t_skip ?_
      refine k_blk ?_
      refine k_then ?_
      refine b0 ?_
      refine o1 rfl (det_move rfl) rfl rfl trivial ?_
      first | (refine o1 rfl (det_subI rfl rfl ?_) rfl rfl trivial ?_; (· omega)) | refine o1 rfl (det_sub rfl rfl) rfl rfl trivial ?_
      refine o1 rfl (det_assign rfl) rfl rfl trivial ?_
      refine be rfl ?_
      refine k_then ?_
      refine loop_back m ⟨by omega, by rw [hd, fromC, if_neg (by simpa using hb)]⟩ (by omega) ⟨rfl, rfl, rfl, rfl, trivial⟩ (.refl _)
  ·
    have h0 : s = 0 := by omega
    rw [h0] at hd
    refine t_exit ?_
    refine k_thenE ?_
    refine k_thenE ?_
    refine k_blkE ?_
    refine k_then ?_
    refine t_seq ?_
    refine b0 ?_
    refine o1 rfl (det_assign rfl) rfl rfl trivial ?_
    refine be rfl ?_
    refine k_then ?_
    refine t_ret ?_
    refine ret_tmp rfl rfl rfl (fun w1 hs => ?_)
    rw [startL_eq, hd]
    first | exact ⟨rfl, hs.keep⟩ | exact ⟨by rw [fromC, if_pos hb]; rfl, hs.keep⟩

end Go.Proofs.Cp
