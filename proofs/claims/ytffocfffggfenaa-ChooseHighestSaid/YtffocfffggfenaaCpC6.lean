/-
  Walks through layers 36, 37 and 38 and their references.
-/
import Derived.Test.YtffocfffggfenaaCpC5
import Derived.Test.YtffocfffggfenaaChPlain3
namespace Go.Proofs.Cp
open Go Go.Eng Go.Gt Go.Proofs.Gt Go.Sw Go.Qu Go.Ch
set_option maxRecDepth 4000

/-- waits. -/
theorem waits_ok {w : World} {F : Know} (hF : ∀ a v, F a = some v → w.cell? a = some v) {l : Ln} {A : Option Addr} {n c : Nat} {hs0 : List Pt} (hP : PK F A n hs0) (h8 : hs0.length = 8) {cl : Int} (hcl : 0 ≤ cl ∧ cl ≤ 7) : Pure Try.prog 57 [.agg [.slice l.g.A l.g.n l.g.cap, .int .i64 l.g.cyc, .int .i64 l.per, .int .i64 l.sh, .slice A n c].toArray, .int .i64 cl] w (.bool (waitC hs0 cl)) := by
  have hnl := hP.len
  have hlc : cl.toNat < hs0.length := by omega
  obtain ⟨A, rfl⟩ := hP.some hlc
  have hac := atP_get hlc
  refine fn_pure (F := F) Try.func57 rfl Try.ntmps57 rfl hF ?_
  refine t_seq ?_
  refine b0 ?_
  refine om1 rfl (new_boxN rfl) rfl rfl trivial (fun p2 => ?_)
  refine o1 rfl (det_assign rfl) rfl rfl trivial ?_
  refine be rfl ?_
  refine k_then ?_
  refine t_seq ?_
  refine t_seq ?_
  refine b0 ?_
  refine o1 rfl (det_fieldAddr fld107_1 rfl) rfl rfl trivial ?_
  refine o1 rfl (det_load1 t1_27 rfl rfl (.head _) rfl) rfl rfl trivial ?_
  refine o1 rfl (det_move rfl) rfl rfl trivial ?_
  first | (refine o1 rfl (det_indexAddr sl27 rfl rfl ?_) rfl rfl trivial ?_; (· (first | decide | omega)))
  refine o1 rfl (det_loadKN tN57 rfl (ptv_len hs0[cl.toNat]) (hP.cells (i := cl) (k := cl.toNat) rfl hlc (ptv_len _))) rfl rfl trivial ?_
  refine o1 rfl (det_build rfl (fun w => bld57_ w)) rfl rfl trivial ?_
  refine o1 rfl (det_eqlS rfl rfl eqg57 (fun w => eq57 _ _ _ _ _ _ _ _ _ _ _ _ _ _ w)) rfl rfl trivial ?_
  refine be rfl ?_
  refine k_then ?_
  refine t_condP Iff.rfl rfl (fun hb => ?_) (fun hb => ?_)
  ·
    have hno : noneP (atP hs0 cl.toNat) = true := by rw [hac]; exact hb
    refine t_seq ?_
    refine b0 ?_
    refine o1 rfl (det_assign rfl) rfl rfl trivial ?_
    refine be rfl ?_
    refine k_then ?_
    refine t_ret (k_thenR (?_))
    refine ret_tmp rfl rfl rfl (fun w1 hs => ?_)
    first | exact ⟨by unfold waitC; rw [hno, hh]; rfl, hs.keep⟩ | exact ⟨by unfold waitC; rw [hno, held_true hlt (by rw [hat]; grind) (by grind) (by grind)]; rfl, hs.keep⟩ | exact ⟨by unfold waitC; rw [hno]; rfl, hs.keep⟩
  ·
    have hno : noneP (atP hs0 cl.toNat) = false := by rw [hac]; unfold noneP; simpa using hb
    refine t_skip ?_
    refine k_then ?_
    refine t_seq ?_
    refine t_seq ?_
    refine b0 ?_
    refine o1 rfl (det_fieldAddr fld107_1 rfl) rfl rfl trivial ?_
    refine o1 rfl (det_load1 t1_27 rfl rfl (.head _) rfl) rfl rfl trivial ?_
    refine o1 rfl (det_lenS sl27 rfl) rfl rfl trivial ?_
    refine o1 rfl (det_move rfl) rfl rfl trivial ?_
    refine be rfl ?_
    refine k_then ?_
    refine t_block ?_
    refine t_whileM (σ := Nat) (fun s => [(17, .int .i64 (s : Int))]) (fun _ => _) (fun s => 8 - s) (fun s => s ≤ 8 ∧ ∀ k, k < s → ¬ ((atP hs0 k).rest = true ∧ (k : Int) ≠ cl ∧ cl < 6)) 0 (env0 := [(1, _), (15, _), (16, _)]) ⟨by omega, fun k hk => absurd hk (Nat.not_lt_zero k)⟩ ⟨rfl, trivial⟩ ⟨rfl, rfl, rfl, trivial⟩ (.refl _) ?_
    rintro s ⟨hs8, hI⟩
    refine t_seq ?_
    refine b0 ?_
    refine o1 rfl (det_lss rfl rfl) rfl rfl trivial ?_
    refine be rfl ?_
    refine k_then ?_
    refine t_seq ?_
    refine t_condP decide_eq_true_iff rfl (fun hb => ?_) (fun hb => ?_)
    ·
      have hlt : s < hs0.length := by omega
      have hat := atP_get hlt
      refine t_skip ?_
      refine k_then ?_
      refine t_seq ?_
      refine t_block ?_
      refine t_seq ?_
      refine b0 ?_
      refine o1 rfl (det_move rfl) rfl rfl trivial ?_
      first | (refine o1 rfl (det_indexAddr sl27 rfl rfl ?_) rfl rfl trivial ?_; (· (first | decide | omega)))
      refine o1 rfl (det_loadKN tN57 rfl (ptv_len hs0[s]) (hP.cells (i := (s : Int)) (k := s) (Int.toNat_natCast s) hlt (ptv_len _))) rfl rfl trivial ?_
      refine om1 rfl (new_alloc z57) rfl rfl trivial (fun p6 => ?_)
      refine o1 rfl (det_assign rfl) rfl rfl trivial ?_
      refine stN nofun rfl tN57 rfl rfl rfl .head rfl trivial rfl rfl ?_
      refine be rfl ?_
      refine k_then ?_
      refine t_seq ?_
      refine b0 ?_
      refine o1 rfl (det_fieldAddr fld57_2 rfl) rfl rfl trivial ?_
      refine o1 rfl (det_load1 t1_4 rfl rfl (.head _) rfl) rfl rfl trivial ?_
      refine o2P Iff.rfl rfl (det_move rfl) rfl rfl trivial (fun hb => ?_) (fun hb => ?_)
      ·
        refine o1 rfl (det_move rfl) rfl rfl ⟨_, rfl, rfl⟩ ?_
        refine o1 rfl (det_move rfl) rfl rfl ⟨_, rfl, rfl⟩ ?_
        refine o1 rfl (det_neq rfl rfl) rfl rfl ⟨_, rfl, rfl⟩ ?_
        refine o1 rfl (det_pickT rfl rfl) rfl rfl trivial ?_
        refine o2P bne_iff_ne rfl (det_move rfl) rfl rfl trivial (fun hb => ?_) (fun hb => ?_)
        ·
          refine o1 rfl (det_move rfl) rfl rfl ⟨_, rfl, rfl⟩ ?_
          refine o1 rfl (det_lss rfl rfl) rfl rfl ⟨_, rfl, rfl⟩ ?_
          refine o1 rfl (det_pickT rfl rfl) rfl rfl trivial ?_
          refine be rfl ?_
          refine k_then ?_
          refine t_condP decide_eq_true_iff rfl (fun hb => ?_) (fun hb => ?_)
          ·
            refine t_seq ?_
            refine b0 ?_
            refine o1 rfl (det_assign rfl) rfl rfl trivial ?_
            refine be rfl ?_
            refine k_then ?_
            refine t_ret (k_blkR (k_thenR (k_thenR (k_blkR (k_thenR (?_))))))
            refine ret_tmp rfl rfl rfl (fun w1 hs => ?_)
            first | exact ⟨by unfold waitC; rw [hno, hh]; rfl, hs.keep⟩ | exact ⟨by unfold waitC; rw [hno, held_true hlt (by rw [hat]; grind) (by grind) (by grind)]; rfl, hs.keep⟩ | exact ⟨by unfold waitC; rw [hno]; rfl, hs.keep⟩
          ·
            refine t_skip ?_
            refine k_blk ?_
            refine k_then ?_
            refine b0 ?_
            first | (refine o1 rfl (det_addI rfl rfl ?_) rfl rfl trivial ?_; (· omega)) | refine o1 rfl (det_add rfl rfl) rfl rfl trivial ?_
            refine o1 rfl (det_move rfl) rfl rfl trivial ?_
            refine be rfl ?_
            refine k_then ?_
            refine loop_back (s + 1) ⟨by omega, fun k hk => by
                by_cases e : k = s
                · subst e; rw [atP_get hlt]; grind
                · exact hI k (by omega)⟩ (by omega) ⟨rfl, rfl, rfl, rfl, trivial⟩ (.cons _ (.refl _))
        ·
          refine on rfl rfl rfl ⟨_, rfl, .inl rfl⟩ ?_
          refine on rfl rfl rfl ⟨_, rfl, .inl rfl⟩ ?_
          refine o1 rfl (det_pickF rfl rfl) rfl rfl trivial ?_
          refine be rfl ?_
          refine k_then ?_
          refine t_condF rfl ?_
          refine t_skip ?_
          refine k_blk ?_
          refine k_then ?_
          refine b0 ?_
          first | (refine o1 rfl (det_addI rfl rfl ?_) rfl rfl trivial ?_; (· omega)) | refine o1 rfl (det_add rfl rfl) rfl rfl trivial ?_
          refine o1 rfl (det_move rfl) rfl rfl trivial ?_
          refine be rfl ?_
          refine k_then ?_
          refine loop_back (s + 1) ⟨by omega, fun k hk => by
              by_cases e : k = s
              · subst e; rw [atP_get hlt]; grind
              · exact hI k (by omega)⟩ (by omega) ⟨rfl, rfl, rfl, rfl, trivial⟩ (.cons _ (.refl _))
      ·
        refine on rfl rfl rfl ⟨_, rfl, .inl rfl⟩ ?_
        refine on rfl rfl rfl ⟨_, rfl, .inl rfl⟩ ?_
        refine on rfl rfl rfl ⟨_, rfl, .inl rfl⟩ ?_
        refine o1 rfl (det_pickF rfl rfl) rfl rfl trivial ?_
        refine o1 rfl (det_move rfl) rfl rfl trivial ?_
        refine on rfl rfl rfl ⟨_, rfl, .inl rfl⟩ ?_
        refine on rfl rfl rfl ⟨_, rfl, .inl rfl⟩ ?_
        refine o1 rfl (det_pickF rfl rfl) rfl rfl trivial ?_
        refine be rfl ?_
        refine k_then ?_
        refine t_condF rfl ?_
        refine t_skip ?_
        refine k_blk ?_
        refine k_then ?_
        refine b0 ?_
        first | (refine o1 rfl (det_addI rfl rfl ?_) rfl rfl trivial ?_; (· omega)) | refine o1 rfl (det_add rfl rfl) rfl rfl trivial ?_
        refine o1 rfl (det_move rfl) rfl rfl trivial ?_
        refine be rfl ?_
        refine k_then ?_
        refine loop_back (s + 1) ⟨by omega, fun k hk => by
            by_cases e : k = s
            · subst e; rw [atP_get hlt]; grind
            · exact hI k (by omega)⟩ (by omega) ⟨rfl, rfl, rfl, rfl, trivial⟩ (.cons _ (.refl _))
    ·
      have hh := held_false (c := cl) fun k hk => hI k (by omega)
      refine t_exit ?_
      refine k_thenE ?_
      refine k_thenE ?_
      refine k_blkE ?_
      refine k_then ?_
      refine t_seq ?_
      refine b0 ?_
      refine o1 rfl (det_assign rfl) rfl rfl trivial ?_
      refine be rfl ?_
      refine k_then ?_
      refine t_ret ?_
      refine ret_tmp rfl rfl rfl (fun w1 hs => ?_)
      first | exact ⟨by unfold waitC; rw [hno, hh]; rfl, hs.keep⟩ | exact ⟨by unfold waitC; rw [hno, held_true hlt (by rw [hat]; grind) (by grind) (by grind)]; rfl, hs.keep⟩ | exact ⟨by unfold waitC; rw [hno]; rfl, hs.keep⟩

end Go.Proofs.Cp
