/-
  The texts CpP3 to CpC16, one after the other.
-/
import Derived.Test.YtffocfffggfenaaCpQ7ToCpP2PportKnownhol
import Derived.Test.YtffocfffggfenaaGtPlainToPoPlain14PportKnownhol
import Derived.Test.YtffocfffggfenaaEng12ToEng24PportKnownhol
import Derived.Test.YtffocfffggfenaaEng25ToEng34PportKnownhol
import Derived.Test.YtffocfffggfenaaCpC6ToCpQ6PportKnownhol
/-
  Walks through layer 38.
-/
namespace Go.Proofs.Cp
open Go Go.Eng Go.Gt Go.Proofs.Gt Go.Sw Go.Qu Go.Ch Go.Po
set_option maxRecDepth 4000
theorem pcheck_ok {w : World} {F : Know} (hF : ∀ a v, F a = some v → w.cell? a = some v) {p : Ps} {B : Option Addr} {m d : Nat} {ms : List Qm} (hK : PsK F p B m d ms) : Pure Try.prog 37 [.agg (psv p B m d).toArray] w (.int .i64 (if checkB p then 0 else 480)) := by
  have hml0 := hK.len
  refine fn_pure (F := F) Try.func37 rfl Try.ntmps37 rfl hF ?_
  refine t_seq ?_
  refine b0 ?_
  refine om1 rfl (new_boxN rfl) rfl rfl trivial (fun p1 => ?_)
  refine o1 rfl (det_assign rfl) rfl rfl trivial ?_
  refine be rfl ?_
  refine k_then ?_
  refine t_seq ?_
  refine b0 ?_
  refine o1 rfl (det_loadN tN68 rfl rfl (.head _) rfl) rfl rfl trivial ?_
  refine o1 rfl (det_build rfl (fun w => bld125_0 _ _ _ _ _ _ _ _ _ _ _ _ _ _ _ _ _ _ _ _ _ w)) rfl rfl trivial ?_
  refine om1 rfl (new_boxN rfl) rfl rfl trivial (fun p11 => ?_)
  refine o1 rfl (det_assign rfl) rfl rfl trivial ?_
  refine be rfl ?_
  refine k_then ?_
  refine t_seq ?_
  refine t_seq ?_
  refine b0 ?_
  refine o1 rfl (det_fieldAddr fld68_0 rfl) rfl rfl trivial ?_
  refine o1 rfl (det_loadN tN26 rfl rfl (.tail _ (.head _)) rfl) rfl rfl trivial ?_
  refine o1 rfl (det_call hb17 rfl rfl (fun w1 hs => cline_ok hs.know hK.line)) rfl rfl trivial ?_
  refine o1 rfl (det_neq rfl rfl) rfl rfl trivial ?_
  refine o2P bne_iff_ne rfl (det_move rfl) rfl rfl trivial (fun hb => ?_) (fun hb => ?_)
  ·
    refine on rfl rfl rfl ⟨_, rfl, .inl rfl⟩ ?_
    refine on rfl rfl rfl ⟨_, rfl, .inl rfl⟩ ?_
    refine on rfl rfl rfl ⟨_, rfl, .inl rfl⟩ ?_
    refine o1 rfl (det_pickT rfl rfl) rfl rfl trivial ?_
    refine o1 rfl (det_move rfl) rfl rfl trivial ?_
    refine on rfl rfl rfl ⟨_, rfl, .inl rfl⟩ ?_
    refine on rfl rfl rfl ⟨_, rfl, .inl rfl⟩ ?_
    refine on rfl rfl rfl ⟨_, rfl, .inl rfl⟩ ?_
    refine o1 rfl (det_pickT rfl rfl) rfl rfl trivial ?_
    refine o1 rfl (det_move rfl) rfl rfl trivial ?_
    refine on rfl rfl rfl ⟨_, rfl, .inl rfl⟩ ?_
    refine on rfl rfl rfl ⟨_, rfl, .inl rfl⟩ ?_
    refine on rfl rfl rfl ⟨_, rfl, .inl rfl⟩ ?_
    refine on rfl rfl rfl ⟨_, rfl, .inl rfl⟩ ?_
    refine o1 rfl (det_pickT rfl rfl) rfl rfl trivial ?_
    refine o1 rfl (det_move rfl) rfl rfl trivial ?_
    refine on rfl rfl rfl ⟨_, rfl, .inl rfl⟩ ?_
    refine on rfl rfl rfl ⟨_, rfl, .inl rfl⟩ ?_
    refine on rfl rfl rfl ⟨_, rfl, .inl rfl⟩ ?_
    refine o1 rfl (det_pickT rfl rfl) rfl rfl trivial ?_
    refine be rfl ?_
    refine k_then ?_
    refine t_condT rfl ?_
    refine t_seq ?_
    refine b0 ?_
    refine o1 rfl (det_assign rfl) rfl rfl trivial ?_
    refine be rfl ?_
    refine k_then ?_
    refine t_ret (k_thenR (?_))
    refine ret_tmp rfl rfl rfl (fun w1 hs => ?_)
    first
    | exact ⟨by rw [hC]; rfl, hs.keep⟩
    | exact ⟨by rw [check_front (p := p) (by unfold frontB; grind)]; rfl, hs.keep⟩
    | exact ⟨by rw [check_at (p := p) (k := s) (by omega) (by rw [hat]; unfold okQ; grind)]; rfl, hs.keep⟩
  ·
    refine o1 rfl (det_fieldAddr fld68_1 rfl) rfl rfl ⟨_, rfl, rfl⟩ ?_
    refine o1 rfl (det_load1 t1_3 rfl rfl (.tail _ (.head _)) rfl) rfl rfl ⟨_, rfl, rfl⟩ ?_
    refine o1 rfl (det_lss rfl rfl) rfl rfl ⟨_, rfl, rfl⟩ ?_
    refine o1 rfl (det_pickF rfl rfl) rfl rfl trivial ?_
    refine o2P decide_eq_true_iff rfl (det_move rfl) rfl rfl trivial (fun hb => ?_) (fun hb => ?_)
    ·
      refine on rfl rfl rfl ⟨_, rfl, .inl rfl⟩ ?_
      refine on rfl rfl rfl ⟨_, rfl, .inl rfl⟩ ?_
      refine on rfl rfl rfl ⟨_, rfl, .inl rfl⟩ ?_
      refine o1 rfl (det_pickT rfl rfl) rfl rfl trivial ?_
      refine o1 rfl (det_move rfl) rfl rfl trivial ?_
      refine on rfl rfl rfl ⟨_, rfl, .inl rfl⟩ ?_
      refine on rfl rfl rfl ⟨_, rfl, .inl rfl⟩ ?_
      refine on rfl rfl rfl ⟨_, rfl, .inl rfl⟩ ?_
      refine on rfl rfl rfl ⟨_, rfl, .inl rfl⟩ ?_
      refine o1 rfl (det_pickT rfl rfl) rfl rfl trivial ?_
      refine o1 rfl (det_move rfl) rfl rfl trivial ?_
      refine on rfl rfl rfl ⟨_, rfl, .inl rfl⟩ ?_
      refine on rfl rfl rfl ⟨_, rfl, .inl rfl⟩ ?_
      refine on rfl rfl rfl ⟨_, rfl, .inl rfl⟩ ?_
      refine o1 rfl (det_pickT rfl rfl) rfl rfl trivial ?_
      refine be rfl ?_
      refine k_then ?_
      refine t_condT rfl ?_
      refine t_seq ?_
      refine b0 ?_
      refine o1 rfl (det_assign rfl) rfl rfl trivial ?_
      refine be rfl ?_
      refine k_then ?_
      refine t_ret (k_thenR (?_))
      refine ret_tmp rfl rfl rfl (fun w1 hs => ?_)
      first
      | exact ⟨by rw [hC]; rfl, hs.keep⟩
      | exact ⟨by rw [check_front (p := p) (by unfold frontB; grind)]; rfl, hs.keep⟩
      | exact ⟨by rw [check_at (p := p) (k := s) (by omega) (by rw [hat]; unfold okQ; grind)]; rfl, hs.keep⟩
    ·
      refine o1 rfl (det_fieldAddr fld68_1 rfl) rfl rfl ⟨_, rfl, rfl⟩ ?_
      refine o1 rfl (det_load1 t1_3 rfl rfl (.tail _ (.head _)) rfl) rfl rfl ⟨_, rfl, rfl⟩ ?_
      refine o1 rfl (det_gtr rfl rfl) rfl rfl ⟨_, rfl, rfl⟩ ?_
      refine o1 rfl (det_pickF rfl rfl) rfl rfl trivial ?_
      refine o2P decide_eq_true_iff rfl (det_move rfl) rfl rfl trivial (fun hb => ?_) (fun hb => ?_)
      ·
        refine on rfl rfl rfl ⟨_, rfl, .inl rfl⟩ ?_
        refine on rfl rfl rfl ⟨_, rfl, .inl rfl⟩ ?_
        refine on rfl rfl rfl ⟨_, rfl, .inl rfl⟩ ?_
        refine on rfl rfl rfl ⟨_, rfl, .inl rfl⟩ ?_
        refine o1 rfl (det_pickT rfl rfl) rfl rfl trivial ?_
        refine o1 rfl (det_move rfl) rfl rfl trivial ?_
        refine on rfl rfl rfl ⟨_, rfl, .inl rfl⟩ ?_
        refine on rfl rfl rfl ⟨_, rfl, .inl rfl⟩ ?_
        refine on rfl rfl rfl ⟨_, rfl, .inl rfl⟩ ?_
        refine o1 rfl (det_pickT rfl rfl) rfl rfl trivial ?_
        refine be rfl ?_
        refine k_then ?_
        refine t_condT rfl ?_
        refine t_seq ?_
        refine b0 ?_
        refine o1 rfl (det_assign rfl) rfl rfl trivial ?_
        refine be rfl ?_
        refine k_then ?_
        refine t_ret (k_thenR (?_))
        refine ret_tmp rfl rfl rfl (fun w1 hs => ?_)
        first
        | exact ⟨by rw [hC]; rfl, hs.keep⟩
        | exact ⟨by rw [check_front (p := p) (by unfold frontB; grind)]; rfl, hs.keep⟩
        | exact ⟨by rw [check_at (p := p) (k := s) (by omega) (by rw [hat]; unfold okQ; grind)]; rfl, hs.keep⟩
      ·
        refine o1 rfl (det_fieldAddr fld68_2 rfl) rfl rfl ⟨_, rfl, rfl⟩ ?_
        refine o1 rfl (det_load1 t1_66 rfl rfl (.tail _ (.head _)) rfl) rfl rfl ⟨_, rfl, rfl⟩ ?_
        refine o1 rfl (det_lenS sl66 rfl) rfl rfl ⟨_, rfl, rfl⟩ ?_
        refine o1 rfl (det_neq rfl rfl) rfl rfl ⟨_, rfl, rfl⟩ ?_
        refine o1 rfl (det_pickF rfl rfl) rfl rfl trivial ?_
        refine o2P bne_iff_ne rfl (det_move rfl) rfl rfl trivial (fun hb => ?_) (fun hb => ?_)
        ·
          refine on rfl rfl rfl ⟨_, rfl, .inl rfl⟩ ?_
          refine on rfl rfl rfl ⟨_, rfl, .inl rfl⟩ ?_
          refine on rfl rfl rfl ⟨_, rfl, .inl rfl⟩ ?_
          refine o1 rfl (det_pickT rfl rfl) rfl rfl trivial ?_
          refine be rfl ?_
          refine k_then ?_
          refine t_condT rfl ?_
          refine t_seq ?_
          refine b0 ?_
          refine o1 rfl (det_assign rfl) rfl rfl trivial ?_
          refine be rfl ?_
          refine k_then ?_
          refine t_ret (k_thenR (?_))
          refine ret_tmp rfl rfl rfl (fun w1 hs => ?_)
          first
          | exact ⟨by rw [hC]; rfl, hs.keep⟩
          | exact ⟨by rw [check_front (p := p) (by unfold frontB; grind)]; rfl, hs.keep⟩
          | exact ⟨by rw [check_at (p := p) (k := s) (by omega) (by rw [hat]; unfold okQ; grind)]; rfl, hs.keep⟩
        ·
          refine o1 rfl (det_move rfl) rfl rfl ⟨_, rfl, rfl⟩ ?_
          have hL : okL p.l = true := by grind
          have hper := (okL_parts hL).2.1
          have hnow : 0 ≤ p.now ∧ p.now ≤ 549755813888 := by omega
          refine o1 rfl (det_call hb71 rfl rfl (fun w1 hs => vs_ok (F := fun a => w1.cell? a) (fun _ _ h => h) (p := p) (B := B) (m := m) (d := d) (G := none) (k := 0) (gk := 0) (satCs hs (cs := pev p B m d none 0 0) (T := 125) (by first | exact .head _ | exact .tail _ (.head _) | exact .tail _ (.tail _ (.head _)) | exact .tail _ (.tail _ (.tail _ (.head _))) | exact .tail _ (.tail _ (.tail _ (.tail _ (.head _)))) | exact .tail _ (.tail _ (.tail _ (.tail _ (.tail _ (.head _))))) | exact .tail _ (.tail _ (.tail _ (.tail _ (.tail _ (.tail _ (.head _)))))) | exact .tail _ (.tail _ (.tail _ (.tail _ (.tail _ (.tail _ (.tail _ (.head _))))))) | exact .tail _ (.tail _ (.tail _ (.tail _ (.tail _ (.tail _ (.tail _ (.tail _ (.head _)))))))) | exact .tail _ (.tail _ (.tail _ (.tail _ (.tail _ (.tail _ (.tail _ (.tail _ (.tail _ (.head _)))))))))) rfl) hper hnow)) rfl rfl ⟨_, rfl, rfl⟩ ?_
          refine o1 rfl (det_not rfl) rfl rfl ⟨_, rfl, rfl⟩ ?_
          refine o1 rfl (det_pickF rfl rfl) rfl rfl trivial ?_
          refine be rfl ?_
          refine k_then ?_
          refine t_condP not_iff_false rfl (fun hb => ?_) (fun hb => ?_)
          ·
            have hfr : frontB p = false := by unfold frontB; grind
            have hC := check_front hfr
            refine t_seq ?_
            refine b0 ?_
            refine o1 rfl (det_assign rfl) rfl rfl trivial ?_
            refine be rfl ?_
            refine k_then ?_
            refine t_ret (k_thenR (?_))
            refine ret_tmp rfl rfl rfl (fun w1 hs => ?_)
            first
            | exact ⟨by rw [hC]; rfl, hs.keep⟩
            | exact ⟨by rw [check_front (p := p) (by unfold frontB; grind)]; rfl, hs.keep⟩
            | exact ⟨by rw [check_at (p := p) (k := s) (by omega) (by rw [hat]; unfold okQ; grind)]; rfl, hs.keep⟩
          ·
            have hfr : frontB p = true := by unfold frontB; grind
            obtain ⟨hL, hnow, hq8, hso⟩ := front_parts hfr
            refine t_skip ?_
            refine k_then ?_
            refine t_seq ?_
            refine b0 ?_
            refine o1 rfl (det_assign rfl) rfl rfl trivial ?_
            refine be rfl ?_
            refine k_then ?_
            refine t_seq ?_
            refine t_seq ?_
            refine b0 ?_
            refine o1 rfl (det_fieldAddr fld68_3 rfl) rfl rfl trivial ?_
            refine o1 rfl (det_load1 t1_4 rfl rfl (.tail _ (.head _)) rfl) rfl rfl trivial ?_
            refine o2P Iff.rfl rfl (det_move rfl) rfl rfl trivial (fun hb => ?_) (fun hb => ?_)
            ·
              refine o1 rfl (det_fieldAddr fld68_4 rfl) rfl rfl ⟨_, rfl, rfl⟩ ?_
              refine o1 rfl (det_loadN tN57 rfl rfl (.tail _ (.head _)) rfl) rfl rfl ⟨_, rfl, rfl⟩ ?_
              refine o1 rfl (det_call hb72 rfl rfl (fun w1 hs => pre1_ok (x := p.snd) hs.know)) rfl rfl ⟨_, rfl, rfl⟩ ?_
              refine o1 rfl (det_pickT rfl rfl) rfl rfl trivial ?_
              refine be rfl ?_
              refine k_then ?_
              refine t_condP Iff.rfl rfl (fun hb => ?_) (fun hb => ?_)
              ·
                have hlow : lowS p = true := by unfold lowS; grind
                refine b0 ?_
                refine o1 rfl (det_assign rfl) rfl rfl trivial ?_
                refine be rfl ?_
                refine k_then ?_
                refine t_seq ?_
                refine t_seq ?_
                refine b0 ?_
                refine o1 rfl (det_fieldAddr fld68_2 rfl) rfl rfl trivial ?_
                refine o1 rfl (det_load1 t1_66 rfl rfl (.tail _ (.head _)) rfl) rfl rfl trivial ?_
                refine o1 rfl (det_lenS sl66 rfl) rfl rfl trivial ?_
                refine o1 rfl (det_move rfl) rfl rfl trivial ?_
                refine be rfl ?_
                refine k_then ?_
                refine t_block ?_
                refine t_whileM (σ := Nat) (fun s => [(4, .int .i64 (restsK p s : Int)), (47, .int .i64 (s : Int))]) (fun _ => _) (fun s => 8 - s) (fun s => s ≤ 8 ∧ ∀ k, k < s → okQ k (atQ p.qs k) = true) 0 (env0 := [(45, _), (46, _)]) ⟨by omega, fun k hk => absurd hk (Nat.not_lt_zero k)⟩ ⟨(mi rfl (by first | (simp [restsK, hlow]; done) | (have hlow : lowS p = false := by unfold lowS; grind); simp [restsK, hlow])), rfl, trivial⟩ ⟨rfl, rfl, trivial⟩ (.refl _) ?_
                rintro s ⟨hsn, hI⟩
                have hml := hK.len
                refine t_seq ?_
                refine b0 ?_
                refine o1 rfl (det_lss rfl rfl) rfl rfl trivial ?_
                refine be rfl ?_
                refine k_then ?_
                refine t_seq ?_
                refine t_condP decide_eq_true_iff rfl (fun hb => ?_) (fun hb => ?_)
                ·
                  have hlt : s < ms.length := by omega
                  obtain ⟨B, rfl⟩ := hK.qk.rows.some hlt
                  have hQ := hK.qk.each ms[s] (List.getElem_mem hlt)
                  have hat := hK.at_ hlt
                  have hrs := restsK_succ (p := p) (k := s) (by omega)
                  rw [hat] at hrs
                  have hrl : restsK p s ≤ s + 1 := by unfold restsK; have := List.length_filter_le headR (p.qs.take s); rw [List.length_take] at this; split <;> omega
                  refine t_skip ?_
                  refine k_then ?_
                  refine t_seq ?_
                  refine t_block ?_
                  refine t_seq ?_
                  refine b0 ?_
                  refine o1 rfl (det_move rfl) rfl rfl trivial ?_
                  first | (refine o1 rfl (det_indexAddr sl66 rfl rfl ?_) rfl rfl trivial ?_; (· (first | decide | omega)))
                  refine o1 rfl (det_loadKN tN73 rfl (qmv_len ms[s]) (hK.qk.rows.cells (i := (s : Int)) (k := s) (Int.toNat_natCast s) hlt (qmv_len _))) rfl rfl trivial ?_
                  refine om1 rfl (new_alloc z3) rfl rfl trivial (fun p5 => ?_)
                  refine om1 rfl (new_alloc z73) rfl rfl trivial (fun p6 => ?_)
                  refine st1 nofun rfl t1_3 rfl rfl rfl (.tail .head) rfl trivial rfl ?_
                  refine stN nofun rfl tN73 rfl rfl rfl .head rfl trivial rfl rfl ?_
                  refine be rfl ?_
                  refine k_then ?_
                  refine t_seq ?_
                  refine t_seq ?_
                  refine b0 ?_
                  refine o1 rfl (det_loadN tN73 rfl rfl (.head _) rfl) rfl rfl trivial ?_
                  refine o1 rfl (det_call hb73 rfl rfl (fun w1 hs => qcheck_ok hs.know hQ.1 hQ.2.2.2)) rfl rfl trivial ?_
                  refine o1 rfl (det_neq rfl rfl) rfl rfl trivial ?_
                  refine o2P bne_iff_ne rfl (det_move rfl) rfl rfl trivial (fun hb => ?_) (fun hb => ?_)
                  ·
                    refine on rfl rfl rfl ⟨_, rfl, .inl rfl⟩ ?_
                    refine on rfl rfl rfl ⟨_, rfl, .inl rfl⟩ ?_
                    refine on rfl rfl rfl ⟨_, rfl, .inl rfl⟩ ?_
                    refine on rfl rfl rfl ⟨_, rfl, .inl rfl⟩ ?_
                    refine o1 rfl (det_pickT rfl rfl) rfl rfl trivial ?_
                    refine be rfl ?_
                    refine k_then ?_
                    refine t_condT rfl ?_
                    refine t_seq ?_
                    refine b0 ?_
                    refine o1 rfl (det_assign rfl) rfl rfl trivial ?_
                    refine be rfl ?_
                    refine k_then ?_
                    refine t_ret (k_thenR (k_blkR (k_thenR (k_thenR (k_blkR (k_thenR (?_)))))))
                    refine ret_tmp rfl rfl rfl (fun w1 hs => ?_)
                    first
                    | exact ⟨by rw [hC]; rfl, hs.keep⟩
                    | exact ⟨by rw [check_front (p := p) (by unfold frontB; grind)]; rfl, hs.keep⟩
                    | exact ⟨by rw [check_at (p := p) (k := s) (by omega) (by rw [hat]; unfold okQ; grind)]; rfl, hs.keep⟩
                  ·
                    refine o1 rfl (det_fieldAddr fld73_1 rfl) rfl rfl ⟨_, rfl, rfl⟩ ?_
                    refine o1 rfl (det_load1 t1_27 rfl rfl (.head _) rfl) rfl rfl ⟨_, rfl, rfl⟩ ?_
                    refine o1 rfl (det_makeFunc rfl rfl) rfl rfl ⟨_, rfl, rfl⟩ ?_
                    refine o1 rfl (det_call hb74 rfl rfl (fun w1 hs => has_ok (F := fun a => w1.cell? a) (fun _ _ h => h) (hQ.1.mono hs.know) hQ.2.2.2 (cl := (s : Int)) (satC hs (cs := [.int .i64 (s : Int)]) (T := 3) (by first | exact .head _ | exact .tail _ (.head _) | exact .tail _ (.tail _ (.head _)) | exact .tail _ (.tail _ (.tail _ (.head _))) | exact .tail _ (.tail _ (.tail _ (.tail _ (.head _)))) | exact .tail _ (.tail _ (.tail _ (.tail _ (.tail _ (.head _))))) | exact .tail _ (.tail _ (.tail _ (.tail _ (.tail _ (.tail _ (.head _)))))) | exact .tail _ (.tail _ (.tail _ (.tail _ (.tail _ (.tail _ (.tail _ (.head _))))))) | exact .tail _ (.tail _ (.tail _ (.tail _ (.tail _ (.tail _ (.tail _ (.tail _ (.head _)))))))) | exact .tail _ (.tail _ (.tail _ (.tail _ (.tail _ (.tail _ (.tail _ (.tail _ (.tail _ (.head _)))))))))) 0 rfl))) rfl rfl ⟨_, rfl, rfl⟩ ?_
                    refine o1 rfl (det_pickF rfl rfl) rfl rfl trivial ?_
                    refine be rfl ?_
                    refine k_then ?_
                    refine t_condP Iff.rfl rfl (fun hb => ?_) (fun hb => ?_)
                    ·
                      have hC := check_at (p := p) (k := s) (by omega) (by rw [hat]; unfold okQ; grind)
                      refine t_seq ?_
                      refine b0 ?_
                      refine o1 rfl (det_assign rfl) rfl rfl trivial ?_
                      refine be rfl ?_
                      refine k_then ?_
                      refine t_ret (k_thenR (k_blkR (k_thenR (k_thenR (k_blkR (k_thenR (?_)))))))
                      refine ret_tmp rfl rfl rfl (fun w1 hs => ?_)
                      first
                      | exact ⟨by rw [hC]; rfl, hs.keep⟩
                      | exact ⟨by rw [check_front (p := p) (by unfold frontB; grind)]; rfl, hs.keep⟩
                      | exact ⟨by rw [check_at (p := p) (k := s) (by omega) (by rw [hat]; unfold okQ; grind)]; rfl, hs.keep⟩
                    ·
                      have hok : okQ s (atQ p.qs s) = true := by rw [hat]; unfold okQ; grind
                      refine t_skip ?_
                      refine k_then ?_
                      refine t_seq ?_
                      refine b0 ?_
                      refine o1 rfl (det_loadN tN73 rfl rfl (.head _) rfl) rfl rfl trivial ?_
                      refine o1 rfl (det_call hb76 rfl rfl (fun w1 hs => head_ok hs.know hQ.1 hQ.2.2.2)) rfl rfl trivial ?_
                      refine o1 rfl (det_move rfl) rfl rfl trivial ?_
                      refine o1 rfl (det_extract rfl rfl) rfl rfl trivial ?_
                      refine o1 rfl (det_extract rfl rfl) rfl rfl trivial ?_
                      refine om1 rfl (new_alloc z57) rfl rfl trivial (fun p7 => ?_)
                      refine stN nofun rfl tN57 rfl rfl rfl .head rfl trivial rfl rfl ?_
                      refine o1 rfl (det_assign rfl) rfl rfl trivial ?_
                      refine be rfl ?_
                      refine k_then ?_
                      refine t_seq ?_
                      refine b0 ?_
                      refine o1 rfl (det_move rfl) rfl rfl trivial ?_
                      refine o2P Iff.rfl rfl (det_move rfl) rfl rfl trivial (fun hb => ?_) (fun hb => ?_)
                      ·
                        refine o1 rfl (det_fieldAddr fld57_2 rfl) rfl rfl ⟨_, rfl, rfl⟩ ?_
                        refine o1 rfl (det_load1 t1_4 rfl rfl (.head _) rfl) rfl rfl ⟨_, rfl, rfl⟩ ?_
                        refine o1 rfl (det_pickT rfl rfl) rfl rfl trivial ?_
                        refine be rfl ?_
                        refine k_then ?_
                        refine t_condP Iff.rfl rfl (fun hb => ?_) (fun hb => ?_)
                        ·
                          have hhr : headR (ms[s].cap, ms[s].ps) = true := by unfold headR; grind
                          rw [if_pos hhr] at hrs
                          refine b0 ?_
                          refine o1 rfl (det_move rfl) rfl rfl trivial ?_
                          first | (refine o1 rfl (det_addI rfl rfl ?_) rfl rfl trivial ?_; (· omega)) | refine o1 rfl (det_add rfl rfl) rfl rfl trivial ?_
                          refine o1 rfl (det_assign rfl) rfl rfl trivial ?_
                          refine be rfl ?_
                          refine k_blk ?_
                          refine k_then ?_
                          refine b0 ?_
                          first | (refine o1 rfl (det_addI rfl rfl ?_) rfl rfl trivial ?_; (· omega)) | refine o1 rfl (det_add rfl rfl) rfl rfl trivial ?_
                          refine o1 rfl (det_move rfl) rfl rfl trivial ?_
                          refine be rfl ?_
                          refine k_then ?_
                          refine loop_back (s + 1) ⟨by omega, fun k hk => by
                              by_cases e : k = s
                              · rw [e]; exact hok
                              · exact hI k (by omega)⟩ (by omega) ⟨(mi rfl (by first | omega | (have hhr : headR (ms[s].cap, ms[s].ps) = false := by unfold headR; grind); rw [hrs]; simp [hhr])), rfl, rfl, rfl, trivial⟩ (.cons _ (.cons _ (.cons _ (.refl _))))
                        ·
                          have hhr : headR (ms[s].cap, ms[s].ps) = false := by unfold headR; grind
                          rw [if_neg (by rw [hhr]; simp)] at hrs
                          refine t_skip ?_
                          refine k_blk ?_
                          refine k_then ?_
                          refine b0 ?_
                          first | (refine o1 rfl (det_addI rfl rfl ?_) rfl rfl trivial ?_; (· omega)) | refine o1 rfl (det_add rfl rfl) rfl rfl trivial ?_
                          refine o1 rfl (det_move rfl) rfl rfl trivial ?_
                          refine be rfl ?_
                          refine k_then ?_
                          refine loop_back (s + 1) ⟨by omega, fun k hk => by
                              by_cases e : k = s
                              · rw [e]; exact hok
                              · exact hI k (by omega)⟩ (by omega) ⟨(mi rfl (by first | omega | (have hhr : headR (ms[s].cap, ms[s].ps) = false := by unfold headR; grind); rw [hrs]; simp [hhr])), rfl, rfl, rfl, trivial⟩ (.cons _ (.cons _ (.cons _ (.refl _))))
                      ·
                        refine on rfl rfl rfl ⟨_, rfl, .inl rfl⟩ ?_
                        refine on rfl rfl rfl ⟨_, rfl, .inl rfl⟩ ?_
                        refine o1 rfl (det_pickF rfl rfl) rfl rfl trivial ?_
                        refine be rfl ?_
                        refine k_then ?_
                        refine t_condF rfl ?_
                        refine t_skip ?_
                        refine k_blk ?_
                        refine k_then ?_
                        refine b0 ?_
                        first | (refine o1 rfl (det_addI rfl rfl ?_) rfl rfl trivial ?_; (· omega)) | refine o1 rfl (det_add rfl rfl) rfl rfl trivial ?_
                        refine o1 rfl (det_move rfl) rfl rfl trivial ?_
                        refine be rfl ?_
                        refine k_then ?_
                        refine loop_back (s + 1) ⟨by omega, fun k hk => by
                            by_cases e : k = s
                            · rw [e]; exact hok
                            · exact hI k (by omega)⟩ (by omega) ⟨(mi rfl (by first | omega | (have hhr : headR (ms[s].cap, ms[s].ps) = false := by unfold headR; grind); rw [hrs]; simp [hhr])), rfl, rfl, rfl, trivial⟩ (.cons _ (.cons _ (.cons _ (.refl _))))
                ·
                  have hs8 : s = 8 := by omega
                  refine t_exit ?_
                  refine k_thenE ?_
                  refine k_thenE ?_
                  refine k_blkE ?_
                  refine k_then ?_
                  refine t_seq ?_
                  refine t_seq ?_
                  refine b0 ?_
                  refine o1 rfl (det_move rfl) rfl rfl trivial ?_
                  refine o1 rfl (det_gtr rfl rfl) rfl rfl trivial ?_
                  refine be rfl ?_
                  refine k_then ?_
                  refine t_condP decide_eq_true_iff rfl (fun hb => ?_) (fun hb => ?_)
                  ·
                    have hC := check_rest (p := p) (by have h := hb; rw [hs8] at h; omega)
                    refine t_seq ?_
                    refine b0 ?_
                    refine o1 rfl (det_assign rfl) rfl rfl trivial ?_
                    refine be rfl ?_
                    refine k_then ?_
                    refine t_ret (k_thenR (?_))
                    refine ret_tmp rfl rfl rfl (fun w1 hs => ?_)
                    first
                    | exact ⟨by rw [hC]; rfl, hs.keep⟩
                    | exact ⟨by rw [check_front (p := p) (by unfold frontB; grind)]; rfl, hs.keep⟩
                    | exact ⟨by rw [check_at (p := p) (k := s) (by omega) (by rw [hat]; unfold okQ; grind)]; rfl, hs.keep⟩
                  ·
                    have hC := check_true hfr (fun k hk => hI k (by omega)) (by have h := hb; rw [hs8] at h; omega)
                    refine t_skip ?_
                    refine k_then ?_
                    refine t_seq ?_
                    refine b0 ?_
                    refine o1 rfl (det_assign rfl) rfl rfl trivial ?_
                    refine be rfl ?_
                    refine k_then ?_
                    refine t_ret ?_
                    refine ret_tmp rfl rfl rfl (fun w1 hs => ?_)
                    first
                    | exact ⟨by rw [hC]; rfl, hs.keep⟩
                    | exact ⟨by rw [check_front (p := p) (by unfold frontB; grind)]; rfl, hs.keep⟩
                    | exact ⟨by rw [check_at (p := p) (k := s) (by omega) (by rw [hat]; unfold okQ; grind)]; rfl, hs.keep⟩
              ·
                have hlow : lowS p = false := by unfold lowS; grind
                refine t_skip ?_
                refine k_then ?_
                refine t_seq ?_
                refine t_seq ?_
                refine b0 ?_
                refine o1 rfl (det_fieldAddr fld68_2 rfl) rfl rfl trivial ?_
                refine o1 rfl (det_load1 t1_66 rfl rfl (.tail _ (.head _)) rfl) rfl rfl trivial ?_
                refine o1 rfl (det_lenS sl66 rfl) rfl rfl trivial ?_
                refine o1 rfl (det_move rfl) rfl rfl trivial ?_
                refine be rfl ?_
                refine k_then ?_
                refine t_block ?_
                refine t_whileM (σ := Nat) (fun s => [(4, .int .i64 (restsK p s : Int)), (47, .int .i64 (s : Int))]) (fun _ => _) (fun s => 8 - s) (fun s => s ≤ 8 ∧ ∀ k, k < s → okQ k (atQ p.qs k) = true) 0 (env0 := [(45, _), (46, _)]) ⟨by omega, fun k hk => absurd hk (Nat.not_lt_zero k)⟩ ⟨(mi rfl (by first | (simp [restsK, hlow]; done) | (have hlow : lowS p = false := by unfold lowS; grind); simp [restsK, hlow])), rfl, trivial⟩ ⟨rfl, rfl, trivial⟩ (.refl _) ?_
                rintro s ⟨hsn, hI⟩
                have hml := hK.len
                refine t_seq ?_
                refine b0 ?_
                refine o1 rfl (det_lss rfl rfl) rfl rfl trivial ?_
                refine be rfl ?_
                refine k_then ?_
                refine t_seq ?_
                refine t_condP decide_eq_true_iff rfl (fun hb => ?_) (fun hb => ?_)
                ·
                  have hlt : s < ms.length := by omega
                  obtain ⟨B, rfl⟩ := hK.qk.rows.some hlt
                  have hQ := hK.qk.each ms[s] (List.getElem_mem hlt)
                  have hat := hK.at_ hlt
                  have hrs := restsK_succ (p := p) (k := s) (by omega)
                  rw [hat] at hrs
                  have hrl : restsK p s ≤ s + 1 := by unfold restsK; have := List.length_filter_le headR (p.qs.take s); rw [List.length_take] at this; split <;> omega
                  refine t_skip ?_
                  refine k_then ?_
                  refine t_seq ?_
                  refine t_block ?_
                  refine t_seq ?_
                  refine b0 ?_
                  refine o1 rfl (det_move rfl) rfl rfl trivial ?_
                  first | (refine o1 rfl (det_indexAddr sl66 rfl rfl ?_) rfl rfl trivial ?_; (· (first | decide | omega)))
                  refine o1 rfl (det_loadKN tN73 rfl (qmv_len ms[s]) (hK.qk.rows.cells (i := (s : Int)) (k := s) (Int.toNat_natCast s) hlt (qmv_len _))) rfl rfl trivial ?_
                  refine om1 rfl (new_alloc z3) rfl rfl trivial (fun p5 => ?_)
                  refine om1 rfl (new_alloc z73) rfl rfl trivial (fun p6 => ?_)
                  refine st1 nofun rfl t1_3 rfl rfl rfl (.tail .head) rfl trivial rfl ?_
                  refine stN nofun rfl tN73 rfl rfl rfl .head rfl trivial rfl rfl ?_
                  refine be rfl ?_
                  refine k_then ?_
                  refine t_seq ?_
                  refine t_seq ?_
                  refine b0 ?_
                  refine o1 rfl (det_loadN tN73 rfl rfl (.head _) rfl) rfl rfl trivial ?_
                  refine o1 rfl (det_call hb73 rfl rfl (fun w1 hs => qcheck_ok hs.know hQ.1 hQ.2.2.2)) rfl rfl trivial ?_
                  refine o1 rfl (det_neq rfl rfl) rfl rfl trivial ?_
                  refine o2P bne_iff_ne rfl (det_move rfl) rfl rfl trivial (fun hb => ?_) (fun hb => ?_)
                  ·
                    refine on rfl rfl rfl ⟨_, rfl, .inl rfl⟩ ?_
                    refine on rfl rfl rfl ⟨_, rfl, .inl rfl⟩ ?_
                    refine on rfl rfl rfl ⟨_, rfl, .inl rfl⟩ ?_
                    refine on rfl rfl rfl ⟨_, rfl, .inl rfl⟩ ?_
                    refine o1 rfl (det_pickT rfl rfl) rfl rfl trivial ?_
                    refine be rfl ?_
                    refine k_then ?_
                    refine t_condT rfl ?_
                    refine t_seq ?_
                    refine b0 ?_
                    refine o1 rfl (det_assign rfl) rfl rfl trivial ?_
                    refine be rfl ?_
                    refine k_then ?_
                    refine t_ret (k_thenR (k_blkR (k_thenR (k_thenR (k_blkR (k_thenR (?_)))))))
                    refine ret_tmp rfl rfl rfl (fun w1 hs => ?_)
                    first
                    | exact ⟨by rw [hC]; rfl, hs.keep⟩
                    | exact ⟨by rw [check_front (p := p) (by unfold frontB; grind)]; rfl, hs.keep⟩
                    | exact ⟨by rw [check_at (p := p) (k := s) (by omega) (by rw [hat]; unfold okQ; grind)]; rfl, hs.keep⟩
                  ·
                    refine o1 rfl (det_fieldAddr fld73_1 rfl) rfl rfl ⟨_, rfl, rfl⟩ ?_
                    refine o1 rfl (det_load1 t1_27 rfl rfl (.head _) rfl) rfl rfl ⟨_, rfl, rfl⟩ ?_
                    refine o1 rfl (det_makeFunc rfl rfl) rfl rfl ⟨_, rfl, rfl⟩ ?_
                    refine o1 rfl (det_call hb74 rfl rfl (fun w1 hs => has_ok (F := fun a => w1.cell? a) (fun _ _ h => h) (hQ.1.mono hs.know) hQ.2.2.2 (cl := (s : Int)) (satC hs (cs := [.int .i64 (s : Int)]) (T := 3) (by first | exact .head _ | exact .tail _ (.head _) | exact .tail _ (.tail _ (.head _)) | exact .tail _ (.tail _ (.tail _ (.head _))) | exact .tail _ (.tail _ (.tail _ (.tail _ (.head _)))) | exact .tail _ (.tail _ (.tail _ (.tail _ (.tail _ (.head _))))) | exact .tail _ (.tail _ (.tail _ (.tail _ (.tail _ (.tail _ (.head _)))))) | exact .tail _ (.tail _ (.tail _ (.tail _ (.tail _ (.tail _ (.tail _ (.head _))))))) | exact .tail _ (.tail _ (.tail _ (.tail _ (.tail _ (.tail _ (.tail _ (.tail _ (.head _)))))))) | exact .tail _ (.tail _ (.tail _ (.tail _ (.tail _ (.tail _ (.tail _ (.tail _ (.tail _ (.head _)))))))))) 0 rfl))) rfl rfl ⟨_, rfl, rfl⟩ ?_
                    refine o1 rfl (det_pickF rfl rfl) rfl rfl trivial ?_
                    refine be rfl ?_
                    refine k_then ?_
                    refine t_condP Iff.rfl rfl (fun hb => ?_) (fun hb => ?_)
                    ·
                      have hC := check_at (p := p) (k := s) (by omega) (by rw [hat]; unfold okQ; grind)
                      refine t_seq ?_
                      refine b0 ?_
                      refine o1 rfl (det_assign rfl) rfl rfl trivial ?_
                      refine be rfl ?_
                      refine k_then ?_
                      refine t_ret (k_thenR (k_blkR (k_thenR (k_thenR (k_blkR (k_thenR (?_)))))))
                      refine ret_tmp rfl rfl rfl (fun w1 hs => ?_)
                      first
                      | exact ⟨by rw [hC]; rfl, hs.keep⟩
                      | exact ⟨by rw [check_front (p := p) (by unfold frontB; grind)]; rfl, hs.keep⟩
                      | exact ⟨by rw [check_at (p := p) (k := s) (by omega) (by rw [hat]; unfold okQ; grind)]; rfl, hs.keep⟩
                    ·
                      have hok : okQ s (atQ p.qs s) = true := by rw [hat]; unfold okQ; grind
                      refine t_skip ?_
                      refine k_then ?_
                      refine t_seq ?_
                      refine b0 ?_
                      refine o1 rfl (det_loadN tN73 rfl rfl (.head _) rfl) rfl rfl trivial ?_
                      refine o1 rfl (det_call hb76 rfl rfl (fun w1 hs => head_ok hs.know hQ.1 hQ.2.2.2)) rfl rfl trivial ?_
                      refine o1 rfl (det_move rfl) rfl rfl trivial ?_
                      refine o1 rfl (det_extract rfl rfl) rfl rfl trivial ?_
                      refine o1 rfl (det_extract rfl rfl) rfl rfl trivial ?_
                      refine om1 rfl (new_alloc z57) rfl rfl trivial (fun p7 => ?_)
                      refine stN nofun rfl tN57 rfl rfl rfl .head rfl trivial rfl rfl ?_
                      refine o1 rfl (det_assign rfl) rfl rfl trivial ?_
                      refine be rfl ?_
                      refine k_then ?_
                      refine t_seq ?_
                      refine b0 ?_
                      refine o1 rfl (det_move rfl) rfl rfl trivial ?_
                      refine o2P Iff.rfl rfl (det_move rfl) rfl rfl trivial (fun hb => ?_) (fun hb => ?_)
                      ·
                        refine o1 rfl (det_fieldAddr fld57_2 rfl) rfl rfl ⟨_, rfl, rfl⟩ ?_
                        refine o1 rfl (det_load1 t1_4 rfl rfl (.head _) rfl) rfl rfl ⟨_, rfl, rfl⟩ ?_
                        refine o1 rfl (det_pickT rfl rfl) rfl rfl trivial ?_
                        refine be rfl ?_
                        refine k_then ?_
                        refine t_condP Iff.rfl rfl (fun hb => ?_) (fun hb => ?_)
                        ·
                          have hhr : headR (ms[s].cap, ms[s].ps) = true := by unfold headR; grind
                          rw [if_pos hhr] at hrs
                          refine b0 ?_
                          refine o1 rfl (det_move rfl) rfl rfl trivial ?_
                          first | (refine o1 rfl (det_addI rfl rfl ?_) rfl rfl trivial ?_; (· omega)) | refine o1 rfl (det_add rfl rfl) rfl rfl trivial ?_
                          refine o1 rfl (det_assign rfl) rfl rfl trivial ?_
                          refine be rfl ?_
                          refine k_blk ?_
                          refine k_then ?_
                          refine b0 ?_
                          first | (refine o1 rfl (det_addI rfl rfl ?_) rfl rfl trivial ?_; (· omega)) | refine o1 rfl (det_add rfl rfl) rfl rfl trivial ?_
                          refine o1 rfl (det_move rfl) rfl rfl trivial ?_
                          refine be rfl ?_
                          refine k_then ?_
                          refine loop_back (s + 1) ⟨by omega, fun k hk => by
                              by_cases e : k = s
                              · rw [e]; exact hok
                              · exact hI k (by omega)⟩ (by omega) ⟨(mi rfl (by first | omega | (have hhr : headR (ms[s].cap, ms[s].ps) = false := by unfold headR; grind); rw [hrs]; simp [hhr])), rfl, rfl, rfl, trivial⟩ (.cons _ (.cons _ (.cons _ (.refl _))))
                        ·
                          have hhr : headR (ms[s].cap, ms[s].ps) = false := by unfold headR; grind
                          rw [if_neg (by rw [hhr]; simp)] at hrs
                          refine t_skip ?_
                          refine k_blk ?_
                          refine k_then ?_
                          refine b0 ?_
                          first | (refine o1 rfl (det_addI rfl rfl ?_) rfl rfl trivial ?_; (· omega)) | refine o1 rfl (det_add rfl rfl) rfl rfl trivial ?_
                          refine o1 rfl (det_move rfl) rfl rfl trivial ?_
                          refine be rfl ?_
                          refine k_then ?_
                          refine loop_back (s + 1) ⟨by omega, fun k hk => by
                              by_cases e : k = s
                              · rw [e]; exact hok
                              · exact hI k (by omega)⟩ (by omega) ⟨(mi rfl (by first | omega | (have hhr : headR (ms[s].cap, ms[s].ps) = false := by unfold headR; grind); rw [hrs]; simp [hhr])), rfl, rfl, rfl, trivial⟩ (.cons _ (.cons _ (.cons _ (.refl _))))
                      ·
                        refine on rfl rfl rfl ⟨_, rfl, .inl rfl⟩ ?_
                        refine on rfl rfl rfl ⟨_, rfl, .inl rfl⟩ ?_
                        refine o1 rfl (det_pickF rfl rfl) rfl rfl trivial ?_
                        refine be rfl ?_
                        refine k_then ?_
                        refine t_condF rfl ?_
                        refine t_skip ?_
                        refine k_blk ?_
                        refine k_then ?_
                        refine b0 ?_
                        first | (refine o1 rfl (det_addI rfl rfl ?_) rfl rfl trivial ?_; (· omega)) | refine o1 rfl (det_add rfl rfl) rfl rfl trivial ?_
                        refine o1 rfl (det_move rfl) rfl rfl trivial ?_
                        refine be rfl ?_
                        refine k_then ?_
                        refine loop_back (s + 1) ⟨by omega, fun k hk => by
                            by_cases e : k = s
                            · rw [e]; exact hok
                            · exact hI k (by omega)⟩ (by omega) ⟨(mi rfl (by first | omega | (have hhr : headR (ms[s].cap, ms[s].ps) = false := by unfold headR; grind); rw [hrs]; simp [hhr])), rfl, rfl, rfl, trivial⟩ (.cons _ (.cons _ (.cons _ (.refl _))))
                ·
                  have hs8 : s = 8 := by omega
                  refine t_exit ?_
                  refine k_thenE ?_
                  refine k_thenE ?_
                  refine k_blkE ?_
                  refine k_then ?_
                  refine t_seq ?_
                  refine t_seq ?_
                  refine b0 ?_
                  refine o1 rfl (det_move rfl) rfl rfl trivial ?_
                  refine o1 rfl (det_gtr rfl rfl) rfl rfl trivial ?_
                  refine be rfl ?_
                  refine k_then ?_
                  refine t_condP decide_eq_true_iff rfl (fun hb => ?_) (fun hb => ?_)
                  ·
                    have hC := check_rest (p := p) (by have h := hb; rw [hs8] at h; omega)
                    refine t_seq ?_
                    refine b0 ?_
                    refine o1 rfl (det_assign rfl) rfl rfl trivial ?_
                    refine be rfl ?_
                    refine k_then ?_
                    refine t_ret (k_thenR (?_))
                    refine ret_tmp rfl rfl rfl (fun w1 hs => ?_)
                    first
                    | exact ⟨by rw [hC]; rfl, hs.keep⟩
                    | exact ⟨by rw [check_front (p := p) (by unfold frontB; grind)]; rfl, hs.keep⟩
                    | exact ⟨by rw [check_at (p := p) (k := s) (by omega) (by rw [hat]; unfold okQ; grind)]; rfl, hs.keep⟩
                  ·
                    have hC := check_true hfr (fun k hk => hI k (by omega)) (by have h := hb; rw [hs8] at h; omega)
                    refine t_skip ?_
                    refine k_then ?_
                    refine t_seq ?_
                    refine b0 ?_
                    refine o1 rfl (det_assign rfl) rfl rfl trivial ?_
                    refine be rfl ?_
                    refine k_then ?_
                    refine t_ret ?_
                    refine ret_tmp rfl rfl rfl (fun w1 hs => ?_)
                    first
                    | exact ⟨by rw [hC]; rfl, hs.keep⟩
                    | exact ⟨by rw [check_front (p := p) (by unfold frontB; grind)]; rfl, hs.keep⟩
                    | exact ⟨by rw [check_at (p := p) (k := s) (by omega) (by rw [hat]; unfold okQ; grind)]; rfl, hs.keep⟩
            ·
              refine on rfl rfl rfl ⟨_, rfl, .inl rfl⟩ ?_
              refine on rfl rfl rfl ⟨_, rfl, .inl rfl⟩ ?_
              refine on rfl rfl rfl ⟨_, rfl, .inl rfl⟩ ?_
              refine o1 rfl (det_pickF rfl rfl) rfl rfl trivial ?_
              refine be rfl ?_
              refine k_then ?_
              refine t_condF rfl ?_
              refine t_skip ?_
              refine k_then ?_
              refine t_seq ?_
              refine t_seq ?_
              refine b0 ?_
              refine o1 rfl (det_fieldAddr fld68_2 rfl) rfl rfl trivial ?_
              refine o1 rfl (det_load1 t1_66 rfl rfl (.tail _ (.head _)) rfl) rfl rfl trivial ?_
              refine o1 rfl (det_lenS sl66 rfl) rfl rfl trivial ?_
              refine o1 rfl (det_move rfl) rfl rfl trivial ?_
              refine be rfl ?_
              refine k_then ?_
              refine t_block ?_
              refine t_whileM (σ := Nat) (fun s => [(4, .int .i64 (restsK p s : Int)), (47, .int .i64 (s : Int))]) (fun _ => _) (fun s => 8 - s) (fun s => s ≤ 8 ∧ ∀ k, k < s → okQ k (atQ p.qs k) = true) 0 (env0 := [(45, _), (46, _)]) ⟨by omega, fun k hk => absurd hk (Nat.not_lt_zero k)⟩ ⟨(mi rfl (by first | (simp [restsK, hlow]; done) | (have hlow : lowS p = false := by unfold lowS; grind); simp [restsK, hlow])), rfl, trivial⟩ ⟨rfl, rfl, trivial⟩ (.refl _) ?_
              rintro s ⟨hsn, hI⟩
              have hml := hK.len
              refine t_seq ?_
              refine b0 ?_
              refine o1 rfl (det_lss rfl rfl) rfl rfl trivial ?_
              refine be rfl ?_
              refine k_then ?_
              refine t_seq ?_
              refine t_condP decide_eq_true_iff rfl (fun hb => ?_) (fun hb => ?_)
              ·
                have hlt : s < ms.length := by omega
                obtain ⟨B, rfl⟩ := hK.qk.rows.some hlt
                have hQ := hK.qk.each ms[s] (List.getElem_mem hlt)
                have hat := hK.at_ hlt
                have hrs := restsK_succ (p := p) (k := s) (by omega)
                rw [hat] at hrs
                have hrl : restsK p s ≤ s + 1 := by unfold restsK; have := List.length_filter_le headR (p.qs.take s); rw [List.length_take] at this; split <;> omega
                refine t_skip ?_
                refine k_then ?_
                refine t_seq ?_
                refine t_block ?_
                refine t_seq ?_
                refine b0 ?_
                refine o1 rfl (det_move rfl) rfl rfl trivial ?_
                first | (refine o1 rfl (det_indexAddr sl66 rfl rfl ?_) rfl rfl trivial ?_; (· (first | decide | omega)))
                refine o1 rfl (det_loadKN tN73 rfl (qmv_len ms[s]) (hK.qk.rows.cells (i := (s : Int)) (k := s) (Int.toNat_natCast s) hlt (qmv_len _))) rfl rfl trivial ?_
                refine om1 rfl (new_alloc z3) rfl rfl trivial (fun p5 => ?_)
                refine om1 rfl (new_alloc z73) rfl rfl trivial (fun p6 => ?_)
                refine st1 nofun rfl t1_3 rfl rfl rfl (.tail .head) rfl trivial rfl ?_
                refine stN nofun rfl tN73 rfl rfl rfl .head rfl trivial rfl rfl ?_
                refine be rfl ?_
                refine k_then ?_
                refine t_seq ?_
                refine t_seq ?_
                refine b0 ?_
                refine o1 rfl (det_loadN tN73 rfl rfl (.head _) rfl) rfl rfl trivial ?_
                refine o1 rfl (det_call hb73 rfl rfl (fun w1 hs => qcheck_ok hs.know hQ.1 hQ.2.2.2)) rfl rfl trivial ?_
                refine o1 rfl (det_neq rfl rfl) rfl rfl trivial ?_
                refine o2P bne_iff_ne rfl (det_move rfl) rfl rfl trivial (fun hb => ?_) (fun hb => ?_)
                ·
                  refine on rfl rfl rfl ⟨_, rfl, .inl rfl⟩ ?_
                  refine on rfl rfl rfl ⟨_, rfl, .inl rfl⟩ ?_
                  refine on rfl rfl rfl ⟨_, rfl, .inl rfl⟩ ?_
                  refine on rfl rfl rfl ⟨_, rfl, .inl rfl⟩ ?_
                  refine o1 rfl (det_pickT rfl rfl) rfl rfl trivial ?_
                  refine be rfl ?_
                  refine k_then ?_
                  refine t_condT rfl ?_
                  refine t_seq ?_
                  refine b0 ?_
                  refine o1 rfl (det_assign rfl) rfl rfl trivial ?_
                  refine be rfl ?_
                  refine k_then ?_
                  refine t_ret (k_thenR (k_blkR (k_thenR (k_thenR (k_blkR (k_thenR (?_)))))))
                  refine ret_tmp rfl rfl rfl (fun w1 hs => ?_)
                  first
                  | exact ⟨by rw [hC]; rfl, hs.keep⟩
                  | exact ⟨by rw [check_front (p := p) (by unfold frontB; grind)]; rfl, hs.keep⟩
                  | exact ⟨by rw [check_at (p := p) (k := s) (by omega) (by rw [hat]; unfold okQ; grind)]; rfl, hs.keep⟩
                ·
                  refine o1 rfl (det_fieldAddr fld73_1 rfl) rfl rfl ⟨_, rfl, rfl⟩ ?_
                  refine o1 rfl (det_load1 t1_27 rfl rfl (.head _) rfl) rfl rfl ⟨_, rfl, rfl⟩ ?_
                  refine o1 rfl (det_makeFunc rfl rfl) rfl rfl ⟨_, rfl, rfl⟩ ?_
                  refine o1 rfl (det_call hb74 rfl rfl (fun w1 hs => has_ok (F := fun a => w1.cell? a) (fun _ _ h => h) (hQ.1.mono hs.know) hQ.2.2.2 (cl := (s : Int)) (satC hs (cs := [.int .i64 (s : Int)]) (T := 3) (by first | exact .head _ | exact .tail _ (.head _) | exact .tail _ (.tail _ (.head _)) | exact .tail _ (.tail _ (.tail _ (.head _))) | exact .tail _ (.tail _ (.tail _ (.tail _ (.head _)))) | exact .tail _ (.tail _ (.tail _ (.tail _ (.tail _ (.head _))))) | exact .tail _ (.tail _ (.tail _ (.tail _ (.tail _ (.tail _ (.head _)))))) | exact .tail _ (.tail _ (.tail _ (.tail _ (.tail _ (.tail _ (.tail _ (.head _))))))) | exact .tail _ (.tail _ (.tail _ (.tail _ (.tail _ (.tail _ (.tail _ (.tail _ (.head _)))))))) | exact .tail _ (.tail _ (.tail _ (.tail _ (.tail _ (.tail _ (.tail _ (.tail _ (.tail _ (.head _)))))))))) 0 rfl))) rfl rfl ⟨_, rfl, rfl⟩ ?_
                  refine o1 rfl (det_pickF rfl rfl) rfl rfl trivial ?_
                  refine be rfl ?_
                  refine k_then ?_
                  refine t_condP Iff.rfl rfl (fun hb => ?_) (fun hb => ?_)
                  ·
                    have hC := check_at (p := p) (k := s) (by omega) (by rw [hat]; unfold okQ; grind)
                    refine t_seq ?_
                    refine b0 ?_
                    refine o1 rfl (det_assign rfl) rfl rfl trivial ?_
                    refine be rfl ?_
                    refine k_then ?_
                    refine t_ret (k_thenR (k_blkR (k_thenR (k_thenR (k_blkR (k_thenR (?_)))))))
                    refine ret_tmp rfl rfl rfl (fun w1 hs => ?_)
                    first
                    | exact ⟨by rw [hC]; rfl, hs.keep⟩
                    | exact ⟨by rw [check_front (p := p) (by unfold frontB; grind)]; rfl, hs.keep⟩
                    | exact ⟨by rw [check_at (p := p) (k := s) (by omega) (by rw [hat]; unfold okQ; grind)]; rfl, hs.keep⟩
                  ·
                    have hok : okQ s (atQ p.qs s) = true := by rw [hat]; unfold okQ; grind
                    refine t_skip ?_
                    refine k_then ?_
                    refine t_seq ?_
                    refine b0 ?_
                    refine o1 rfl (det_loadN tN73 rfl rfl (.head _) rfl) rfl rfl trivial ?_
                    refine o1 rfl (det_call hb76 rfl rfl (fun w1 hs => head_ok hs.know hQ.1 hQ.2.2.2)) rfl rfl trivial ?_
                    refine o1 rfl (det_move rfl) rfl rfl trivial ?_
                    refine o1 rfl (det_extract rfl rfl) rfl rfl trivial ?_
                    refine o1 rfl (det_extract rfl rfl) rfl rfl trivial ?_
                    refine om1 rfl (new_alloc z57) rfl rfl trivial (fun p7 => ?_)
                    refine stN nofun rfl tN57 rfl rfl rfl .head rfl trivial rfl rfl ?_
                    refine o1 rfl (det_assign rfl) rfl rfl trivial ?_
                    refine be rfl ?_
                    refine k_then ?_
                    refine t_seq ?_
                    refine b0 ?_
                    refine o1 rfl (det_move rfl) rfl rfl trivial ?_
                    refine o2P Iff.rfl rfl (det_move rfl) rfl rfl trivial (fun hb => ?_) (fun hb => ?_)
                    ·
                      refine o1 rfl (det_fieldAddr fld57_2 rfl) rfl rfl ⟨_, rfl, rfl⟩ ?_
                      refine o1 rfl (det_load1 t1_4 rfl rfl (.head _) rfl) rfl rfl ⟨_, rfl, rfl⟩ ?_
                      refine o1 rfl (det_pickT rfl rfl) rfl rfl trivial ?_
                      refine be rfl ?_
                      refine k_then ?_
                      refine t_condP Iff.rfl rfl (fun hb => ?_) (fun hb => ?_)
                      ·
                        have hhr : headR (ms[s].cap, ms[s].ps) = true := by unfold headR; grind
                        rw [if_pos hhr] at hrs
                        refine b0 ?_
                        refine o1 rfl (det_move rfl) rfl rfl trivial ?_
                        first | (refine o1 rfl (det_addI rfl rfl ?_) rfl rfl trivial ?_; (· omega)) | refine o1 rfl (det_add rfl rfl) rfl rfl trivial ?_
                        refine o1 rfl (det_assign rfl) rfl rfl trivial ?_
                        refine be rfl ?_
                        refine k_blk ?_
                        refine k_then ?_
                        refine b0 ?_
                        first | (refine o1 rfl (det_addI rfl rfl ?_) rfl rfl trivial ?_; (· omega)) | refine o1 rfl (det_add rfl rfl) rfl rfl trivial ?_
                        refine o1 rfl (det_move rfl) rfl rfl trivial ?_
                        refine be rfl ?_
                        refine k_then ?_
                        refine loop_back (s + 1) ⟨by omega, fun k hk => by
                            by_cases e : k = s
                            · rw [e]; exact hok
                            · exact hI k (by omega)⟩ (by omega) ⟨(mi rfl (by first | omega | (have hhr : headR (ms[s].cap, ms[s].ps) = false := by unfold headR; grind); rw [hrs]; simp [hhr])), rfl, rfl, rfl, trivial⟩ (.cons _ (.cons _ (.cons _ (.refl _))))
                      ·
                        have hhr : headR (ms[s].cap, ms[s].ps) = false := by unfold headR; grind
                        rw [if_neg (by rw [hhr]; simp)] at hrs
                        refine t_skip ?_
                        refine k_blk ?_
                        refine k_then ?_
                        refine b0 ?_
                        first | (refine o1 rfl (det_addI rfl rfl ?_) rfl rfl trivial ?_; (· omega)) | refine o1 rfl (det_add rfl rfl) rfl rfl trivial ?_
                        refine o1 rfl (det_move rfl) rfl rfl trivial ?_
                        refine be rfl ?_
                        refine k_then ?_
                        refine loop_back (s + 1) ⟨by omega, fun k hk => by
                            by_cases e : k = s
                            · rw [e]; exact hok
                            · exact hI k (by omega)⟩ (by omega) ⟨(mi rfl (by first | omega | (have hhr : headR (ms[s].cap, ms[s].ps) = false := by unfold headR; grind); rw [hrs]; simp [hhr])), rfl, rfl, rfl, trivial⟩ (.cons _ (.cons _ (.cons _ (.refl _))))
                    ·
                      refine on rfl rfl rfl ⟨_, rfl, .inl rfl⟩ ?_
                      refine on rfl rfl rfl ⟨_, rfl, .inl rfl⟩ ?_
                      refine o1 rfl (det_pickF rfl rfl) rfl rfl trivial ?_
                      refine be rfl ?_
                      refine k_then ?_
                      refine t_condF rfl ?_
                      refine t_skip ?_
                      refine k_blk ?_
                      refine k_then ?_
                      refine b0 ?_
                      first | (refine o1 rfl (det_addI rfl rfl ?_) rfl rfl trivial ?_; (· omega)) | refine o1 rfl (det_add rfl rfl) rfl rfl trivial ?_
                      refine o1 rfl (det_move rfl) rfl rfl trivial ?_
                      refine be rfl ?_
                      refine k_then ?_
                      refine loop_back (s + 1) ⟨by omega, fun k hk => by
                          by_cases e : k = s
                          · rw [e]; exact hok
                          · exact hI k (by omega)⟩ (by omega) ⟨(mi rfl (by first | omega | (have hhr : headR (ms[s].cap, ms[s].ps) = false := by unfold headR; grind); rw [hrs]; simp [hhr])), rfl, rfl, rfl, trivial⟩ (.cons _ (.cons _ (.cons _ (.refl _))))
              ·
                have hs8 : s = 8 := by omega
                refine t_exit ?_
                refine k_thenE ?_
                refine k_thenE ?_
                refine k_blkE ?_
                refine k_then ?_
                refine t_seq ?_
                refine t_seq ?_
                refine b0 ?_
                refine o1 rfl (det_move rfl) rfl rfl trivial ?_
                refine o1 rfl (det_gtr rfl rfl) rfl rfl trivial ?_
                refine be rfl ?_
                refine k_then ?_
                refine t_condP decide_eq_true_iff rfl (fun hb => ?_) (fun hb => ?_)
                ·
                  have hC := check_rest (p := p) (by have h := hb; rw [hs8] at h; omega)
                  refine t_seq ?_
                  refine b0 ?_
                  refine o1 rfl (det_assign rfl) rfl rfl trivial ?_
                  refine be rfl ?_
                  refine k_then ?_
                  refine t_ret (k_thenR (?_))
                  refine ret_tmp rfl rfl rfl (fun w1 hs => ?_)
                  first
                  | exact ⟨by rw [hC]; rfl, hs.keep⟩
                  | exact ⟨by rw [check_front (p := p) (by unfold frontB; grind)]; rfl, hs.keep⟩
                  | exact ⟨by rw [check_at (p := p) (k := s) (by omega) (by rw [hat]; unfold okQ; grind)]; rfl, hs.keep⟩
                ·
                  have hC := check_true hfr (fun k hk => hI k (by omega)) (by have h := hb; rw [hs8] at h; omega)
                  refine t_skip ?_
                  refine k_then ?_
                  refine t_seq ?_
                  refine b0 ?_
                  refine o1 rfl (det_assign rfl) rfl rfl trivial ?_
                  refine be rfl ?_
                  refine k_then ?_
                  refine t_ret ?_
                  refine ret_tmp rfl rfl rfl (fun w1 hs => ?_)
                  first
                  | exact ⟨by rw [hC]; rfl, hs.keep⟩
                  | exact ⟨by rw [check_front (p := p) (by unfold frontB; grind)]; rfl, hs.keep⟩
                  | exact ⟨by rw [check_at (p := p) (k := s) (by omega) (by rw [hat]; unfold okQ; grind)]; rfl, hs.keep⟩
end Go.Proofs.Cp

/-
  Walks through layer 38.
-/
namespace Go.Proofs.Cp
open Go Go.Eng Go.Gt Go.Proofs.Gt Go.Sw Go.Qu Go.Ch Go.Po
set_option maxRecDepth 4000
theorem pheads_ok {w : World} {F : Know} (hF : ∀ a v, F a = some v → w.cell? a = some v) {q : Nat} {p : Ps} {B G : Option Addr} {m d k gk : Nat} {ms : List Qm} (hg : ∀ j, j < 18 → F ((⟨q, 0, none⟩ : Addr).add j) = (pev p B m d G k gk)[j]?) (hK : PsK F p B m d ms) (h8 : p.qs.length = 8) : CallsF Try.prog 108 [.pointer (some ⟨q, 0, none⟩)] w noK (fun v F2 => ∃ q6 : Nat, v = .slice (some ⟨q6, 0, none⟩) 8 8 ∧ PK F2 (some ⟨q6, 0, none⟩) 8 (headsS p)) := by
  have hml := hK.len
  refine fn_fresh (F := F) Try.func108 rfl Try.ntmps108 rfl hF ?_
  refine t_seq ?_
  refine b0 ?_
  refine o1 rfl (det_assign rfl) rfl rfl trivial ?_
  refine be rfl ?_
  refine k_then ?_
  refine t_seq ?_
  refine b0 ?_
  refine om1 rfl (new_makeSlice mk27 rfl rfl (by omega) (by omega) (by omega) (by omega)) rfl rfl trivial (fun p6 => ?_)
  refine o1 rfl (det_assign rfl) rfl rfl trivial ?_
  refine be rfl ?_
  refine k_then ?_
  refine t_seq ?_
  refine t_seq ?_
  refine b0 ?_
  refine o1 rfl (det_move rfl) rfl rfl trivial ?_
  refine o1 rfl (det_nilCheck rfl) rfl rfl trivial ?_
  refine o1 rfl (det_fieldAddr fld125_0 rfl) rfl rfl trivial ?_
  refine o1 rfl (det_fieldAddr fld68_2 rfl) rfl rfl trivial ?_
  refine o1 rfl (det_loadK t1_66 rfl (hg 5 (by decide))) rfl rfl trivial ?_
  refine o1 rfl (det_lenS sl66 rfl) rfl rfl trivial ?_
  refine o1 rfl (det_move rfl) rfl rfl trivial ?_
  refine be rfl ?_
  refine k_then ?_
  refine t_block ?_
  refine t_whileM (σ := Nat) (fun s => [(13, .int .i64 (s : Int))]) (fun s => [(p6, .cells (rowsV ptv (hdK p s)).toArray 57 (0, 0))]) (fun s => 8 - s) (fun s => s ≤ 8) 0 (env0 := [(2, _), (3, _), (11, _), (12, _)]) (Nat.zero_le _) ⟨rfl, trivial⟩ ⟨rfl, rfl, rfl, rfl, trivial⟩ (.refl _) ?_
  rintro s hs8
  refine t_seq ?_
  refine b0 ?_
  refine o1 rfl (det_lss rfl rfl) rfl rfl trivial ?_
  refine be rfl ?_
  refine k_then ?_
  refine t_seq ?_
  refine t_condP decide_eq_true_iff rfl (fun hb => ?_) (fun hb => ?_)
  ·
    have hlt : s < ms.length := by omega
    obtain ⟨B, rfl⟩ := hK.qk.rows.some hlt
    have hQ := hK.qk.each ms[s] (List.getElem_mem hlt)
    have hat := hK.at_ hlt
    refine t_skip ?_
    refine k_then ?_
    refine t_seq ?_
    refine t_block ?_
    refine t_seq ?_
    refine b0 ?_
    refine o1 rfl (det_move rfl) rfl rfl trivial ?_
    first | (refine o1 rfl (det_indexAddr sl66 rfl rfl ?_) rfl rfl trivial ?_; (· (first | decide | omega)))
    refine o1 rfl (det_loadKN tN73 rfl (qmv_len ms[s]) (hK.qk.rows.cells (i := (s : Int)) (k := s) (Int.toNat_natCast s) hlt (qmv_len _))) rfl rfl trivial ?_
    refine om1 rfl (new_alloc z73) rfl rfl trivial (fun p5 => ?_)
    refine o1 rfl (det_assign rfl) rfl rfl trivial ?_
    refine stN nofun rfl tN73 rfl rfl rfl .head rfl trivial rfl rfl ?_
    refine be rfl ?_
    refine k_then ?_
    refine b0 ?_
    have hset : setV ((s : Int).toNat * 7) (ptv (headQ ms[s].cap ms[s].ps).1) (rowsV ptv (hdK p s)) some = some (rowsV ptv (hdK p (s + 1))) := by
      rw [Int.toNat_natCast]
      have h1 := setV_splice (off := s * 7) (vs := ptv (headQ ms[s].cap ms[s].ps).1) (l := rowsV ptv (hdK p s)) some (by rw [ptv_len, rowsV_len ptv_len, hdK_len h8 hs8]; omega)
      rw [h1, hdK_succ h8 (by omega), hat]
      have h2 := splice_rows ptv_len (xs := hdK p s) (i := s) (by rw [hdK_len h8 hs8]; omega) (headQ ms[s].cap ms[s].ps).1 []
      rw [List.append_nil, List.append_nil] at h2
      rw [h2]; rfl
    refine o1 rfl (det_move rfl) rfl rfl trivial ?_
    refine o1 rfl (det_move rfl) rfl rfl trivial ?_
    refine o1 rfl (det_loadN tN73 rfl rfl (.head _) rfl) rfl rfl trivial ?_
    refine o1 rfl (det_call hb76 rfl rfl (fun w1 hs => head_ok hs.know hQ.1 hQ.2.2.2)) rfl rfl trivial ?_
    refine o1 rfl (det_move rfl) rfl rfl trivial ?_
    refine o1 rfl (det_extract rfl rfl) rfl rfl trivial ?_
    refine o1 rfl (det_extract rfl rfl) rfl rfl trivial ?_
    first | (refine o1 rfl (det_indexAddr sl27 rfl rfl ?_) rfl rfl trivial ?_; (· (first | decide | omega)))
    refine stN nofun rfl tN57 rfl (by rw [add_mk, Nat.zero_add]) rfl (.tail .head) hset trivial rfl rfl ?_
    refine be rfl ?_
    refine k_blk ?_
    refine k_then ?_
    refine b0 ?_
    first | (refine o1 rfl (det_addI rfl rfl ?_) rfl rfl trivial ?_; (· omega)) | refine o1 rfl (det_add rfl rfl) rfl rfl trivial ?_
    refine o1 rfl (det_move rfl) rfl rfl trivial ?_
    refine be rfl ?_
    refine k_then ?_
    refine loop_back (s + 1) (by omega) (by omega) ⟨rfl, rfl, rfl, rfl, rfl, trivial⟩ (.cons _ (.refl _))
  ·
    have hse : s = 8 := by omega
    rw [hse, hdK_all h8]
    refine t_exit ?_
    refine k_thenE ?_
    refine k_thenE ?_
    refine k_blkE ?_
    refine k_then ?_
    refine t_seq ?_
    refine b0 ?_
    refine o1 rfl (det_move rfl) rfl rfl trivial ?_
    refine o1 rfl (det_assign rfl) rfl rfl trivial ?_
    refine be rfl ?_
    refine k_then ?_
    refine t_ret ?_
    refine ret_tmp rfl rfl rfl (fun w1 hs => ?_)
    exact end_fresh hs fun F2 _ _ h => ⟨_, rfl, rowsK_of ptv_len (by decide) (fun j u hj => ⟨_, rfl, by rw [add_mk, Nat.zero_add]; exact h _ _ _ _ j (.head _) u (by rw [← Array.getElem?_toList]; exact hj)⟩) (headsS_len h8).symm⟩
end Go.Proofs.Cp

/-
  Walks through layer 38.
-/
namespace Go.Proofs.Cp
open Go Go.Eng Go.Gt Go.Proofs.Gt Go.Sw Go.Qu Go.Ch Go.Po
set_option maxRecDepth 4000
theorem pnext_ok {w : World} {F : Know} (hF : ∀ a v, F a = some v → w.cell? a = some v) {q : Nat} {p : Ps} {B G : Option Addr} {m d k gk : Nat} {ms : List Qm} (hg : ∀ j, j < 18 → F ((⟨q, 0, none⟩ : Addr).add j) = (pev p B m d G k gk)[j]?) (hK : PsK F p B m d ms) (h8 : p.qs.length = 8) : Pure Try.prog 82 [.pointer (some ⟨q, 0, none⟩)] w (.tuple [.int .i64 (nextS p).1, .int .i64 (nextS p).2].toArray) := by
  refine fn_pure (F := F) Try.func82 rfl Try.ntmps82 rfl hF ?_
  refine t_seq ?_
  refine b0 ?_
  refine o1 rfl (det_assign rfl) rfl rfl trivial ?_
  refine o1 rfl (det_assign rfl) rfl rfl trivial ?_
  refine be rfl ?_
  refine k_then ?_
  refine t_seq ?_
  refine t_seq ?_
  refine b0 ?_
  refine o1 rfl (det_move rfl) rfl rfl trivial ?_
  refine o1 rfl (det_nilCheck rfl) rfl rfl trivial ?_
  refine o1 rfl (det_fieldAddr fld125_0 rfl) rfl rfl trivial ?_
  refine o1 rfl (det_fieldAddr fld68_3 rfl) rfl rfl trivial ?_
  refine o1 rfl (det_loadK t1_4 rfl (hg 6 (by decide))) rfl rfl trivial ?_
  refine be rfl ?_
  refine k_then ?_
  refine t_condP Iff.rfl rfl (fun hb => ?_) (fun hb => ?_)
  ·
    refine t_seq ?_
    refine b0 ?_
    refine o1 rfl (det_move rfl) rfl rfl trivial ?_
    refine o1 rfl (det_nilCheck rfl) rfl rfl trivial ?_
    refine o1 rfl (det_fieldAddr fld125_0 rfl) rfl rfl trivial ?_
    refine o1 rfl (det_fieldAddr fld68_6 rfl) rfl rfl trivial ?_
    refine o1 rfl (det_loadK t1_3 rfl (hg 15 (by decide))) rfl rfl trivial ?_
    refine o1 rfl (det_assign rfl) rfl rfl trivial ?_
    refine o1 rfl (det_assign rfl) rfl rfl trivial ?_
    refine be rfl ?_
    refine k_then ?_
    refine t_ret (k_thenR (?_))
    refine ret_tmp2 rfl rfl rfl rfl (fun w1 hs => ?_)
    first
    | exact ⟨by unfold nextS; rw [if_pos hb], hs.keep⟩
    | exact ⟨by unfold nextS; rw [if_neg hb], hs.keep⟩
  ·
    refine t_skip ?_
    refine k_then ?_
    refine t_seq ?_
    refine bD mixed ?_
    refine r_segF 17 17 [] [(6, Go.Eng.Told F (fun v F2 => ∃ q6 : Nat, v = .slice (some ⟨q6, 0, none⟩) 8 8 ∧ PK F2 (some ⟨q6, 0, none⟩) 8 (headsS p)))] [0, 1, 2, 3, 4, 5, 6, 7, 8, 9, 10, 11, 12, 13, 14, 15, 16] (by kernel_rfl) ?_
    refine s1 rfl (det_move rfl) rfl rfl trivial rfl ?_
    refine s1 rfl (det_nilCheck rfl) rfl rfl trivial rfl ?_
    refine s1 rfl (det_fieldAddr fld125_0 rfl) rfl rfl trivial rfl ?_
    refine s1 rfl (det_fieldAddr fld68_0 rfl) rfl rfl trivial rfl ?_
    refine s1 rfl (det_loadKN tN26 rfl (r := lnv p.l) rfl (cells_sub hg 0 (by decide) rfl)) rfl rfl trivial rfl ?_
    refine s1 rfl (det_move rfl) rfl rfl trivial rfl ?_
    refine sM [] need0 rfl (fun F2 hF2 hN => mem_call hF2 hb108 rfl rfl (fun w1 hs => (pheads_ok hs.know (cells_mono hg rfl hF2) (hK.mono hF2) h8).any)) rfl rfl trivial rfl (fun v20 hv20 => ?_)
    obtain ⟨_, q_20, rfl, -⟩ := hv20
    refine s1 rfl (det_move rfl) rfl rfl trivial rfl ?_
    refine s1 rfl (det_nilCheck rfl) rfl rfl trivial rfl ?_
    refine s1 rfl (det_fieldAddr fld125_0 rfl) rfl rfl trivial rfl ?_
    refine s1 rfl (det_fieldAddr fld68_1 rfl) rfl rfl trivial rfl ?_
    refine s1 rfl (det_loadK t1_3 rfl (hg 4 (by decide))) rfl rfl trivial rfl ?_
    refine s1N [_] (needC (.head _) rfl need0) rfl (fun F2 hF2 hN => det_call hb26 rfl rfl (fun w1 hs => (by obtain ⟨q9, hq, h9⟩ := hN _ (.head _); cases hq; exact when_ok hs.know (EntK.mono hK.line hF2) h9 (by decide)))) rfl rfl trivial rfl ?_
    refine s1 rfl (det_extract rfl rfl) rfl rfl trivial rfl ?_
    refine s1 rfl (det_extract rfl rfl) rfl rfl trivial rfl ?_
    refine s1 rfl (det_assign rfl) rfl rfl trivial rfl ?_
    refine s1 rfl (det_assign rfl) rfl rfl trivial rfl ?_
    refine sg_nil ?_
    rintro F_3_17 hF_3_17 hN_3_17 ⟨hR20, -⟩
    obtain ⟨q20, hq20, hP20⟩ := hR20
    cases hq20
    refine be rfl ?_
    refine k_then ?_
    refine t_ret ?_
    refine ret_tmp2 rfl rfl rfl rfl (fun w1 hs => ?_)
    first
    | exact ⟨by unfold nextS; rw [if_pos hb], hs.keep⟩
    | exact ⟨by unfold nextS; rw [if_neg hb], hs.keep⟩
end Go.Proofs.Cp

/-
  Walks through layer 38.
-/
namespace Go.Proofs.Cp
open Go Go.Eng Go.Gt Go.Proofs.Gt Go.Sw Go.Qu Go.Ch Go.Po
set_option maxRecDepth 4000
theorem end1_ok {w : World} {F : Know} (hF : ∀ a v, F a = some v → w.cell? a = some v) {u : Qm} (hu : QmK F u) {x : Pt} {r : Int} {q3 q4 : Nat} (h3 : ∀ j, j < 7 → F ((⟨q3, 0, none⟩ : Addr).add j) = (ptv x)[j]?) (h4 : ∀ j, j < 1 → F ((⟨q4, 0, none⟩ : Addr).add j) = ([Value.int .i64 r])[j]?) : CallsF Try.prog 102 [.agg (qmv u).toArray, .pointer (some ⟨q3, 0, none⟩), .pointer (some ⟨q4, 0, none⟩)] w F (fun v F2 => ∃ u2 : Qm, v = .tuple [.agg (qmv u2).toArray, .int .i64 (retQ u.cap u.ps ⟨x.it, r, true⟩).2].toArray ∧ u2.lg = (retQ u.cap u.ps ⟨x.it, r, true⟩).1 ∧ QmK F2 u2) := by
  refine fn_fresh (F := F) Try.func102 rfl Try.ntmps102 rfl hF ?_
  refine t_seq ?_
  refine b0 ?_
  refine om1 rfl (new_boxN rfl) rfl rfl trivial (fun p3 => ?_)
  refine om1 rfl (new_alloc z73) rfl rfl trivial (fun p4 => ?_)
  refine o1 rfl (det_assign rfl) rfl rfl trivial ?_
  refine be rfl ?_
  refine k_then ?_
  refine t_seq ?_
  refine b0 ?_
  refine o1 rfl (det_loadN tN73 rfl rfl (.tail _ (.head _)) rfl) rfl rfl trivial ?_
  refine o1 rfl (det_fieldAddr fld57_0 rfl) rfl rfl trivial ?_
  refine o1 rfl (det_loadKN tN55 rfl (r := itv x.it) rfl (cells_sub h3 0 (by decide) rfl)) rfl rfl trivial ?_
  refine o1 rfl (det_loadK t1_3 rfl (h4 0 (by decide))) rfl rfl trivial ?_
  refine o1 rfl (det_build rfl (fun w => bld57_0_1_2 _ _ _ _ _ _ _ w)) rfl rfl trivial ?_
  refine oF nofun rfl hb103 rfl rfl rfl trivial (fun w1 hs => return_ok hs.know hu.1 hu.2.2.2 hu.2.1 hu.2.2.1 (x := ⟨x.it, r, true⟩)) (fun v1 F1 hF1 hN1 ⟨qv, hv, hQ⟩ => ?_)
  subst hv
  obtain ⟨u2, rfl, hu2, hk2⟩ := qv_m hQ ret_len2
  refine o1 rfl (det_extract rfl rfl) rfl rfl trivial ?_
  refine o1 rfl (det_extract rfl rfl) rfl rfl trivial ?_
  refine stN nofun rfl tN73 rfl rfl rfl .head rfl trivial rfl rfl ?_
  refine o1 rfl (det_assign rfl) rfl rfl trivial ?_
  refine be rfl ?_
  refine k_then ?_
  refine t_ret ?_
  refine ret_any (vs := [_, _]) rfl rfl ⟨(.cellN tN73 rfl rfl (.head _) rfl), (.tmp rfl), trivial⟩ rfl (fun w1 hs => ?_)
  exact end_fresh hs fun F2 h1 h2 _ => ⟨u2, rfl, hu2, hk2.mono fun a u h => (hN1 a u h).elim (h1 a u) (h2 a u h)⟩
theorem arr1_ok {w : World} {F : Know} (hF : ∀ a v, F a = some v → w.cell? a = some v) {u : Qm} (hu : QmK F u) {x : It} {q3 q4 : Nat} {ba : Bool} (h3 : ∀ j, j < 5 → F ((⟨q3, 0, none⟩ : Addr).add j) = (itv x)[j]?) (haway : ∀ a v, F a = some v → a.block ∉ idsO ([(q4, .cells [.bool ba].toArray 4 (0, 0))])) (hnd : (idsO ([(q4, .cells [.bool ba].toArray 4 (0, 0))])).Nodup) (hown : ∀ y ∈ ([(q4, .cells [.bool ba].toArray 4 (0, 0))] : Own), w.heap[y.1]? = some y.2) : CallsM Try.prog 104 [.agg (qmv u).toArray, .pointer (some ⟨q3, 0, none⟩), .pointer (some ⟨q4, 0, none⟩)] w F ([(q4, .cells [.bool ba].toArray 4 (0, 0))]) (fun v cp1 F2 => ∃ u2 : Qm, v = .tuple [.agg (qmv u2).toArray, .int .i64 (pushQ u.cap u.ps x).2.2].toArray ∧ u2.lg = (pushQ u.cap u.ps x).1 ∧ QmK F2 u2 ∧ cp1 = [(q4, .cells [.bool (pushQ u.cap u.ps x).2.1].toArray 4 (0, 0))]) := by
  refine fn_m (F := F) Try.func104 rfl Try.ntmps104 rfl hF haway hnd hown ?_
  refine t_seq ?_
  refine b0 ?_
  refine om1 rfl (new_boxN rfl) rfl rfl trivial (fun p3 => ?_)
  refine om1 rfl (new_alloc z73) rfl rfl trivial (fun p4 => ?_)
  refine o1 rfl (det_assign rfl) rfl rfl trivial ?_
  refine be rfl ?_
  refine k_then ?_
  refine t_seq ?_
  refine b0 ?_
  refine o1 rfl (det_loadN tN73 rfl rfl (.tail _ (.head _)) rfl) rfl rfl trivial ?_
  refine o1 rfl (det_loadKN tN55 rfl (r := itv x) rfl (cells_sub h3 0 (by decide) rfl)) rfl rfl trivial ?_
  refine oF nofun rfl hb105 rfl rfl rfl trivial (fun w1 hs => push_ok hs.know hu.1 hu.2.2.2 hu.2.1 hu.2.2.1 (x := x)) (fun v1 F1 hF1 hN1 ⟨qv, hv, hQ⟩ => ?_)
  subst hv
  obtain ⟨u2, rfl, hu2, hk2⟩ := qv_m hQ push_len2
  refine o1 rfl (det_move rfl) rfl rfl trivial ?_
  refine o1 rfl (det_extract rfl rfl) rfl rfl trivial ?_
  refine o1 rfl (det_extract rfl rfl) rfl rfl trivial ?_
  refine o1 rfl (det_extract rfl rfl) rfl rfl trivial ?_
  refine om1 rfl (new_alloc z73) rfl rfl trivial (fun p6 => ?_)
  refine stN nofun rfl tN73 rfl rfl rfl .head rfl trivial rfl rfl ?_
  refine o1 rfl (det_assign rfl) rfl rfl trivial ?_
  refine o1 rfl (det_assign rfl) rfl rfl trivial ?_
  refine be rfl ?_
  refine k_then ?_
  refine t_seq ?_
  refine b0 ?_
  refine o1 rfl (det_move rfl) rfl rfl trivial ?_
  refine st1 nofun rfl t1_4 rfl rfl rfl (.tail (.tail (.tail .head))) rfl trivial rfl ?_
  refine be rfl ?_
  refine k_then ?_
  refine t_seq ?_
  refine b0 ?_
  refine o1 rfl (det_loadN tN73 rfl rfl (.head _) rfl) rfl rfl trivial ?_
  refine o1 rfl (det_move rfl) rfl rfl trivial ?_
  refine stN nofun rfl tN73 rfl rfl rfl (.tail .head) rfl trivial rfl rfl ?_
  refine o1 rfl (det_assign rfl) rfl rfl trivial ?_
  refine be rfl ?_
  refine k_then ?_
  refine t_ret ?_
  refine ret_any (vs := [_, _]) rfl rfl ⟨(.cellN tN73 rfl rfl (.tail _ (.head _)) rfl), (.tmp rfl), trivial⟩ rfl (fun w1 hs => ?_)
  exact end_m (bs := [_, _, _]) (cp' := [_]) (.refl _) hs rfl fun F2 h1 h2 _ => ⟨u2, rfl, hu2, hk2.mono fun a u h => (hN1 a u h).elim (h1 a u) (h2 a u h), rfl⟩
theorem sta1_ok {w : World} {F : Know} (hF : ∀ a v, F a = some v → w.cell? a = some v) {u : Qm} (hu : QmK F u) {q : Nat} {p : Ps} {B G : Option Addr} {m d k gk : Nat} {q1 : Nat} (h1q : ∀ j, j < 1 → F ((⟨q1, 0, none⟩ : Addr).add j) = ([Value.pointer (some ⟨q, 0, none⟩)])[j]?) (hper : 1 ≤ p.l.per ∧ p.l.per ≤ 1000) (hnow : 0 ≤ p.now ∧ p.now ≤ 549755813888) (haway : ∀ a v, F a = some v → a.block ∉ idsO ([(q, .cells (pev p B m d G k gk).toArray 125 (0, 0))])) (hnd : (idsO ([(q, .cells (pev p B m d G k gk).toArray 125 (0, 0))])).Nodup) (hown : ∀ y ∈ ([(q, .cells (pev p B m d G k gk).toArray 125 (0, 0))] : Own), w.heap[y.1]? = some y.2) : CallsM Try.prog 117 [.agg (qmv u).toArray, .pointer (some ⟨q1, 0, none⟩)] w F ([(q, .cells (pev p B m d G k gk).toArray 125 (0, 0))]) (fun v cp1 F2 => ∃ u2 : Qm, v = .tuple [.agg (qmv u2).toArray, .int .i64 (popQ u.cap u.ps).2.2].toArray ∧ u2.lg = (popQ u.cap u.ps).1 ∧ QmK F2 u2 ∧ cp1 = [(q, .cells (pev (beginS p (popQ u.cap u.ps).2.1) B m d G k gk).toArray 125 (0, 0))]) := by
  refine fn_m (F := F) Try.func117 rfl Try.ntmps117 rfl hF haway hnd hown ?_
  refine t_seq ?_
  refine b0 ?_
  refine om1 rfl (new_boxN rfl) rfl rfl trivial (fun p2 => ?_)
  refine om1 rfl (new_alloc z73) rfl rfl trivial (fun p3 => ?_)
  refine o1 rfl (det_assign rfl) rfl rfl trivial ?_
  refine be rfl ?_
  refine k_then ?_
  refine t_seq ?_
  refine b0 ?_
  refine o1 rfl (det_loadN tN73 rfl rfl (.tail _ (.head _)) rfl) rfl rfl trivial ?_
  refine oF nofun rfl hb118 rfl rfl rfl trivial (fun w1 hs => pop_ok hs.know hu.1 hu.2.2.2 hu.2.1 hu.2.2.1) (fun v1 F1 hF1 hN1 ⟨qv, hv, hQ⟩ => ?_)
  subst hv
  obtain ⟨u2, rfl, hu2, hk2⟩ := qv_m hQ pop_len2
  refine o1 rfl (det_move rfl) rfl rfl trivial ?_
  refine o1 rfl (det_extract rfl rfl) rfl rfl trivial ?_
  refine o1 rfl (det_extract rfl rfl) rfl rfl trivial ?_
  refine o1 rfl (det_extract rfl rfl) rfl rfl trivial ?_
  refine om1 rfl (new_alloc z73) rfl rfl trivial (fun p5 => ?_)
  refine om1 rfl (new_alloc z57) rfl rfl trivial (fun p6 => ?_)
  refine stN nofun rfl tN73 rfl rfl rfl (.tail .head) rfl trivial rfl rfl ?_
  refine stN nofun rfl tN57 rfl rfl rfl .head rfl trivial rfl rfl ?_
  refine o1 rfl (det_assign rfl) rfl rfl trivial ?_
  refine be rfl ?_
  refine k_then ?_
  refine t_seq ?_
  refine bD mixed ?_
  refine r_allS false (F2 := wBlk _ q _ 6 10) (by kernel_rfl) (fun w hs => hs.wblk2 (List.perm_middle (l₁ := [_, _, _, _]))) (fun hW2 s_ => ?_)
  obtain ⟨y, hy⟩ : ∃ y, (popQ u.cap u.ps).2.1 = y := ⟨_, rfl⟩
  have hlf : 0 ≤ y.left ∧ y.left ≤ 1542 := by rw [← hy]; exact pop_left
  rw [hy] at *
  have hm : 0 ≤ y.left * p.l.per ∧ y.left * p.l.per ≤ 1542 * 1000 := ⟨Int.mul_nonneg hlf.1 (by omega), Int.mul_le_mul hlf.2 hper.2 (by omega) (by decide)⟩
  refine al_det rfl (det_loadK t1_123 rfl ((cells_mono h1q rfl (fun _ _ h => (hW2 _ _ (hF1 _ _ h)))) 0 (by decide))) rfl rfl rfl ?_
  refine al_det rfl (det_loadK t1_123 rfl ((cells_mono h1q rfl (fun _ _ h => (hW2 _ _ (hF1 _ _ h)))) 0 (by decide))) rfl rfl rfl ?_
  refine al_det rfl (det_loadK t1_123 rfl ((cells_mono h1q rfl (fun _ _ h => (hW2 _ _ (hF1 _ _ h)))) 0 (by decide))) rfl rfl rfl ?_
  refine al_det rfl (det_loadK t1_123 rfl ((cells_mono h1q rfl (fun _ _ h => (hW2 _ _ (hF1 _ _ h)))) 0 (by decide))) rfl rfl rfl ?_
  refine al_det rfl (det_loadN tN57 rfl rfl (.head _) rfl) rfl rfl rfl ?_
  refine al_det rfl (det_loadK t1_123 rfl ((cells_mono h1q rfl (fun _ _ h => (hW2 _ _ (hF1 _ _ h)))) 0 (by decide))) rfl rfl rfl ?_
  refine al_det rfl (det_nilCheck rfl) rfl rfl rfl ?_
  refine al_det rfl (det_fieldAddr fld125_0 rfl) rfl rfl rfl ?_
  refine al_det rfl (det_fieldAddr fld68_1 rfl) rfl rfl rfl ?_
  refine al_det rfl (det_loadK t1_3 rfl (wBlk_get (k := 4) rfl (by decide) rfl)) rfl rfl rfl ?_
  refine al_det rfl (det_loadK t1_123 rfl ((cells_mono h1q rfl (fun _ _ h => (hW2 _ _ (hF1 _ _ h)))) 0 (by decide))) rfl rfl rfl ?_
  refine al_det rfl (det_nilCheck rfl) rfl rfl rfl ?_
  refine al_det rfl (det_fieldAddr fld125_0 rfl) rfl rfl rfl ?_
  refine al_det rfl (det_fieldAddr fld68_1 rfl) rfl rfl rfl ?_
  refine al_det rfl (det_loadK t1_3 rfl (wBlk_get (k := 4) rfl (by decide) rfl)) rfl rfl rfl ?_
  refine al_det rfl (det_fieldAddr fld57_1 rfl) rfl rfl rfl ?_
  refine al_det rfl (det_load1 t1_3 rfl rfl (.head _) rfl) rfl rfl rfl ?_
  refine al_det rfl (det_loadK t1_123 rfl ((cells_mono h1q rfl (fun _ _ h => (hW2 _ _ (hF1 _ _ h)))) 0 (by decide))) rfl rfl rfl ?_
  refine al_det rfl (det_nilCheck rfl) rfl rfl rfl ?_
  refine al_det rfl (det_fieldAddr fld125_0 rfl) rfl rfl rfl ?_
  refine al_det rfl (det_fieldAddr fld68_0 rfl) rfl rfl rfl ?_
  refine al_det rfl (det_fieldAddr fld26_1 rfl) rfl rfl rfl ?_
  refine al_det rfl (det_loadK t1_3 rfl (wBlk_get (k := 2) rfl (by decide) rfl)) rfl rfl rfl ?_
  first | (refine al_det rfl (det_mulI rfl rfl ?_) rfl rfl rfl ?_; (· omega)) | refine al_det rfl (det_mul rfl rfl) rfl rfl rfl ?_
  first | (refine al_det rfl (det_addI rfl rfl ?_) rfl rfl rfl ?_; (· omega)) | refine al_det rfl (det_add rfl rfl) rfl rfl rfl ?_
  refine al_det rfl (det_nilCheck rfl) rfl rfl rfl ?_
  refine al_det rfl (det_fieldAddr fld125_0 rfl) rfl rfl rfl ?_
  refine al_det rfl (det_fieldAddr fld68_3 rfl) rfl rfl rfl ?_
  refine al_st1 rfl t1_4 rfl rfl rfl (.tail (.tail (.tail (.tail .head)))) rfl rfl (fun w hs => hs.wblk (List.perm_middle (l₁ := [_, _, _, _])) (outB 6 10 rfl rfl)) ?_
  refine al_det rfl (det_nilCheck rfl) rfl rfl rfl ?_
  refine al_det rfl (det_fieldAddr fld125_0 rfl) rfl rfl rfl ?_
  refine al_det rfl (det_fieldAddr fld68_4 rfl) rfl rfl rfl ?_
  refine al_stN rfl tN57.size rfl rfl rfl rfl (.tail (.tail (.tail (.tail .head)))) rfl rfl rfl (fun w hs => hs.wblk (List.perm_middle (l₁ := [_, _, _, _])) (outB 6 10 rfl rfl)) ?_
  refine al_det rfl (det_nilCheck rfl) rfl rfl rfl ?_
  refine al_det rfl (det_fieldAddr fld125_0 rfl) rfl rfl rfl ?_
  refine al_det rfl (det_fieldAddr fld68_5 rfl) rfl rfl rfl ?_
  refine al_st1 rfl t1_3 rfl rfl rfl (.tail (.tail (.tail (.tail .head)))) rfl rfl (fun w hs => hs.wblk (List.perm_middle (l₁ := [_, _, _, _])) (outB 6 10 rfl rfl)) ?_
  refine al_det rfl (det_nilCheck rfl) rfl rfl rfl ?_
  refine al_det rfl (det_fieldAddr fld125_0 rfl) rfl rfl rfl ?_
  refine al_det rfl (det_fieldAddr fld68_6 rfl) rfl rfl rfl ?_
  refine al_st1 rfl t1_3 rfl rfl rfl (.tail (.tail (.tail (.tail .head)))) rfl rfl (fun w hs => hs.wblk (List.perm_middle (l₁ := [_, _, _, _])) (outB 6 10 rfl rfl)) ?_
  refine al_end rfl (fun w hs => hs.wblk (List.perm_middle (l₁ := [_, _, _, _])) (outB 6 10 rfl rfl)) ?_
  refine k_then ?_
  refine t_seq ?_
  refine b0 ?_
  refine o1 rfl (det_loadN tN73 rfl rfl (.tail _ (.head _)) rfl) rfl rfl trivial ?_
  refine o1 rfl (det_move rfl) rfl rfl trivial ?_
  refine stN nofun rfl tN73 rfl rfl rfl (.tail (.tail .head)) rfl trivial rfl rfl ?_
  refine o1 rfl (det_assign rfl) rfl rfl trivial ?_
  refine be rfl ?_
  refine k_then ?_
  refine t_ret ?_
  refine ret_any (vs := [_, _]) rfl rfl ⟨(.cellN tN73 rfl rfl (.tail _ (.tail _ (.head _))) rfl), (.tmp rfl), trivial⟩ rfl (fun w1 hs => ?_)
  rw [hy]
  exact end_m (bs := [_, _, _, _]) (cp' := [_]) (.refl _) hs rfl fun F2 h1 h2 _ => ⟨u2, rfl, hu2, hk2.mono fun a u h => (hN1 a u h).elim (h1 a u) (h2 a u h), rfl⟩
end Go.Proofs.Cp

/-
  Walks through layer 38.
-/
namespace Go.Proofs.Cp
open Go Go.Eng Go.Gt Go.Proofs.Gt Go.Sw Go.Qu Go.Ch Go.Po
set_option maxRecDepth 4000
theorem psK_of {F : Know} {p p' : Ps} {B : Option Addr} {m d : Nat} {ms : List Qm} (h : PsK F p B m d ms) (hl : p'.l = p.l) (hq : p'.qs = p.qs) : PsK F p' B m d ms :=
  ⟨by rw [hl]; exact h.line, h.qk, by rw [hq]; exact h.lg, h.md, h.dm, by rw [hl]; exact h.ln⟩
theorem set_end {w : World} {F : Know} (hF : ∀ a v, F a = some v → w.cell? a = some v) {q : Nat} {p : Ps} {B G : Option Addr} {m d k gk : Nat} {ms : List Qm} (hK : PsK F p B m d ms) (h8 : p.qs.length = 8) {cc : Int} (hcc : 0 ≤ cc ∧ cc ≤ 7) {x : Pt} {r : Int} {q3 q4 : Nat} (h3 : ∀ j, j < 7 → F ((⟨q3, 0, none⟩ : Addr).add j) = (ptv x)[j]?) (h4 : ∀ j, j < 1 → F ((⟨q4, 0, none⟩ : Addr).add j) = ([Value.int .i64 r])[j]?) (haway : ∀ a v, F a = some v → a.block ∉ idsO ([(q, .cells (pev p B m d G k gk).toArray 125 (0, 0))])) (hnd : (idsO ([(q, .cells (pev p B m d G k gk).toArray 125 (0, 0))])).Nodup) (hown : ∀ y ∈ ([(q, .cells (pev p B m d G k gk).toArray 125 (0, 0))] : Own), w.heap[y.1]? = some y.2) : CallsM Try.prog 101 [.pointer (some ⟨q, 0, none⟩), .int .i64 cc, .func (.func 102) [].toArray [.pointer (some ⟨q3, 0, none⟩), .pointer (some ⟨q4, 0, none⟩)].toArray] w F ([(q, .cells (pev p B m d G k gk).toArray 125 (0, 0))]) (fun v cp1 F2 => v = .int .i64 (retQ (atQ p.qs cc.toNat).1 (atQ p.qs cc.toNat).2 ⟨x.it, r, true⟩).2 ∧ ∃ B2 d2 ms2, cp1 = [(q, .cells (pev (if (retQ (atQ p.qs cc.toNat).1 (atQ p.qs cc.toNat).2 ⟨x.it, r, true⟩).2 = 0 then setS p cc (retQ (atQ p.qs cc.toNat).1 (atQ p.qs cc.toNat).2 ⟨x.it, r, true⟩).1 else p) B2 m d2 G k gk).toArray 125 (0, 0))] ∧ PsK F2 (if (retQ (atQ p.qs cc.toNat).1 (atQ p.qs cc.toNat).2 ⟨x.it, r, true⟩).2 = 0 then setS p cc (retQ (atQ p.qs cc.toNat).1 (atQ p.qs cc.toNat).2 ⟨x.it, r, true⟩).1 else p) B2 m d2 ms2) := by
  have hml := hK.len
  have hlc : cc.toNat < ms.length := by omega
  obtain ⟨B, rfl⟩ := hK.qk.rows.some hlc
  have hu := hK.qk.each _ (List.getElem_mem hlc)
  have hat := hK.at_ hlc
  have hm8 : m = 8 := by omega
  rw [hat]
  refine fn_m (F := F) Try.func101 rfl Try.ntmps101 rfl hF haway hnd hown ?_
  refine t_seq ?_
  refine b0 ?_
  refine o1 rfl (det_assign rfl) rfl rfl trivial ?_
  refine be rfl ?_
  refine k_then ?_
  refine t_seq ?_
  refine b0 ?_
  refine o1 rfl (det_move rfl) rfl rfl trivial ?_
  refine o1 rfl (det_move rfl) rfl rfl trivial ?_
  refine o1 rfl (det_nilCheck rfl) rfl rfl trivial ?_
  refine o1 rfl (det_fieldAddr fld125_0 rfl) rfl rfl trivial ?_
  refine o1 rfl (det_fieldAddr fld68_2 rfl) rfl rfl trivial ?_
  refine o1 rfl (det_load1 t1_66 rfl rfl (.head _) rfl) rfl rfl trivial ?_
  refine o1 rfl (det_move rfl) rfl rfl trivial ?_
  first | (refine o1 rfl (det_indexAddr sl66 rfl rfl ?_) rfl rfl trivial ?_; (· (first | decide | omega)))
  refine o1 rfl (det_loadKN tN73 rfl (qmv_len ms[cc.toNat]) (hK.qk.rows.cells (i := cc) (k := cc.toNat) rfl hlc (qmv_len _))) rfl rfl trivial ?_
  refine oF nofun rfl hb102 rfl rfl rfl trivial (fun w1 hs => end1_ok hs.know hu h3 h4) (fun v1 F1 hF1 hN1 ⟨u2, hv, hu2, hk2⟩ => ?_)
  subst hv
  refine o1 rfl (det_move rfl) rfl rfl trivial ?_
  refine o1 rfl (det_extract rfl rfl) rfl rfl trivial ?_
  refine o1 rfl (det_extract rfl rfl) rfl rfl trivial ?_
  refine om1 rfl (new_alloc z73) rfl rfl trivial (fun p7 => ?_)
  refine stN nofun rfl tN73 rfl rfl rfl .head rfl trivial rfl rfl ?_
  refine o1 rfl (det_assign rfl) rfl rfl trivial ?_
  refine be rfl ?_
  refine k_then ?_
  refine t_seq ?_
  refine t_seq ?_
  refine b0 ?_
  refine o1 rfl (det_move rfl) rfl rfl trivial ?_
  refine o1 rfl (det_neq rfl rfl) rfl rfl trivial ?_
  refine be rfl ?_
  refine k_then ?_
  refine t_condP bne_iff_ne rfl (fun hb => ?_) (fun hb => ?_)
  ·
    --note:err
    refine t_seq ?_
    refine b0 ?_
    refine o1 rfl (det_move rfl) rfl rfl trivial ?_
    refine o1 rfl (det_assign rfl) rfl rfl trivial ?_
    refine be rfl ?_
    refine k_then ?_
    refine t_ret (k_thenR (?_))
    refine ret_tmp rfl rfl rfl (fun w1 hs => ?_)
    refine end_m (bs := [_]) (cp' := [_]) (.refl _) hs rfl fun F2 h1 h2 _ => ⟨rfl, some B, d, ms, ?_, ?_⟩
    · rw [if_neg (by simpa using hb)]
    · rw [if_neg (by simpa using hb)]
      exact psK_of (hK.mono h1) rfl rfl
  ·
    skip
    refine t_skip ?_
    refine k_then ?_
    refine t_seq ?_
    refine b0 ?_
    refine o1 rfl (det_move rfl) rfl rfl trivial ?_
    refine o1 rfl (det_nilCheck rfl) rfl rfl trivial ?_
    refine o1 rfl (det_fieldAddr fld125_0 rfl) rfl rfl trivial ?_
    refine o1 rfl (det_fieldAddr fld68_2 rfl) rfl rfl trivial ?_
    refine o1 rfl (det_load1 t1_66 rfl rfl (.tail _ (.head _)) rfl) rfl rfl trivial ?_
    refine o1 rfl (det_lenS sl66 rfl) rfl rfl trivial ?_
    refine om1 rfl (new_makeSlice mk66 rfl rfl (by omega) (by omega) (by omega) (by omega)) rfl rfl trivial (fun p32 => ?_)
    refine o1 rfl (det_assign rfl) rfl rfl trivial ?_
    refine be rfl ?_
    refine k_then ?_
    refine t_seq ?_
    refine b0 ?_
    refine o1 rfl (det_move rfl) rfl rfl trivial ?_
    refine o1 rfl (det_move rfl) rfl rfl trivial ?_
    refine o1 rfl (det_nilCheck rfl) rfl rfl trivial ?_
    refine o1 rfl (det_fieldAddr fld125_0 rfl) rfl rfl trivial ?_
    refine o1 rfl (det_fieldAddr fld68_2 rfl) rfl rfl trivial ?_
    refine o1 rfl (det_load1 t1_66 rfl rfl (.tail _ (.tail _ (.head _))) rfl) rfl rfl trivial ?_
    refine oCopy nofun rfl ap66 rfl rfl rfl trivial .head (by rw [rowsV_len qmv_len]; omega) (by rw [hm8]; rfl) (fun j u hj => by obtain ⟨b, hb, h⟩ := hK.qk.rows.flat qmv_len (by decide) j u hj; cases hb; exact (fun _ _ h => (hF1 _ _ h)) _ _ h) (qmv_one ms) ?_
    refine be rfl ?_
    refine k_then ?_
    refine t_seq ?_
    refine b0 ?_
    refine o1 rfl (det_move rfl) rfl rfl trivial ?_
    refine o1 rfl (det_move rfl) rfl rfl trivial ?_
    refine o1 rfl (det_loadN tN73 rfl rfl (.tail _ (.head _)) rfl) rfl rfl trivial ?_
    first | (refine o1 rfl (det_indexAddr sl66 rfl rfl ?_) rfl rfl trivial ?_; (· (first | decide | omega)))
    refine stN nofun rfl tN73 rfl (by rw [add_mk, Nat.zero_add]) rfl .head (set_rows hlc u2) trivial rfl rfl ?_
    refine be rfl ?_
    refine k_then ?_
    refine t_seq ?_
    refine b0 ?_
    refine o1 rfl (det_move rfl) rfl rfl trivial ?_
    refine o1 rfl (det_move rfl) rfl rfl trivial ?_
    refine o1 rfl (det_nilCheck rfl) rfl rfl trivial ?_
    refine o1 rfl (det_fieldAddr fld125_0 rfl) rfl rfl trivial ?_
    refine o1 rfl (det_fieldAddr fld68_2 rfl) rfl rfl trivial ?_
    refine st1 nofun rfl t1_66 rfl rfl rfl (.tail (.tail .head)) rfl trivial rfl ?_
    refine be rfl ?_
    refine k_then ?_
    refine t_seq ?_
    refine b0 ?_
    refine o1 rfl (det_assign rfl) rfl rfl trivial ?_
    refine be rfl ?_
    refine k_then ?_
    refine t_ret ?_
    refine ret_tmp rfl rfl rfl (fun w1 hs => ?_)
    have he0 : (retQ ms[cc.toNat].cap ms[cc.toNat].ps ⟨x.it, r, true⟩).2 = 0 := by simpa using hb
    refine end_m (bs := [_, _]) (cp' := [_]) (.refl _) hs rfl fun F2 h1 h2 h3 => ⟨by rw [he0], some ⟨p32, 0, none⟩, m, ms.set cc.toNat u2, ?_, ?_⟩
    · rw [if_pos he0, ← hu2]
      rfl
    · rw [if_pos he0, ← hu2]
      refine set_k (B := some B) (d := d) ?_ (hk2.mono fun a u h => (hN1 a u h).elim (h1 a u) (h2 a u h)) (rowsK_of qmv_len (by decide) (fun j u hj => ⟨_, rfl, by rw [add_mk, Nat.zero_add]; exact h3 _ _ _ _ j (.head _) u (by rw [← Array.getElem?_toList]; exact hj)⟩) (by rw [List.length_set]; exact hml.1)) (Nat.le_refl _) (by rw [hm8]; decide)
      exact psK_of (hK.mono h1) rfl rfl
theorem set_arr {w : World} {F : Know} (hF : ∀ a v, F a = some v → w.cell? a = some v) {q : Nat} {p : Ps} {B G : Option Addr} {m d k gk : Nat} {ms : List Qm} (hK : PsK F p B m d ms) (h8 : p.qs.length = 8) {cc : Int} (hcc : 0 ≤ cc ∧ cc ≤ 7) {x : It} {q3 q4 : Nat} {ba : Bool} (h3 : ∀ j, j < 5 → F ((⟨q3, 0, none⟩ : Addr).add j) = (itv x)[j]?) (haway : ∀ a v, F a = some v → a.block ∉ idsO ([(q4, .cells [.bool ba].toArray 4 (0, 0)), (q, .cells (pev p B m d G k gk).toArray 125 (0, 0))])) (hnd : (idsO ([(q4, .cells [.bool ba].toArray 4 (0, 0)), (q, .cells (pev p B m d G k gk).toArray 125 (0, 0))])).Nodup) (hown : ∀ y ∈ ([(q4, .cells [.bool ba].toArray 4 (0, 0)), (q, .cells (pev p B m d G k gk).toArray 125 (0, 0))] : Own), w.heap[y.1]? = some y.2) : CallsM Try.prog 101 [.pointer (some ⟨q, 0, none⟩), .int .i64 cc, .func (.func 104) [].toArray [.pointer (some ⟨q3, 0, none⟩), .pointer (some ⟨q4, 0, none⟩)].toArray] w F ([(q4, .cells [.bool ba].toArray 4 (0, 0)), (q, .cells (pev p B m d G k gk).toArray 125 (0, 0))]) (fun v cp1 F2 => v = .int .i64 (pushQ (atQ p.qs cc.toNat).1 (atQ p.qs cc.toNat).2 x).2.2 ∧ ∃ B2 d2 ms2, cp1 = [(q4, .cells [.bool (pushQ (atQ p.qs cc.toNat).1 (atQ p.qs cc.toNat).2 x).2.1].toArray 4 (0, 0)), (q, .cells (pev (if (pushQ (atQ p.qs cc.toNat).1 (atQ p.qs cc.toNat).2 x).2.2 = 0 then setS p cc (pushQ (atQ p.qs cc.toNat).1 (atQ p.qs cc.toNat).2 x).1 else p) B2 m d2 G k gk).toArray 125 (0, 0))] ∧ PsK F2 (if (pushQ (atQ p.qs cc.toNat).1 (atQ p.qs cc.toNat).2 x).2.2 = 0 then setS p cc (pushQ (atQ p.qs cc.toNat).1 (atQ p.qs cc.toNat).2 x).1 else p) B2 m d2 ms2) := by
  have hml := hK.len
  have hlc : cc.toNat < ms.length := by omega
  obtain ⟨B, rfl⟩ := hK.qk.rows.some hlc
  have hu := hK.qk.each _ (List.getElem_mem hlc)
  have hat := hK.at_ hlc
  have hm8 : m = 8 := by omega
  rw [hat]
  refine fn_m (F := F) Try.func101 rfl Try.ntmps101 rfl hF haway hnd hown ?_
  refine t_seq ?_
  refine b0 ?_
  refine o1 rfl (det_assign rfl) rfl rfl trivial ?_
  refine be rfl ?_
  refine k_then ?_
  refine t_seq ?_
  refine b0 ?_
  refine o1 rfl (det_move rfl) rfl rfl trivial ?_
  refine o1 rfl (det_move rfl) rfl rfl trivial ?_
  refine o1 rfl (det_nilCheck rfl) rfl rfl trivial ?_
  refine o1 rfl (det_fieldAddr fld125_0 rfl) rfl rfl trivial ?_
  refine o1 rfl (det_fieldAddr fld68_2 rfl) rfl rfl trivial ?_
  refine o1 rfl (det_load1 t1_66 rfl rfl (.tail _ (.head _)) rfl) rfl rfl trivial ?_
  refine o1 rfl (det_move rfl) rfl rfl trivial ?_
  first | (refine o1 rfl (det_indexAddr sl66 rfl rfl ?_) rfl rfl trivial ?_; (· (first | decide | omega)))
  refine o1 rfl (det_loadKN tN73 rfl (qmv_len ms[cc.toNat]) (hK.qk.rows.cells (i := cc) (k := cc.toNat) rfl hlc (qmv_len _))) rfl rfl trivial ?_
  refine oM (cp := [_]) (rest := [_]) (.refl _) nofun rfl hb104 rfl rfl rfl trivial (fun w1 hs => arr1_ok (x := x) hs.know hu h3 (satA hs) (satN hs) (satO hs)) (fun v1 cp1 F1 hF1 hN1 hr hi => ?_)
  obtain ⟨u2, rfl, hu2, hk2, rfl⟩ := hr
  refine o1 rfl (det_move rfl) rfl rfl trivial ?_
  refine o1 rfl (det_extract rfl rfl) rfl rfl trivial ?_
  refine o1 rfl (det_extract rfl rfl) rfl rfl trivial ?_
  refine om1 rfl (new_alloc z73) rfl rfl trivial (fun p7 => ?_)
  refine stN nofun rfl tN73 rfl rfl rfl .head rfl trivial rfl rfl ?_
  refine o1 rfl (det_assign rfl) rfl rfl trivial ?_
  refine be rfl ?_
  refine k_then ?_
  refine t_seq ?_
  refine t_seq ?_
  refine b0 ?_
  refine o1 rfl (det_move rfl) rfl rfl trivial ?_
  refine o1 rfl (det_neq rfl rfl) rfl rfl trivial ?_
  refine be rfl ?_
  refine k_then ?_
  refine t_condP bne_iff_ne rfl (fun hb => ?_) (fun hb => ?_)
  ·
    --note:err
    refine t_seq ?_
    refine b0 ?_
    refine o1 rfl (det_move rfl) rfl rfl trivial ?_
    refine o1 rfl (det_assign rfl) rfl rfl trivial ?_
    refine be rfl ?_
    refine k_then ?_
    refine t_ret (k_thenR (?_))
    refine ret_tmp rfl rfl rfl (fun w1 hs => ?_)
    refine end_m (bs := [_]) (cp' := [_, _]) (.refl _) hs rfl fun F2 h1 h2 _ => ⟨rfl, some B, d, ms, ?_, ?_⟩
    · rw [if_neg (by simpa using hb)]
    · rw [if_neg (by simpa using hb)]
      exact psK_of (hK.mono h1) rfl rfl
  ·
    skip
    refine t_skip ?_
    refine k_then ?_
    refine t_seq ?_
    refine b0 ?_
    refine o1 rfl (det_move rfl) rfl rfl trivial ?_
    refine o1 rfl (det_nilCheck rfl) rfl rfl trivial ?_
    refine o1 rfl (det_fieldAddr fld125_0 rfl) rfl rfl trivial ?_
    refine o1 rfl (det_fieldAddr fld68_2 rfl) rfl rfl trivial ?_
    refine o1 rfl (det_load1 t1_66 rfl rfl (.tail _ (.tail _ (.head _))) rfl) rfl rfl trivial ?_
    refine o1 rfl (det_lenS sl66 rfl) rfl rfl trivial ?_
    refine om1 rfl (new_makeSlice mk66 rfl rfl (by omega) (by omega) (by omega) (by omega)) rfl rfl trivial (fun p32 => ?_)
    refine o1 rfl (det_assign rfl) rfl rfl trivial ?_
    refine be rfl ?_
    refine k_then ?_
    refine t_seq ?_
    refine b0 ?_
    refine o1 rfl (det_move rfl) rfl rfl trivial ?_
    refine o1 rfl (det_move rfl) rfl rfl trivial ?_
    refine o1 rfl (det_nilCheck rfl) rfl rfl trivial ?_
    refine o1 rfl (det_fieldAddr fld125_0 rfl) rfl rfl trivial ?_
    refine o1 rfl (det_fieldAddr fld68_2 rfl) rfl rfl trivial ?_
    refine o1 rfl (det_load1 t1_66 rfl rfl (.tail _ (.tail _ (.tail _ (.head _)))) rfl) rfl rfl trivial ?_
    refine oCopy nofun rfl ap66 rfl rfl rfl trivial .head (by rw [rowsV_len qmv_len]; omega) (by rw [hm8]; rfl) (fun j u hj => by obtain ⟨b, hb, h⟩ := hK.qk.rows.flat qmv_len (by decide) j u hj; cases hb; exact (fun _ _ h => (hF1 _ _ h)) _ _ h) (qmv_one ms) ?_
    refine be rfl ?_
    refine k_then ?_
    refine t_seq ?_
    refine b0 ?_
    refine o1 rfl (det_move rfl) rfl rfl trivial ?_
    refine o1 rfl (det_move rfl) rfl rfl trivial ?_
    refine o1 rfl (det_loadN tN73 rfl rfl (.tail _ (.head _)) rfl) rfl rfl trivial ?_
    first | (refine o1 rfl (det_indexAddr sl66 rfl rfl ?_) rfl rfl trivial ?_; (· (first | decide | omega)))
    refine stN nofun rfl tN73 rfl (by rw [add_mk, Nat.zero_add]) rfl .head (set_rows hlc u2) trivial rfl rfl ?_
    refine be rfl ?_
    refine k_then ?_
    refine t_seq ?_
    refine b0 ?_
    refine o1 rfl (det_move rfl) rfl rfl trivial ?_
    refine o1 rfl (det_move rfl) rfl rfl trivial ?_
    refine o1 rfl (det_nilCheck rfl) rfl rfl trivial ?_
    refine o1 rfl (det_fieldAddr fld125_0 rfl) rfl rfl trivial ?_
    refine o1 rfl (det_fieldAddr fld68_2 rfl) rfl rfl trivial ?_
    refine st1 nofun rfl t1_66 rfl rfl rfl (.tail (.tail (.tail .head))) rfl trivial rfl ?_
    refine be rfl ?_
    refine k_then ?_
    refine t_seq ?_
    refine b0 ?_
    refine o1 rfl (det_assign rfl) rfl rfl trivial ?_
    refine be rfl ?_
    refine k_then ?_
    refine t_ret ?_
    refine ret_tmp rfl rfl rfl (fun w1 hs => ?_)
    have he0 : (pushQ ms[cc.toNat].cap ms[cc.toNat].ps x).2.2 = 0 := by simpa using hb
    refine end_m (bs := [_, _]) (cp' := [_, _]) (.refl _) hs rfl fun F2 h1 h2 h3 => ⟨by rw [he0], some ⟨p32, 0, none⟩, m, ms.set cc.toNat u2, ?_, ?_⟩
    · rw [if_pos he0, ← hu2]
      rfl
    · rw [if_pos he0, ← hu2]
      refine set_k (B := some B) (d := d) ?_ (hk2.mono fun a u h => (hN1 a u h).elim (h1 a u) (h2 a u h)) (rowsK_of qmv_len (by decide) (fun j u hj => ⟨_, rfl, by rw [add_mk, Nat.zero_add]; exact h3 _ _ _ _ j (.head _) u (by rw [← Array.getElem?_toList]; exact hj)⟩) (by rw [List.length_set]; exact hml.1)) (Nat.le_refl _) (by rw [hm8]; decide)
      exact psK_of (hK.mono h1) rfl rfl
theorem set_sta {w : World} {F : Know} (hF : ∀ a v, F a = some v → w.cell? a = some v) {q : Nat} {p : Ps} {B G : Option Addr} {m d k gk : Nat} {ms : List Qm} (hK : PsK F p B m d ms) (h8 : p.qs.length = 8) {cc : Int} (hcc : 0 ≤ cc ∧ cc ≤ 7) {q1 : Nat} (h1q : ∀ j, j < 1 → F ((⟨q1, 0, none⟩ : Addr).add j) = ([Value.pointer (some ⟨q, 0, none⟩)])[j]?) (hper : 1 ≤ p.l.per ∧ p.l.per ≤ 1000) (hnow : 0 ≤ p.now ∧ p.now ≤ 549755813888) (haway : ∀ a v, F a = some v → a.block ∉ idsO ([(q, .cells (pev p B m d G k gk).toArray 125 (0, 0))])) (hnd : (idsO ([(q, .cells (pev p B m d G k gk).toArray 125 (0, 0))])).Nodup) (hown : ∀ y ∈ ([(q, .cells (pev p B m d G k gk).toArray 125 (0, 0))] : Own), w.heap[y.1]? = some y.2) : CallsM Try.prog 101 [.pointer (some ⟨q, 0, none⟩), .int .i64 cc, .func (.func 117) [].toArray [.pointer (some ⟨q1, 0, none⟩)].toArray] w F ([(q, .cells (pev p B m d G k gk).toArray 125 (0, 0))]) (fun v cp1 F2 => v = .int .i64 (popQ (atQ p.qs cc.toNat).1 (atQ p.qs cc.toNat).2).2.2 ∧ ∃ B2 d2 ms2, cp1 = [(q, .cells (pev (if (popQ (atQ p.qs cc.toNat).1 (atQ p.qs cc.toNat).2).2.2 = 0 then setS (beginS p (popQ (atQ p.qs cc.toNat).1 (atQ p.qs cc.toNat).2).2.1) cc (popQ (atQ p.qs cc.toNat).1 (atQ p.qs cc.toNat).2).1 else (beginS p (popQ (atQ p.qs cc.toNat).1 (atQ p.qs cc.toNat).2).2.1)) B2 m d2 G k gk).toArray 125 (0, 0))] ∧ PsK F2 (if (popQ (atQ p.qs cc.toNat).1 (atQ p.qs cc.toNat).2).2.2 = 0 then setS (beginS p (popQ (atQ p.qs cc.toNat).1 (atQ p.qs cc.toNat).2).2.1) cc (popQ (atQ p.qs cc.toNat).1 (atQ p.qs cc.toNat).2).1 else (beginS p (popQ (atQ p.qs cc.toNat).1 (atQ p.qs cc.toNat).2).2.1)) B2 m d2 ms2) := by
  have hml := hK.len
  have hlc : cc.toNat < ms.length := by omega
  obtain ⟨B, rfl⟩ := hK.qk.rows.some hlc
  have hu := hK.qk.each _ (List.getElem_mem hlc)
  have hat := hK.at_ hlc
  have hm8 : m = 8 := by omega
  rw [hat]
  refine fn_m (F := F) Try.func101 rfl Try.ntmps101 rfl hF haway hnd hown ?_
  refine t_seq ?_
  refine b0 ?_
  refine o1 rfl (det_assign rfl) rfl rfl trivial ?_
  refine be rfl ?_
  refine k_then ?_
  refine t_seq ?_
  refine b0 ?_
  refine o1 rfl (det_move rfl) rfl rfl trivial ?_
  refine o1 rfl (det_move rfl) rfl rfl trivial ?_
  refine o1 rfl (det_nilCheck rfl) rfl rfl trivial ?_
  refine o1 rfl (det_fieldAddr fld125_0 rfl) rfl rfl trivial ?_
  refine o1 rfl (det_fieldAddr fld68_2 rfl) rfl rfl trivial ?_
  refine o1 rfl (det_load1 t1_66 rfl rfl (.head _) rfl) rfl rfl trivial ?_
  refine o1 rfl (det_move rfl) rfl rfl trivial ?_
  first | (refine o1 rfl (det_indexAddr sl66 rfl rfl ?_) rfl rfl trivial ?_; (· (first | decide | omega)))
  refine o1 rfl (det_loadKN tN73 rfl (qmv_len ms[cc.toNat]) (hK.qk.rows.cells (i := cc) (k := cc.toNat) rfl hlc (qmv_len _))) rfl rfl trivial ?_
  refine oM (cp := [_]) (rest := []) (.refl _) nofun rfl hb117 rfl rfl rfl trivial (fun w1 hs => sta1_ok hs.know hu h1q hper hnow (satA hs) (satN hs) (satO hs)) (fun v1 cp1 F1 hF1 hN1 hr hi => ?_)
  obtain ⟨u2, rfl, hu2, hk2, rfl⟩ := hr
  refine o1 rfl (det_move rfl) rfl rfl trivial ?_
  refine o1 rfl (det_extract rfl rfl) rfl rfl trivial ?_
  refine o1 rfl (det_extract rfl rfl) rfl rfl trivial ?_
  refine om1 rfl (new_alloc z73) rfl rfl trivial (fun p7 => ?_)
  refine stN nofun rfl tN73 rfl rfl rfl .head rfl trivial rfl rfl ?_
  refine o1 rfl (det_assign rfl) rfl rfl trivial ?_
  refine be rfl ?_
  refine k_then ?_
  refine t_seq ?_
  refine t_seq ?_
  refine b0 ?_
  refine o1 rfl (det_move rfl) rfl rfl trivial ?_
  refine o1 rfl (det_neq rfl rfl) rfl rfl trivial ?_
  refine be rfl ?_
  refine k_then ?_
  refine t_condP bne_iff_ne rfl (fun hb => ?_) (fun hb => ?_)
  ·
    --note:err
    refine t_seq ?_
    refine b0 ?_
    refine o1 rfl (det_move rfl) rfl rfl trivial ?_
    refine o1 rfl (det_assign rfl) rfl rfl trivial ?_
    refine be rfl ?_
    refine k_then ?_
    refine t_ret (k_thenR (?_))
    refine ret_tmp rfl rfl rfl (fun w1 hs => ?_)
    refine end_m (bs := [_]) (cp' := [_]) (.refl _) hs rfl fun F2 h1 h2 _ => ⟨rfl, some B, d, ms, ?_, ?_⟩
    · rw [if_neg (by simpa using hb)]
    · rw [if_neg (by simpa using hb)]
      exact psK_of (hK.mono h1) rfl rfl
  ·
    skip
    refine t_skip ?_
    refine k_then ?_
    refine t_seq ?_
    refine b0 ?_
    refine o1 rfl (det_move rfl) rfl rfl trivial ?_
    refine o1 rfl (det_nilCheck rfl) rfl rfl trivial ?_
    refine o1 rfl (det_fieldAddr fld125_0 rfl) rfl rfl trivial ?_
    refine o1 rfl (det_fieldAddr fld68_2 rfl) rfl rfl trivial ?_
    refine o1 rfl (det_load1 t1_66 rfl rfl (.tail _ (.head _)) rfl) rfl rfl trivial ?_
    refine o1 rfl (det_lenS sl66 rfl) rfl rfl trivial ?_
    refine om1 rfl (new_makeSlice mk66 rfl rfl (by omega) (by omega) (by omega) (by omega)) rfl rfl trivial (fun p32 => ?_)
    refine o1 rfl (det_assign rfl) rfl rfl trivial ?_
    refine be rfl ?_
    refine k_then ?_
    refine t_seq ?_
    refine b0 ?_
    refine o1 rfl (det_move rfl) rfl rfl trivial ?_
    refine o1 rfl (det_move rfl) rfl rfl trivial ?_
    refine o1 rfl (det_nilCheck rfl) rfl rfl trivial ?_
    refine o1 rfl (det_fieldAddr fld125_0 rfl) rfl rfl trivial ?_
    refine o1 rfl (det_fieldAddr fld68_2 rfl) rfl rfl trivial ?_
    refine o1 rfl (det_load1 t1_66 rfl rfl (.tail _ (.tail _ (.head _))) rfl) rfl rfl trivial ?_
    refine oCopy nofun rfl ap66 rfl rfl rfl trivial .head (by rw [rowsV_len qmv_len]; omega) (by rw [hm8]; rfl) (fun j u hj => by obtain ⟨b, hb, h⟩ := hK.qk.rows.flat qmv_len (by decide) j u hj; cases hb; exact (fun _ _ h => (hF1 _ _ h)) _ _ h) (qmv_one ms) ?_
    refine be rfl ?_
    refine k_then ?_
    refine t_seq ?_
    refine b0 ?_
    refine o1 rfl (det_move rfl) rfl rfl trivial ?_
    refine o1 rfl (det_move rfl) rfl rfl trivial ?_
    refine o1 rfl (det_loadN tN73 rfl rfl (.tail _ (.head _)) rfl) rfl rfl trivial ?_
    first | (refine o1 rfl (det_indexAddr sl66 rfl rfl ?_) rfl rfl trivial ?_; (· (first | decide | omega)))
    refine stN nofun rfl tN73 rfl (by rw [add_mk, Nat.zero_add]) rfl .head (set_rows hlc u2) trivial rfl rfl ?_
    refine be rfl ?_
    refine k_then ?_
    refine t_seq ?_
    refine b0 ?_
    refine o1 rfl (det_move rfl) rfl rfl trivial ?_
    refine o1 rfl (det_move rfl) rfl rfl trivial ?_
    refine o1 rfl (det_nilCheck rfl) rfl rfl trivial ?_
    refine o1 rfl (det_fieldAddr fld125_0 rfl) rfl rfl trivial ?_
    refine o1 rfl (det_fieldAddr fld68_2 rfl) rfl rfl trivial ?_
    refine st1 nofun rfl t1_66 rfl rfl rfl (.tail (.tail .head)) rfl trivial rfl ?_
    refine be rfl ?_
    refine k_then ?_
    refine t_seq ?_
    refine b0 ?_
    refine o1 rfl (det_assign rfl) rfl rfl trivial ?_
    refine be rfl ?_
    refine k_then ?_
    refine t_ret ?_
    refine ret_tmp rfl rfl rfl (fun w1 hs => ?_)
    have he0 : (popQ ms[cc.toNat].cap ms[cc.toNat].ps).2.2 = 0 := by simpa using hb
    refine end_m (bs := [_, _]) (cp' := [_]) (.refl _) hs rfl fun F2 h1 h2 h3 => ⟨by rw [he0], some ⟨p32, 0, none⟩, m, ms.set cc.toNat u2, ?_, ?_⟩
    · rw [if_pos he0, ← hu2]
      rfl
    · rw [if_pos he0, ← hu2]
      refine set_k (B := some B) (d := d) ?_ (hk2.mono fun a u h => (hN1 a u h).elim (h1 a u) (h2 a u h)) (rowsK_of qmv_len (by decide) (fun j u hj => ⟨_, rfl, by rw [add_mk, Nat.zero_add]; exact h3 _ _ _ _ j (.head _) u (by rw [← Array.getElem?_toList]; exact hj)⟩) (by rw [List.length_set]; exact hml.1)) (Nat.le_refl _) (by rw [hm8]; decide)
      exact psK_of (hK.mono h1) rfl rfl
end Go.Proofs.Cp

/-
  Walks through layers 36, 37 and 38 and their references.
-/
namespace Go.Proofs.Cp
open Go Go.Eng Go.Gt Go.Proofs.Gt Go.Sw Go.Qu Go.Ch
set_option maxRecDepth 4000
end Go.Proofs.Cp

/-
  Walks through layers 36, 37 and 38 and their references.
-/
namespace Go.Proofs.Cp
open Go Go.Eng Go.Gt Go.Proofs.Gt Go.Sw Go.Qu Go.Ch
set_option maxRecDepth 4000
end Go.Proofs.Cp

/-
  Walks through layers 36, 37 and 38 and their references.
-/
namespace Go.Proofs.Cp
open Go Go.Eng Go.Gt Go.Proofs.Gt Go.Sw Go.Qu Go.Ch
set_option maxRecDepth 4000
theorem lit_rows {F2 : Know} {p : Nat} {ps : List Pt} {cs : List Value} (h : ∀ k u, cs[k]? = some u → F2 ⟨p, k, none⟩ = some u) (hc : cs = rowsV ptv ps) : PK F2 (some ⟨p, 0, none⟩) ps.length ps :=
  rowsK_of ptv_len (by decide) (fun j u hj => ⟨_, rfl, by rw [add_mk, Nat.zero_add]; exact h _ u (by rw [hc]; exact hj)⟩) rfl
theorem start_at {w : World} {F : Know} (hF : ∀ a v, F a = some v → w.cell? a = some v) {l : Ln} (hl : LnK F l) {A : Option Addr} {n c : Nat} {hs0 : List Pt} (hP : PK F A n hs0) (hnb : n ≤ 100000) {t x y : Int} (e : startA l hs0 t = (x, y)) : Pure Try.prog 22 [.agg (lnv l).toArray, .slice A n c, .int .i64 t] w (.tuple [.int .i64 x, .int .i64 y].toArray) := by
  have h := start_ok hF hl hP hnb (c := c) (t := t)
  rw [e] at h
  exact h
theorem pre_at {w : World} {F : Know} (hF : ∀ a v, F a = some v → w.cell? a = some v) {l : Ln} (hl : LnK F l) {A : Option Addr} {n c : Nat} {hs0 : List Pt} (hP : PK F A n hs0) (hnb : n ≤ 100000) {o b t x y z : Int} (e : preA l hs0 o b t = (x, y, z)) : Pure Try.prog 28 [.agg (lnv l).toArray, .slice A n c, .int .i64 o, .int .i64 b, .int .i64 t] w (.tuple [.int .i64 x, .int .i64 y, .int .i64 z].toArray) := by
  have h := pre_ok hF hl hP hnb (c := c) (o := o) (b := b) (t := t)
  rw [e] at h
  exact h
end Go.Proofs.Cp
